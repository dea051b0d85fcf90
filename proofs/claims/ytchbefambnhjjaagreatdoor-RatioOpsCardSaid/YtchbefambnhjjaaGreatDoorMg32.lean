/- Lemmas of this proof, laid together: D2F, OpsB, LhB, BkG, BkH. -/
import Derived.Test.YtchbefambnhjjaaGreatDoorMg30
import Derived.Test.YtchbefambnhjjaaGreatDoorMg31
import Derived.Deep.DeepCutAuto
import Derived.Deep.RegionWith
import Derived.Test.YtchbefambnhjjaaGreatDoorMg28
import Derived.Test.YtchbefambnhjjaaGreatDoorMg29
import Derived.Test.YtchbefambnhjjaaGreatDoorMg26
set_option linter.unusedSimpArgs false
set_option linter.unusedVariables false
section
/- The document's fractions: sums, differences, products, quotients, order (written by mkd2f.py out of D2F.tpl). -/
namespace Go.Proofs.YtchbefambnhjjaaGreatDoor.NB
open Go.RowKit
attribute [local go_sem] sz2 sz3 sz4 sz5 sz6 sz7 sz8
set_option maxHeartbeats 4000000
set_option maxRecDepth 100000
attribute [local irreducible] Calls
abbrev DfPst (w : World) (s : Bool) (xs ys : List Nat) (E : Int) : Ending → World → Prop := fun e w' => ∃ F : FH, e = .returned (.tuple #[fV s F, .int .i64 E]) ∧ Hid (Rd w' F.A F.n F.c xs ∧ Rd w' F.D F.m F.k ys ∧ Fr w F.A ∧ Fr w F.D) ∧ Ext w w'
section
variable (s t : Bool) (A : Option Addr) (n c : Nat) (D : Option Addr) (m k : Nat) (B : Option Addr) (n2 c2 : Nat) (C : Option Addr) (m2 k2 : Nat) (w : World)
theorem rd_Add_no (kB : ∀ w', Ext w w' → Calls Tryz.prog 92 #[ratV s A n c D m k, ratV t B n2 c2 C m2 k2] w' fun e w'' => e = .returned (.tuple #[.pointer none, .pointer none, .int .i64 20]) ∧ Ext w' w'') :
  Calls Tryz.prog 38 #[ratV s A n c D m k, ratV t B n2 c2 C m2 k2] w (DfPst w false [] [] 20) := by
 go_enter Tryz.func38, Tryz.ntmps38
 go_wp2_with (first
  | (go_at_call 92; (with_reducible refine (kB _ xcl).mono ?_); rintro e w1 ⟨rfl, xb1⟩; obtain ⟨xc1, xf1, xl1, xz1⟩ := jU xb1; (try simp at xz1); obtain ⟨l1_0, r1_0, f1_0, r1_0_1, f1_0_1, r1_0_2, f1_0_2⟩ := kq3 xb1 (w.heap.size + 1 + 1))
  )
 have z0 : w1.cell? ⟨w.heap.size + 1 + 1, 0, none⟩ = some (.bool false) := by simp [go_sem, *]
 have z1 : w1.cell? ⟨w.heap.size + 1 + 1, 1, none⟩ = some (.slice none 0 0) := by simp [go_sem, *]
 have z2 : w1.cell? ⟨w.heap.size + 1 + 1, 2, none⟩ = some (.slice none 0 0) := by simp [go_sem, *]
 obtain ⟨q0, q1, q2⟩ := set3 (b := w.heap.size + 1 + 1) z0 z1 z2 (.bool false) (.slice none 0 0) (.slice none 0 0)
 have hEE : Ext w w1 := xcl
 refine bodyPost_ret (v := .tuple #[ratV false none 0 0 none 0 0, .int .i64 20]) ?h rfl ⟨⟨none, 0, 0, none, 0, 0⟩, rfl, ⟨Rd.nil _, Rd.nil _, fr_none _, fr_none _⟩, ext_set3 hEE (by omega) _ _ _⟩
 case h => simp [results, Tryz.results38, go_sem, q0, q1, q2]
theorem rd_Add_yes (x : Int) (p : Nat) (y : Int) (q : Nat) (z : Int) (d : Nat) (kB : ∀ w', Ext w w' → Calls Tryz.prog 92 #[ratV s A n c D m k, ratV t B n2 c2 C m2 k2] w' (BothPst w' x p y q))
  (kO : ∀ (g : Nat) (A : Option Addr) (n c : Nat) (D : Option Addr) (m k h : Nat) (B : Option Addr) (n2 c2 : Nat) (C : Option Addr) (m2 k2 : Nat) (w' : World), Ext w w' → RatIs w' g x A n c p D m k → RatIs w' h y B n2 c2 q C m2 k2 → Off C m2 g → Calls Tryz.prog 94 #[.pointer (some ⟨g, 0, none⟩), .pointer (some ⟨g, 0, none⟩), .pointer (some ⟨h, 0, none⟩)] w' (FPost w' g z d))
  (kF : ∀ (g : Nat) (A : Option Addr) (n c : Nat) (D : Option Addr) (m k : Nat) (w' : World), RatIs w' g z A n c d D m k → Calls Tryz.prog 52 #[.pointer (some ⟨g, 0, none⟩)] w' (UPost w' z (denOf d))) :
  Calls Tryz.prog 38 #[ratV s A n c D m k, ratV t B n2 c2 C m2 k2] w (DfPst w (decide (z < 0)) (lim z.natAbs) (lim (denOf d)) 0) := by
 go_enter Tryz.func38, Tryz.ntmps38
 go_upto_region 4 with (first
  | (go_at_call 92; (with_reducible refine (kB _ xcl).mono ?_); rintro e w1 ⟨g1, A1, n1, c1, D1, m1, k1, h1, B1, j1, l1, C1, o1, p1, rfl, hR1, hg1, xb1⟩; obtain ⟨xc1, xf1, xl1, xz1⟩ := jU xb1; (try simp at xz1); obtain ⟨l1_0, r1_0, f1_0, r1_0_1, f1_0_1, r1_0_2, f1_0_2⟩ := kq3 xb1 (w.heap.size + 1 + 1))
  )
 have hE1 : Hid (Ext w w1) := by show Ext w w1; exact xcl
 have kO1 := kO g1 A1 n1 c1 D1 m1 k1 h1 B1 j1 l1 C1 o1 p1 w1 hE1.out hR1.out.1 hR1.out.2.1 hR1.out.2.2
 have z0 : w1.cell? ⟨w.heap.size + 1 + 1, 0, none⟩ = some (.bool false) := by simp [go_sem, *]
 have z1 : w1.cell? ⟨w.heap.size + 1 + 1, 1, none⟩ = some (.slice none 0 0) := by simp [go_sem, *]
 have z2 : w1.cell? ⟨w.heap.size + 1 + 1, 2, none⟩ = some (.slice none 0 0) := by simp [go_sem, *]
 have f0 : w1.frozen? ⟨w.heap.size + 1 + 1, 0, none⟩ = false := by simp [go_sem, *]
 have f1 : w1.frozen? ⟨w.heap.size + 1 + 1, 1, none⟩ = false := by simp [go_sem, *]
 have f2 : w1.frozen? ⟨w.heap.size + 1 + 1, 2, none⟩ = false := by simp [go_sem, *]
 have zl : w.heap.size + 1 + 1 < w1.heap.size := by assumption
 have hgg := hg1
 simp at hgg
 have hxb := Lib.hid xb1
 clear kO kB hR1 xb1
 go_wp2_with (first
  | (go_at_call 94; (with_reducible refine kO1.mono ?_); rintro e w2 ⟨rfl, A2, i2, e2, D2, u2, v2, hR2, xt2⟩; have y0 := (xt2.cell (p := ⟨w.heap.size + 1 + 1, 0, none⟩) zl (by simp only; omega)).trans z0; have y1 := (xt2.cell (p := ⟨w.heap.size + 1 + 1, 1, none⟩) zl (by simp only; omega)).trans z1; have y2 := (xt2.cell (p := ⟨w.heap.size + 1 + 1, 2, none⟩) zl (by simp only; omega)).trans z2; have t0 := (xt2.frozen (p := ⟨w.heap.size + 1 + 1, 0, none⟩) zl (by simp only; omega)).trans f0; have t1 := (xt2.frozen (p := ⟨w.heap.size + 1 + 1, 1, none⟩) zl (by simp only; omega)).trans f1; have t2 := (xt2.frozen (p := ⟨w.heap.size + 1 + 1, 2, none⟩) zl (by simp only; omega)).trans f2; have gl := Nat.lt_of_lt_of_le zl xt2.size; have hE2 := Lib.hid (xt2.ext hxb.out hg1); clear z0 z1 z2 f0 f1 f2)
  | (go_at_call 52; (with_reducible refine (kF _ _ _ _ _ _ _ _ hR2.out.1).mono ?_); rintro e w3 ⟨A3, n3, c3, D3, m3, k3, rfl, hR3, xb3⟩; obtain ⟨xc3, xf3, xl3, xz3⟩ := jU xb3; (try simp at xz3); obtain ⟨l3_0, r3_0, f3_0, r3_0_1, f3_0_1, r3_0_2, f3_0_2⟩ := kq3 xb3 (w.heap.size + 1 + 1))
  )
 have z0 : w3.cell? ⟨w.heap.size + 1 + 1, 0, none⟩ = some (.bool false) := by simp [go_sem, *]
 have z1 : w3.cell? ⟨w.heap.size + 1 + 1, 1, none⟩ = some (.slice none 0 0) := by simp [go_sem, *]
 have z2 : w3.cell? ⟨w.heap.size + 1 + 1, 2, none⟩ = some (.slice none 0 0) := by simp [go_sem, *]
 obtain ⟨q0, q1, q2⟩ := set3 (b := w.heap.size + 1 + 1) z0 z1 z2 (.bool (decide (z < 0))) (.slice A3 n3 c3) (.slice D3 m3 k3)
 have hEE : Ext w w3 := jT (jA (jA (jA (jR w) _) _) _) (jT hE2.out xb3)
 have n5 : ∀ a, A3 = some a → w.heap.size + 1 + 1 < a.block := fun a ha => by have := hR3.out.2.1 a ha; omega
 have n6 : ∀ a, D3 = some a → w.heap.size + 1 + 1 < a.block := fun a ha => by have := hR3.out.2.2.2 a ha; omega
 refine bodyPost_ret (v := .tuple #[ratV (decide (z < 0)) A3 n3 c3 D3 m3 k3, .int .i64 0]) ?h rfl ⟨⟨A3, n3, c3, D3, m3, k3⟩, rfl, ⟨hR3.out.1.set3 n5 _ _ _, hR3.out.2.2.1.set3 n6 _ _ _, fun a ha => by have := n5 a ha; omega, fun a ha => by have := n6 a ha; omega⟩, ext_set3 hEE (by omega) _ _ _⟩
 case h => simp [results, Tryz.results38, go_sem, q0, q1, q2]
theorem rd_Sub_no (kB : ∀ w', Ext w w' → Calls Tryz.prog 92 #[ratV s A n c D m k, ratV t B n2 c2 C m2 k2] w' fun e w'' => e = .returned (.tuple #[.pointer none, .pointer none, .int .i64 20]) ∧ Ext w' w'') :
  Calls Tryz.prog 40 #[ratV s A n c D m k, ratV t B n2 c2 C m2 k2] w (DfPst w false [] [] 20) := by
 go_enter Tryz.func40, Tryz.ntmps40
 go_wp2_with (first
  | (go_at_call 92; (with_reducible refine (kB _ xcl).mono ?_); rintro e w1 ⟨rfl, xb1⟩; obtain ⟨xc1, xf1, xl1, xz1⟩ := jU xb1; (try simp at xz1); obtain ⟨l1_0, r1_0, f1_0, r1_0_1, f1_0_1, r1_0_2, f1_0_2⟩ := kq3 xb1 (w.heap.size + 1 + 1))
  )
 have z0 : w1.cell? ⟨w.heap.size + 1 + 1, 0, none⟩ = some (.bool false) := by simp [go_sem, *]
 have z1 : w1.cell? ⟨w.heap.size + 1 + 1, 1, none⟩ = some (.slice none 0 0) := by simp [go_sem, *]
 have z2 : w1.cell? ⟨w.heap.size + 1 + 1, 2, none⟩ = some (.slice none 0 0) := by simp [go_sem, *]
 obtain ⟨q0, q1, q2⟩ := set3 (b := w.heap.size + 1 + 1) z0 z1 z2 (.bool false) (.slice none 0 0) (.slice none 0 0)
 have hEE : Ext w w1 := xcl
 refine bodyPost_ret (v := .tuple #[ratV false none 0 0 none 0 0, .int .i64 20]) ?h rfl ⟨⟨none, 0, 0, none, 0, 0⟩, rfl, ⟨Rd.nil _, Rd.nil _, fr_none _, fr_none _⟩, ext_set3 hEE (by omega) _ _ _⟩
 case h => simp [results, Tryz.results40, go_sem, q0, q1, q2]
theorem rd_Sub_yes (x : Int) (p : Nat) (y : Int) (q : Nat) (z : Int) (d : Nat) (kB : ∀ w', Ext w w' → Calls Tryz.prog 92 #[ratV s A n c D m k, ratV t B n2 c2 C m2 k2] w' (BothPst w' x p y q))
  (kO : ∀ (g : Nat) (A : Option Addr) (n c : Nat) (D : Option Addr) (m k h : Nat) (B : Option Addr) (n2 c2 : Nat) (C : Option Addr) (m2 k2 : Nat) (w' : World), Ext w w' → RatIs w' g x A n c p D m k → RatIs w' h y B n2 c2 q C m2 k2 → Off C m2 g → Calls Tryz.prog 95 #[.pointer (some ⟨g, 0, none⟩), .pointer (some ⟨g, 0, none⟩), .pointer (some ⟨h, 0, none⟩)] w' (FPost w' g z d))
  (kF : ∀ (g : Nat) (A : Option Addr) (n c : Nat) (D : Option Addr) (m k : Nat) (w' : World), RatIs w' g z A n c d D m k → Calls Tryz.prog 52 #[.pointer (some ⟨g, 0, none⟩)] w' (UPost w' z (denOf d))) :
  Calls Tryz.prog 40 #[ratV s A n c D m k, ratV t B n2 c2 C m2 k2] w (DfPst w (decide (z < 0)) (lim z.natAbs) (lim (denOf d)) 0) := by
 go_enter Tryz.func40, Tryz.ntmps40
 go_upto_region 4 with (first
  | (go_at_call 92; (with_reducible refine (kB _ xcl).mono ?_); rintro e w1 ⟨g1, A1, n1, c1, D1, m1, k1, h1, B1, j1, l1, C1, o1, p1, rfl, hR1, hg1, xb1⟩; obtain ⟨xc1, xf1, xl1, xz1⟩ := jU xb1; (try simp at xz1); obtain ⟨l1_0, r1_0, f1_0, r1_0_1, f1_0_1, r1_0_2, f1_0_2⟩ := kq3 xb1 (w.heap.size + 1 + 1))
  )
 have hE1 : Hid (Ext w w1) := by show Ext w w1; exact xcl
 have kO1 := kO g1 A1 n1 c1 D1 m1 k1 h1 B1 j1 l1 C1 o1 p1 w1 hE1.out hR1.out.1 hR1.out.2.1 hR1.out.2.2
 have z0 : w1.cell? ⟨w.heap.size + 1 + 1, 0, none⟩ = some (.bool false) := by simp [go_sem, *]
 have z1 : w1.cell? ⟨w.heap.size + 1 + 1, 1, none⟩ = some (.slice none 0 0) := by simp [go_sem, *]
 have z2 : w1.cell? ⟨w.heap.size + 1 + 1, 2, none⟩ = some (.slice none 0 0) := by simp [go_sem, *]
 have f0 : w1.frozen? ⟨w.heap.size + 1 + 1, 0, none⟩ = false := by simp [go_sem, *]
 have f1 : w1.frozen? ⟨w.heap.size + 1 + 1, 1, none⟩ = false := by simp [go_sem, *]
 have f2 : w1.frozen? ⟨w.heap.size + 1 + 1, 2, none⟩ = false := by simp [go_sem, *]
 have zl : w.heap.size + 1 + 1 < w1.heap.size := by assumption
 have hgg := hg1
 simp at hgg
 have hxb := Lib.hid xb1
 clear kO kB hR1 xb1
 go_wp2_with (first
  | (go_at_call 95; (with_reducible refine kO1.mono ?_); rintro e w2 ⟨rfl, A2, i2, e2, D2, u2, v2, hR2, xt2⟩; have y0 := (xt2.cell (p := ⟨w.heap.size + 1 + 1, 0, none⟩) zl (by simp only; omega)).trans z0; have y1 := (xt2.cell (p := ⟨w.heap.size + 1 + 1, 1, none⟩) zl (by simp only; omega)).trans z1; have y2 := (xt2.cell (p := ⟨w.heap.size + 1 + 1, 2, none⟩) zl (by simp only; omega)).trans z2; have t0 := (xt2.frozen (p := ⟨w.heap.size + 1 + 1, 0, none⟩) zl (by simp only; omega)).trans f0; have t1 := (xt2.frozen (p := ⟨w.heap.size + 1 + 1, 1, none⟩) zl (by simp only; omega)).trans f1; have t2 := (xt2.frozen (p := ⟨w.heap.size + 1 + 1, 2, none⟩) zl (by simp only; omega)).trans f2; have gl := Nat.lt_of_lt_of_le zl xt2.size; have hE2 := Lib.hid (xt2.ext hxb.out hg1); clear z0 z1 z2 f0 f1 f2)
  | (go_at_call 52; (with_reducible refine (kF _ _ _ _ _ _ _ _ hR2.out.1).mono ?_); rintro e w3 ⟨A3, n3, c3, D3, m3, k3, rfl, hR3, xb3⟩; obtain ⟨xc3, xf3, xl3, xz3⟩ := jU xb3; (try simp at xz3); obtain ⟨l3_0, r3_0, f3_0, r3_0_1, f3_0_1, r3_0_2, f3_0_2⟩ := kq3 xb3 (w.heap.size + 1 + 1))
  )
 have z0 : w3.cell? ⟨w.heap.size + 1 + 1, 0, none⟩ = some (.bool false) := by simp [go_sem, *]
 have z1 : w3.cell? ⟨w.heap.size + 1 + 1, 1, none⟩ = some (.slice none 0 0) := by simp [go_sem, *]
 have z2 : w3.cell? ⟨w.heap.size + 1 + 1, 2, none⟩ = some (.slice none 0 0) := by simp [go_sem, *]
 obtain ⟨q0, q1, q2⟩ := set3 (b := w.heap.size + 1 + 1) z0 z1 z2 (.bool (decide (z < 0))) (.slice A3 n3 c3) (.slice D3 m3 k3)
 have hEE : Ext w w3 := jT (jA (jA (jA (jR w) _) _) _) (jT hE2.out xb3)
 have n5 : ∀ a, A3 = some a → w.heap.size + 1 + 1 < a.block := fun a ha => by have := hR3.out.2.1 a ha; omega
 have n6 : ∀ a, D3 = some a → w.heap.size + 1 + 1 < a.block := fun a ha => by have := hR3.out.2.2.2 a ha; omega
 refine bodyPost_ret (v := .tuple #[ratV (decide (z < 0)) A3 n3 c3 D3 m3 k3, .int .i64 0]) ?h rfl ⟨⟨A3, n3, c3, D3, m3, k3⟩, rfl, ⟨hR3.out.1.set3 n5 _ _ _, hR3.out.2.2.1.set3 n6 _ _ _, fun a ha => by have := n5 a ha; omega, fun a ha => by have := n6 a ha; omega⟩, ext_set3 hEE (by omega) _ _ _⟩
 case h => simp [results, Tryz.results40, go_sem, q0, q1, q2]
theorem rd_Mul_no (kB : ∀ w', Ext w w' → Calls Tryz.prog 92 #[ratV s A n c D m k, ratV t B n2 c2 C m2 k2] w' fun e w'' => e = .returned (.tuple #[.pointer none, .pointer none, .int .i64 20]) ∧ Ext w' w'') :
  Calls Tryz.prog 42 #[ratV s A n c D m k, ratV t B n2 c2 C m2 k2] w (DfPst w false [] [] 20) := by
 go_enter Tryz.func42, Tryz.ntmps42
 go_wp2_with (first
  | (go_at_call 92; (with_reducible refine (kB _ xcl).mono ?_); rintro e w1 ⟨rfl, xb1⟩; obtain ⟨xc1, xf1, xl1, xz1⟩ := jU xb1; (try simp at xz1); obtain ⟨l1_0, r1_0, f1_0, r1_0_1, f1_0_1, r1_0_2, f1_0_2⟩ := kq3 xb1 (w.heap.size + 1 + 1))
  )
 have z0 : w1.cell? ⟨w.heap.size + 1 + 1, 0, none⟩ = some (.bool false) := by simp [go_sem, *]
 have z1 : w1.cell? ⟨w.heap.size + 1 + 1, 1, none⟩ = some (.slice none 0 0) := by simp [go_sem, *]
 have z2 : w1.cell? ⟨w.heap.size + 1 + 1, 2, none⟩ = some (.slice none 0 0) := by simp [go_sem, *]
 obtain ⟨q0, q1, q2⟩ := set3 (b := w.heap.size + 1 + 1) z0 z1 z2 (.bool false) (.slice none 0 0) (.slice none 0 0)
 have hEE : Ext w w1 := xcl
 refine bodyPost_ret (v := .tuple #[ratV false none 0 0 none 0 0, .int .i64 20]) ?h rfl ⟨⟨none, 0, 0, none, 0, 0⟩, rfl, ⟨Rd.nil _, Rd.nil _, fr_none _, fr_none _⟩, ext_set3 hEE (by omega) _ _ _⟩
 case h => simp [results, Tryz.results42, go_sem, q0, q1, q2]
theorem rd_Mul_yes (x : Int) (p : Nat) (y : Int) (q : Nat) (z : Int) (d : Nat) (kB : ∀ w', Ext w w' → Calls Tryz.prog 92 #[ratV s A n c D m k, ratV t B n2 c2 C m2 k2] w' (BothPst w' x p y q))
  (kO : ∀ (g : Nat) (A : Option Addr) (n c : Nat) (D : Option Addr) (m k h : Nat) (B : Option Addr) (n2 c2 : Nat) (C : Option Addr) (m2 k2 : Nat) (w' : World), Ext w w' → RatIs w' g x A n c p D m k → RatIs w' h y B n2 c2 q C m2 k2 → Off C m2 g → Calls Tryz.prog 97 #[.pointer (some ⟨g, 0, none⟩), .pointer (some ⟨g, 0, none⟩), .pointer (some ⟨h, 0, none⟩)] w' (FPost w' g z d))
  (kF : ∀ (g : Nat) (A : Option Addr) (n c : Nat) (D : Option Addr) (m k : Nat) (w' : World), RatIs w' g z A n c d D m k → Calls Tryz.prog 52 #[.pointer (some ⟨g, 0, none⟩)] w' (UPost w' z (denOf d))) :
  Calls Tryz.prog 42 #[ratV s A n c D m k, ratV t B n2 c2 C m2 k2] w (DfPst w (decide (z < 0)) (lim z.natAbs) (lim (denOf d)) 0) := by
 go_enter Tryz.func42, Tryz.ntmps42
 go_upto_region 4 with (first
  | (go_at_call 92; (with_reducible refine (kB _ xcl).mono ?_); rintro e w1 ⟨g1, A1, n1, c1, D1, m1, k1, h1, B1, j1, l1, C1, o1, p1, rfl, hR1, hg1, xb1⟩; obtain ⟨xc1, xf1, xl1, xz1⟩ := jU xb1; (try simp at xz1); obtain ⟨l1_0, r1_0, f1_0, r1_0_1, f1_0_1, r1_0_2, f1_0_2⟩ := kq3 xb1 (w.heap.size + 1 + 1))
  )
 have hE1 : Hid (Ext w w1) := by show Ext w w1; exact xcl
 have kO1 := kO g1 A1 n1 c1 D1 m1 k1 h1 B1 j1 l1 C1 o1 p1 w1 hE1.out hR1.out.1 hR1.out.2.1 hR1.out.2.2
 have z0 : w1.cell? ⟨w.heap.size + 1 + 1, 0, none⟩ = some (.bool false) := by simp [go_sem, *]
 have z1 : w1.cell? ⟨w.heap.size + 1 + 1, 1, none⟩ = some (.slice none 0 0) := by simp [go_sem, *]
 have z2 : w1.cell? ⟨w.heap.size + 1 + 1, 2, none⟩ = some (.slice none 0 0) := by simp [go_sem, *]
 have f0 : w1.frozen? ⟨w.heap.size + 1 + 1, 0, none⟩ = false := by simp [go_sem, *]
 have f1 : w1.frozen? ⟨w.heap.size + 1 + 1, 1, none⟩ = false := by simp [go_sem, *]
 have f2 : w1.frozen? ⟨w.heap.size + 1 + 1, 2, none⟩ = false := by simp [go_sem, *]
 have zl : w.heap.size + 1 + 1 < w1.heap.size := by assumption
 have hgg := hg1
 simp at hgg
 have hxb := Lib.hid xb1
 clear kO kB hR1 xb1
 go_wp2_with (first
  | (go_at_call 97; (with_reducible refine kO1.mono ?_); rintro e w2 ⟨rfl, A2, i2, e2, D2, u2, v2, hR2, xt2⟩; have y0 := (xt2.cell (p := ⟨w.heap.size + 1 + 1, 0, none⟩) zl (by simp only; omega)).trans z0; have y1 := (xt2.cell (p := ⟨w.heap.size + 1 + 1, 1, none⟩) zl (by simp only; omega)).trans z1; have y2 := (xt2.cell (p := ⟨w.heap.size + 1 + 1, 2, none⟩) zl (by simp only; omega)).trans z2; have t0 := (xt2.frozen (p := ⟨w.heap.size + 1 + 1, 0, none⟩) zl (by simp only; omega)).trans f0; have t1 := (xt2.frozen (p := ⟨w.heap.size + 1 + 1, 1, none⟩) zl (by simp only; omega)).trans f1; have t2 := (xt2.frozen (p := ⟨w.heap.size + 1 + 1, 2, none⟩) zl (by simp only; omega)).trans f2; have gl := Nat.lt_of_lt_of_le zl xt2.size; have hE2 := Lib.hid (xt2.ext hxb.out hg1); clear z0 z1 z2 f0 f1 f2)
  | (go_at_call 52; (with_reducible refine (kF _ _ _ _ _ _ _ _ hR2.out.1).mono ?_); rintro e w3 ⟨A3, n3, c3, D3, m3, k3, rfl, hR3, xb3⟩; obtain ⟨xc3, xf3, xl3, xz3⟩ := jU xb3; (try simp at xz3); obtain ⟨l3_0, r3_0, f3_0, r3_0_1, f3_0_1, r3_0_2, f3_0_2⟩ := kq3 xb3 (w.heap.size + 1 + 1))
  )
 have z0 : w3.cell? ⟨w.heap.size + 1 + 1, 0, none⟩ = some (.bool false) := by simp [go_sem, *]
 have z1 : w3.cell? ⟨w.heap.size + 1 + 1, 1, none⟩ = some (.slice none 0 0) := by simp [go_sem, *]
 have z2 : w3.cell? ⟨w.heap.size + 1 + 1, 2, none⟩ = some (.slice none 0 0) := by simp [go_sem, *]
 obtain ⟨q0, q1, q2⟩ := set3 (b := w.heap.size + 1 + 1) z0 z1 z2 (.bool (decide (z < 0))) (.slice A3 n3 c3) (.slice D3 m3 k3)
 have hEE : Ext w w3 := jT (jA (jA (jA (jR w) _) _) _) (jT hE2.out xb3)
 have n5 : ∀ a, A3 = some a → w.heap.size + 1 + 1 < a.block := fun a ha => by have := hR3.out.2.1 a ha; omega
 have n6 : ∀ a, D3 = some a → w.heap.size + 1 + 1 < a.block := fun a ha => by have := hR3.out.2.2.2 a ha; omega
 refine bodyPost_ret (v := .tuple #[ratV (decide (z < 0)) A3 n3 c3 D3 m3 k3, .int .i64 0]) ?h rfl ⟨⟨A3, n3, c3, D3, m3, k3⟩, rfl, ⟨hR3.out.1.set3 n5 _ _ _, hR3.out.2.2.1.set3 n6 _ _ _, fun a ha => by have := n5 a ha; omega, fun a ha => by have := n6 a ha; omega⟩, ext_set3 hEE (by omega) _ _ _⟩
 case h => simp [results, Tryz.results42, go_sem, q0, q1, q2]
theorem rd_Div_no (kB : ∀ w', Ext w w' → Calls Tryz.prog 92 #[ratV s A n c D m k, ratV t B n2 c2 C m2 k2] w' fun e w'' => e = .returned (.tuple #[.pointer none, .pointer none, .int .i64 20]) ∧ Ext w' w'') :
  Calls Tryz.prog 44 #[ratV s A n c D m k, ratV t B n2 c2 C m2 k2] w (DfPst w false [] [] 20) := by
 go_enter Tryz.func44, Tryz.ntmps44
 go_wp2_with (first
  | (go_at_call 92; (with_reducible refine (kB _ xcl).mono ?_); rintro e w1 ⟨rfl, xb1⟩; obtain ⟨xc1, xf1, xl1, xz1⟩ := jU xb1; (try simp at xz1); obtain ⟨l1_0, r1_0, f1_0, r1_0_1, f1_0_1, r1_0_2, f1_0_2⟩ := kq3 xb1 (w.heap.size + 1 + 1))
  )
 have z0 : w1.cell? ⟨w.heap.size + 1 + 1, 0, none⟩ = some (.bool false) := by simp [go_sem, *]
 have z1 : w1.cell? ⟨w.heap.size + 1 + 1, 1, none⟩ = some (.slice none 0 0) := by simp [go_sem, *]
 have z2 : w1.cell? ⟨w.heap.size + 1 + 1, 2, none⟩ = some (.slice none 0 0) := by simp [go_sem, *]
 obtain ⟨q0, q1, q2⟩ := set3 (b := w.heap.size + 1 + 1) z0 z1 z2 (.bool false) (.slice none 0 0) (.slice none 0 0)
 have hEE : Ext w w1 := xcl
 refine bodyPost_ret (v := .tuple #[ratV false none 0 0 none 0 0, .int .i64 20]) ?h rfl ⟨⟨none, 0, 0, none, 0, 0⟩, rfl, ⟨Rd.nil _, Rd.nil _, fr_none _, fr_none _⟩, ext_set3 hEE (by omega) _ _ _⟩
 case h => simp [results, Tryz.results44, go_sem, q0, q1, q2]
theorem rd_Div_yes (x : Int) (p : Nat) (y : Int) (q : Nat) (z : Int) (d : Nat) (S : Int) (kS : ∀ (h : Nat) (B : Option Addr) (n2 c2 : Nat) (C : Option Addr) (m2 k2 : Nat) (w' : World), RatIs w' h y B n2 c2 q C m2 k2 → Calls Tryz.prog 99 #[.pointer (some ⟨h, 0, none⟩)] w' fun e w'' => e = .returned (.int .i64 S) ∧ Ext w' w'')
  (hS : (S == 0) = false)
  (kB : ∀ w', Ext w w' → Calls Tryz.prog 92 #[ratV s A n c D m k, ratV t B n2 c2 C m2 k2] w' (BothPst w' x p y q))
  (kO : ∀ (g : Nat) (A : Option Addr) (n c : Nat) (D : Option Addr) (m k h : Nat) (B : Option Addr) (n2 c2 : Nat) (C : Option Addr) (m2 k2 : Nat) (w' : World), Ext w w' → RatIs w' g x A n c p D m k → RatIs w' h y B n2 c2 q C m2 k2 → Off C m2 g → Calls Tryz.prog 100 #[.pointer (some ⟨g, 0, none⟩), .pointer (some ⟨g, 0, none⟩), .pointer (some ⟨h, 0, none⟩)] w' (FPost w' g z d))
  (kF : ∀ (g : Nat) (A : Option Addr) (n c : Nat) (D : Option Addr) (m k : Nat) (w' : World), RatIs w' g z A n c d D m k → Calls Tryz.prog 52 #[.pointer (some ⟨g, 0, none⟩)] w' (UPost w' z (denOf d))) :
  Calls Tryz.prog 44 #[ratV s A n c D m k, ratV t B n2 c2 C m2 k2] w (DfPst w (decide (z < 0)) (lim z.natAbs) (lim (denOf d)) 0) := by
 go_enter Tryz.func44, Tryz.ntmps44
 go_upto_region 4 with (first
  | (go_at_call 92; (with_reducible refine (kB _ xcl).mono ?_); rintro e w1 ⟨g1, A1, n1, c1, D1, m1, k1, h1, B1, j1, l1, C1, o1, p1, rfl, hR1, hg1, xb1⟩; obtain ⟨xc1, xf1, xl1, xz1⟩ := jU xb1; (try simp at xz1); obtain ⟨l1_0, r1_0, f1_0, r1_0_1, f1_0_1, r1_0_2, f1_0_2⟩ := kq3 xb1 (w.heap.size + 1 + 1))
  )
 have kS1 := kS h1 B1 j1 l1 C1 o1 p1 w1 hR1.out.2.1
 clear kS
 go_upto_region 6 with (first
  | (go_at_call 99; (with_reducible refine (kS1).mono ?_); rintro e w4 ⟨rfl, xb4⟩; obtain ⟨xc4, xf4, xl4, xz4⟩ := jU xb4; (try simp at xz4); obtain ⟨l4_0, r4_0, f4_0, r4_0_1, f4_0_1, r4_0_2, f4_0_2⟩ := kq3 xb4 (w.heap.size + 1 + 1))
  )
 have hE1 : Hid (Ext w w4) := by show Ext w w4; exact xcl
 have kO1 := kO g1 A1 n1 c1 D1 m1 k1 h1 B1 j1 l1 C1 o1 p1 w4 hE1.out (hR1.out.1.ext xb4) (hR1.out.2.1.ext xb4) hR1.out.2.2
 have z0 : w4.cell? ⟨w.heap.size + 1 + 1, 0, none⟩ = some (.bool false) := by simp [go_sem, *]
 have z1 : w4.cell? ⟨w.heap.size + 1 + 1, 1, none⟩ = some (.slice none 0 0) := by simp [go_sem, *]
 have z2 : w4.cell? ⟨w.heap.size + 1 + 1, 2, none⟩ = some (.slice none 0 0) := by simp [go_sem, *]
 have f0 : w4.frozen? ⟨w.heap.size + 1 + 1, 0, none⟩ = false := by simp [go_sem, *]
 have f1 : w4.frozen? ⟨w.heap.size + 1 + 1, 1, none⟩ = false := by simp [go_sem, *]
 have f2 : w4.frozen? ⟨w.heap.size + 1 + 1, 2, none⟩ = false := by simp [go_sem, *]
 have zl : w.heap.size + 1 + 1 < w4.heap.size := by assumption
 have hgg := hg1
 simp at hgg
 have hxb := Lib.hid (jT xb1 xb4)
 clear kO kB hR1 xb1 xb4 kS1
 go_wp2_with (first
  | (go_at_call 100; (with_reducible refine kO1.mono ?_); rintro e w2 ⟨rfl, A2, i2, e2, D2, u2, v2, hR2, xt2⟩; have y0 := (xt2.cell (p := ⟨w.heap.size + 1 + 1, 0, none⟩) zl (by simp only; omega)).trans z0; have y1 := (xt2.cell (p := ⟨w.heap.size + 1 + 1, 1, none⟩) zl (by simp only; omega)).trans z1; have y2 := (xt2.cell (p := ⟨w.heap.size + 1 + 1, 2, none⟩) zl (by simp only; omega)).trans z2; have t0 := (xt2.frozen (p := ⟨w.heap.size + 1 + 1, 0, none⟩) zl (by simp only; omega)).trans f0; have t1 := (xt2.frozen (p := ⟨w.heap.size + 1 + 1, 1, none⟩) zl (by simp only; omega)).trans f1; have t2 := (xt2.frozen (p := ⟨w.heap.size + 1 + 1, 2, none⟩) zl (by simp only; omega)).trans f2; have gl := Nat.lt_of_lt_of_le zl xt2.size; have hE2 := Lib.hid (xt2.ext hxb.out hg1); clear z0 z1 z2 f0 f1 f2)
  | (go_at_call 52; (with_reducible refine (kF _ _ _ _ _ _ _ _ hR2.out.1).mono ?_); rintro e w3 ⟨A3, n3, c3, D3, m3, k3, rfl, hR3, xb3⟩; obtain ⟨xc3, xf3, xl3, xz3⟩ := jU xb3; (try simp at xz3); obtain ⟨l3_0, r3_0, f3_0, r3_0_1, f3_0_1, r3_0_2, f3_0_2⟩ := kq3 xb3 (w.heap.size + 1 + 1))
  )
 have z0 : w3.cell? ⟨w.heap.size + 1 + 1, 0, none⟩ = some (.bool false) := by simp [go_sem, *]
 have z1 : w3.cell? ⟨w.heap.size + 1 + 1, 1, none⟩ = some (.slice none 0 0) := by simp [go_sem, *]
 have z2 : w3.cell? ⟨w.heap.size + 1 + 1, 2, none⟩ = some (.slice none 0 0) := by simp [go_sem, *]
 obtain ⟨q0, q1, q2⟩ := set3 (b := w.heap.size + 1 + 1) z0 z1 z2 (.bool (decide (z < 0))) (.slice A3 n3 c3) (.slice D3 m3 k3)
 have hEE : Ext w w3 := jT (jA (jA (jA (jR w) _) _) _) (jT hE2.out xb3)
 have n5 : ∀ a, A3 = some a → w.heap.size + 1 + 1 < a.block := fun a ha => by have := hR3.out.2.1 a ha; omega
 have n6 : ∀ a, D3 = some a → w.heap.size + 1 + 1 < a.block := fun a ha => by have := hR3.out.2.2.2 a ha; omega
 refine bodyPost_ret (v := .tuple #[ratV (decide (z < 0)) A3 n3 c3 D3 m3 k3, .int .i64 0]) ?h rfl ⟨⟨A3, n3, c3, D3, m3, k3⟩, rfl, ⟨hR3.out.1.set3 n5 _ _ _, hR3.out.2.2.1.set3 n6 _ _ _, fun a ha => by have := n5 a ha; omega, fun a ha => by have := n6 a ha; omega⟩, ext_set3 hEE (by omega) _ _ _⟩
 case h => simp [results, Tryz.results44, go_sem, q0, q1, q2]
theorem rd_Div_zero (x : Int) (p : Nat) (y : Int) (q : Nat) (S : Int) (kS : ∀ (h : Nat) (B : Option Addr) (n2 c2 : Nat) (C : Option Addr) (m2 k2 : Nat) (w' : World), RatIs w' h y B n2 c2 q C m2 k2 → Calls Tryz.prog 99 #[.pointer (some ⟨h, 0, none⟩)] w' fun e w'' => e = .returned (.int .i64 S) ∧ Ext w' w'')
  (hS : (S == 0) = true)
  (kB : ∀ w', Ext w w' → Calls Tryz.prog 92 #[ratV s A n c D m k, ratV t B n2 c2 C m2 k2] w' (BothPst w' x p y q)) :
  Calls Tryz.prog 44 #[ratV s A n c D m k, ratV t B n2 c2 C m2 k2] w (DfPst w false [] [] 11) := by
 go_enter Tryz.func44, Tryz.ntmps44
 go_upto_region 4 with (first
  | (go_at_call 92; (with_reducible refine (kB _ xcl).mono ?_); rintro e w1 ⟨g1, A1, n1, c1, D1, m1, k1, h1, B1, j1, l1, C1, o1, p1, rfl, hR1, hg1, xb1⟩; obtain ⟨xc1, xf1, xl1, xz1⟩ := jU xb1; (try simp at xz1); obtain ⟨l1_0, r1_0, f1_0, r1_0_1, f1_0_1, r1_0_2, f1_0_2⟩ := kq3 xb1 (w.heap.size + 1 + 1))
  )
 have kS1 := kS h1 B1 j1 l1 C1 o1 p1 w1 hR1.out.2.1
 clear kS
 go_wp2_with (first
  | (go_at_call 99; (with_reducible refine (kS1).mono ?_); rintro e w4 ⟨rfl, xb4⟩; obtain ⟨xc4, xf4, xl4, xz4⟩ := jU xb4; (try simp at xz4); obtain ⟨l4_0, r4_0, f4_0, r4_0_1, f4_0_1, r4_0_2, f4_0_2⟩ := kq3 xb4 (w.heap.size + 1 + 1))
  )
 have z0 : w4.cell? ⟨w.heap.size + 1 + 1, 0, none⟩ = some (.bool false) := by simp [go_sem, *]
 have z1 : w4.cell? ⟨w.heap.size + 1 + 1, 1, none⟩ = some (.slice none 0 0) := by simp [go_sem, *]
 have z2 : w4.cell? ⟨w.heap.size + 1 + 1, 2, none⟩ = some (.slice none 0 0) := by simp [go_sem, *]
 obtain ⟨q0, q1, q2⟩ := set3 (b := w.heap.size + 1 + 1) z0 z1 z2 (.bool false) (.slice none 0 0) (.slice none 0 0)
 have hEE : Ext w w4 := xcl
 refine bodyPost_ret (v := .tuple #[ratV false none 0 0 none 0 0, .int .i64 11]) ?h rfl ⟨⟨none, 0, 0, none, 0, 0⟩, rfl, ⟨Rd.nil _, Rd.nil _, fr_none _, fr_none _⟩, ext_set3 hEE (by omega) _ _ _⟩
 case h => simp [results, Tryz.results44, go_sem, q0, q1, q2]
theorem rd_Cmp_no (kB : ∀ w', Ext w w' → Calls Tryz.prog 92 #[ratV s A n c D m k, ratV t B n2 c2 C m2 k2] w' fun e w'' => e = .returned (.tuple #[.pointer none, .pointer none, .int .i64 20]) ∧ Ext w' w'') :
  Calls Tryz.prog 36 #[ratV s A n c D m k, ratV t B n2 c2 C m2 k2] w fun e w' => e = .returned (.tuple #[.int .i64 0, .int .i64 20]) ∧ Ext w w' := by
 go_enter Tryz.func36, Tryz.ntmps36
 go_wp2_with (first
  | (go_at_call 92; (with_reducible refine (kB _ xcl).mono ?_); rintro e w1 ⟨rfl, xb1⟩; obtain ⟨xc1, xf1, xl1, xz1⟩ := jU xb1; (try simp at xz1))
  )
 refine bodyPost_ret (v := .tuple #[.int .i64 0, .int .i64 20]) ?h rfl ⟨rfl, ?_⟩
 case h => simp [results, Tryz.results36, go_sem]
 exact xcl
theorem rd_Cmp_yes (x : Int) (p : Nat) (y : Int) (q : Nat) (S : Int) (kB : ∀ w', Ext w w' → Calls Tryz.prog 92 #[ratV s A n c D m k, ratV t B n2 c2 C m2 k2] w' (BothPst w' x p y q))
  (kO : ∀ (g : Nat) (A : Option Addr) (n c : Nat) (D : Option Addr) (m k h : Nat) (B : Option Addr) (n2 c2 : Nat) (C : Option Addr) (m2 k2 : Nat) (w' : World), RatIs w' g x A n c p D m k → RatIs w' h y B n2 c2 q C m2 k2 → Calls Tryz.prog 93 #[.pointer (some ⟨g, 0, none⟩), .pointer (some ⟨h, 0, none⟩)] w' fun e w'' => e = .returned (.int .i64 S) ∧ Ext w' w'') :
  Calls Tryz.prog 36 #[ratV s A n c D m k, ratV t B n2 c2 C m2 k2] w fun e w' => e = .returned (.tuple #[.int .i64 S, .int .i64 0]) ∧ Ext w w' := by
 go_enter Tryz.func36, Tryz.ntmps36
 go_wp2_with (first
  | (go_at_call 92; (with_reducible refine (kB _ xcl).mono ?_); rintro e w1 ⟨g1, A1, n1, c1, D1, m1, k1, h1, B1, j1, l1, C1, o1, p1, rfl, hR1, hg1, xb1⟩; obtain ⟨xc1, xf1, xl1, xz1⟩ := jU xb1; (try simp at xz1))
  | (go_at_call 93; (with_reducible refine (kO _ _ _ _ _ _ _ _ _ _ _ _ _ _ _ hR1.out.1 hR1.out.2.1).mono ?_); rintro e w2 ⟨rfl, xb2⟩; obtain ⟨xc2, xf2, xl2, xz2⟩ := jU xb2; (try simp at xz2))
  )
 refine bodyPost_ret (v := .tuple #[.int .i64 S, .int .i64 0]) ?h rfl ⟨rfl, ?_⟩
 case h => simp [results, Tryz.results36, go_sem]
 exact xcl
end
end Go.Proofs.YtchbefambnhjjaaGreatDoor.NB
end
section
/- Two fractions: the program's answer and the document's, together (written by mkopsb.py). -/
namespace Go.Proofs.YtchbefambnhjjaaGreatDoor.NB
open Go.RowKit
set_option maxHeartbeats 4000000
set_option maxRecDepth 100000
attribute [local irreducible] Calls
theorem rd_check_no (s : Bool) (A : Option Addr) (n c : Nat) (xs : List Nat) (D : Option Addr) (m k : Nat) (ys : List Nat) (hno : ¬ RatOk s xs ys) (w : World) (hT : Tz w) (hA : Rd w A n c xs) (hD : Rd w D m k ys) :
  Calls Tryz.prog 27 #[ratV s A n c D m k] w fun e w' => e = .returned (.int .i64 20) ∧ Ext w w' := by
 by_cases h1 : chk xs = 0
 ·by_cases h2 : chk ys ≠ 0 ∨ m = 0
  ·exact rd_Check_no2 s A n c D m k w xs ys h1 h2 hA hD
  ·have h2' : chk ys = 0 := by
    by_cases h : chk ys = 0
    ·exact h
    ·exact absurd (.inl h) h2
   have hm : m ≠ 0 := fun h => h2 (.inr h)
   obtain ⟨l1, e1⟩ := chk_zero hA.lb h1
   obtain ⟨l2, e2⟩ := chk_zero hD.lb h2'
   have a1 := hA.len
   have a2 := hD.len
   have h3 : val ys ≠ 0 := fun h => hm (by rw [← a2, e2, h, lim_zero]; rfl)
   have hA' := hA
   have hD' := hD
   rw [e1] at hA'
   rw [e2] at hD'
   refine rd_Check_in s A n c (val xs) D m k (val ys) w (Nat.gcd (val xs) (val ys)) rfl h3 (by omega) (by omega) hT hA' hD' 20 ?_
   rw [if_pos]
   by_cases h4 : Nat.gcd (val xs) (val ys) = 1
   ·left
    by_cases h5 : val xs = 0
    ·refine ⟨h5, ?_⟩
     by_cases h6 : s = true
     ·exact .inl h6
     ·right
      intro h7
      exact hno ⟨h1, h2', h3, h4, fun h => absurd h h6⟩
    ·exact absurd ⟨h1, h2', h3, h4, fun _ => h5⟩ hno
   ·exact .inr h4
 ·exact rd_Check_no1 s A n c D m k w rfl xs ys h1 hA hD
theorem rd_check_yes (s : Bool) (A : Option Addr) (n c a : Nat) (D : Option Addr) (m k d : Nat) (hd : d ≠ 0) (hn : n ≤ 16384) (hm : m ≤ 16384) (hg : Nat.gcd a d = 1) (hng : s = true → a ≠ 0) (w : World) (hT : Tz w) (hA : Rd w A n c (lim a)) (hD : Rd w D m k (lim d)) :
  Calls Tryz.prog 27 #[ratV s A n c D m k] w fun e w' => e = .returned (.int .i64 0) ∧ Ext w w' := by
 refine rd_Check_in s A n c a D m k d w 1 hg hd hn hm hT hA hD 0 ?_
 rw [if_neg]
 rintro (⟨h1, h2⟩ | h)
 ·rcases h2 with h2 | h2
  ·exact hng h2 h1
  ·rw [h1, Nat.gcd_zero_left] at hg; exact h2 hg
 ·exact h rfl
end Go.Proofs.YtchbefambnhjjaaGreatDoor.NB
namespace Go.Proofs.YtchbefambnhjjaaGreatDoor
open Go.RowKit
set_option maxHeartbeats 4000000
set_option maxRecDepth 100000
attribute [local irreducible] Calls
abbrev OfPst (w : World) (s : Bool) (xs ys : List Nat) (E : Int) : Ending → World → Prop := fun e w' => ∃ F : FH, e = .returned (.tuple #[fV s F, .int .i64 E]) ∧ Hid (RdO w' F.A F.n F.c xs none ∧ Fr w F.A ∧ RdO w' F.D F.m F.k ys F.A ∧ Fr w F.D) ∧ Ext w w'
structure FrIn (w : World) (F : FH) (xs ys : List Nat) : Prop where
 num : Rd w F.A F.n F.c xs
 den : Rd w F.D F.m F.k ys
theorem FrIn.ext {w w' : World} {F : FH} {xs ys : List Nat} (h : FrIn w F xs ys) (he : Ext w w') : FrIn w' F xs ys := ⟨h.num.ext he, h.den.ext he⟩
theorem of_t {w : World} {z : Int} {d : Nat} {f : FuncId} {v : Array Value} (h : Calls Tryz.prog f v w (TPost w z d)) : Calls Tryz.prog f v w (OfPst w (decide (z < 0)) (lim z.natAbs) (lim d) 0) := by
 refine h.mono ?_
 rintro e w' ⟨A, n, c, D, m, k, rfl, h1, h2⟩
 exact ⟨⟨A, n, c, D, m, k⟩, rfl, h1, h2⟩
theorem of_no {w : World} {E : Int} {f : FuncId} {v : Array Value} (h : Calls Tryz.prog f v w (NoE w E)) : Calls Tryz.prog f v w (OfPst w false [] [] E) := by
 refine h.mono ?_
 rintro e w' ⟨rfl, h1⟩
 exact ⟨⟨none, 0, 0, none, 0, 0⟩, rfl, Lib.hid ⟨RdO.nil _ _, fr_none _, RdO.nil _ _, fr_none _⟩, h1⟩
theorem RatOk.parts {s : Bool} {xs ys : List Nat} (h : RatOk s xs ys) (hb : Lb xs) (hb2 : Lb ys) : ∃ a d, xs = lim a ∧ ys = lim d ∧ d ≠ 0 ∧ Nat.gcd a d = 1 ∧ (s = true → a ≠ 0) :=
 ⟨val xs, val ys, (chk_zero hb h.1).2, (chk_zero hb2 h.2.1).2, h.2.2.1, h.2.2.2.1, h.2.2.2.2⟩
abbrev BoPst (f g : FuncId) (s t : Bool) (xs ys us vs : List Nat) : Prop := ∃ (r : Bool) (zs ws : List Nat) (E : Int), zs.length ≤ 1000000 ∧ ws.length ≤ 1000000 ∧
 (∀ F G w, Tz w → FrIn w F xs ys → FrIn w G us vs → Calls Tryz.prog f #[fV s F, fV t G] w (OfPst w r zs ws E)) ∧ (∀ F G w, Tz w → FrIn w F xs ys → FrIn w G us vs → Calls Tryz.prog g #[fV s F, fV t G] w (NB.DfPst w r zs ws E))
section
variable {s t : Bool} {xs ys us vs : List Nat}
theorem tk_no {s : Bool} {xs ys : List Nat} (h : ¬ RatOk s xs ys) (F : FH) (w : World) (hT : Tz w) (hF : FrIn w F xs ys) : ∀ w', Ext w w' → Calls Tryz.prog 68 #[fV s F] w' fun e w'' => e = .returned (.tuple #[.pointer none, .int .i64 20]) ∧ Ext w' w'' := fun w' he => ra_taken_no s F.A F.n F.c xs F.D F.m F.k ys h w' (hT.ext he) (hF.num.ext he) (hF.den.ext he)
theorem ck_no {s : Bool} {xs ys : List Nat} (h : ¬ RatOk s xs ys) (F : FH) (w : World) (hT : Tz w) (hF : FrIn w F xs ys) : ∀ w', Ext w w' → Calls Tryz.prog 26 #[fV s F] w' fun e w'' => e = .returned (.int .i64 20) ∧ Ext w' w'' := fun w' he => ra_check_no s F.A F.n F.c xs F.D F.m F.k ys h w' (hT.ext he) (hF.num.ext he) (hF.den.ext he)
theorem dk_no {s : Bool} {xs ys : List Nat} (h : ¬ RatOk s xs ys) (F : FH) (w : World) (hT : Tz w) (hF : FrIn w F xs ys) : ∀ w', Ext w w' → Calls Tryz.prog 27 #[fV s F] w' fun e w'' => e = .returned (.int .i64 20) ∧ Ext w' w'' := fun w' he => NB.rd_check_no s F.A F.n F.c xs F.D F.m F.k ys h w' (hT.ext he) (hF.num.ext he) (hF.den.ext he)
section
variable {a d : Nat} (hd : d ≠ 0) (hg : Nat.gcd a d = 1) (hn : s = true → a ≠ 0) (l1 : (lim a).length ≤ 40) (l2 : (lim d).length ≤ 40) (F : FH) (w : World) (hT : Tz w) (hF : FrIn w F (lim a) (lim d))
include hd hg hn l1 l2 hT hF
theorem tk_yes : ∀ w', Ext w w' → Calls Tryz.prog 68 #[fV s F] w' (KPost w' (sgn s a) (lowD a d)) := fun w' he => ra_taken s F.A F.n F.c a F.D F.m F.k d hd (by have := hF.num.len; omega) (by have := hF.den.len; omega) hg hn w' (hT.ext he) (hF.num.ext he) (hF.den.ext he)
theorem ck_yes : ∀ w', Ext w w' → Calls Tryz.prog 26 #[fV s F] w' fun e w'' => e = .returned (.int .i64 0) ∧ Ext w' w'' := fun w' he => ra_check_yes s F.A F.n F.c a F.D F.m F.k d hd (by have := hF.num.len; omega) (by have := hF.den.len; omega) hg hn w' (hT.ext he) (hF.num.ext he) (hF.den.ext he)
theorem dk_yes : ∀ w', Ext w w' → Calls Tryz.prog 27 #[fV s F] w' fun e w'' => e = .returned (.int .i64 0) ∧ Ext w' w'' := fun w' he => NB.rd_check_yes s F.A F.n F.c a F.D F.m F.k d hd (by have := hF.num.len; omega) (by have := hF.den.len; omega) hg hn w' (hT.ext he) (hF.num.ext he) (hF.den.ext he)
end
theorem dr_yes {s : Bool} {a d : Nat} (hd : d ≠ 0) (hg : Nat.gcd a d = 1) (l1 : (lim a).length ≤ 40) (l2 : (lim d).length ≤ 40) (F : FH) (w : World) (hT : Tz w) (hF : FrIn w F (lim a) (lim d)) : ∀ w', Ext w w' → Calls Tryz.prog 62 #[fV s F] w' (NB.RatPst w' (sgn s a) (lowD a d)) := fun w' he => NB.rd_Rat s F.A F.n F.c a F.D F.m F.k d hd (by have := hF.num.len; omega) (by have := hF.den.len; omega) hg w' (hT.ext he) (hF.num.ext he) (hF.den.ext he)
theorem db_no1 (h1 : ¬ RatOk s xs ys) (F G : FH) (w : World) (hT : Tz w) (hF : FrIn w F xs ys) : ∀ w', Ext w w' → Calls Tryz.prog 92 #[fV s F, fV t G] w' fun e w'' => e = .returned (.tuple #[.pointer none, .pointer none, .int .i64 20]) ∧ Ext w' w'' := fun w' he =>
 NB.rd_both_no1 s t F.A F.n F.c F.D F.m F.k G.A G.n G.c G.D G.m G.k w' (dk_no h1 F w' (hT.ext he) (hF.ext he))
theorem db_no2 {a d : Nat} (hd : d ≠ 0) (hg : Nat.gcd a d = 1) (hn : s = true → a ≠ 0) (l1 : (lim a).length ≤ 40) (l2 : (lim d).length ≤ 40) (h2 : ¬ RatOk t us vs) (F G : FH) (w : World) (hT : Tz w) (hF : FrIn w F (lim a) (lim d)) (hG : FrIn w G us vs) : ∀ w', Ext w w' → Calls Tryz.prog 92 #[fV s F, fV t G] w' fun e w'' => e = .returned (.tuple #[.pointer none, .pointer none, .int .i64 20]) ∧ Ext w' w'' := fun w' he =>
 NB.rd_both_no2 s t F.A F.n F.c F.D F.m F.k G.A G.n G.c G.D G.m G.k w' (dk_yes hd hg hn l1 l2 F w' (hT.ext he) (hF.ext he)) (dk_no h2 G w' (hT.ext he) (hG.ext he))
theorem db_yes {a d b q : Nat} (hd : d ≠ 0) (hg : Nat.gcd a d = 1) (hn : s = true → a ≠ 0) (l1 : (lim a).length ≤ 40) (l2 : (lim d).length ≤ 40) (hq : q ≠ 0) (hg2 : Nat.gcd b q = 1) (hn2 : t = true → b ≠ 0) (l3 : (lim b).length ≤ 40) (l4 : (lim q).length ≤ 40) (F G : FH) (w : World) (hT : Tz w) (hF : FrIn w F (lim a) (lim d)) (hG : FrIn w G (lim b) (lim q)) :
  ∀ w', Ext w w' → Calls Tryz.prog 92 #[fV s F, fV t G] w' (NB.BothPst w' (sgn s a) (lowD a d) (sgn t b) (lowD b q)) := fun w' he =>
 NB.rd_both s t F.A F.n F.c F.D F.m F.k G.A G.n G.c G.D G.m G.k w' _ _ _ _ (dk_yes hd hg hn l1 l2 F w' (hT.ext he) (hF.ext he)) (dk_yes hq hg2 hn2 l3 l4 G w' (hT.ext he) (hG.ext he)) (dr_yes hd hg l1 l2 F w' (hT.ext he) (hF.ext he)) (dr_yes hq hg2 l3 l4 G w' (hT.ext he) (hG.ext he))
theorem bo_Add (hx : Lb xs) (hy : Lb ys) (hu : Lb us) (hv : Lb vs) (l1 : xs.length ≤ 40) (l2 : ys.length ≤ 40) (l3 : us.length ≤ 40) (l4 : vs.length ≤ 40) : BoPst 37 38 s t xs ys us vs := by
 by_cases h1 : RatOk s xs ys
 ·obtain ⟨a, d, rfl, rfl, hd, hg, hn⟩ := h1.parts hx hy
  by_cases h2 : RatOk t us vs
  ·obtain ⟨b, q, rfl, rfl, hq, hg2, hn2⟩ := h2.parts hu hv
   have hdq : d * q ≠ 0 := Nat.mul_ne_zero hd hq
   have hz : (lim (sgn s a * (q : Int) + sgn t b * (d : Int)).natAbs).length ≤ 200 := by exact Nat.le_trans (sum_room (n := 40) (by rw [sgn_abs]; exact l1) (by rw [sgn_abs]; exact l3) l2 l4) (by omega)
   have hw : (lim (d * q)).length ≤ 200 := Nat.le_trans (lim_mul_len _ _) (by omega)
   have hz1 := lim_mono (canN_le (sgn s a * (q : Int) + sgn t b * (d : Int)) (d * q))
   have hz2 := lim_mono (canD_le (sgn s a * (q : Int) + sgn t b * (d : Int)) (d * q))
   have hz3 := lim_mono (canW_le (sgn s a * (q : Int) + sgn t b * (d : Int)) (d * q))
   refine ⟨_, lim (canN (sgn s a * (q : Int) + sgn t b * (d : Int)) (d * q)).natAbs, lim (canD (sgn s a * (q : Int) + sgn t b * (d : Int)) (d * q)), 0, by omega, by omega, fun F G w hT hF hG => of_t (ra_Add s F.A F.n F.c a F.D F.m F.k d hd (by have := hF.num.len; omega) (by have := hF.den.len; omega) hg hn t G.A G.n G.c b G.D G.m G.k q hq (by have := hG.num.len; omega) (by have := hG.den.len; omega) hg2 hn2 w hT hF.num hF.den hG.num hG.den), fun F G w hT hF hG => ?_⟩
   have h := NB.rd_Add_yes s t F.A F.n F.c F.D F.m F.k G.A G.n G.c G.D G.m G.k w (sgn s a) (lowD a d) (sgn t b) (lowD b q) (canN (sgn s a * (q : Int) + sgn t b * (d : Int)) (d * q)) (canW (sgn s a * (q : Int) + sgn t b * (d : Int)) (d * q)) (db_yes hd hg hn l1 l2 hq hg2 hn2 l3 l4 F G w hT hF hG)
    (fun g A n c D m k h B n2 c2 C m2 k2 w' he hX hY hO => by
     have e1 := hX.int.rd.len
     have e2 := hX.rd.len
     have e3 := hY.int.rd.len
     have e4 := hY.rd.len
     rw [sgn_abs] at e1 e3
     have e5 := lim_mono (lowD_le a d)
     have e6 := lim_mono (lowD_le b q)
     have h := NB.br_Add g g h (sgn s a) (sgn t b) (lowD a d) (lowD b q) (by rw [sgn_abs, den_low hd hg]; exact hg) (by rw [sgn_abs, den_low hq hg2]; exact hg2) A n c D m k B n2 c2 C m2 k2 (by omega) (by omega) (by omega) (by omega) w' (hT.ext he) hX.room hX hY hX.off hO
     rw [den_low hd hg, den_low hq hg2] at h
     exact h)
    (fun g A n c D m k w' hX => by
     have e1 := hX.int.rd.len
     have e2 := hX.rd.len
     exact NB.rd_Of g _ A n c _ D m k (by omega) (by omega) (by rw [canW_den hdq]; omega) w' hX)
   rw [canW_den hdq] at h
   exact h
  ·exact ⟨false, [], [], 20, by simp, by simp, fun F G w hT hF hG => of_no (ra_Add_no s t F.A F.n F.c F.D F.m F.k G.A G.n G.c G.D G.m G.k w (fun g w' he => ra_of_no2 s t F.A F.n F.c F.D F.m F.k G.A G.n G.c G.D G.m G.k w' _ _ _ (tk_yes hd hg hn l1 l2 F w' (hT.ext he) (hF.ext he)) (tk_no h2 G w' (hT.ext he) (hG.ext he)))), fun F G w hT hF hG => NB.rd_Add_no s t F.A F.n F.c F.D F.m F.k G.A G.n G.c G.D G.m G.k w (db_no2 hd hg hn l1 l2 h2 F G w hT hF hG)⟩
 ·exact ⟨false, [], [], 20, by simp, by simp, fun F G w hT hF hG => of_no (ra_Add_no s t F.A F.n F.c F.D F.m F.k G.A G.n G.c G.D G.m G.k w (fun g w' he => ra_of_no1 s t F.A F.n F.c F.D F.m F.k G.A G.n G.c G.D G.m G.k w' _ (tk_no h1 F w' (hT.ext he) (hF.ext he)))), fun F G w hT hF hG => NB.rd_Add_no s t F.A F.n F.c F.D F.m F.k G.A G.n G.c G.D G.m G.k w (db_no1 h1 F G w hT hF)⟩
theorem bo_Sub (hx : Lb xs) (hy : Lb ys) (hu : Lb us) (hv : Lb vs) (l1 : xs.length ≤ 40) (l2 : ys.length ≤ 40) (l3 : us.length ≤ 40) (l4 : vs.length ≤ 40) : BoPst 39 40 s t xs ys us vs := by
 by_cases h1 : RatOk s xs ys
 ·obtain ⟨a, d, rfl, rfl, hd, hg, hn⟩ := h1.parts hx hy
  by_cases h2 : RatOk t us vs
  ·obtain ⟨b, q, rfl, rfl, hq, hg2, hn2⟩ := h2.parts hu hv
   have hdq : d * q ≠ 0 := Nat.mul_ne_zero hd hq
   have hz : (lim (sgn s a * (q : Int) - sgn t b * (d : Int)).natAbs).length ≤ 200 := by exact Nat.le_trans (sub_room (n := 40) (by rw [sgn_abs]; exact l1) (by rw [sgn_abs]; exact l3) l2 l4) (by omega)
   have hw : (lim (d * q)).length ≤ 200 := Nat.le_trans (lim_mul_len _ _) (by omega)
   have hz1 := lim_mono (canN_le (sgn s a * (q : Int) - sgn t b * (d : Int)) (d * q))
   have hz2 := lim_mono (canD_le (sgn s a * (q : Int) - sgn t b * (d : Int)) (d * q))
   have hz3 := lim_mono (canW_le (sgn s a * (q : Int) - sgn t b * (d : Int)) (d * q))
   refine ⟨_, lim (canN (sgn s a * (q : Int) - sgn t b * (d : Int)) (d * q)).natAbs, lim (canD (sgn s a * (q : Int) - sgn t b * (d : Int)) (d * q)), 0, by omega, by omega, fun F G w hT hF hG => of_t (ra_Sub s F.A F.n F.c a F.D F.m F.k d hd (by have := hF.num.len; omega) (by have := hF.den.len; omega) hg hn t G.A G.n G.c b G.D G.m G.k q hq (by have := hG.num.len; omega) (by have := hG.den.len; omega) hg2 hn2 w hT hF.num hF.den hG.num hG.den), fun F G w hT hF hG => ?_⟩
   have h := NB.rd_Sub_yes s t F.A F.n F.c F.D F.m F.k G.A G.n G.c G.D G.m G.k w (sgn s a) (lowD a d) (sgn t b) (lowD b q) (canN (sgn s a * (q : Int) - sgn t b * (d : Int)) (d * q)) (canW (sgn s a * (q : Int) - sgn t b * (d : Int)) (d * q)) (db_yes hd hg hn l1 l2 hq hg2 hn2 l3 l4 F G w hT hF hG)
    (fun g A n c D m k h B n2 c2 C m2 k2 w' he hX hY hO => by
     have e1 := hX.int.rd.len
     have e2 := hX.rd.len
     have e3 := hY.int.rd.len
     have e4 := hY.rd.len
     rw [sgn_abs] at e1 e3
     have e5 := lim_mono (lowD_le a d)
     have e6 := lim_mono (lowD_le b q)
     have h := NB.br_Sub g g h (sgn s a) (sgn t b) (lowD a d) (lowD b q) (by rw [sgn_abs, den_low hd hg]; exact hg) (by rw [sgn_abs, den_low hq hg2]; exact hg2) A n c D m k B n2 c2 C m2 k2 (by omega) (by omega) (by omega) (by omega) w' (hT.ext he) hX.room hX hY hX.off hO
     rw [den_low hd hg, den_low hq hg2] at h
     exact h)
    (fun g A n c D m k w' hX => by
     have e1 := hX.int.rd.len
     have e2 := hX.rd.len
     exact NB.rd_Of g _ A n c _ D m k (by omega) (by omega) (by rw [canW_den hdq]; omega) w' hX)
   rw [canW_den hdq] at h
   exact h
  ·exact ⟨false, [], [], 20, by simp, by simp, fun F G w hT hF hG => of_no (ra_Sub_no s t F.A F.n F.c F.D F.m F.k G.A G.n G.c G.D G.m G.k w (fun g w' he => ra_of_no2 s t F.A F.n F.c F.D F.m F.k G.A G.n G.c G.D G.m G.k w' _ _ _ (tk_yes hd hg hn l1 l2 F w' (hT.ext he) (hF.ext he)) (tk_no h2 G w' (hT.ext he) (hG.ext he)))), fun F G w hT hF hG => NB.rd_Sub_no s t F.A F.n F.c F.D F.m F.k G.A G.n G.c G.D G.m G.k w (db_no2 hd hg hn l1 l2 h2 F G w hT hF hG)⟩
 ·exact ⟨false, [], [], 20, by simp, by simp, fun F G w hT hF hG => of_no (ra_Sub_no s t F.A F.n F.c F.D F.m F.k G.A G.n G.c G.D G.m G.k w (fun g w' he => ra_of_no1 s t F.A F.n F.c F.D F.m F.k G.A G.n G.c G.D G.m G.k w' _ (tk_no h1 F w' (hT.ext he) (hF.ext he)))), fun F G w hT hF hG => NB.rd_Sub_no s t F.A F.n F.c F.D F.m F.k G.A G.n G.c G.D G.m G.k w (db_no1 h1 F G w hT hF)⟩
theorem bo_Mul (hx : Lb xs) (hy : Lb ys) (hu : Lb us) (hv : Lb vs) (l1 : xs.length ≤ 40) (l2 : ys.length ≤ 40) (l3 : us.length ≤ 40) (l4 : vs.length ≤ 40) : BoPst 41 42 s t xs ys us vs := by
 by_cases h1 : RatOk s xs ys
 ·obtain ⟨a, d, rfl, rfl, hd, hg, hn⟩ := h1.parts hx hy
  by_cases h2 : RatOk t us vs
  ·obtain ⟨b, q, rfl, rfl, hq, hg2, hn2⟩ := h2.parts hu hv
   have hdq : d * q ≠ 0 := Nat.mul_ne_zero hd hq
   have hz : (lim (sgn s a * sgn t b).natAbs).length ≤ 200 := by exact Nat.le_trans (mul_room (n := 40) (by rw [sgn_abs]; exact l1) (by rw [sgn_abs]; exact l3)) (by omega)
   have hw : (lim (d * q)).length ≤ 200 := Nat.le_trans (lim_mul_len _ _) (by omega)
   have hz1 := lim_mono (canN_le (sgn s a * sgn t b) (d * q))
   have hz2 := lim_mono (canD_le (sgn s a * sgn t b) (d * q))
   have hz3 := lim_mono (canW_le (sgn s a * sgn t b) (d * q))
   refine ⟨_, lim (canN (sgn s a * sgn t b) (d * q)).natAbs, lim (canD (sgn s a * sgn t b) (d * q)), 0, by omega, by omega, fun F G w hT hF hG => of_t (ra_Mul s F.A F.n F.c a F.D F.m F.k d hd (by have := hF.num.len; omega) (by have := hF.den.len; omega) hg hn t G.A G.n G.c b G.D G.m G.k q hq (by have := hG.num.len; omega) (by have := hG.den.len; omega) hg2 hn2 w hT hF.num hF.den hG.num hG.den), fun F G w hT hF hG => ?_⟩
   have h := NB.rd_Mul_yes s t F.A F.n F.c F.D F.m F.k G.A G.n G.c G.D G.m G.k w (sgn s a) (lowD a d) (sgn t b) (lowD b q) (canN (sgn s a * sgn t b) (d * q)) (canW (sgn s a * sgn t b) (d * q)) (db_yes hd hg hn l1 l2 hq hg2 hn2 l3 l4 F G w hT hF hG)
    (fun g A n c D m k h B n2 c2 C m2 k2 w' he hX hY hO => by
     have e1 := hX.int.rd.len
     have e2 := hX.rd.len
     have e3 := hY.int.rd.len
     have e4 := hY.rd.len
     rw [sgn_abs] at e1 e3
     have e5 := lim_mono (lowD_le a d)
     have e6 := lim_mono (lowD_le b q)
     have h := NB.br_Mul g g h (sgn s a) (sgn t b) (lowD a d) (lowD b q) (by rw [sgn_abs, den_low hd hg]; exact hg) (by rw [sgn_abs, den_low hq hg2]; exact hg2) A n c D m k B n2 c2 C m2 k2 (by omega) (by omega) (by omega) (by omega) w' (hT.ext he) hX.room hX hY
     rw [den_low hd hg, den_low hq hg2] at h
     exact h)
    (fun g A n c D m k w' hX => by
     have e1 := hX.int.rd.len
     have e2 := hX.rd.len
     exact NB.rd_Of g _ A n c _ D m k (by omega) (by omega) (by rw [canW_den hdq]; omega) w' hX)
   rw [canW_den hdq] at h
   exact h
  ·exact ⟨false, [], [], 20, by simp, by simp, fun F G w hT hF hG => of_no (ra_Mul_no s t F.A F.n F.c F.D F.m F.k G.A G.n G.c G.D G.m G.k w (fun g w' he => ra_of_no2 s t F.A F.n F.c F.D F.m F.k G.A G.n G.c G.D G.m G.k w' _ _ _ (tk_yes hd hg hn l1 l2 F w' (hT.ext he) (hF.ext he)) (tk_no h2 G w' (hT.ext he) (hG.ext he)))), fun F G w hT hF hG => NB.rd_Mul_no s t F.A F.n F.c F.D F.m F.k G.A G.n G.c G.D G.m G.k w (db_no2 hd hg hn l1 l2 h2 F G w hT hF hG)⟩
 ·exact ⟨false, [], [], 20, by simp, by simp, fun F G w hT hF hG => of_no (ra_Mul_no s t F.A F.n F.c F.D F.m F.k G.A G.n G.c G.D G.m G.k w (fun g w' he => ra_of_no1 s t F.A F.n F.c F.D F.m F.k G.A G.n G.c G.D G.m G.k w' _ (tk_no h1 F w' (hT.ext he) (hF.ext he)))), fun F G w hT hF hG => NB.rd_Mul_no s t F.A F.n F.c F.D F.m F.k G.A G.n G.c G.D G.m G.k w (db_no1 h1 F G w hT hF)⟩
theorem bo_Div (hx : Lb xs) (hy : Lb ys) (hu : Lb us) (hv : Lb vs) (l1 : xs.length ≤ 40) (l2 : ys.length ≤ 40) (l3 : us.length ≤ 40) (l4 : vs.length ≤ 40) : BoPst 43 44 s t xs ys us vs := by
 by_cases h1 : RatOk s xs ys
 ·obtain ⟨a, d, rfl, rfl, hd, hg, hn⟩ := h1.parts hx hy
  by_cases h2 : RatOk t us vs
  ·obtain ⟨b, q, rfl, rfl, hq, hg2, hn2⟩ := h2.parts hu hv
   by_cases hb : b = 0
   ·subst hb
    have ht : t = false := by
     cases t with
     | false => rfl
     | true => exact absurd rfl (hn2 rfl)
    have e0 : sgn t 0 = 0 := by unfold sgn; split <;> rfl
    refine ⟨false, [], [], 11, by simp, by simp, fun F G w hT hF hG => ?_, fun F G w hT hF hG => ?_⟩
    ·have hn0 : G.n = 0 := by have h := hG.num.len; rw [lim_zero] at h; simpa using h.symm
     have c1 := ck_yes hd hg hn l1 l2 F w hT hF
     have c2 := ck_yes hq hg2 hn2 l3 l4 G w hT hG
     clear hG
     obtain ⟨B, n2, c2', C, m2, k2⟩ := G
     subst hn0
     exact of_no (ra_Div_zero _ _ _ _ _ _ _ _ _ _ _ _ _ w c1 c2)
    ·exact NB.rd_Div_zero s t F.A F.n F.c F.D F.m F.k G.A G.n G.c G.D G.m G.k w (sgn s a) (lowD a d) (sgn t 0) (lowD 0 q) (sgn t 0).sign (fun h B n2 c2 C m2 k2 w' hY => NB.br_Sign h _ B n2 c2 w' hY.int) (by rw [e0]; rfl) (db_yes hd hg hn l1 l2 hq hg2 hn2 l3 l4 F G w hT hF hG)
   have hdq : d * b ≠ 0 := Nat.mul_ne_zero hd hb
   have hz : (lim ((sgn (!(decide (sgn s a < 0) == decide (sgn t b < 0))) (a * q : Nat))).natAbs).length ≤ 200 := by rw [sgn_abs]; exact Nat.le_trans (lim_mul_len _ _) (by omega)
   have hw : (lim (d * b)).length ≤ 200 := Nat.le_trans (lim_mul_len _ _) (by omega)
   have hz1 := lim_mono (canN_le ((sgn (!(decide (sgn s a < 0) == decide (sgn t b < 0))) (a * q : Nat))) (d * b))
   have hz2 := lim_mono (canD_le ((sgn (!(decide (sgn s a < 0) == decide (sgn t b < 0))) (a * q : Nat))) (d * b))
   have hz3 := lim_mono (canW_le ((sgn (!(decide (sgn s a < 0) == decide (sgn t b < 0))) (a * q : Nat))) (d * b))
   refine ⟨_, lim (canN ((sgn (!(decide (sgn s a < 0) == decide (sgn t b < 0))) (a * q : Nat))) (d * b)).natAbs, lim (canD ((sgn (!(decide (sgn s a < 0) == decide (sgn t b < 0))) (a * q : Nat))) (d * b)), 0, by omega, by omega, fun F G w hT hF hG => of_t (ra_Div s F.A F.n F.c a F.D F.m F.k d hd (by have := hF.num.len; omega) (by have := hF.den.len; omega) hg hn t G.A G.n G.c b G.D G.m G.k q hq hb (by have := hG.num.len; omega) (by have := hG.den.len; omega) hg2 hn2 w hT hF.num hF.den hG.num hG.den), fun F G w hT hF hG => ?_⟩
   have h := NB.rd_Div_yes s t F.A F.n F.c F.D F.m F.k G.A G.n G.c G.D G.m G.k w (sgn s a) (lowD a d) (sgn t b) (lowD b q) (canN ((sgn (!(decide (sgn s a < 0) == decide (sgn t b < 0))) (a * q : Nat))) (d * b)) (canW ((sgn (!(decide (sgn s a < 0) == decide (sgn t b < 0))) (a * q : Nat))) (d * b)) (sgn t b).sign (fun h B n2 c2 C m2 k2 w' hY => NB.br_Sign h _ B n2 c2 w' hY.int) (by rw [beq_eq_false_iff_ne, ne_eq, Int.sign_eq_zero_iff_zero]; intro h; have := congrArg Int.natAbs h; rw [sgn_abs] at this; exact hb this) (db_yes hd hg hn l1 l2 hq hg2 hn2 l3 l4 F G w hT hF hG)
    (fun g A n c D m k h B n2 c2 C m2 k2 w' he hX hY hO => by
     have e1 := hX.int.rd.len
     have e2 := hX.rd.len
     have e3 := hY.int.rd.len
     have e4 := hY.rd.len
     rw [sgn_abs] at e1 e3
     have e5 := lim_mono (lowD_le a d)
     have e6 := lim_mono (lowD_le b q)
     have h := NB.br_Quo g g h (sgn s a) (sgn t b) (lowD a d) (lowD b q) (by intro h; have := congrArg Int.natAbs h; rw [sgn_abs] at this; exact hb this) (by rw [sgn_abs, den_low hd hg]; exact hg) (by rw [sgn_abs, den_low hq hg2]; exact hg2) A n c D m k B n2 c2 C m2 k2 (by omega) (by omega) (by omega) (by omega) w' (hT.ext he) hX.room hX hY
     rw [den_low hd hg, den_low hq hg2, sgn_abs, sgn_abs] at h
     exact h)
    (fun g A n c D m k w' hX => by
     have e1 := hX.int.rd.len
     have e2 := hX.rd.len
     exact NB.rd_Of g _ A n c _ D m k (by omega) (by omega) (by rw [canW_den hdq]; omega) w' hX)
   rw [canW_den hdq] at h
   exact h
  ·exact ⟨false, [], [], 20, by simp, by simp, fun F G w hT hF hG => of_no (ra_Div_no2 s t F.A F.n F.c F.D F.m F.k G.A G.n G.c G.D G.m G.k w (fun g w' he => ra_of_no2 s t F.A F.n F.c F.D F.m F.k G.A G.n G.c G.D G.m G.k w' _ _ _ (tk_yes hd hg hn l1 l2 F w' (hT.ext he) (hF.ext he)) (tk_no h2 G w' (hT.ext he) (hG.ext he))) (ck_yes hd hg hn l1 l2 F w hT hF) (ck_no h2 G w hT hG)), fun F G w hT hF hG => NB.rd_Div_no s t F.A F.n F.c F.D F.m F.k G.A G.n G.c G.D G.m G.k w (db_no2 hd hg hn l1 l2 h2 F G w hT hF hG)⟩
 ·exact ⟨false, [], [], 20, by simp, by simp, fun F G w hT hF hG => of_no (ra_Div_no1 s t F.A F.n F.c F.D F.m F.k G.A G.n G.c G.D G.m G.k w (fun g w' he => ra_of_no1 s t F.A F.n F.c F.D F.m F.k G.A G.n G.c G.D G.m G.k w' _ (tk_no h1 F w' (hT.ext he) (hF.ext he))) (ck_no h1 F w hT hF)), fun F G w hT hF hG => NB.rd_Div_no s t F.A F.n F.c F.D F.m F.k G.A G.n G.c G.D G.m G.k w (db_no1 h1 F G w hT hF)⟩
theorem bo_Cmp (hx : Lb xs) (hy : Lb ys) (hu : Lb us) (hv : Lb vs) (l1 : xs.length ≤ 40) (l2 : ys.length ≤ 40) (l3 : us.length ≤ 40) (l4 : vs.length ≤ 40) : ∃ (S E : Int), (∀ F G w, Tz w → FrIn w F xs ys → FrIn w G us vs → Calls Tryz.prog 35 #[fV s F, fV t G] w fun e w' => e = .returned (.tuple #[.int .i64 S, .int .i64 E]) ∧ Ext w w') ∧
  (∀ F G w, Tz w → FrIn w F xs ys → FrIn w G us vs → Calls Tryz.prog 36 #[fV s F, fV t G] w fun e w' => e = .returned (.tuple #[.int .i64 S, .int .i64 E]) ∧ Ext w w') := by
 by_cases h1 : RatOk s xs ys
 ·obtain ⟨a, d, rfl, rfl, hd, hg, hn⟩ := h1.parts hx hy
  by_cases h2 : RatOk t us vs
  ·obtain ⟨b, q, rfl, rfl, hq, hg2, hn2⟩ := h2.parts hu hv
   refine ⟨_, 0, fun F G w hT hF hG => ra_Cmp s F.A F.n F.c a F.D F.m F.k d hd (by have := hF.num.len; omega) (by have := hF.den.len; omega) hg hn t G.A G.n G.c b G.D G.m G.k q hq (by have := hG.num.len; omega) (by have := hG.den.len; omega) hg2 hn2 w hT hF.num hF.den hG.num hG.den, fun F G w hT hF hG => ?_⟩
   refine NB.rd_Cmp_yes s t F.A F.n F.c F.D F.m F.k G.A G.n G.c G.D G.m G.k w (sgn s a) (lowD a d) (sgn t b) (lowD b q) _ (db_yes hd hg hn l1 l2 hq hg2 hn2 l3 l4 F G w hT hF hG) (fun g A n c D m k h B n2 c2 C m2 k2 w' hX hY => ?_)
   have e1 := hX.int.rd.len
   have e2 := hX.rd.len
   have e3 := hY.int.rd.len
   have e4 := hY.rd.len
   rw [sgn_abs] at e1 e3
   have e5 := lim_mono (lowD_le a d)
   have e6 := lim_mono (lowD_le b q)
   have h := NB.br_Cmp g h (sgn s a) (sgn t b) (lowD a d) (lowD b q) A n c D m k B n2 c2 C m2 k2 (by omega) (by omega) (by omega) (by omega) w' hX hY
   rw [den_low hd hg, den_low hq hg2] at h
   exact h
  ·exact ⟨0, 20, fun F G w hT hF hG => ra_Cmp_no2 s t F.A F.n F.c F.D F.m F.k G.A G.n G.c G.D G.m G.k w _ _ (tk_yes hd hg hn l1 l2 F w hT hF) (tk_no h2 G w hT hG), fun F G w hT hF hG => NB.rd_Cmp_no s t F.A F.n F.c F.D F.m F.k G.A G.n G.c G.D G.m G.k w (db_no2 hd hg hn l1 l2 h2 F G w hT hF hG)⟩
 ·exact ⟨0, 20, fun F G w hT hF hG => ra_Cmp_no1 s t F.A F.n F.c F.D F.m F.k G.A G.n G.c G.D G.m G.k w (tk_no h1 F w hT hF), fun F G w hT hF hG => NB.rd_Cmp_no s t F.A F.n F.c F.D F.m F.k G.A G.n G.c G.D G.m G.k w (db_no1 h1 F G w hT hF)⟩
end
end Go.Proofs.YtchbefambnhjjaaGreatDoor
end
section
/- The second law's helpers: fractions that are lent. -/
namespace Go.Proofs.YtchbefambnhjjaaGreatDoor
open Go.RowKit
attribute [local go_sem] sz2 sz3 sz4 sz5 sz6 sz7 sz8
set_option maxHeartbeats 4000000
set_option maxRecDepth 100000
attribute [local irreducible] Calls
structure LRat (w : World) (g n c h m d : Nat) (xs ys : List Nat) : Prop where
 num : LRow w g n c xs
 den : LRow w h m d ys
 ne : g ≠ h
theorem LRat.ext {w w' : World} {g n c h m d : Nat} {xs ys : List Nat} (k : LRat w g n c h m d xs ys) (he : Ext w w') : LRat w' g n c h m d xs ys := ⟨own_ext k.num he, own_ext k.den he, k.ne⟩
theorem LRow.rd {w : World} {g n c : Nat} {xs : List Nat} (h : LRow w g n c xs) (hb : Lb xs) : Rd w (some ⟨g, 0, none⟩) n c xs := by
 have hlb : Lb (Mk xs) := fun x hx => by
  rcases List.mem_append.1 hx with h | h
  ·exact hb x h
  ·obtain ⟨_, rfl⟩ := List.mem_replicate.1 h; decide
 have hnl : xs.length = n := by have := h.1; simp at this; omega
 obtain ⟨A', c', he, hR⟩ := Rd.own h hlb
 simp only [Value.slice.injEq, true_and] at he
 obtain ⟨rfl, rfl⟩ := he
 have := hR.take (k := n) (by omega)
 rwa [show (Mk xs).take n = xs by unfold Mk; rw [← hnl]; exact List.take_left] at this
theorem rl_lent (s : Bool) (A : Option Addr) (n c : Nat) (xs : List Nat) (D : Option Addr) (m k : Nat) (ys : List Nat) (hn : n ≤ 100000) (hm : m ≤ 100000) (w : World) (hA : Rd w A n c xs) (hD : Rd w D m k ys) :
  Calls Tryz.prog 15 #[ratV s A n c D m k] w fun e w' => ∃ (g cg h ch : Nat), e = .returned (ratV s (some ⟨g, 0, none⟩) n cg (some ⟨h, 0, none⟩) m ch) ∧ Hid (LRat w' g n cg h m ch xs ys ∧ w.heap.size ≤ g ∧ w.heap.size ≤ h) ∧ Ext w w' := by
 have k1 : ∀ w', Ext w w' → Calls Tryz.prog 29 #[natV A n c] w' fun e w'' => ∃ (g cap : Nat), e = .returned (natV (some ⟨g, 0, none⟩) n cap) ∧ Hid (LRow w'' g n cap xs ∧ w'.heap.size ≤ g) ∧ Ext w' w'' := fun w' he => rl_lend A n c xs hn w' (hA.ext he)
 have k2 : ∀ w', Ext w w' → Calls Tryz.prog 29 #[natV D m k] w' fun e w'' => ∃ (g cap : Nat), e = .returned (natV (some ⟨g, 0, none⟩) m cap) ∧ Hid (LRow w'' g m cap ys ∧ w'.heap.size ≤ g) ∧ Ext w' w'' := fun w' he => rl_lend D m k ys hm w' (hD.ext he)
 clear hA hD
 go_enter Tryz.func15, Tryz.ntmps15
 go_wp2_with (first
  | (go_at_call 29; (with_reducible refine (k1 _ xcl).mono ?_); rintro e w1 ⟨g1, c1, rfl, hL1, xb1⟩; obtain ⟨xc1, xf1, xl1, xz1⟩ := jU xb1; (try simp at xz1); obtain ⟨l1_0, r1_0, f1_0, r1_0_1, f1_0_1, r1_0_2, f1_0_2⟩ := kq3 xb1 (w.heap.size); obtain ⟨l1_1, r1_1, f1_1, r1_1_1, f1_1_1, r1_1_2, f1_1_2⟩ := kq3 xb1 (w.heap.size + 1))
  | (go_at_call 29; (with_reducible refine (k2 _ xcl).mono ?_); rintro e w2 ⟨g2, c2, rfl, hL2, xb2⟩; obtain ⟨xc2, xf2, xl2, xz2⟩ := jU xb2; (try simp at xz2); obtain ⟨l2_0, r2_0, f2_0, r2_0_1, f2_0_1, r2_0_2, f2_0_2⟩ := kq3 xb2 (w.heap.size); obtain ⟨l2_1, r2_1, f2_1, r2_1_1, f2_1_1, r2_1_2, f2_1_2⟩ := kq3 xb2 (w.heap.size + 1); obtain ⟨l2_2, r2_2, f2_2⟩ := kq1 xb2 (w1.heap.size))
  )
 have z0 : w2.cell? ⟨w.heap.size + 1, 0, none⟩ = some (.bool false) := by simp [go_sem, *]
 have z1 : w2.cell? ⟨w.heap.size + 1, 1, none⟩ = some (.slice none 0 0) := by simp [go_sem, *]
 have z2 : w2.cell? ⟨w.heap.size + 1, 2, none⟩ = some (.slice none 0 0) := by simp [go_sem, *]
 have rl : w.heap.size + 1 < w2.heap.size := by assumption
 obtain ⟨q0, q1, q2⟩ := set3 (b := w.heap.size + 1) z0 z1 z2 (.bool s) (.slice (some ⟨g1, 0, none⟩) n c1) (.slice (some ⟨g2, 0, none⟩) m c2)
 have hal : Ext (((w2.setCell ⟨w.heap.size + 1, 0, none⟩ (.bool s)).setCell ⟨w.heap.size + 1, 1, none⟩ (.slice (some ⟨g1, 0, none⟩) n c1)).setCell ⟨w.heap.size + 1, 2, none⟩ (.slice (some ⟨g2, 0, none⟩) m c2)) ((((w2.setCell ⟨w.heap.size + 1, 0, none⟩ (.bool s)).setCell ⟨w.heap.size + 1, 1, none⟩ (.slice (some ⟨g1, 0, none⟩) n c1)).setCell ⟨w.heap.size + 1, 2, none⟩ (.slice (some ⟨g2, 0, none⟩) m c2)).alloc (Obj.cells #[.slice (some ⟨g2, 0, none⟩) m c2] 30)) := jA (jR _) _
 have rl' : w.heap.size + 1 < (((w2.setCell ⟨w.heap.size + 1, 0, none⟩ (.bool s)).setCell ⟨w.heap.size + 1, 1, none⟩ (.slice (some ⟨g1, 0, none⟩) n c1)).setCell ⟨w.heap.size + 1, 2, none⟩ (.slice (some ⟨g2, 0, none⟩) m c2)).heap.size := by simpa using rl
 have q0 := (Below.cell (p := ⟨w.heap.size + 1, 0, none⟩) hal rl').trans q0
 have q1 := (Below.cell (p := ⟨w.heap.size + 1, 1, none⟩) hal rl').trans q1
 have q2 := (Below.cell (p := ⟨w.heap.size + 1, 2, none⟩) hal rl').trans q2
 have y1 := hL1.out.2
 have y2 := hL2.out.2
 have o1 := own_lt hL1.out.1 rfl
 have s1 := ext_size xb1
 simp at y1 y2 o1 s1
 have hp : ∀ {g' n' c' : Nat} {zs : List Nat}, g' ≠ w.heap.size + 1 → LRow w2 g' n' c' zs → LRow ((((w2.setCell ⟨w.heap.size + 1, 0, none⟩ (.bool s)).setCell ⟨w.heap.size + 1, 1, none⟩ (.slice (some ⟨g1, 0, none⟩) n c1)).setCell ⟨w.heap.size + 1, 2, none⟩ (.slice (some ⟨g2, 0, none⟩) m c2)).alloc (Obj.cells #[.slice (some ⟨g2, 0, none⟩) m c2] 30)) g' n' c' zs := fun hne h => own_ext (own_put (p := ⟨w.heap.size + 1, 2, none⟩) (own_put (p := ⟨w.heap.size + 1, 1, none⟩) (own_put (p := ⟨w.heap.size + 1, 0, none⟩) h _ (fun a ha => by cases ha; exact hne)) _ (fun a ha => by cases ha; exact hne)) _ (fun a ha => by cases ha; exact hne)) hal
 have hL1' : LRow w2 g1 n c1 xs := own_ext hL1.out.1 xcl
 have hE : Ext w w2 := xcl
 refine bodyPost_ret (v := ratV s (some ⟨g1, 0, none⟩) n c1 (some ⟨g2, 0, none⟩) m c2) ?h rfl ⟨g1, c1, g2, c2, rfl, ⟨⟨hp (by omega) hL1', hp (by omega) hL2.out.1, by omega⟩, by omega, by omega⟩, jT (ext_set3 hE (by omega) _ _ _) hal⟩
 case h => simp [results, Tryz.results15, go_sem, q0, q1, q2, natV]
theorem rl_still (s : Bool) (g n c h m d : Nat) (xs ys : List Nat) (B : Option Addr) (e : Nat) (C : Option Addr) (f : Nat) (w : World) (hA : LRat w g n c h m d xs ys) (hB : Rd w B n e xs) (hC : Rd w C m f ys) :
  Calls Tryz.prog 25 #[ratV s (some ⟨g, 0, none⟩) n c (some ⟨h, 0, none⟩) m d, ratV s B n e C m f] w fun e w' => e = .returned (.bool true) ∧ Ext w w' := by
 have k1 : ∀ w', Ext w w' → Calls Tryz.prog 34 #[natV (some ⟨g, 0, none⟩) n c, natV B n e] w' fun e w'' => e = .returned (.bool true) ∧ Ext w' w'' := fun w' he => rl_kept g n c xs B n e w' (own_ext hA.num he) (hB.ext he)
 have k2 : ∀ w', Ext w w' → Calls Tryz.prog 34 #[natV (some ⟨h, 0, none⟩) m d, natV C m f] w' fun e w'' => e = .returned (.bool true) ∧ Ext w' w'' := fun w' he => rl_kept h m d ys C m f w' (own_ext hA.den he) (hC.ext he)
 clear hA hB hC
 cases s
 all_goals
  go_enter Tryz.func25, Tryz.ntmps25
  go_wp2_with (first
   | (go_at_call 34; (with_reducible refine (k1 _ xcl).mono ?_); rintro e w1 ⟨rfl, xb1⟩; obtain ⟨xc1, xf1, xl1, xz1⟩ := jU xb1; (try simp at xz1); obtain ⟨l1_0, r1_0, f1_0, r1_0_1, f1_0_1, r1_0_2, f1_0_2⟩ := kq3 xb1 (w.heap.size); obtain ⟨l1_1, r1_1, f1_1, r1_1_1, f1_1_1, r1_1_2, f1_1_2⟩ := kq3 xb1 (w.heap.size + 1))
   | (go_at_call 34; (with_reducible refine (k2 _ xcl).mono ?_); rintro e w2 ⟨rfl, xb2⟩; obtain ⟨xc2, xf2, xl2, xz2⟩ := jU xb2; (try simp at xz2); obtain ⟨l2_0, r2_0, f2_0, r2_0_1, f2_0_1, r2_0_2, f2_0_2⟩ := kq3 xb2 (w.heap.size); obtain ⟨l2_1, r2_1, f2_1, r2_1_1, f2_1_1, r2_1_2, f2_1_2⟩ := kq3 xb2 (w.heap.size + 1))
   )
  refine bodyPost_ret (v := .bool true) ?h rfl ⟨rfl, ?_⟩
  case h => simp [results, Tryz.results25, go_sem]
  exact xcl
end Go.Proofs.YtchbefambnhjjaaGreatDoor
end
section
/- The second law's book: blocks of the law's own. -/
namespace Go.Proofs.YtchbefambnhjjaaGreatDoor
open Go.RowKit
attribute [local irreducible] Calls
abbrev RecOff (r : Rec) (b : Nat) : Prop := (∀ a, r.F.A = some a → r.F.n ≠ 0 → a.block ≠ b) ∧ (∀ a, r.F.D = some a → r.F.m ≠ 0 → a.block ≠ b) ∧ (∀ a, r.G.A = some a → r.G.n ≠ 0 → a.block ≠ b) ∧ (∀ a, r.G.D = some a → r.G.m ≠ 0 → a.block ≠ b)
structure Loc (u : World) (β : Nat) (H : BH) (rs : List Rec) (ls : List Row) (b : Nat) : Prop where
 lt : b < u.heap.size
 c0 : ∃ v, u.cell? ⟨b, 0, none⟩ = some v
 c1 : ∃ v, u.cell? ⟨b, 1, none⟩ = some v
 c2 : ∃ v, u.cell? ⟨b, 2, none⟩ = some v
 froz : ∀ o, u.frozen? ⟨b, o, none⟩ = false
 off : ¬ InBk β H b
 recs : ∀ r ∈ rs, RecOff r b
 rows : ∀ r ∈ ls, ∀ a, r.A = some a → a.block ≠ b
section
variable {u u' : World} {B β : Nat} {H H' : BH} {rs : List Rec} {ls : List Row} {b : Nat}
theorem Loc.ext (h : Loc u β H rs ls b) (he : Ext u u') : Loc u' β H rs ls b := by
 obtain ⟨v0, h0⟩ := h.c0
 obtain ⟨v1, h1⟩ := h.c1
 obtain ⟨v2, h2⟩ := h.c2
 exact ⟨Nat.lt_of_lt_of_le h.lt he.size, ⟨v0, (Below.cell (p := ⟨b, 0, none⟩) he h.lt).trans h0⟩, ⟨v1, (Below.cell (p := ⟨b, 1, none⟩) he h.lt).trans h1⟩, ⟨v2, (Below.cell (p := ⟨b, 2, none⟩) he h.lt).trans h2⟩, fun o => (Below.frozen (p := ⟨b, o, none⟩) he h.lt).trans (h.froz o), h.off, h.recs, h.rows⟩
theorem Loc.new (h : Bk u B β H rs ls) (v0 v1 v2 : Value) (t : TypeId) : Loc (u.alloc (Obj.cells #[v0, v1, v2] t)) β H rs ls u.heap.size := by
 refine ⟨by simp, ⟨v0, by simp [go_sem]⟩, ⟨v1, by simp [go_sem]⟩, ⟨v2, by simp [go_sem]⟩, fun o => by simp [go_sem], h.off (Nat.le_refl _), fun r hr => ?_, fun r hr a ha => ?_⟩
 ·obtain ⟨h1, h2, h3, h4⟩ := h.recs r hr
  exact ⟨fun a ha hn => by have := h1.rd.lt ha hn; omega, fun a ha hn => by have := h2.rd.lt ha hn; omega, fun a ha hn => by have := h3.rd.lt ha hn; omega, fun a ha hn => by have := h4.rd.lt ha hn; omega⟩
 ·have := own_lt (h.rows r hr).own ha; omega
theorem Loc.turn (h : Loc u β H rs ls b) (t : TurnB u u' β H H') {r : Rec} (hr : RecOff r b) (hA : ∀ a, r.F.A = some a → a.block ≠ b) (hD : ∀ a, r.F.D = some a → a.block ≠ b) : Loc u' β H' (rs ++ [r]) (ls ++ [⟨r.F.A, r.F.n, r.xs⟩, ⟨r.F.D, r.F.m, r.ys⟩]) b := by
 obtain ⟨t1, t2, t3, t4⟩ := t.cell h.lt h.off
 obtain ⟨v0, h0⟩ := h.c0
 obtain ⟨v1, h1⟩ := h.c1
 obtain ⟨v2, h2⟩ := h.c2
 refine ⟨t3, ⟨v0, (t1 0).trans h0⟩, ⟨v1, (t1 1).trans h1⟩, ⟨v2, (t1 2).trans h2⟩, fun o => (t2 o).trans (h.froz o), t4, fun q hq => ?_, fun q hq => ?_⟩
 ·rcases List.mem_append.1 hq with hq | hq
  ·exact h.recs q hq
  ·rw [List.mem_singleton] at hq; subst hq; exact hr
 ·rcases List.mem_append.1 hq with hq | hq
  ·exact h.rows q hq
  ·rcases List.mem_cons.1 hq with rfl | hq
   ·exact hA
   ·rw [List.mem_singleton] at hq; subst hq; exact hD
abbrev put3 (u : World) (b : Nat) (v0 v1 v2 : Value) : World := ((u.setCell ⟨b, 0, none⟩ v0).setCell ⟨b, 1, none⟩ v1).setCell ⟨b, 2, none⟩ v2
theorem frm3 (u : World) (b : Nat) (v0 v1 v2 : Value) : Frm (fun k => k = b) u (put3 u b v0 v1 v2) := by
 have one : ∀ (w : World) (o : Nat) (v : Value), Frm (fun k => k = b) w (w.setCell ⟨b, o, none⟩ v) := fun w o v => Frm.set v (.inl rfl)
 exact ((one _ 0 v0).trans (one _ 1 v1)).trans (one _ 2 v2)
theorem Bk.put (h : Bk u B β H rs ls) (hl : Loc u β H rs ls b) (v0 v1 v2 : Value) : Bk (put3 u b v0 v1 v2) B β H rs ls := by
 have t := frm3 u b v0 v1 v2
 refine ⟨h.book.frm t (fun k hk e => hl.off (e ▸ hk)), fun r hr => ?_, fun r hr => ?_, h.apart, h.low⟩
 ·obtain ⟨h1, h2, h3, h4⟩ := h.recs r hr
  obtain ⟨g1, g2, g3, g4⟩ := hl.recs r hr
  exact ⟨h1.frm t g1, h2.frm t g2, h3.frm t g3, h4.frm t g4⟩
 ·have hh := h.rows r hr
  exact ⟨own_frm hh.own t (hl.rows r hr), hh.off, hh.low, hh.few⟩
theorem put_cells (hl : Loc u β H rs ls b) (v0 v1 v2 : Value) : (put3 u b v0 v1 v2).cell? ⟨b, 0, none⟩ = some v0 ∧ (put3 u b v0 v1 v2).cell? ⟨b, 1, none⟩ = some v1 ∧ (put3 u b v0 v1 v2).cell? ⟨b, 2, none⟩ = some v2 := by
 obtain ⟨w0, h0⟩ := hl.c0
 obtain ⟨w1, h1⟩ := hl.c1
 obtain ⟨w2, h2⟩ := hl.c2
 exact set3 h0 h1 h2 v0 v1 v2
theorem Loc.put (hl : Loc u β H rs ls b) (v0 v1 v2 : Value) : Loc (put3 u b v0 v1 v2) β H rs ls b := by
 obtain ⟨q0, q1, q2⟩ := put_cells hl v0 v1 v2
 exact ⟨by simpa using hl.lt, ⟨_, q0⟩, ⟨_, q1⟩, ⟨_, q2⟩, fun o => by simp [go_sem, hl.froz o], hl.off, hl.recs, hl.rows⟩
theorem Loc.put' {b2 : Nat} (hl : Loc u β H rs ls b2) (hne : b2 ≠ b) (v0 v1 v2 : Value) : Loc (put3 u b v0 v1 v2) β H rs ls b2 := by
 have t := frm3 u b v0 v1 v2
 have cc : ∀ o, (put3 u b v0 v1 v2).cell? ⟨b2, o, none⟩ = u.cell? ⟨b2, o, none⟩ := fun o => t.cell (p := ⟨b2, o, none⟩) hl.lt hne
 obtain ⟨w0, h0⟩ := hl.c0
 obtain ⟨w1, h1⟩ := hl.c1
 obtain ⟨w2, h2⟩ := hl.c2
 exact ⟨by simpa using hl.lt, ⟨w0, (cc 0).trans h0⟩, ⟨w1, (cc 1).trans h1⟩, ⟨w2, (cc 2).trans h2⟩, fun o => by simp [go_sem, hl.froz o], hl.off, hl.recs, hl.rows⟩
theorem RdO.frm {S : Nat → Prop} {w w' : World} {A : Option Addr} {n c : Nat} {xs : List Nat} {Z : Option Addr} (h : RdO w A n c xs Z) (hf : Frm S w w') (ho : ∀ a, A = some a → ¬ S a.block) : RdO w' A n c xs Z :=
 ⟨h.toRd.frm hf (fun a ha _ => ho a ha), own_frm h.own hf ho, h.apt, h.full⟩
end
end Go.Proofs.YtchbefambnhjjaaGreatDoor
end
section
/- The second law's book: how things stand between two adds. -/
namespace Go.Proofs.YtchbefambnhjjaaGreatDoor
open Go.RowKit
attribute [local irreducible] Calls
structure Sta (W u : World) (β : Nat) (H : BH) (rs : List Rec) (ls : List Row) (Ls : List Nat) : Prop where
 ext : Ext W u
 bk : Bk u β β H rs ls
 low : W.heap.size ≤ β
 locs : ∀ b, b ∈ Ls → Loc u β H rs ls b ∧ β ≤ b
structure NewR (u : World) (β : Nat) (H : BH) (ls : List Row) (Ls : List Nat) (A : Option Addr) (n c : Nat) (xs : List Nat) (Z : Option Addr) : Prop where
 rd : RdO u A n c xs Z
 off : ∀ a, A = some a → ¬ InBk β H a.block ∧ β ≤ a.block ∧ (∀ q ∈ ls, ∀ b, q.A = some b → b.block ≠ a.block) ∧ ∀ b, b ∈ Ls → a.block ≠ b
structure WantR (u : World) (β : Nat) (H : BH) (Ls : List Nat) (A : Option Addr) (n c : Nat) (xs : List Nat) : Prop where
 want : Want u β H A n c xs
 loc : ∀ a, A = some a → n ≠ 0 → ∀ b, b ∈ Ls → a.block ≠ b
section
variable {W u u' : World} {β : Nat} {H H' : BH} {rs : List Rec} {ls : List Row} {Ls : List Nat} {A : Option Addr} {n c : Nat} {xs : List Nat} {Z : Option Addr} {b : Nat}
theorem Sta.step (h : Sta W u β H rs ls Ls) (he : Ext u u') : Sta W u' β H rs ls Ls := ⟨jT h.ext he, h.bk.ext he, h.low, fun b hb => ⟨(h.locs b hb).1.ext he, (h.locs b hb).2⟩⟩
theorem Sta.book_lt (h : Sta W u β H rs ls Ls) : β < u.heap.size := h.bk.book.lt
theorem Sta.alloc (h : Sta W u β H rs ls Ls) (v0 v1 v2 : Value) (t : TypeId) : Sta W (u.alloc (Obj.cells #[v0, v1, v2] t)) β H rs ls (u.heap.size :: Ls) := by
 have he := jA (jR u) (Obj.cells #[v0, v1, v2] t)
 refine ⟨jT h.ext he, h.bk.ext he, h.low, fun b hb => ?_⟩
 rcases List.mem_cons.1 hb with rfl | hb
 ·exact ⟨Loc.new h.bk v0 v1 v2 t, Nat.le_of_lt h.book_lt⟩
 ·exact ⟨(h.locs b hb).1.ext he, (h.locs b hb).2⟩
theorem Sta.put (h : Sta W u β H rs ls Ls) (hb : b ∈ Ls) (v0 v1 v2 : Value) : Sta W (put3 u b v0 v1 v2) β H rs ls Ls := by
 have hl := h.locs b hb
 refine ⟨ext_set3 h.ext (Nat.le_trans h.low hl.2) _ _ _, h.bk.put hl.1 _ _ _, h.low, fun b2 hb2 => ?_⟩
 have hl2 := h.locs b2 hb2
 by_cases e : b2 = b
 ·subst e; exact ⟨hl2.1.put _ _ _, hl2.2⟩
 ·exact ⟨hl2.1.put' e _ _ _, hl2.2⟩
theorem Sta.other (h : Sta W u β H rs ls Ls) {b2 : Nat} (hb2 : b2 ∈ Ls) (hne : b2 ≠ b) (v0 v1 v2 : Value) (o : Nat) : (put3 u b v0 v1 v2).cell? ⟨b2, o, none⟩ = u.cell? ⟨b2, o, none⟩ :=
 (frm3 u b v0 v1 v2).cell (p := ⟨b2, o, none⟩) (h.locs b2 hb2).1.lt hne
theorem NewR.of {U : World} (h : Sta W U β H rs ls Ls) (hr : RdO u A n c xs Z) (hf : Fr U A) : NewR u β H ls Ls A n c xs Z :=
 ⟨hr, fun a ha => by
  have h1 := hf a ha
  refine ⟨h.bk.off h1, by have := h.book_lt; omega, fun q hq b hb => ?_, fun b hb => ?_⟩
  ·have := own_lt (h.bk.rows q hq).own hb; omega
  ·have := (h.locs b hb).1.lt; omega⟩
theorem NewR.step (h : NewR u β H ls Ls A n c xs Z) (he : Ext u u') : NewR u' β H ls Ls A n c xs Z := ⟨h.rd.ext he, h.off⟩
theorem NewR.alloc (h : NewR u β H ls Ls A n c xs Z) (ob : Obj) : NewR (u.alloc ob) β H ls (u.heap.size :: Ls) A n c xs Z :=
 ⟨h.rd.ext (jA (jR u) ob), fun a ha => by
  obtain ⟨h1, h2, h3, h4⟩ := h.off a ha
  refine ⟨h1, h2, h3, fun b hb => ?_⟩
  rcases List.mem_cons.1 hb with rfl | hb
  ·have := own_lt h.rd.own ha; omega
  ·exact h4 b hb⟩
theorem NewR.put (h : NewR u β H ls Ls A n c xs Z) (hb : b ∈ Ls) (v0 v1 v2 : Value) : NewR (put3 u b v0 v1 v2) β H ls Ls A n c xs Z :=
 ⟨h.rd.frm (frm3 u b v0 v1 v2) (fun a ha => (h.off a ha).2.2.2 b hb), h.off⟩
theorem WantR.of {U : World} (h : Sta W U β H rs ls Ls) (hr : Rd u A n c xs) (hf : Fr U A) : WantR u β H Ls A n c xs :=
 ⟨⟨hr, fun a ha _ => h.bk.off (hf a ha), fun a ha _ => by have := hf a ha; have := h.book_lt; omega⟩, fun a ha _ b hb => by have := hf a ha; have := (h.locs b hb).1.lt; omega⟩
theorem WantR.step (h : WantR u β H Ls A n c xs) (he : Ext u u') : WantR u' β H Ls A n c xs := ⟨h.want.ext he, h.loc⟩
theorem WantR.alloc (h : WantR u β H Ls A n c xs) (ob : Obj) : WantR (u.alloc ob) β H (u.heap.size :: Ls) A n c xs :=
 ⟨h.want.ext (jA (jR u) ob), fun a ha hn b hb => by
  rcases List.mem_cons.1 hb with rfl | hb
  ·have := h.want.rd.lt ha hn; omega
  ·exact h.loc a ha hn b hb⟩
theorem WantR.put (h : WantR u β H Ls A n c xs) (hb : b ∈ Ls) (v0 v1 v2 : Value) : WantR (put3 u b v0 v1 v2) β H Ls A n c xs :=
 ⟨h.want.frm (frm3 u b v0 v1 v2) (fun a ha hn => h.loc a ha hn b hb), h.loc⟩
theorem WantR.turn (h : WantR u β H Ls A n c xs) (t : TurnB u u' β H H') : WantR u' β H' Ls A n c xs := ⟨h.want.turn t, h.loc⟩
theorem Sta.adds (h : Sta W u β H rs ls Ls) (s : Bool) (F G : FH) (xs ys : List Nat) (hA : NewR u β H ls Ls F.A F.n F.c xs none) (hD : NewR u β H ls Ls F.D F.m F.k ys F.A) (gA : WantR u β H Ls G.A G.n G.c xs) (gD : WantR u β H Ls G.D G.m G.k ys) (lx : xs.length ≤ 1000000) (ly : ys.length ≤ 1000000) (E : Int) (hn : rs.length ≤ 900) (hm : ls.length ≤ 900) :
  Calls Tryz.prog 12 #[.pointer (some ⟨β, 0, none⟩), fV s F, .int .i64 E, fV s G, .int .i64 E] u fun e w' => e = .returned (.tuple #[]) ∧ ∃ H' : BH, Hid (Sta W w' β H' (rs ++ [⟨s, F, G, xs, ys⟩]) (ls ++ [⟨F.A, F.n, xs⟩, ⟨F.D, F.m, ys⟩]) Ls) ∧ Hid (TurnB u w' β H H') := by
 have o1 := hA.off
 have o2 := hD.off
 refine (adds_at h.bk ⟨s, F, G, xs, ys⟩ hA.rd hD.rd (fun a ha => ⟨(o1 a ha).1, (o1 a ha).2.1, (o1 a ha).2.1, (o1 a ha).2.2.1⟩) (fun a ha => ⟨(o2 a ha).1, (o2 a ha).2.1, (o2 a ha).2.1, (o2 a ha).2.2.1⟩) gA.want gD.want (by show F.n ≤ 1000000; have := hA.rd.len; omega) (by show F.m ≤ 1000000; have := hD.rd.len; omega) E hn hm).mono ?_
 rintro e w' ⟨rfl, H', hB, hT⟩
 refine ⟨rfl, H', Lib.hid ⟨hT.out.ext h.bk h.ext h.low, hB.out, h.low, fun b hb => ?_⟩, hT⟩
 have hl := h.locs b hb
 exact ⟨hl.1.turn hT.out (r := ⟨s, F, G, xs, ys⟩) ⟨fun a ha _ => (o1 a ha).2.2.2 b hb, fun a ha _ => (o2 a ha).2.2.2 b hb, fun a ha hn => gA.loc a ha hn b hb, fun a ha hn => gD.loc a ha hn b hb⟩ (fun a ha => (o1 a ha).2.2.2 b hb) (fun a ha => (o2 a ha).2.2.2 b hb), hl.2⟩
theorem Sta.kept (h : Sta W u β H rs ls Ls) (t : TurnB u u' β H H') (hb : b ∈ Ls) (o : Nat) : u'.cell? ⟨b, o, none⟩ = u.cell? ⟨b, o, none⟩ := (t.cell (h.locs b hb).1.lt (h.locs b hb).1.off).1 o
theorem Bk.below {S : Nat → Prop} (h : Bk u β β H rs ls) (t : Frm S u u') (hS : ∀ k, S k → k < β) : Bk u' β β H rs ls := by
 refine ⟨h.book.frm t (fun k hk e => by have := hS k e; have := h.low k hk; omega), fun r hr => ?_, fun r hr => ?_, h.apart, h.low⟩
 ·obtain ⟨h1, h2, h3, h4⟩ := h.recs r hr
  exact ⟨h1.frm t fun a ha hn e => by have := hS _ e; have := h1.lo a ha hn; omega, h2.frm t fun a ha hn e => by have := hS _ e; have := h2.lo a ha hn; omega, h3.frm t fun a ha hn e => by have := hS _ e; have := h3.lo a ha hn; omega, h4.frm t fun a ha hn e => by have := hS _ e; have := h4.lo a ha hn; omega⟩
 ·exact ⟨own_frm (h.rows r hr).own t (fun a ha e => by have := hS _ e; have := (h.rows r hr).low a ha; omega), (h.rows r hr).off, (h.rows r hr).low, (h.rows r hr).few⟩
end
end Go.Proofs.YtchbefambnhjjaaGreatDoor
end
