/- Lemmas of this proof, laid together: RatM, RatN. -/
import Derived.Test.YtnpdpjgkpjodbaaGreatDoorMg20
import Derived.Test.YtnpdpjgkpjodbaaGreatDoorMg22
import Derived.Deep.DeepCutAuto
import Derived.Deep.RegionWith
import Derived.Deep.LoopGhost
set_option linter.unusedSimpArgs false
set_option linter.unusedVariables false
section
/- The program's fractions: sums, products, order. -/
namespace Go.Proofs.YtnpdpjgkpjodbaaGreatDoor
open Go.RowKit
attribute [local go_sem] sz2 sz3 sz4 sz5 sz6 sz7 sz8
set_option maxHeartbeats 4000000
set_option maxRecDepth 100000
attribute [local irreducible] Calls
theorem run_makeFunc'' (P : Program) (fn : Fn) (first cap : Array Value) (w : World) : (Instr.makeFunc fn first cap).run P w = .ok (.func fn first cap) w := rfl
attribute [local go_sem] run_makeFunc''
theorem tch_set3 {g : Nat} {w W : World} (h : Tch g w W) {b : Nat} (hb : w.heap.size ≤ b) (v0 v1 v2 : Value) : Tch g w (((W.setCell ⟨b, 0, none⟩ v0).setCell ⟨b, 1, none⟩ v1).setCell ⟨b, 2, none⟩ v2) := by
  have one : ∀ {U : World} (o : Nat) (v : Value), Tch g w U → Tch g w (U.setCell ⟨b, o, none⟩ v) := fun o v h =>
    ⟨h.os, h.tape, h.output, by simpa using h.size, fun i hi hg => (Below.heap_setCell _ ⟨b, o, none⟩ v i (by simp only; omega)).trans (h.block i hi hg)⟩
  exact one 2 v2 (one 1 v1 (one 0 v0 h))
/-- A fraction that is told, while one block has been put to use. -/
abbrev OPost (g : Nat) (w : World) (z : Int) (d : Nat) : Ending → World → Prop := fun e w' => ∃ (A : Option Addr) (n c : Nat) (D : Option Addr) (m k : Nat), e = .returned (.tuple #[ratV (decide (z < 0)) A n c D m k, .int .i64 0]) ∧
  Hid (RdO w' A n c (lim z.natAbs) none ∧ Fr w A ∧ RdO w' D m k (lim d) A ∧ Fr w D) ∧ Tch g w w'
theorem ra_of_Add (g : Nat) (zn : Int) (zd : Nat) (hz1 : (lim zn.natAbs).length ≤ 16384) (hz2 : (lim zd).length ≤ 16384) (hz3 : (lim (denOf zd)).length ≤ 16384)
    (neg : Bool) (A : Option Addr) (n c a : Nat) (D : Option Addr) (m k d : Nat) (hd : d ≠ 0) (hn : n ≤ 16384) (hm : m ≤ 16384) (hg : Nat.gcd a d = 1) (hng : neg = true → a ≠ 0)
    (neg2 : Bool) (B : Option Addr) (n2 c2 b : Nat) (C : Option Addr) (m2 k2 q : Nat) (hq : q ≠ 0) (hn2 : n2 ≤ 16384) (hm2 : m2 ≤ 16384) (hg2 : Nat.gcd b q = 1) (hng2 : neg2 = true → b ≠ 0)
    (w : World) (hT : Tz w) (hr : RatRoom w g) (hA : Rd w A n c (lim a)) (hD : Rd w D m k (lim d)) (hB : Rd w B n2 c2 (lim b)) (hC : Rd w C m2 k2 (lim q))
    (hop : ∀ bx X n' c' Y m' k' b2 X2 n2' c2' Y2 m2' k2' w', Ext w w' → RatIs w' bx (sgn neg a) X n' c' (lowD a d) Y m' k' → RatIs w' b2 (sgn neg2 b) X2 n2' c2' (lowD b q) Y2 m2' k2' → Off Y m' g → Off Y2 m2' g → Calls Tryz.prog 73 #[.pointer (some ⟨g, 0, none⟩), .pointer (some ⟨bx, 0, none⟩), .pointer (some ⟨b2, 0, none⟩)] w' (FPost w' g zn zd)) :
    Calls Tryz.prog 71 #[ratV neg A n c D m k, ratV neg2 B n2 c2 C m2 k2, .func (.func 73) #[.pointer (some ⟨g, 0, none⟩)] #[]] w (OPost g w zn (denOf zd)) := by
  have HT := Lib.hid hT
  have hgl := hr.int.lt
  have kA : ∀ w', Ext w w' → Calls Tryz.prog 74 #[ratV neg A n c D m k] w' (KPost w' (sgn neg a) (lowD a d)) := fun w' he => ra_taken neg A n c a D m k d hd hn hm hg hng w' (hT.ext he) (hA.ext he) (hD.ext he)
  have kB : ∀ w', Ext w w' → Calls Tryz.prog 74 #[ratV neg2 B n2 c2 C m2 k2] w' (KPost w' (sgn neg2 b) (lowD b q)) := fun w' he => ra_taken neg2 B n2 c2 b C m2 k2 q hq hn2 hm2 hg2 hng2 w' (hT.ext he) (hB.ext he) (hC.ext he)
  clear hA hB hC hD hT hr hng hng2 hg hg2 hd hq
  generalize lowD a d = da at *
  generalize lowD b q = db at *
  generalize sgn neg a = za at *
  generalize sgn neg2 b = zb at *
  have HZ := Lib.hid (And.intro hz1 (And.intro hz2 hz3))
  clear hz1 hz2 hz3
  go_enter Tryz.func71, Tryz.ntmps71
  go_upto_region 7 with (first
    | (go_at_call 74; (with_reducible refine (kA _ (by (repeat (first | exact ext_refl _ | assumption | refine ext_setCell ?_ (by simp; try omega) _ | refine ext_alloc ?_ _ | refine ext_drew ?_ | refine ext_drewN ?_ _ | refine ext_trans ?_ (Aft.use _) | refine ext_trans ?_ (by assumption))))).mono ?_); rintro e w1 ⟨b1, A1, n1, c1, D1, m1, k1, rfl, hR1, hb1, xb1⟩; obtain ⟨xc1, xf1, xl1, xz1⟩ := ext_use xb1; (try simp at xz1); obtain ⟨l1_0, gc, gf⟩ := kp xb1 (w.heap.size) (by first | omega | (simp; try omega)); have r1_0 := gc 0; have f1_0 := gf 0; have r1_0_1 := gc 1; have f1_0_1 := gf 1; have r1_0_2 := gc 2; have f1_0_2 := gf 2; clear gc gf; obtain ⟨l1_1, gc, gf⟩ := kp xb1 (w.heap.size + 1) (by first | omega | (simp; try omega)); have r1_1 := gc 0; have f1_1 := gf 0; have r1_1_1 := gc 1; have f1_1_1 := gf 1; have r1_1_2 := gc 2; have f1_1_2 := gf 2; clear gc gf; obtain ⟨l1_2, gc, gf⟩ := kp xb1 (w.heap.size + 1 + 1) (by first | omega | (simp; try omega)); have r1_2 := gc 0; have f1_2 := gf 0; have r1_2_1 := gc 1; have f1_2_1 := gf 1; have r1_2_2 := gc 2; have f1_2_2 := gf 2; clear gc gf)
    | (go_at_call 74; (with_reducible refine (kB _ (by (repeat (first | exact ext_refl _ | assumption | refine ext_setCell ?_ (by simp; try omega) _ | refine ext_alloc ?_ _ | refine ext_drew ?_ | refine ext_drewN ?_ _ | refine ext_trans ?_ (Aft.use _) | refine ext_trans ?_ (by assumption))))).mono ?_); rintro e w2 ⟨b2, A2, n2, c2, D2, m2, k2, rfl, hR2, hb2, xb2⟩; obtain ⟨xc2, xf2, xl2, xz2⟩ := ext_use xb2; (try simp at xz2); obtain ⟨l2_0, gc, gf⟩ := kp xb2 (w.heap.size) (by first | omega | (simp; try omega)); have r2_0 := gc 0; have f2_0 := gf 0; have r2_0_1 := gc 1; have f2_0_1 := gf 1; have r2_0_2 := gc 2; have f2_0_2 := gf 2; clear gc gf; obtain ⟨l2_1, gc, gf⟩ := kp xb2 (w.heap.size + 1) (by first | omega | (simp; try omega)); have r2_1 := gc 0; have f2_1 := gf 0; have r2_1_1 := gc 1; have f2_1_1 := gf 1; have r2_1_2 := gc 2; have f2_1_2 := gf 2; clear gc gf; obtain ⟨l2_2, gc, gf⟩ := kp xb2 (w.heap.size + 1 + 1) (by first | omega | (simp; try omega)); have r2_2 := gc 0; have f2_2 := gf 0; have r2_2_1 := gc 1; have f2_2_1 := gf 1; have r2_2_2 := gc 2; have f2_2_2 := gf 2; clear gc gf)
   )
  have hEw : Hid (Ext w w2) := by show Ext w w2; (repeat (first | exact ext_refl _ | assumption | refine ext_setCell ?_ (by simp; try omega) _ | refine ext_alloc ?_ _ | refine ext_drew ?_ | refine ext_drewN ?_ _ | refine ext_trans ?_ (Aft.use _) | refine ext_trans ?_ (by assumption)))
  have hR1' := Lib.hid (hR1.out.1.ext (show Ext w1 w2 by (repeat (first | exact ext_refl _ | assumption | refine ext_setCell ?_ (by simp; try omega) _ | refine ext_alloc ?_ _ | refine ext_drew ?_ | refine ext_drewN ?_ _ | refine ext_trans ?_ (Aft.use _) | refine ext_trans ?_ (by assumption)))))
  have l1 := hR1'.out.int.room.lt
  have hO1 : Off D1 m1 g := hR1.out.2.2.off (by simp; omega) m1
  have hO2 : Off D2 m2 g := hR2.out.2.2.off (by have := ext_lt xb1 g (by simp; omega); simpa using this) m2
  have kop := hop b1 A1 n1 c1 D1 m1 k1 b2 A2 n2 c2 D2 m2 k2 w2 hEw.out hR1'.out hR2.out.1 hO1 hO2
  have z0 : w2.cell? ⟨w.heap.size + 1 + 1, 0, none⟩ = some (.bool false) := by simp [go_sem, *]
  have z1 : w2.cell? ⟨w.heap.size + 1 + 1, 1, none⟩ = some (.slice none 0 0) := by simp [go_sem, *]
  have z2 : w2.cell? ⟨w.heap.size + 1 + 1, 2, none⟩ = some (.slice none 0 0) := by simp [go_sem, *]
  have f0 : w2.frozen? ⟨w.heap.size + 1 + 1, 0, none⟩ = false := by simp [go_sem, *]
  have f1 : w2.frozen? ⟨w.heap.size + 1 + 1, 1, none⟩ = false := by simp [go_sem, *]
  have f2 : w2.frozen? ⟨w.heap.size + 1 + 1, 2, none⟩ = false := by simp [go_sem, *]
  have zl : w.heap.size + 1 + 1 < w2.heap.size := by assumption
  clear hop kA kB hO1 hO2
  go_wp2_with (first
    | (go_at_call 73; (with_reducible refine kop.mono ?_); rintro e w3 ⟨rfl, A3, n3, c3, D3, m3, k3, hR3, xt3⟩)
   )
  have g0 := (xt3.cell (p := ⟨w.heap.size + 1 + 1, 0, none⟩) zl (by simp only; omega)).trans z0
  have g1 := (xt3.cell (p := ⟨w.heap.size + 1 + 1, 1, none⟩) zl (by simp only; omega)).trans z1
  have g2 := (xt3.cell (p := ⟨w.heap.size + 1 + 1, 2, none⟩) zl (by simp only; omega)).trans z2
  have e0 := (xt3.frozen (p := ⟨w.heap.size + 1 + 1, 0, none⟩) zl (by simp only; omega)).trans f0
  have e1 := (xt3.frozen (p := ⟨w.heap.size + 1 + 1, 1, none⟩) zl (by simp only; omega)).trans f1
  have e2 := (xt3.frozen (p := ⟨w.heap.size + 1 + 1, 2, none⟩) zl (by simp only; omega)).trans f2
  have gl := Nat.lt_of_lt_of_le zl xt3.size
  have hl3 : n3 ≤ 16384 := by rw [← hR3.out.1.int.rd.len]; exact HZ.out.1
  have hm3 : m3 ≤ 100000 := by rw [← hR3.out.1.rd.len]; exact Nat.le_trans HZ.out.2.1 (by decide)
  clear z0 z1 z2 f0 f1 f2 xb1 xb2
  go_wp2_with (first
    | (go_at_call 66; (with_reducible refine (ra_told_ok g zn A3 n3 c3 zd D3 m3 k3 hl3 hm3 HZ.out.2.2 _ hR3.out.1).mono ?_); rintro e w4 ⟨A4, n4, c4, D4, m4, k4, rfl, hI4, xb4⟩; obtain ⟨xc4, xf4, xl4, xz4⟩ := ext_use xb4; (try simp at xz4); obtain ⟨l4_0, gc, gf⟩ := kp xb4 (w.heap.size + 1 + 1) (by first | omega | (simp; try omega)); have r4_0 := gc 0; have f4_0 := gf 0; have r4_0_1 := gc 1; have f4_0_1 := gf 1; have r4_0_2 := gc 2; have f4_0_2 := gf 2; clear gc gf)
   )
  have hlt4 : w.heap.size + 1 + 1 < w3.heap.size := gl
  have n5 : ∀ x, A4 = some x → w.heap.size + 1 + 1 < x.block := fun x hx => by have := hI4.out.2.1 x hx; omega
  have n6 : ∀ x, D4 = some x → w.heap.size + 1 + 1 < x.block := fun x hx => by have := hI4.out.2.2.2 x hx; omega
  have z0 : w4.cell? ⟨w.heap.size + 1 + 1, 0, none⟩ = some (.bool false) := by simp [go_sem, *]
  have z1 : w4.cell? ⟨w.heap.size + 1 + 1, 1, none⟩ = some (.slice none 0 0) := by simp [go_sem, *]
  have z2 : w4.cell? ⟨w.heap.size + 1 + 1, 2, none⟩ = some (.slice none 0 0) := by simp [go_sem, *]
  obtain ⟨q0, q1, q2⟩ := set3 (b := w.heap.size + 1 + 1) z0 z1 z2 (.bool (decide (zn < 0))) (.slice A4 n4 c4) (.slice D4 m4 k4)
  have hTT : Tch g w w4 := ((Tch.of hEw.out).trans xt3).trans (Tch.of xb4)
  refine bodyPost_ret (v := .tuple #[ratV (decide (zn < 0)) A4 n4 c4 D4 m4 k4, .int .i64 0]) ?h rfl ⟨A4, n4, c4, D4, m4, k4, rfl, ⟨hI4.out.1.set3 n5 _ _ _, fun x hx => Nat.le_of_lt (by have := n5 x hx; omega), hI4.out.2.2.1.set3 n6 _ _ _, fun x hx => Nat.le_of_lt (by have := n6 x hx; omega)⟩, tch_set3 hTT (by omega) _ _ _⟩
  case h => simp [results, Tryz.results71, go_sem, q0, q1, q2]
theorem ra_of_Mul (g : Nat) (zn : Int) (zd : Nat) (hz1 : (lim zn.natAbs).length ≤ 16384) (hz2 : (lim zd).length ≤ 16384) (hz3 : (lim (denOf zd)).length ≤ 16384)
    (neg : Bool) (A : Option Addr) (n c a : Nat) (D : Option Addr) (m k d : Nat) (hd : d ≠ 0) (hn : n ≤ 16384) (hm : m ≤ 16384) (hg : Nat.gcd a d = 1) (hng : neg = true → a ≠ 0)
    (neg2 : Bool) (B : Option Addr) (n2 c2 b : Nat) (C : Option Addr) (m2 k2 q : Nat) (hq : q ≠ 0) (hn2 : n2 ≤ 16384) (hm2 : m2 ≤ 16384) (hg2 : Nat.gcd b q = 1) (hng2 : neg2 = true → b ≠ 0)
    (w : World) (hT : Tz w) (hr : RatRoom w g) (hA : Rd w A n c (lim a)) (hD : Rd w D m k (lim d)) (hB : Rd w B n2 c2 (lim b)) (hC : Rd w C m2 k2 (lim q))
    (hop : ∀ bx X n' c' Y m' k' b2 X2 n2' c2' Y2 m2' k2' w', Ext w w' → RatIs w' bx (sgn neg a) X n' c' (lowD a d) Y m' k' → RatIs w' b2 (sgn neg2 b) X2 n2' c2' (lowD b q) Y2 m2' k2' → Off Y m' g → Off Y2 m2' g → Calls Tryz.prog 103 #[.pointer (some ⟨g, 0, none⟩), .pointer (some ⟨bx, 0, none⟩), .pointer (some ⟨b2, 0, none⟩)] w' (FPost w' g zn zd)) :
    Calls Tryz.prog 71 #[ratV neg A n c D m k, ratV neg2 B n2 c2 C m2 k2, .func (.func 103) #[.pointer (some ⟨g, 0, none⟩)] #[]] w (OPost g w zn (denOf zd)) := by
  have HT := Lib.hid hT
  have hgl := hr.int.lt
  have kA : ∀ w', Ext w w' → Calls Tryz.prog 74 #[ratV neg A n c D m k] w' (KPost w' (sgn neg a) (lowD a d)) := fun w' he => ra_taken neg A n c a D m k d hd hn hm hg hng w' (hT.ext he) (hA.ext he) (hD.ext he)
  have kB : ∀ w', Ext w w' → Calls Tryz.prog 74 #[ratV neg2 B n2 c2 C m2 k2] w' (KPost w' (sgn neg2 b) (lowD b q)) := fun w' he => ra_taken neg2 B n2 c2 b C m2 k2 q hq hn2 hm2 hg2 hng2 w' (hT.ext he) (hB.ext he) (hC.ext he)
  clear hA hB hC hD hT hr hng hng2 hg hg2 hd hq
  generalize lowD a d = da at *
  generalize lowD b q = db at *
  generalize sgn neg a = za at *
  generalize sgn neg2 b = zb at *
  have HZ := Lib.hid (And.intro hz1 (And.intro hz2 hz3))
  clear hz1 hz2 hz3
  go_enter Tryz.func71, Tryz.ntmps71
  go_upto_region 7 with (first
    | (go_at_call 74; (with_reducible refine (kA _ (by (repeat (first | exact ext_refl _ | assumption | refine ext_setCell ?_ (by simp; try omega) _ | refine ext_alloc ?_ _ | refine ext_drew ?_ | refine ext_drewN ?_ _ | refine ext_trans ?_ (Aft.use _) | refine ext_trans ?_ (by assumption))))).mono ?_); rintro e w1 ⟨b1, A1, n1, c1, D1, m1, k1, rfl, hR1, hb1, xb1⟩; obtain ⟨xc1, xf1, xl1, xz1⟩ := ext_use xb1; (try simp at xz1); obtain ⟨l1_0, gc, gf⟩ := kp xb1 (w.heap.size) (by first | omega | (simp; try omega)); have r1_0 := gc 0; have f1_0 := gf 0; have r1_0_1 := gc 1; have f1_0_1 := gf 1; have r1_0_2 := gc 2; have f1_0_2 := gf 2; clear gc gf; obtain ⟨l1_1, gc, gf⟩ := kp xb1 (w.heap.size + 1) (by first | omega | (simp; try omega)); have r1_1 := gc 0; have f1_1 := gf 0; have r1_1_1 := gc 1; have f1_1_1 := gf 1; have r1_1_2 := gc 2; have f1_1_2 := gf 2; clear gc gf; obtain ⟨l1_2, gc, gf⟩ := kp xb1 (w.heap.size + 1 + 1) (by first | omega | (simp; try omega)); have r1_2 := gc 0; have f1_2 := gf 0; have r1_2_1 := gc 1; have f1_2_1 := gf 1; have r1_2_2 := gc 2; have f1_2_2 := gf 2; clear gc gf)
    | (go_at_call 74; (with_reducible refine (kB _ (by (repeat (first | exact ext_refl _ | assumption | refine ext_setCell ?_ (by simp; try omega) _ | refine ext_alloc ?_ _ | refine ext_drew ?_ | refine ext_drewN ?_ _ | refine ext_trans ?_ (Aft.use _) | refine ext_trans ?_ (by assumption))))).mono ?_); rintro e w2 ⟨b2, A2, n2, c2, D2, m2, k2, rfl, hR2, hb2, xb2⟩; obtain ⟨xc2, xf2, xl2, xz2⟩ := ext_use xb2; (try simp at xz2); obtain ⟨l2_0, gc, gf⟩ := kp xb2 (w.heap.size) (by first | omega | (simp; try omega)); have r2_0 := gc 0; have f2_0 := gf 0; have r2_0_1 := gc 1; have f2_0_1 := gf 1; have r2_0_2 := gc 2; have f2_0_2 := gf 2; clear gc gf; obtain ⟨l2_1, gc, gf⟩ := kp xb2 (w.heap.size + 1) (by first | omega | (simp; try omega)); have r2_1 := gc 0; have f2_1 := gf 0; have r2_1_1 := gc 1; have f2_1_1 := gf 1; have r2_1_2 := gc 2; have f2_1_2 := gf 2; clear gc gf; obtain ⟨l2_2, gc, gf⟩ := kp xb2 (w.heap.size + 1 + 1) (by first | omega | (simp; try omega)); have r2_2 := gc 0; have f2_2 := gf 0; have r2_2_1 := gc 1; have f2_2_1 := gf 1; have r2_2_2 := gc 2; have f2_2_2 := gf 2; clear gc gf)
   )
  have hEw : Hid (Ext w w2) := by show Ext w w2; (repeat (first | exact ext_refl _ | assumption | refine ext_setCell ?_ (by simp; try omega) _ | refine ext_alloc ?_ _ | refine ext_drew ?_ | refine ext_drewN ?_ _ | refine ext_trans ?_ (Aft.use _) | refine ext_trans ?_ (by assumption)))
  have hR1' := Lib.hid (hR1.out.1.ext (show Ext w1 w2 by (repeat (first | exact ext_refl _ | assumption | refine ext_setCell ?_ (by simp; try omega) _ | refine ext_alloc ?_ _ | refine ext_drew ?_ | refine ext_drewN ?_ _ | refine ext_trans ?_ (Aft.use _) | refine ext_trans ?_ (by assumption)))))
  have l1 := hR1'.out.int.room.lt
  have hO1 : Off D1 m1 g := hR1.out.2.2.off (by simp; omega) m1
  have hO2 : Off D2 m2 g := hR2.out.2.2.off (by have := ext_lt xb1 g (by simp; omega); simpa using this) m2
  have kop := hop b1 A1 n1 c1 D1 m1 k1 b2 A2 n2 c2 D2 m2 k2 w2 hEw.out hR1'.out hR2.out.1 hO1 hO2
  have z0 : w2.cell? ⟨w.heap.size + 1 + 1, 0, none⟩ = some (.bool false) := by simp [go_sem, *]
  have z1 : w2.cell? ⟨w.heap.size + 1 + 1, 1, none⟩ = some (.slice none 0 0) := by simp [go_sem, *]
  have z2 : w2.cell? ⟨w.heap.size + 1 + 1, 2, none⟩ = some (.slice none 0 0) := by simp [go_sem, *]
  have f0 : w2.frozen? ⟨w.heap.size + 1 + 1, 0, none⟩ = false := by simp [go_sem, *]
  have f1 : w2.frozen? ⟨w.heap.size + 1 + 1, 1, none⟩ = false := by simp [go_sem, *]
  have f2 : w2.frozen? ⟨w.heap.size + 1 + 1, 2, none⟩ = false := by simp [go_sem, *]
  have zl : w.heap.size + 1 + 1 < w2.heap.size := by assumption
  clear hop kA kB hO1 hO2
  go_wp2_with (first
    | (go_at_call 103; (with_reducible refine kop.mono ?_); rintro e w3 ⟨rfl, A3, n3, c3, D3, m3, k3, hR3, xt3⟩)
   )
  have g0 := (xt3.cell (p := ⟨w.heap.size + 1 + 1, 0, none⟩) zl (by simp only; omega)).trans z0
  have g1 := (xt3.cell (p := ⟨w.heap.size + 1 + 1, 1, none⟩) zl (by simp only; omega)).trans z1
  have g2 := (xt3.cell (p := ⟨w.heap.size + 1 + 1, 2, none⟩) zl (by simp only; omega)).trans z2
  have e0 := (xt3.frozen (p := ⟨w.heap.size + 1 + 1, 0, none⟩) zl (by simp only; omega)).trans f0
  have e1 := (xt3.frozen (p := ⟨w.heap.size + 1 + 1, 1, none⟩) zl (by simp only; omega)).trans f1
  have e2 := (xt3.frozen (p := ⟨w.heap.size + 1 + 1, 2, none⟩) zl (by simp only; omega)).trans f2
  have gl := Nat.lt_of_lt_of_le zl xt3.size
  have hl3 : n3 ≤ 16384 := by rw [← hR3.out.1.int.rd.len]; exact HZ.out.1
  have hm3 : m3 ≤ 100000 := by rw [← hR3.out.1.rd.len]; exact Nat.le_trans HZ.out.2.1 (by decide)
  clear z0 z1 z2 f0 f1 f2 xb1 xb2
  go_wp2_with (first
    | (go_at_call 66; (with_reducible refine (ra_told_ok g zn A3 n3 c3 zd D3 m3 k3 hl3 hm3 HZ.out.2.2 _ hR3.out.1).mono ?_); rintro e w4 ⟨A4, n4, c4, D4, m4, k4, rfl, hI4, xb4⟩; obtain ⟨xc4, xf4, xl4, xz4⟩ := ext_use xb4; (try simp at xz4); obtain ⟨l4_0, gc, gf⟩ := kp xb4 (w.heap.size + 1 + 1) (by first | omega | (simp; try omega)); have r4_0 := gc 0; have f4_0 := gf 0; have r4_0_1 := gc 1; have f4_0_1 := gf 1; have r4_0_2 := gc 2; have f4_0_2 := gf 2; clear gc gf)
   )
  have hlt4 : w.heap.size + 1 + 1 < w3.heap.size := gl
  have n5 : ∀ x, A4 = some x → w.heap.size + 1 + 1 < x.block := fun x hx => by have := hI4.out.2.1 x hx; omega
  have n6 : ∀ x, D4 = some x → w.heap.size + 1 + 1 < x.block := fun x hx => by have := hI4.out.2.2.2 x hx; omega
  have z0 : w4.cell? ⟨w.heap.size + 1 + 1, 0, none⟩ = some (.bool false) := by simp [go_sem, *]
  have z1 : w4.cell? ⟨w.heap.size + 1 + 1, 1, none⟩ = some (.slice none 0 0) := by simp [go_sem, *]
  have z2 : w4.cell? ⟨w.heap.size + 1 + 1, 2, none⟩ = some (.slice none 0 0) := by simp [go_sem, *]
  obtain ⟨q0, q1, q2⟩ := set3 (b := w.heap.size + 1 + 1) z0 z1 z2 (.bool (decide (zn < 0))) (.slice A4 n4 c4) (.slice D4 m4 k4)
  have hTT : Tch g w w4 := ((Tch.of hEw.out).trans xt3).trans (Tch.of xb4)
  refine bodyPost_ret (v := .tuple #[ratV (decide (zn < 0)) A4 n4 c4 D4 m4 k4, .int .i64 0]) ?h rfl ⟨A4, n4, c4, D4, m4, k4, rfl, ⟨hI4.out.1.set3 n5 _ _ _, fun x hx => Nat.le_of_lt (by have := n5 x hx; omega), hI4.out.2.2.1.set3 n6 _ _ _, fun x hx => Nat.le_of_lt (by have := n6 x hx; omega)⟩, tch_set3 hTT (by omega) _ _ _⟩
  case h => simp [results, Tryz.results71, go_sem, q0, q1, q2]
theorem canN_le (z : Int) (d : Nat) : (canN z d).natAbs ≤ z.natAbs := by unfold canN; rw [sgn_abs]; exact Nat.div_le_self _ _
theorem canD_le (z : Int) (d : Nat) : canD z d ≤ d := by unfold canD; exact Nat.div_le_self _ _
theorem canW_le (z : Int) (d : Nat) : canW z d ≤ d := by unfold canW; split; exact Nat.zero_le _; exact canD_le z d
theorem den_low {a d : Nat} (hd : d ≠ 0) (hg : Nat.gcd a d = 1) : denOf (lowD a d) = d := by
  unfold denOf lowD
  by_cases h0 : a = 0
  · rw [if_pos h0, if_pos rfl]; subst h0; rw [Nat.gcd_zero_left] at hg; exact hg.symm
  · rw [if_neg h0, hg, Nat.div_one, if_neg hd]
theorem lowD_le (a d : Nat) : lowD a d ≤ d := by unfold lowD; split; exact Nat.zero_le _; exact Nat.div_le_self _ _
theorem sum_room {x y : Int} {d q n : Nat} (h1 : (lim x.natAbs).length ≤ n) (h2 : (lim y.natAbs).length ≤ n) (h3 : (lim d).length ≤ n) (h4 : (lim q).length ≤ n) : (lim (x * (q : Int) + y * (d : Int)).natAbs).length ≤ 2 * n + 1 := by
  refine sum_len' ?_ ?_
  · rw [Int.natAbs_mul, Int.natAbs_natCast]; exact Nat.le_trans (lim_mul_len _ _) (by omega)
  · rw [Int.natAbs_mul, Int.natAbs_natCast]; exact Nat.le_trans (lim_mul_len _ _) (by omega)
theorem mul_room {x y : Int} {n : Nat} (h1 : (lim x.natAbs).length ≤ n) (h2 : (lim y.natAbs).length ≤ n) : (lim (x * y).natAbs).length ≤ 2 * n + 1 := by
  rw [Int.natAbs_mul]; exact Nat.le_trans (lim_mul_len _ _) (by omega)
theorem ra_Add (neg : Bool) (A : Option Addr) (n c a : Nat) (D : Option Addr) (m k d : Nat) (hd : d ≠ 0) (hn : n ≤ 4000) (hm : m ≤ 4000) (hg : Nat.gcd a d = 1) (hng : neg = true → a ≠ 0)
    (neg2 : Bool) (B : Option Addr) (n2 c2 b : Nat) (C : Option Addr) (m2 k2 q : Nat) (hq : q ≠ 0) (hn2 : n2 ≤ 4000) (hm2 : m2 ≤ 4000) (hg2 : Nat.gcd b q = 1) (hng2 : neg2 = true → b ≠ 0)
    (w : World) (hT : Tz w) (hA : Rd w A n c (lim a)) (hD : Rd w D m k (lim d)) (hB : Rd w B n2 c2 (lim b)) (hC : Rd w C m2 k2 (lim q)) :
    Calls Tryz.prog 41 #[ratV neg A n c D m k, ratV neg2 B n2 c2 C m2 k2] w (TPost w (canN (sgn neg a * (q : Int) + sgn neg2 b * (d : Int)) (d * q)) (canD (sgn neg a * (q : Int) + sgn neg2 b * (d : Int)) (d * q))) := by
  have h1 : (lim (sgn neg a).natAbs).length ≤ 4000 := by rw [sgn_abs, hA.len]; exact hn
  have h2 : (lim (sgn neg2 b).natAbs).length ≤ 4000 := by rw [sgn_abs, hB.len]; exact hn2
  have h3 : (lim d).length ≤ 4000 := by rw [hD.len]; exact hm
  have h4 : (lim q).length ≤ 4000 := by rw [hC.len]; exact hm2
  have hdq : (lim (d * q)).length ≤ 8001 := Nat.le_trans (lim_mul_len _ _) (by omega)
  have hz : (lim (sgn neg a * (q : Int) + sgn neg2 b * (d : Int)).natAbs).length ≤ 8001 := sum_room h1 h2 h3 h4
  rw [← canW_den (Nat.mul_ne_zero hd hq)]
  have kO : ∀ G W, RatRoom W G → Ext w W → Calls Tryz.prog 71 #[ratV neg A n c D m k, ratV neg2 B n2 c2 C m2 k2, .func (.func 73) #[.pointer (some ⟨G, 0, none⟩)] #[]] W (OPost G W (canN (sgn neg a * (q : Int) + sgn neg2 b * (d : Int)) (d * q)) (denOf (canW (sgn neg a * (q : Int) + sgn neg2 b * (d : Int)) (d * q)))) := fun G W hr hW => by
    refine ra_of_Add G _ _ (Nat.le_trans (lim_mono (canN_le _ _)) (by omega)) (Nat.le_trans (lim_mono (canW_le _ _)) (by omega)) ?_ neg A n c a D m k d hd (by omega) (by omega) hg hng neg2 B n2 c2 b C m2 k2 q hq (by omega) (by omega) hg2 hng2 W (hT.ext hW) hr (hA.ext hW) (hD.ext hW) (hB.ext hW) (hC.ext hW) ?_
    · rw [canW_den (Nat.mul_ne_zero hd hq)]; exact Nat.le_trans (lim_mono (canD_le _ _)) (by omega)
    · intro bx X n' c' Y m' k' b2 X2 n2' c2' Y2 m2' k2' w' he h5 h6 h7 h8
      have l1 := h5.int.rd.len
      have l2 := h5.rd.len
      have l3 := h6.int.rd.len
      have l4 := h6.rd.len
      have l5 := lim_mono (lowD_le a d)
      have l6 := lim_mono (lowD_le b q)
      have := br_Add G bx b2 (sgn neg a) (sgn neg2 b) (lowD a d) (lowD b q) (by rw [sgn_abs, den_low hd hg]; exact hg) (by rw [sgn_abs, den_low hq hg2]; exact hg2) X n' c' Y m' k' X2 n2' c2' Y2 m2' k2' (by omega) (by omega) (by omega) (by omega) w' ((hT.ext hW).ext he) (hr.ext he) h5 h6 h7 h8
      rwa [den_low hd hg, den_low hq hg2] at this
  clear hT hA hB hC hD hng hng2 hg hg2 hd hq h1 h2 h3 h4 hz hdq
  generalize canN (sgn neg a * (q : Int) + sgn neg2 b * (d : Int)) (d * q) = zn at kO ⊢
  generalize canW (sgn neg a * (q : Int) + sgn neg2 b * (d : Int)) (d * q) = zd at kO ⊢
  have kO' : Calls Tryz.prog 71 #[ratV neg A n c D m k, ratV neg2 B n2 c2 C m2 k2, .func (.func 73) #[.pointer (some ⟨w.heap.size + 1 + 1 + 1, 0, none⟩)] #[]] ((((w.alloc (Obj.cells #[.bool neg, .slice A n c, .slice D m k] 32)).alloc (Obj.cells #[.bool neg2, .slice B n2 c2, .slice C m2 k2] 32)).alloc (Obj.cells #[.bool false, .slice none 0 0, .slice none 0 0] 32)).alloc (Obj.cells #[.bool false, .slice none 0 0, .slice none 0 0] 89))
      fun e w' => ∃ (A : Option Addr) (n c : Nat) (D : Option Addr) (m k : Nat), e = .returned (.tuple #[ratV (decide (zn < 0)) A n c D m k, .int .i64 0]) ∧ Hid (RdO w' A n c (lim zn.natAbs) none ∧ (∀ x, A = some x → w.heap.size + 1 + 1 < x.block) ∧ RdO w' D m k (lim (denOf zd)) A ∧ (∀ x, D = some x → w.heap.size + 1 + 1 < x.block)) ∧
        w'.cell? ⟨w.heap.size + 1 + 1, 0, none⟩ = some (.bool false) ∧ w'.cell? ⟨w.heap.size + 1 + 1, 1, none⟩ = some (.slice none 0 0) ∧ w'.cell? ⟨w.heap.size + 1 + 1, 2, none⟩ = some (.slice none 0 0) ∧
        w'.frozen? ⟨w.heap.size + 1 + 1, 0, none⟩ = false ∧ w'.frozen? ⟨w.heap.size + 1 + 1, 1, none⟩ = false ∧ w'.frozen? ⟨w.heap.size + 1 + 1, 2, none⟩ = false ∧ w.heap.size + 1 + 1 < w'.heap.size ∧ Hid (Ext w w') := by
    have hr := rat_room (((w.alloc (Obj.cells #[.bool neg, .slice A n c, .slice D m k] 32)).alloc (Obj.cells #[.bool neg2, .slice B n2 c2, .slice C m2 k2] 32)).alloc (Obj.cells #[.bool false, .slice none 0 0, .slice none 0 0] 32))
    have e0 : (((w.alloc (Obj.cells #[.bool neg, .slice A n c, .slice D m k] 32)).alloc (Obj.cells #[.bool neg2, .slice B n2 c2, .slice C m2 k2] 32)).alloc (Obj.cells #[.bool false, .slice none 0 0, .slice none 0 0] 32)).heap.size = w.heap.size + 1 + 1 + 1 := by simp
    rw [e0] at hr
    have hEx : Ext w ((((w.alloc (Obj.cells #[.bool neg, .slice A n c, .slice D m k] 32)).alloc (Obj.cells #[.bool neg2, .slice B n2 c2, .slice C m2 k2] 32)).alloc (Obj.cells #[.bool false, .slice none 0 0, .slice none 0 0] 32)).alloc (Obj.cells #[.bool false, .slice none 0 0, .slice none 0 0] 89)) := ext_alloc (ext_alloc (ext_alloc (ext_alloc (ext_refl _) _) _) _) _
    refine (kO _ _ hr hEx).mono ?_
    rintro e w' ⟨A1, n1, c1, D1, m1, k1, rfl, h1, h2⟩
    have hsz := hr.int.lt
    have hs2 := h2.size
    have lt : ∀ o, (⟨w.heap.size + 1 + 1, o, none⟩ : Addr).block ≠ w.heap.size + 1 + 1 + 1 := fun o => by simp
    have lb : w.heap.size + 1 + 1 < ((((w.alloc (Obj.cells #[.bool neg, .slice A n c, .slice D m k] 32)).alloc (Obj.cells #[.bool neg2, .slice B n2 c2, .slice C m2 k2] 32)).alloc (Obj.cells #[.bool false, .slice none 0 0, .slice none 0 0] 32)).alloc (Obj.cells #[.bool false, .slice none 0 0, .slice none 0 0] 89)).heap.size := by simp
    refine ⟨A1, n1, c1, D1, m1, k1, rfl, ⟨h1.out.1, fun x hx => by have := h1.out.2.1 x hx; omega, h1.out.2.2.1, fun x hx => by have := h1.out.2.2.2 x hx; omega⟩,
      (h2.cell (p := ⟨w.heap.size + 1 + 1, 0, none⟩) lb (lt 0)).trans (by simp [go_sem]), (h2.cell (p := ⟨w.heap.size + 1 + 1, 1, none⟩) lb (lt 1)).trans (by simp [go_sem]), (h2.cell (p := ⟨w.heap.size + 1 + 1, 2, none⟩) lb (lt 2)).trans (by simp [go_sem]),
      (h2.frozen (p := ⟨w.heap.size + 1 + 1, 0, none⟩) lb (lt 0)).trans (by simp [go_sem]), (h2.frozen (p := ⟨w.heap.size + 1 + 1, 1, none⟩) lb (lt 1)).trans (by simp [go_sem]), (h2.frozen (p := ⟨w.heap.size + 1 + 1, 2, none⟩) lb (lt 2)).trans (by simp [go_sem]), Nat.lt_of_lt_of_le lb hs2, h2.ext hEx (by omega)⟩
  clear kO
  go_enter Tryz.func41, Tryz.ntmps41
  go_wp2_with (first
    | (go_at_call 71; (with_reducible refine kO'.mono ?_); rintro e w1 ⟨A1, n1, c1, D1, m1, k1, rfl, hI1, z0, z1, z2, f0, f1, f2, zl, hE1⟩)
   )
  obtain ⟨q0, q1, q2⟩ := set3 (b := w.heap.size + 1 + 1) z0 z1 z2 (.bool (decide (zn < 0))) (.slice A1 n1 c1) (.slice D1 m1 k1)
  have n5 := hI1.out.2.1
  have n6 := hI1.out.2.2.2
  refine bodyPost_ret (v := .tuple #[ratV (decide (zn < 0)) A1 n1 c1 D1 m1 k1, .int .i64 0]) ?h rfl ⟨A1, n1, c1, D1, m1, k1, rfl, ⟨hI1.out.1.set3 n5 _ _ _, fun x hx => Nat.le_of_lt (by have := n5 x hx; omega), hI1.out.2.2.1.set3 n6 _ _ _, fun x hx => Nat.le_of_lt (by have := n6 x hx; omega)⟩, ext_set3 hE1.out (by omega) _ _ _⟩
  case h => simp [results, Tryz.results41, go_sem, q0, q1, q2]
theorem ra_Mul (neg : Bool) (A : Option Addr) (n c a : Nat) (D : Option Addr) (m k d : Nat) (hd : d ≠ 0) (hn : n ≤ 4000) (hm : m ≤ 4000) (hg : Nat.gcd a d = 1) (hng : neg = true → a ≠ 0)
    (neg2 : Bool) (B : Option Addr) (n2 c2 b : Nat) (C : Option Addr) (m2 k2 q : Nat) (hq : q ≠ 0) (hn2 : n2 ≤ 4000) (hm2 : m2 ≤ 4000) (hg2 : Nat.gcd b q = 1) (hng2 : neg2 = true → b ≠ 0)
    (w : World) (hT : Tz w) (hA : Rd w A n c (lim a)) (hD : Rd w D m k (lim d)) (hB : Rd w B n2 c2 (lim b)) (hC : Rd w C m2 k2 (lim q)) :
    Calls Tryz.prog 47 #[ratV neg A n c D m k, ratV neg2 B n2 c2 C m2 k2] w (TPost w (canN (sgn neg a * sgn neg2 b) (d * q)) (canD (sgn neg a * sgn neg2 b) (d * q))) := by
  have h1 : (lim (sgn neg a).natAbs).length ≤ 4000 := by rw [sgn_abs, hA.len]; exact hn
  have h2 : (lim (sgn neg2 b).natAbs).length ≤ 4000 := by rw [sgn_abs, hB.len]; exact hn2
  have h3 : (lim d).length ≤ 4000 := by rw [hD.len]; exact hm
  have h4 : (lim q).length ≤ 4000 := by rw [hC.len]; exact hm2
  have hdq : (lim (d * q)).length ≤ 8001 := Nat.le_trans (lim_mul_len _ _) (by omega)
  have hz : (lim (sgn neg a * sgn neg2 b).natAbs).length ≤ 8001 := mul_room h1 h2
  rw [← canW_den (Nat.mul_ne_zero hd hq)]
  have kO : ∀ G W, RatRoom W G → Ext w W → Calls Tryz.prog 71 #[ratV neg A n c D m k, ratV neg2 B n2 c2 C m2 k2, .func (.func 103) #[.pointer (some ⟨G, 0, none⟩)] #[]] W (OPost G W (canN (sgn neg a * sgn neg2 b) (d * q)) (denOf (canW (sgn neg a * sgn neg2 b) (d * q)))) := fun G W hr hW => by
    refine ra_of_Mul G _ _ (Nat.le_trans (lim_mono (canN_le _ _)) (by omega)) (Nat.le_trans (lim_mono (canW_le _ _)) (by omega)) ?_ neg A n c a D m k d hd (by omega) (by omega) hg hng neg2 B n2 c2 b C m2 k2 q hq (by omega) (by omega) hg2 hng2 W (hT.ext hW) hr (hA.ext hW) (hD.ext hW) (hB.ext hW) (hC.ext hW) ?_
    · rw [canW_den (Nat.mul_ne_zero hd hq)]; exact Nat.le_trans (lim_mono (canD_le _ _)) (by omega)
    · intro bx X n' c' Y m' k' b2 X2 n2' c2' Y2 m2' k2' w' he h5 h6 h7 h8
      have l1 := h5.int.rd.len
      have l2 := h5.rd.len
      have l3 := h6.int.rd.len
      have l4 := h6.rd.len
      have l5 := lim_mono (lowD_le a d)
      have l6 := lim_mono (lowD_le b q)
      have := br_Mul G bx b2 (sgn neg a) (sgn neg2 b) (lowD a d) (lowD b q) (by rw [sgn_abs, den_low hd hg]; exact hg) (by rw [sgn_abs, den_low hq hg2]; exact hg2) X n' c' Y m' k' X2 n2' c2' Y2 m2' k2' (by omega) (by omega) (by omega) (by omega) w' ((hT.ext hW).ext he) (hr.ext he) h5 h6 
      rwa [den_low hd hg, den_low hq hg2] at this
  clear hT hA hB hC hD hng hng2 hg hg2 hd hq h1 h2 h3 h4 hz hdq
  generalize canN (sgn neg a * sgn neg2 b) (d * q) = zn at kO ⊢
  generalize canW (sgn neg a * sgn neg2 b) (d * q) = zd at kO ⊢
  have kO' : Calls Tryz.prog 71 #[ratV neg A n c D m k, ratV neg2 B n2 c2 C m2 k2, .func (.func 103) #[.pointer (some ⟨w.heap.size + 1 + 1 + 1, 0, none⟩)] #[]] ((((w.alloc (Obj.cells #[.bool neg, .slice A n c, .slice D m k] 32)).alloc (Obj.cells #[.bool neg2, .slice B n2 c2, .slice C m2 k2] 32)).alloc (Obj.cells #[.bool false, .slice none 0 0, .slice none 0 0] 32)).alloc (Obj.cells #[.bool false, .slice none 0 0, .slice none 0 0] 89))
      fun e w' => ∃ (A : Option Addr) (n c : Nat) (D : Option Addr) (m k : Nat), e = .returned (.tuple #[ratV (decide (zn < 0)) A n c D m k, .int .i64 0]) ∧ Hid (RdO w' A n c (lim zn.natAbs) none ∧ (∀ x, A = some x → w.heap.size + 1 + 1 < x.block) ∧ RdO w' D m k (lim (denOf zd)) A ∧ (∀ x, D = some x → w.heap.size + 1 + 1 < x.block)) ∧
        w'.cell? ⟨w.heap.size + 1 + 1, 0, none⟩ = some (.bool false) ∧ w'.cell? ⟨w.heap.size + 1 + 1, 1, none⟩ = some (.slice none 0 0) ∧ w'.cell? ⟨w.heap.size + 1 + 1, 2, none⟩ = some (.slice none 0 0) ∧
        w'.frozen? ⟨w.heap.size + 1 + 1, 0, none⟩ = false ∧ w'.frozen? ⟨w.heap.size + 1 + 1, 1, none⟩ = false ∧ w'.frozen? ⟨w.heap.size + 1 + 1, 2, none⟩ = false ∧ w.heap.size + 1 + 1 < w'.heap.size ∧ Hid (Ext w w') := by
    have hr := rat_room (((w.alloc (Obj.cells #[.bool neg, .slice A n c, .slice D m k] 32)).alloc (Obj.cells #[.bool neg2, .slice B n2 c2, .slice C m2 k2] 32)).alloc (Obj.cells #[.bool false, .slice none 0 0, .slice none 0 0] 32))
    have e0 : (((w.alloc (Obj.cells #[.bool neg, .slice A n c, .slice D m k] 32)).alloc (Obj.cells #[.bool neg2, .slice B n2 c2, .slice C m2 k2] 32)).alloc (Obj.cells #[.bool false, .slice none 0 0, .slice none 0 0] 32)).heap.size = w.heap.size + 1 + 1 + 1 := by simp
    rw [e0] at hr
    have hEx : Ext w ((((w.alloc (Obj.cells #[.bool neg, .slice A n c, .slice D m k] 32)).alloc (Obj.cells #[.bool neg2, .slice B n2 c2, .slice C m2 k2] 32)).alloc (Obj.cells #[.bool false, .slice none 0 0, .slice none 0 0] 32)).alloc (Obj.cells #[.bool false, .slice none 0 0, .slice none 0 0] 89)) := ext_alloc (ext_alloc (ext_alloc (ext_alloc (ext_refl _) _) _) _) _
    refine (kO _ _ hr hEx).mono ?_
    rintro e w' ⟨A1, n1, c1, D1, m1, k1, rfl, h1, h2⟩
    have hsz := hr.int.lt
    have hs2 := h2.size
    have lt : ∀ o, (⟨w.heap.size + 1 + 1, o, none⟩ : Addr).block ≠ w.heap.size + 1 + 1 + 1 := fun o => by simp
    have lb : w.heap.size + 1 + 1 < ((((w.alloc (Obj.cells #[.bool neg, .slice A n c, .slice D m k] 32)).alloc (Obj.cells #[.bool neg2, .slice B n2 c2, .slice C m2 k2] 32)).alloc (Obj.cells #[.bool false, .slice none 0 0, .slice none 0 0] 32)).alloc (Obj.cells #[.bool false, .slice none 0 0, .slice none 0 0] 89)).heap.size := by simp
    refine ⟨A1, n1, c1, D1, m1, k1, rfl, ⟨h1.out.1, fun x hx => by have := h1.out.2.1 x hx; omega, h1.out.2.2.1, fun x hx => by have := h1.out.2.2.2 x hx; omega⟩,
      (h2.cell (p := ⟨w.heap.size + 1 + 1, 0, none⟩) lb (lt 0)).trans (by simp [go_sem]), (h2.cell (p := ⟨w.heap.size + 1 + 1, 1, none⟩) lb (lt 1)).trans (by simp [go_sem]), (h2.cell (p := ⟨w.heap.size + 1 + 1, 2, none⟩) lb (lt 2)).trans (by simp [go_sem]),
      (h2.frozen (p := ⟨w.heap.size + 1 + 1, 0, none⟩) lb (lt 0)).trans (by simp [go_sem]), (h2.frozen (p := ⟨w.heap.size + 1 + 1, 1, none⟩) lb (lt 1)).trans (by simp [go_sem]), (h2.frozen (p := ⟨w.heap.size + 1 + 1, 2, none⟩) lb (lt 2)).trans (by simp [go_sem]), Nat.lt_of_lt_of_le lb hs2, h2.ext hEx (by omega)⟩
  clear kO
  go_enter Tryz.func47, Tryz.ntmps47
  go_wp2_with (first
    | (go_at_call 71; (with_reducible refine kO'.mono ?_); rintro e w1 ⟨A1, n1, c1, D1, m1, k1, rfl, hI1, z0, z1, z2, f0, f1, f2, zl, hE1⟩)
   )
  obtain ⟨q0, q1, q2⟩ := set3 (b := w.heap.size + 1 + 1) z0 z1 z2 (.bool (decide (zn < 0))) (.slice A1 n1 c1) (.slice D1 m1 k1)
  have n5 := hI1.out.2.1
  have n6 := hI1.out.2.2.2
  refine bodyPost_ret (v := .tuple #[ratV (decide (zn < 0)) A1 n1 c1 D1 m1 k1, .int .i64 0]) ?h rfl ⟨A1, n1, c1, D1, m1, k1, rfl, ⟨hI1.out.1.set3 n5 _ _ _, fun x hx => Nat.le_of_lt (by have := n5 x hx; omega), hI1.out.2.2.1.set3 n6 _ _ _, fun x hx => Nat.le_of_lt (by have := n6 x hx; omega)⟩, ext_set3 hE1.out (by omega) _ _ _⟩
  case h => simp [results, Tryz.results47, go_sem, q0, q1, q2]
end Go.Proofs.YtnpdpjgkpjodbaaGreatDoor
end
section
/- The program's fractions: order. -/
namespace Go.Proofs.YtnpdpjgkpjodbaaGreatDoor
open Go.RowKit
attribute [local go_sem] sz2 sz3 sz4 sz5 sz6 sz7 sz8
set_option maxHeartbeats 4000000
set_option maxRecDepth 100000
attribute [local irreducible] Calls
theorem ra_Cmp (neg : Bool) (A : Option Addr) (n c a : Nat) (D : Option Addr) (m k d : Nat) (hd : d ≠ 0) (hn : n ≤ 16384) (hm : m ≤ 16384) (hg : Nat.gcd a d = 1) (hng : neg = true → a ≠ 0)
    (neg2 : Bool) (B : Option Addr) (n2 c2 b : Nat) (C : Option Addr) (m2 k2 q : Nat) (hq : q ≠ 0) (hn2 : n2 ≤ 16384) (hm2 : m2 ≤ 16384) (hg2 : Nat.gcd b q = 1) (hng2 : neg2 = true → b ≠ 0)
    (w : World) (hT : Tz w) (hA : Rd w A n c (lim a)) (hD : Rd w D m k (lim d)) (hB : Rd w B n2 c2 (lim b)) (hC : Rd w C m2 k2 (lim q)) :
    Calls Tryz.prog 39 #[ratV neg A n c D m k, ratV neg2 B n2 c2 C m2 k2] w fun e w' => e = .returned (.tuple #[.int .i64 (sgn neg a * (q : Int) - sgn neg2 b * (d : Int)).sign, .int .i64 0]) ∧ Ext w w' := by
  have kA : ∀ w', Ext w w' → Calls Tryz.prog 74 #[ratV neg A n c D m k] w' (KPost w' (sgn neg a) (lowD a d)) := fun w' he => ra_taken neg A n c a D m k d hd hn hm hg hng w' (hT.ext he) (hA.ext he) (hD.ext he)
  have kB : ∀ w', Ext w w' → Calls Tryz.prog 74 #[ratV neg2 B n2 c2 C m2 k2] w' (KPost w' (sgn neg2 b) (lowD b q)) := fun w' he => ra_taken neg2 B n2 c2 b C m2 k2 q hq hn2 hm2 hg2 hng2 w' (hT.ext he) (hB.ext he) (hC.ext he)
  have hla := hA.len
  have hld := hD.len
  have hlb := hB.len
  have hlq := hC.len
  have kC : ∀ bx X n' c' Y m' k' b2 X2 n2' c2' Y2 m2' k2' w', RatIs w' bx (sgn neg a) X n' c' (lowD a d) Y m' k' → RatIs w' b2 (sgn neg2 b) X2 n2' c2' (lowD b q) Y2 m2' k2' → Calls Tryz.prog 98 #[.pointer (some ⟨bx, 0, none⟩), .pointer (some ⟨b2, 0, none⟩)] w' fun e w'' => e = .returned (.int .i64 (sgn neg a * (q : Int) - sgn neg2 b * (d : Int)).sign) ∧ Ext w' w'' := fun bx X n' c' Y m' k' b2 X2 n2' c2' Y2 m2' k2' w' h5 h6 => by
    have l1 := h5.int.rd.len
    have l2 := h5.rd.len
    have l3 := h6.int.rd.len
    have l4 := h6.rd.len
    have l5 := lim_mono (lowD_le a d)
    have l6 := lim_mono (lowD_le b q)
    rw [sgn_abs] at l1 l3
    have := br_Cmp bx b2 (sgn neg a) (sgn neg2 b) (lowD a d) (lowD b q) X n' c' Y m' k' X2 n2' c2' Y2 m2' k2' (by omega) (by omega) (by omega) (by omega) w' h5 h6
    rwa [den_low hd hg, den_low hq hg2] at this
  clear hT hA hD hB hC hng hng2 hla hld hlb hlq
  generalize (sgn neg a * (q : Int) - sgn neg2 b * (d : Int)).sign = R at kC ⊢
  generalize lowD a d = da at *
  generalize lowD b q = db at *
  generalize sgn neg a = za at *
  generalize sgn neg2 b = zb at *
  clear hd hn hm hg hq hn2 hm2 hg2
  go_enter Tryz.func39, Tryz.ntmps39
  go_wp2_with (first
    | (go_at_call 74; (with_reducible refine (kA _ (by (repeat (first | exact ext_refl _ | assumption | refine ext_setCell ?_ (by simp; try omega) _ | refine ext_alloc ?_ _ | refine ext_drew ?_ | refine ext_drewN ?_ _ | refine ext_trans ?_ (Aft.use _) | refine ext_trans ?_ (by assumption))))).mono ?_); rintro e w1 ⟨b1, A1, n1, c1, D1, m1, k1, rfl, hR1, hb1, xb1⟩; obtain ⟨xc1, xf1, xl1, xz1⟩ := ext_use xb1; (try simp at xz1); obtain ⟨l1_0, gc, gf⟩ := kp xb1 (w.heap.size) (by first | omega | (simp; try omega)); have r1_0 := gc 0; have f1_0 := gf 0; have r1_0_1 := gc 1; have f1_0_1 := gf 1; have r1_0_2 := gc 2; have f1_0_2 := gf 2; clear gc gf; obtain ⟨l1_1, gc, gf⟩ := kp xb1 (w.heap.size + 1) (by first | omega | (simp; try omega)); have r1_1 := gc 0; have f1_1 := gf 0; have r1_1_1 := gc 1; have f1_1_1 := gf 1; have r1_1_2 := gc 2; have f1_1_2 := gf 2; clear gc gf)
    | (go_at_call 74; (with_reducible refine (kB _ (by (repeat (first | exact ext_refl _ | assumption | refine ext_setCell ?_ (by simp; try omega) _ | refine ext_alloc ?_ _ | refine ext_drew ?_ | refine ext_drewN ?_ _ | refine ext_trans ?_ (Aft.use _) | refine ext_trans ?_ (by assumption))))).mono ?_); rintro e w2 ⟨b2, A2, n2, c2, D2, m2, k2, rfl, hR2, hb2, xb2⟩; obtain ⟨xc2, xf2, xl2, xz2⟩ := ext_use xb2; (try simp at xz2); obtain ⟨l2_0, gc, gf⟩ := kp xb2 (w.heap.size) (by first | omega | (simp; try omega)); have r2_0 := gc 0; have f2_0 := gf 0; have r2_0_1 := gc 1; have f2_0_1 := gf 1; have r2_0_2 := gc 2; have f2_0_2 := gf 2; clear gc gf; obtain ⟨l2_1, gc, gf⟩ := kp xb2 (w.heap.size + 1) (by first | omega | (simp; try omega)); have r2_1 := gc 0; have f2_1 := gf 0; have r2_1_1 := gc 1; have f2_1_1 := gf 1; have r2_1_2 := gc 2; have f2_1_2 := gf 2; clear gc gf)
    | (go_at_call 98; (with_reducible refine (kC _ _ _ _ _ _ _ _ _ _ _ _ _ _ _ (hR1.out.1.ext (by (repeat (first | exact ext_refl _ | assumption | refine ext_setCell ?_ (by simp; try omega) _ | refine ext_alloc ?_ _ | refine ext_drew ?_ | refine ext_drewN ?_ _ | refine ext_trans ?_ (Aft.use _) | refine ext_trans ?_ (by assumption))))) hR2.out.1).mono ?_); rintro e w3 ⟨rfl, xb3⟩)
   )
  refine bodyPost_ret (v := .tuple #[.int .i64 R, .int .i64 0]) ?h rfl ⟨rfl, ?_⟩
  case h => simp [results, Tryz.results39, go_sem]
  repeat (first | exact ext_refl _ | assumption | refine ext_setCell ?_ (by simp; try omega) _ | refine ext_alloc ?_ _ | refine ext_drew ?_ | refine ext_drewN ?_ _ | refine ext_trans ?_ (Aft.use _) | refine ext_trans ?_ (by assumption))
end Go.Proofs.YtnpdpjgkpjodbaaGreatDoor
end
