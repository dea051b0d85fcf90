/- Lemmas of this proof, laid together: ParF, SamE, FieQ, RatR, D2A, D2C, D2P1, D2P2, D2P3, D2P4, D2P5, D2P6, D2P7, SamF. -/
import Derived.Test.YtchbefambnhjjaaGreatDoorMg28
import Derived.Deep.DeepCutAuto
import Derived.Deep.RegionWith
import Derived.Test.YtchbefambnhjjaaGreatDoorMg27
import Derived.Test.YtchbefambnhjjaaGreatDoorMg03
import Derived.Test.YtchbefambnhjjaaGreatDoorMg25
import Derived.Test.YtchbefambnhjjaaGreatDoorMg26
set_option linter.unusedSimpArgs false
set_option linter.unusedVariables false
section
/- The second law's 'alive': the walk. -/
namespace Go.Proofs.YtchbefambnhjjaaGreatDoor
open Go.RowKit
attribute [local go_sem] bs_size bs_extract bs_get bs_append bs_toList const_get
attribute [local go_sem] sz2 sz3 sz4 sz5 sz6 sz7 sz8
set_option maxHeartbeats 4000000
set_option maxRecDepth 100000
attribute [local irreducible] Calls
theorem alive2_any (w : World) (hT : Tz w) : Calls Tryz.prog 9 #[] w fun x w' => x = .returned (.bool true) ∧ Ext w w' := by
  have HT := Lib.hid hT
  clear hT
  have L3 : (lim (3 : Int).natAbs).length = 1 := by kernel_rfl
  have L2 : (lim 2).length = 1 := by kernel_rfl
  have L1 : (lim (-1 : Int).natAbs).length = 1 := by kernel_rfl
  have LA : (lim (1 : Int).natAbs).length = 1 := by kernel_rfl
  have LB : (lim 1).length = 1 := by kernel_rfl
  have p1 : ∀ w', Tz w' → Calls Tryz.prog 11 #[.string ⟨#[48, 48, 54, 47, 52]⟩] w' fun e w'' => ∃ (A : Option Addr) (n c : Nat) (D : Option Addr) (m k : Nat), e = .returned (.tuple #[ratV false A n c D m k, .int .i64 0, .int .i64 0]) ∧ Hid (RaIs w'' 3 2 A n c D m k) ∧ Ext w' w'' := fun w' h => parse_a w' h
  have p2 : ∀ w', Tz w' → Calls Tryz.prog 11 #[.string ⟨#[45, 49, 47, 50]⟩] w' fun e w'' => ∃ (A : Option Addr) (n c : Nat) (D : Option Addr) (m k : Nat), e = .returned (.tuple #[ratV true A n c D m k, .int .i64 0, .int .i64 0]) ∧ Hid (RaIs w'' (-1) 2 A n c D m k) ∧ Ext w' w'' := fun w' h => parse_b w' h
  have p3 : ∀ w', Tz w' → Calls Tryz.prog 11 #[.string ⟨#[51, 47, 48, 48]⟩] w' fun e w'' => e = .returned (.tuple #[ratV false none 0 0 none 0 0, .int .i64 2, .int .i64 11]) ∧ Ext w' w'' := fun w' h => parse_c w' h
  have k1 : ∀ (A : Option Addr) (n c : Nat) (D : Option Addr) (m k : Nat) (B : Option Addr) (n2 c2 : Nat) (C : Option Addr) (m2 k2 : Nat) (w' : World), Tz w' → RaIs w' 3 2 A n c D m k → RaIs w' (-1) 2 B n2 c2 C m2 k2 → Calls Tryz.prog 37 #[ratV false A n c D m k, ratV true B n2 c2 C m2 k2] w' fun e w'' => ∃ (A : Option Addr) (n c : Nat) (D : Option Addr) (m k : Nat), e = .returned (.tuple #[ratV false A n c D m k, .int .i64 0]) ∧ Hid (RaIs w'' 1 1 A n c D m k) ∧ Ext w' w'' := fun A n c D m k B n2 c2 C m2 k2 w' hT hx hy => by
    have h1 := hx.num.len; have h2 := hx.den.len; have h3 := hy.num.len; have h4 := hy.den.len
    exact va_Add hT hx hy (by omega) (by omega) (by omega) (by omega)
  have k2 : ∀ (A : Option Addr) (n c : Nat) (D : Option Addr) (m k : Nat) (w' : World), Tz w' → RaIs w' 1 1 A n c D m k → Calls Tryz.prog 23 #[ratV false A n c D m k] w' fun e w'' => e = .returned (.tuple #[.string ⟨#[49]⟩, .int .i64 0]) ∧ Ext w' w'' := fun A n c D m k w' hT hx => by
    have h1 := hx.num.len; have h2 := hx.den.len
    have h := va_Text hT hx (by omega) (by omega)
    have e : rtext 1 1 = [49] := by first | kernel_rfl | simp [rtext, itext, dtext, digs]
    rw [e] at h
    exact h
  have k3 : ∀ (A : Option Addr) (n c : Nat) (D : Option Addr) (m k : Nat) (B : Option Addr) (n2 c2 : Nat) (C : Option Addr) (m2 k2 : Nat) (w' : World), Tz w' → RaIs w' 3 2 A n c D m k → RaIs w' (-1) 2 B n2 c2 C m2 k2 → Calls Tryz.prog 35 #[ratV false A n c D m k, ratV true B n2 c2 C m2 k2] w' fun e w'' => e = .returned (.tuple #[.int .i64 1, .int .i64 0]) ∧ Ext w' w'' := fun A n c D m k B n2 c2 C m2 k2 w' hT hx hy => by
    have h1 := hx.num.len; have h2 := hx.den.len; have h3 := hy.num.len; have h4 := hy.den.len
    exact va_Cmp hT hx hy (by omega) (by omega) (by omega) (by omega)
  have k4 : ∀ (A : Option Addr) (n c : Nat) (D : Option Addr) (m k : Nat) (w' : World), Tz w' → RaIs w' (-1) 2 A n c D m k → Calls Tryz.prog 20 #[ratV true A n c D m k] w' fun e w'' => ∃ (b o l : Nat), e = .returned (.tuple #[.bool true, natV (some ⟨b, o, none⟩) 1 l, .int .i64 0]) ∧ w''.cell? ⟨b, o, none⟩ = some (.int .u32 1) ∧ b < w''.heap.size ∧ w'.heap.size ≤ b ∧ Ext w' w'' := fun A n c D m k w' hT hx => by
    have h1 := hx.num.len; have h2 := hx.den.len
    refine (va_Floor hT hx (by omega) (by omega)).mono ?_
    rintro e w'' ⟨B, j, l, rfl, hB, hE⟩
    have hl : lim ((-1 : Int) / ((2 : Nat) : Int)).natAbs = [1] := by kernel_rfl
    have hR := hB.out.1
    rw [hl] at hR
    have hj : j = 1 := by have := hR.len; simpa using this.symm
    subst hj
    rcases hR.shape with ⟨_, h0, _⟩ | ⟨b, off, rfl⟩
    · exact absurd h0 (by decide)
    obtain ⟨h5, h6⟩ := hR.cells b off rfl 0 (by decide)
    exact ⟨b, off, l, rfl, h6, h5, hB.out.2 _ rfl, hE⟩
  have k5 : ∀ w', Tz w' → Calls Tryz.prog 26 #[ratV false none 0 0 none 0 0] w' fun e w'' => e = .returned (.int .i64 20) ∧ Ext w' w'' := fun w' h => live_check w' h
  go_enter Tryz.func9, Tryz.ntmps9
  go_upto_region 2 with (first
    | (go_at_call 11; (with_reducible refine (p1 _ HT.out).mono ?_); rintro e w1 ⟨A1, n1, c1, D1, m1, d1, rfl, hR1, xb1⟩)
   )
  go_upto_region 3 with (first
    | (go_at_call 11; (with_reducible refine (p2 _ (HT.out.ext (by (repeat (first | exact ext_refl _ | assumption | refine ext_setCell ?_ (by simp; try omega) _ | refine ext_alloc ?_ _ | refine ext_drew ?_ | refine ext_drewN ?_ _ | refine ext_trans ?_ (Aft.use _) | refine ext_trans ?_ (by assumption)))))).mono ?_); rintro e w2 ⟨A2, n2, c2, D2, m2, d2, rfl, hR2, xb2⟩; obtain ⟨xc2, xf2, xl2, xz2⟩ := ext_use xb2; (try simp at xz2); obtain ⟨l2_0, gc, gf⟩ := kp xb2 (w1.heap.size) (by first | omega | (simp; try omega)); have r2_0 := gc 0; have f2_0 := gf 0; have r2_0_1 := gc 1; have f2_0_1 := gf 1; have r2_0_2 := gc 2; have f2_0_2 := gf 2; clear gc gf)
   )
  go_upto_region 4 with (first
    | (go_at_call 37; (with_reducible refine (k1 _ _ _ _ _ _ _ _ _ _ _ _ _ (HT.out.ext (by (repeat (first | exact ext_refl _ | assumption | refine ext_setCell ?_ (by simp; try omega) _ | refine ext_alloc ?_ _ | refine ext_drew ?_ | refine ext_drewN ?_ _ | refine ext_trans ?_ (Aft.use _) | refine ext_trans ?_ (by assumption))))) (hR1.out.ext (by (repeat (first | exact ext_refl _ | assumption | refine ext_setCell ?_ (by simp; try omega) _ | refine ext_alloc ?_ _ | refine ext_drew ?_ | refine ext_drewN ?_ _ | refine ext_trans ?_ (Aft.use _) | refine ext_trans ?_ (by assumption))))) (hR2.out.ext (by (repeat (first | exact ext_refl _ | assumption | refine ext_setCell ?_ (by simp; try omega) _ | refine ext_alloc ?_ _ | refine ext_drew ?_ | refine ext_drewN ?_ _ | refine ext_trans ?_ (Aft.use _) | refine ext_trans ?_ (by assumption)))))).mono ?_); rintro e w3 ⟨A3, n3, c3, D3, m3, d3, rfl, hR3, xb3⟩; obtain ⟨xc3, xf3, xl3, xz3⟩ := ext_use xb3; (try simp at xz3); obtain ⟨l3_0, gc, gf⟩ := kp xb3 (w1.heap.size) (by first | omega | (simp; try omega)); have r3_0 := gc 0; have f3_0 := gf 0; have r3_0_1 := gc 1; have f3_0_1 := gf 1; have r3_0_2 := gc 2; have f3_0_2 := gf 2; clear gc gf; obtain ⟨l3_1, gc, gf⟩ := kp xb3 (w2.heap.size) (by first | omega | (simp; try omega)); have r3_1 := gc 0; have f3_1 := gf 0; have r3_1_1 := gc 1; have f3_1_1 := gf 1; have r3_1_2 := gc 2; have f3_1_2 := gf 2; clear gc gf)
   )
  go_upto_region 5 with (first
    | (go_at_call 23; (with_reducible refine (k2 _ _ _ _ _ _ _ (HT.out.ext (by (repeat (first | exact ext_refl _ | assumption | refine ext_setCell ?_ (by simp; try omega) _ | refine ext_alloc ?_ _ | refine ext_drew ?_ | refine ext_drewN ?_ _ | refine ext_trans ?_ (Aft.use _) | refine ext_trans ?_ (by assumption))))) (hR3.out.ext (by (repeat (first | exact ext_refl _ | assumption | refine ext_setCell ?_ (by simp; try omega) _ | refine ext_alloc ?_ _ | refine ext_drew ?_ | refine ext_drewN ?_ _ | refine ext_trans ?_ (Aft.use _) | refine ext_trans ?_ (by assumption)))))).mono ?_); rintro e w4 ⟨rfl, xb4⟩; obtain ⟨xc4, xf4, xl4, xz4⟩ := ext_use xb4; (try simp at xz4); obtain ⟨l4_0, gc, gf⟩ := kp xb4 (w1.heap.size) (by first | omega | (simp; try omega)); have r4_0 := gc 0; have f4_0 := gf 0; have r4_0_1 := gc 1; have f4_0_1 := gf 1; have r4_0_2 := gc 2; have f4_0_2 := gf 2; clear gc gf; obtain ⟨l4_1, gc, gf⟩ := kp xb4 (w2.heap.size) (by first | omega | (simp; try omega)); have r4_1 := gc 0; have f4_1 := gf 0; have r4_1_1 := gc 1; have f4_1_1 := gf 1; have r4_1_2 := gc 2; have f4_1_2 := gf 2; clear gc gf)
   )
  go_upto_region 6 with (first
    | (go_at_call 35; (with_reducible refine (k3 _ _ _ _ _ _ _ _ _ _ _ _ _ (HT.out.ext (by (repeat (first | exact ext_refl _ | assumption | refine ext_setCell ?_ (by simp; try omega) _ | refine ext_alloc ?_ _ | refine ext_drew ?_ | refine ext_drewN ?_ _ | refine ext_trans ?_ (Aft.use _) | refine ext_trans ?_ (by assumption))))) (hR1.out.ext (by (repeat (first | exact ext_refl _ | assumption | refine ext_setCell ?_ (by simp; try omega) _ | refine ext_alloc ?_ _ | refine ext_drew ?_ | refine ext_drewN ?_ _ | refine ext_trans ?_ (Aft.use _) | refine ext_trans ?_ (by assumption))))) (hR2.out.ext (by (repeat (first | exact ext_refl _ | assumption | refine ext_setCell ?_ (by simp; try omega) _ | refine ext_alloc ?_ _ | refine ext_drew ?_ | refine ext_drewN ?_ _ | refine ext_trans ?_ (Aft.use _) | refine ext_trans ?_ (by assumption)))))).mono ?_); rintro e w5 ⟨rfl, xb5⟩; obtain ⟨xc5, xf5, xl5, xz5⟩ := ext_use xb5; (try simp at xz5); obtain ⟨l5_0, gc, gf⟩ := kp xb5 (w2.heap.size) (by first | omega | (simp; try omega)); have r5_0 := gc 0; have f5_0 := gf 0; have r5_0_1 := gc 1; have f5_0_1 := gf 1; have r5_0_2 := gc 2; have f5_0_2 := gf 2; clear gc gf)
   )
  go_upto_region 7 with (first
    | (go_at_call 11; (with_reducible refine (p3 _ (HT.out.ext (by (repeat (first | exact ext_refl _ | assumption | refine ext_setCell ?_ (by simp; try omega) _ | refine ext_alloc ?_ _ | refine ext_drew ?_ | refine ext_drewN ?_ _ | refine ext_trans ?_ (Aft.use _) | refine ext_trans ?_ (by assumption)))))).mono ?_); rintro e w6 ⟨rfl, xb6⟩; obtain ⟨xc6, xf6, xl6, xz6⟩ := ext_use xb6; (try simp at xz6); obtain ⟨l6_0, gc, gf⟩ := kp xb6 (w2.heap.size) (by first | omega | (simp; try omega)); have r6_0 := gc 0; have f6_0 := gf 0; have r6_0_1 := gc 1; have f6_0_1 := gf 1; have r6_0_2 := gc 2; have f6_0_2 := gf 2; clear gc gf)
   )
  go_upto_region 8 with (first
    | (go_at_call 20; (with_reducible refine (k4 _ _ _ _ _ _ _ (HT.out.ext (by (repeat (first | exact ext_refl _ | assumption | refine ext_setCell ?_ (by simp; try omega) _ | refine ext_alloc ?_ _ | refine ext_drew ?_ | refine ext_drewN ?_ _ | refine ext_trans ?_ (Aft.use _) | refine ext_trans ?_ (by assumption))))) (hR2.out.ext (by (repeat (first | exact ext_refl _ | assumption | refine ext_setCell ?_ (by simp; try omega) _ | refine ext_alloc ?_ _ | refine ext_drew ?_ | refine ext_drewN ?_ _ | refine ext_trans ?_ (Aft.use _) | refine ext_trans ?_ (by assumption)))))).mono ?_); rintro e w7 ⟨b7, o7, l7, rfl, hc7, hl7, hg7, xb7⟩; obtain ⟨xc7, xf7, xl7, xz7⟩ := ext_use xb7; (try simp at xz7))
   )
  go_wp2_with (first
    | (go_at_call 26; (with_reducible refine (k5 _ (HT.out.ext (by (repeat (first | exact ext_refl _ | assumption | refine ext_setCell ?_ (by simp; try omega) _ | refine ext_alloc ?_ _ | refine ext_drew ?_ | refine ext_drewN ?_ _ | refine ext_trans ?_ (Aft.use _) | refine ext_trans ?_ (by assumption)))))).mono ?_); rintro e w8 ⟨rfl, xb8⟩; obtain ⟨xc8, xf8, xl8, xz8⟩ := ext_use xb8; (try simp at xz8))
   )
  refine bodyPost_ret (v := .bool true) ?h rfl ⟨rfl, ?_⟩
  case h => simp [results, Tryz.results9, go_sem]
  repeat (first | exact ext_refl _ | assumption | refine ext_setCell ?_ (by simp; try omega) _ | refine ext_alloc ?_ _ | refine ext_drew ?_ | refine ext_drewN ?_ _ | refine ext_trans ?_ (Aft.use _) | refine ext_trans ?_ (by assumption))
end Go.Proofs.YtchbefambnhjjaaGreatDoor
end
section
/- The second law's fractions: as they are made. -/
namespace Go.Proofs.YtchbefambnhjjaaGreatDoor
open Go.RowKit
attribute [local go_sem] sz2 sz3 sz4 sz5 sz6 sz7 sz8
set_option maxHeartbeats 4000000
set_option maxRecDepth 100000
attribute [local irreducible] Calls
end Go.Proofs.YtchbefambnhjjaaGreatDoor
end
section
/- The program's fractions: the calls, what is lent bound together. -/
namespace Go.Proofs.YtchbefambnhjjaaGreatDoor
open Go.RowKit
attribute [local go_sem] sz2 sz3 sz4 sz5 sz6 sz7 sz8
set_option maxHeartbeats 4000000
set_option maxRecDepth 100000
attribute [local irreducible] Calls
/-- Where a fraction lies. -/
structure FH where
  A : Option Addr
  n : Nat
  c : Nat
  D : Option Addr
  m : Nat
  k : Nat
abbrev fV (s : Bool) (F : FH) : Value := ratV s F.A F.n F.c F.D F.m F.k
abbrev RaF (w : World) (z : Int) (d : Nat) (F : FH) : Prop := RaIs w z d F.A F.n F.c F.D F.m F.k
theorem RaIs.few {k : Nat} {w : World} {x : Int} {p : Nat} {A : Option Addr} {n c : Nat} {D : Option Addr} {m l : Nat} (h : RaIs w x p A n c D m l) (hf : Few k x p) : n ≤ k ∧ m ≤ k := ⟨by rw [← h.num.len]; exact hf.1, by rw [← h.den.len]; exact hf.2⟩
section
variable {W : World} {x y : Int} {p q : Nat} {s t u : Bool} {z : Int} {d : Nat}
end
end Go.Proofs.YtchbefambnhjjaaGreatDoor
end
section
/- Drawn regions of calls that answer fractions: what each answers. -/
namespace Go.Proofs.YtchbefambnhjjaaGreatDoor
open Go.RowKit
attribute [local irreducible] Calls
end Go.Proofs.YtchbefambnhjjaaGreatDoor
end
section
/- The document's fractions: a library's fraction, told. -/
namespace Go.Proofs.YtchbefambnhjjaaGreatDoor.NB
open Go.RowKit
attribute [local go_sem] sz2 sz3 sz4 sz5 sz6 sz7 sz8
set_option maxHeartbeats 4000000
set_option maxRecDepth 100000
attribute [local irreducible] Calls
theorem bi_Words (b o : Nat) (z : Int) (A : Option Addr) (n c : Nat) (hn : n ≤ 1000000) (w : World) (hx : IntIs w b o z A n c) :
    Calls Tryz.prog 137 #[.pointer (some ⟨b, o, none⟩)] w fun e w' => ∃ (B : Option Addr) (k l : Nat), e = .returned (.slice B k l) ∧ Hid (Rd w' B k l (lim z.natAbs) ∧ Fr w B) ∧ Ext w w' := by
  have HR := Lib.hid hx.rd
  have x1 := hx.words
  have lx := hx.room.lt
  clear hx
  by_cases h0 : n = 0
  · subst h0
    have hl : lim z.natAbs = [] := List.eq_nil_of_length_eq_zero HR.out.len
    go_enter Tryz.func137, Tryz.ntmps137
    go_wp2
    refine bodyPost_ret (v := .slice none 0 0) ?h rfl ⟨none, 0, 0, rfl, ⟨by rw [hl]; exact Rd.nil _, fun a ha => by cases ha⟩, ext_refl _⟩
    case h => simp [results, Tryz.results137, go_sem]
  · have hne : ((n : Int) == 0) = false := by rw [beq_eq_false_iff_ne]; omega
    have hne2 : ¬ (n : Int) = 0 := by omega
    go_enter Tryz.func137, Tryz.ntmps137
    go_wp2_with (first
      | (go_at_call 115; (with_reducible refine (bw_copied A n c _ hn _ HR.out).mono ?_); rintro e w1 ⟨rfl, hR1, xb1⟩; obtain ⟨xc1, xf1, xl1, xz1⟩ := ext_use xb1; (try simp at xz1))
     )
    refine bodyPost_ret (v := .slice (some ⟨w.heap.size, 0, none⟩) n n) ?h rfl ⟨_, n, n, rfl, ⟨hR1.out, fun a ha => by cases ha; exact Nat.le_refl _⟩, xb1⟩
    case h => simp [results, Tryz.results137, go_sem]
theorem rd_Nat (b o : Nat) (z : Int) (A : Option Addr) (n c : Nat) (hn : n ≤ 1000000) (w : World) (hx : IntIs w b o z A n c) :
    Calls Tryz.prog 76 #[.pointer (some ⟨b, o, none⟩)] w fun e w' => ∃ (B : Option Addr) (k l : Nat), e = .returned (natV B k l) ∧ Hid (Rd w' B k l (lim z.natAbs) ∧ Fr w B) ∧ Ext w w' := by
  have k1 : ∀ w', Ext w w' → Calls Tryz.prog 137 #[.pointer (some ⟨b, o, none⟩)] w' fun e w'' => ∃ (B : Option Addr) (k l : Nat), e = .returned (.slice B k l) ∧ Hid (Rd w'' B k l (lim z.natAbs) ∧ Fr w' B) ∧ Ext w' w'' := fun w' he => bi_Words b o z A n c hn w' (hx.ext he)
  clear hx
  go_enter Tryz.func76, Tryz.ntmps76
  go_wp2_with (first
    | (go_at_call 137; (with_reducible refine (k1 _ (by (repeat (first | exact ext_refl _ | assumption | refine ext_setCell ?_ (by simp; try omega) _ | refine ext_alloc ?_ _ | refine ext_drew ?_ | refine ext_drewN ?_ _ | refine ext_trans ?_ (Aft.use _) | refine ext_trans ?_ (by assumption))))).mono ?_); rintro e w1 ⟨B1, j1, l1, rfl, hR1, xb1⟩; obtain ⟨xc1, xf1, xl1, xz1⟩ := ext_use xb1; (try simp at xz1); obtain ⟨l1_0, gc, gf⟩ := kp xb1 (w.heap.size) (by first | omega | (simp; try omega)); have r1_0 := gc 0; have f1_0 := gf 0; clear gc gf)
   )
  have z0 : w1.cell? ⟨w.heap.size, 0, none⟩ = some (.slice none 0 0) := by simp [go_sem, *]
  have q0 := World.cell?_setCell_same w1 ⟨w.heap.size, 0, none⟩ (.slice B1 j1 l1) z0
  have n6 : ∀ a, B1 = some a → w.heap.size < a.block := fun a ha => by have := hR1.out.2 a ha; (try simp at this); omega
  have hE : Ext w w1 := by (repeat (first | exact ext_refl _ | assumption | refine ext_setCell ?_ (by simp; try omega) _ | refine ext_alloc ?_ _ | refine ext_drew ?_ | refine ext_drewN ?_ _ | refine ext_trans ?_ (Aft.use _) | refine ext_trans ?_ (by assumption)))
  refine bodyPost_ret (v := natV B1 j1 l1) ?h rfl ⟨B1, j1, l1, rfl, ⟨hR1.out.1.set _ n6, fun a ha => Nat.le_of_lt (n6 a ha)⟩, ext_setCell hE (Nat.le_refl _) _⟩
  case h => simp [results, Tryz.results76, go_sem, q0, natV]
theorem rd_Long (b o : Nat) (z : Int) (A : Option Addr) (n c : Nat) (hn : n ≤ 1000000) (w : World) (hx : IntIs w b o z A n c) :
    Calls Tryz.prog 113 #[.pointer (some ⟨b, o, none⟩)] w fun e w' => e = .returned (.bool (decide ((524288 : Int) < (bitsOf z.natAbs : Nat)))) ∧ Ext w w' := by
  have k1 : ∀ w', Ext w w' → Calls Tryz.prog 164 #[.pointer (some ⟨b, o, none⟩)] w' fun e w'' => e = .returned (.int .i64 (bitsOf z.natAbs : Nat)) ∧ Ext w' w'' := fun w' he => bi_BitLen b o z A n c hn w' (hx.ext he)
  clear hx
  generalize bitsOf z.natAbs = t at *
  go_enter Tryz.func113, Tryz.ntmps113
  go_wp2_with (first
    | (go_at_call 164; (with_reducible refine (k1 _ (by (repeat (first | exact ext_refl _ | assumption | refine ext_setCell ?_ (by simp; try omega) _ | refine ext_alloc ?_ _ | refine ext_drew ?_ | refine ext_drewN ?_ _ | refine ext_trans ?_ (Aft.use _) | refine ext_trans ?_ (by assumption))))).mono ?_); rintro e w1 ⟨rfl, xb1⟩; obtain ⟨xc1, xf1, xl1, xz1⟩ := ext_use xb1; (try simp at xz1))
   )
  refine bodyPost_ret (v := .bool (decide ((524288 : Int) < ↑t))) ?h rfl ⟨rfl, ?_⟩
  case h => simp [results, Tryz.results113, go_sem]
  repeat (first | exact ext_refl _ | assumption | refine ext_setCell ?_ (by simp; try omega) _ | refine ext_alloc ?_ _ | refine ext_drew ?_ | refine ext_drewN ?_ _ | refine ext_trans ?_ (Aft.use _) | refine ext_trans ?_ (by assumption))
/-- A fraction that was told by the document's library. -/
abbrev UPost (w : World) (z : Int) (d : Nat) : Ending → World → Prop := fun e w' => ∃ (A : Option Addr) (n c : Nat) (D : Option Addr) (m k : Nat), e = .returned (.tuple #[ratV (decide (z < 0)) A n c D m k, .int .i64 0]) ∧
  Hid (Rd w' A n c (lim z.natAbs) ∧ Fr w A ∧ Rd w' D m k (lim d) ∧ Fr w D) ∧ Ext w w'
theorem rd_Of (g : Nat) (z : Int) (A : Option Addr) (n c d : Nat) (D : Option Addr) (m e : Nat) (hn : n ≤ 16384) (hm : m ≤ 100000) (hl : (lim (denOf d)).length ≤ 16384) (w : World) (hx : RatIs w g z A n c d D m e) :
    Calls Tryz.prog 52 #[.pointer (some ⟨g, 0, none⟩)] w (UPost w z (denOf d)) := by
  have HX := Lib.hid hx
  have hbl : decide ((524288 : Int) < (bitsOf z.natAbs : Nat)) = false := decide_eq_false (by have := (bits_len z.natAbs).1; rw [hx.int.rd.len] at this; omega)
  have HBL := Lib.hid hbl
  have hbd : decide ((524288 : Int) < (bitsOf (denOf d) : Nat)) = false := decide_eq_false (by have := (bits_len (denOf d)).1; omega)
  have HBD := Lib.hid hbd
  have hxl := hx.int.rd.len
  have hsg : decide (z.sign < 0) = decide (z < 0) := by rw [decide_eq_decide]; exact Int.sign_neg_iff
  have HSG := Lib.hid hsg
  clear hx hbl hbd hsg
  go_enter Tryz.func52, Tryz.ntmps52
  go_wp2_with (first
    | (go_at_call 74; (with_reducible refine (br_Num g z A n c d D m e (by omega) _ (HX.out.ext (ext_alloc (ext_refl _) _))).mono ?_); rintro e w1 ⟨b1, B1, k1, l1, rfl, hI1, hb1, xb1⟩; have hk1 : k1 ≤ 1000000 := by (have := hI1.out.1.rd.len; omega))
    | (go_at_call 113; (with_reducible refine (rd_Long b1 0 z B1 k1 l1 hk1 _ hI1.out.1).mono ?_); rintro e w2 ⟨rfl, xb2⟩; rw [HBL.out])
    | (go_at_call 75; (with_reducible refine (br_Denom g z A n c d D m e (by omega) _ (HX.out.ext (ext_trans (ext_alloc (ext_refl _) _) (ext_trans xb1 xb2)))).mono ?_); rintro e w3 ⟨b3, B3, k3, l3, rfl, hI3, hb3, xb3⟩; have hk3 : k3 ≤ 1000000 := by (have := hI3.out.1.rd.len; simp at this; omega))
    | (go_at_call 113; (with_reducible refine (rd_Long b3 0 (denOf d : Nat) B3 k3 l3 hk3 _ hI3.out.1).mono ?_); rintro e w4 ⟨rfl, xb4⟩; rw [Int.natAbs_natCast, HBD.out]; have hE4 := Lib.hid (ext_trans (ext_alloc (ext_refl w) (Obj.cells #[.bool false, .slice none 0 0, .slice none 0 0] 32)) (ext_trans (ext_trans xb1 xb2) (ext_trans xb3 xb4))); have hF4 := Lib.hid (ext_trans (ext_trans xb1 xb2) (ext_trans xb3 xb4)))
    | (go_at_call 99; (with_reducible refine (br_Sign g z A n c _ (HX.out.ext hE4.out).int).mono ?_); rintro e w5 ⟨rfl, xb5⟩)
    | (go_at_call 74; (with_reducible refine (br_Num g z A n c d D m e (by omega) _ (HX.out.ext (ext_trans hE4.out xb5))).mono ?_); rintro e w6 ⟨b6, B6, k6, l6, rfl, hI6, hb6, xb6⟩; have hk6 : k6 ≤ 1000000 := by (have := hI6.out.1.rd.len; omega))
    | (go_at_call 76; (with_reducible refine (rd_Nat b6 0 z B6 k6 l6 hk6 _ hI6.out.1).mono ?_); rintro e w7 ⟨A7, k7, c7, rfl, hR7, xb7⟩)
    | (go_at_call 75; (with_reducible refine (br_Denom g z A n c d D m e (by omega) _ (HX.out.ext (ext_trans hE4.out (ext_trans xb5 (ext_trans xb6 xb7))))).mono ?_); rintro e w8 ⟨b8, B8, k8, l8, rfl, hI8, hb8, xb8⟩; have hk8 : k8 ≤ 1000000 := by (have := hI8.out.1.rd.len; simp at this; omega))
    | (go_at_call 76; (with_reducible refine (rd_Nat b8 0 (denOf d : Nat) B8 k8 l8 hk8 _ hI8.out.1).mono ?_); rintro e w9 ⟨A9, k9, c9, rfl, hR9, xb9⟩; obtain ⟨r0, r1, r2, f0, f1, f2, rl⟩ := res3 w w9 _ (ext_trans hF4.out (ext_trans xb5 (ext_trans xb6 (ext_trans xb7 (ext_trans xb8 xb9))))))
   )
  have hA7 : Rd w9 A7 k7 c7 (lim z.natAbs) := hR7.out.1.ext (ext_trans xb8 xb9)
  have hA9 : Rd w9 A9 k9 c9 (lim (denOf d)) := by have := hR9.out.1; rwa [Int.natAbs_natCast] at this
  have hs4 : w.heap.size + 1 ≤ w4.heap.size := by have := ext_size hF4.out; simpa using this
  have hF7 : Fr w4 A7 := hR7.out.2.mono (ext_trans xb5 xb6)
  have hF9 : Fr w4 A9 := hR9.out.2.mono (ext_trans (ext_trans xb5 xb6) (ext_trans xb7 xb8))
  have n7 : ∀ a, A7 = some a → w.heap.size < a.block := fun a ha => by have := hF7 a ha; omega
  have n9 : ∀ a, A9 = some a → w.heap.size < a.block := fun a ha => by have := hF9 a ha; omega
  have hE := Lib.hid (ext_trans hE4.out (ext_trans xb5 (ext_trans xb6 (ext_trans xb7 (ext_trans xb8 xb9)))))
  obtain ⟨q0, q1, q2⟩ := set3 r0 r1 r2 (.bool (decide (z < 0))) (.slice A7 k7 c7) (.slice A9 k9 c9)
  refine bodyPost_ret (v := .tuple #[ratV (decide (z < 0)) A7 k7 c7 A9 k9 c9, .int .i64 0]) ?h rfl ⟨A7, k7, c7, A9, k9, c9, rfl, ⟨hA7.set3 n7 _ _ _, fun a ha => Nat.le_of_lt (n7 a ha), hA9.set3 n9 _ _ _, fun a ha => Nat.le_of_lt (n9 a ha)⟩, ext_set3 hE.out (Nat.le_refl _) _ _ _⟩
  case h => simp [results, Tryz.results52, go_sem, q0, q1, q2, natV]
end Go.Proofs.YtchbefambnhjjaaGreatDoor.NB
end
section
/- The document's fractions: numbers out of texts, fractions out of numbers, in new blocks. -/
namespace Go.Proofs.YtchbefambnhjjaaGreatDoor.NB
open Go.RowKit
set_option maxRecDepth 100000
attribute [local irreducible] Calls
abbrev newInt (u : World) : World := u.alloc (Obj.cells #[.bool false, .slice none 0 0] 67)
abbrev newRat (u : World) : World := u.alloc (Obj.cells #[.bool false, .slice none 0 0, .slice none 0 0] 74)
theorem room_int (u : World) : Room (newInt u) u.heap.size 0 :=
  ⟨by simp, ⟨_, by simp [go_sem]; rfl⟩, ⟨_, by simp [go_sem]; rfl⟩, by simp [go_sem], by simp [go_sem]⟩
theorem room_rat (u : World) : RatRoom (newRat u) u.heap.size :=
  ⟨⟨by simp, ⟨_, by simp [go_sem]; rfl⟩, ⟨_, by simp [go_sem]; rfl⟩, by simp [go_sem], by simp [go_sem]⟩, ⟨_, by simp [go_sem]; rfl⟩, by simp [go_sem]⟩
/-- A number in a new block. -/
abbrev WPst (u : World) (z : Int) (v : Value) : Ending → World → Prop := fun e w' => ∃ (A : Option Addr) (n c : Nat), e = .returned v ∧ Hid (IntIs w' u.heap.size 0 z A n c) ∧ Ext u w'
theorem op_SetString (s : Bool) (D : List UInt8) (hd : digsB D = true) (h0 : 0 < D.length) (hl : D.length ≤ 65536) (t : List UInt8) (ht : t = if s then 45 :: D else D) (u : World) :
    Calls Tryz.prog 49 #[.pointer (some ⟨u.heap.size, 0, none⟩), .string (bs t), .int .i64 10] (newInt u) (WPst u (sgn s (dval D)) (.tuple #[.pointer (some ⟨u.heap.size, 0, none⟩), .bool true])) := by
  subst ht
  have h : Calls Tryz.prog 49 #[.pointer (some ⟨u.heap.size, 0, none⟩), .string (bs (if s then 45 :: D else D)), .int .i64 10] (newInt u) (StrPost (newInt u) u.heap.size (sgn s (dval D))) := by
    cases s with
    | true => exact bi_SetString_neg _ D hd h0 (by omega) _ (room_int u)
    | false => exact bi_SetString_pos _ D hd h0 (by omega) _ (room_int u)
  refine h.mono ?_
  rintro e w' ⟨rfl, A, n, c, hI, ht⟩
  exact ⟨A, n, c, rfl, Lib.hid hI.out.1, ht.ext (ext_alloc (ext_refl u) _) (Nat.le_refl _)⟩
theorem op_SetFrac (z : Int) (d : Nat) (hd : d ≠ 0) (hlz : (lim z.natAbs).length ≤ 400000) (hld : (lim d).length ≤ 400000) (b2 b3 : Nat) (A : Option Addr) (n c : Nat) (D : Option Addr) (m k : Nat) (u : World) (hT : Tz u) (h2 : IntIs u b2 0 z A n c) (h3 : IntIs u b3 0 (d : Nat) D m k) :
    Calls Tryz.prog 53 #[.pointer (some ⟨u.heap.size, 0, none⟩), .pointer (some ⟨b2, 0, none⟩), .pointer (some ⟨b3, 0, none⟩)] (newRat u) fun e w' => ∃ (A : Option Addr) (n c : Nat) (D : Option Addr) (m k : Nat), e = .returned (.pointer (some ⟨u.heap.size, 0, none⟩)) ∧ Hid (RatIs w' u.heap.size (canN z d) A n c (canW z d) D m k) ∧ Ext u w' := by
  have hE : Ext u (newRat u) := ext_alloc (ext_refl u) _
  have l2 := h2.rd.len
  have l3 := h3.rd.len
  rw [Int.natAbs_natCast] at l3
  have h := br_SetFrac u.heap.size b2 b3 z (d : Nat) (by omega) A n c D m k (by omega) (by omega) (newRat u) (hT.ext hE) (room_rat u) (h2.ext hE) (h3.ext hE)
  have e1 : sgn (qneg z (d : Nat)) (z.natAbs / Nat.gcd z.natAbs ((d : Nat) : Int).natAbs : Nat) = canN z d := by
    rw [Int.natAbs_natCast]
    unfold canN qneg
    rw [decide_eq_false (show ¬ ((d : Nat) : Int) < 0 by omega)]
    simp
  have e2 : lowD z.natAbs ((d : Nat) : Int).natAbs = canW z d := by rw [Int.natAbs_natCast]; exact low_can z d
  rw [e1, e2] at h
  refine h.mono ?_
  rintro e w' ⟨rfl, A, n, c, D, m, k, hR, ht⟩
  exact ⟨A, n, c, D, m, k, rfl, Lib.hid hR.out.1, ht.ext hE (Nat.le_refl _)⟩
theorem op_Of {g : Nat} {z : Int} {d : Nat} (hd : d ≠ 0) (hf : Few 16384 z d) {A : Option Addr} {n c : Nat} {D : Option Addr} {m k : Nat} {w : World} (h : RatIs w g (canN z d) A n c (canW z d) D m k) :
    Calls Tryz.prog 52 #[.pointer (some ⟨g, 0, none⟩)] w fun e w' => ∃ F : FH, e = .returned (.tuple #[fV (decide (canN z d < 0)) F, .int .i64 0]) ∧ Hid (RaF w' (canN z d) (canD z d) F ∧ Fr w F.A ∧ Fr w F.D) ∧ Ext w w' := by
  have h1 := h.int.rd.len
  have h2 := h.rd.len
  have hc := hf.can
  have h3 := lim_mono (canW_le z d)
  have k := rd_Of g (canN z d) A n c (canW z d) D m k (by rw [← h1]; exact hc.1) (by have := hf.2; omega) (by rw [canW_den hd]; exact hc.2) w h
  rw [canW_den hd] at k
  refine k.mono ?_
  rintro e w' ⟨A, n, c, D, m, k, rfl, h4, h5⟩
  exact ⟨⟨A, n, c, D, m, k⟩, rfl, Lib.hid ⟨⟨h4.out.1, h4.out.2.2.1, canD_pos hd, can_gcd hd⟩, h4.out.2.1, h4.out.2.2.2⟩, h5⟩
theorem op_One (u : World) : Calls Tryz.prog 50 #[.int .i64 1] u fun e w' => ∃ (b : Nat) (A : Option Addr) (n c : Nat), e = .returned (.pointer (some ⟨b, 0, none⟩)) ∧ Hid (IntIs w' b 0 ((1 : Nat) : Int) A n c) ∧ Ext u w' := by
  refine (bi_NewInt 1 (by decide) (by decide) u).mono ?_
  rintro e w' ⟨b, B, k, l, rfl, h1, _, h2⟩
  exact ⟨b, B, k, l, rfl, Lib.hid h1.out.1, h2⟩
end Go.Proofs.YtchbefambnhjjaaGreatDoor.NB
end
section
/- The document's fractions out of texts, case by case (written by mkd2p.py). -/
namespace Go.Proofs.YtchbefambnhjjaaGreatDoor.NB
open Go.RowKit
attribute [local go_sem] bs_size bs_extract bs_get bs_append bs_toList const_get
attribute [local go_sem] sz2 sz3 sz4 sz5 sz6 sz7 sz8
set_option maxHeartbeats 4000000
set_option maxRecDepth 100000
attribute [local irreducible] Calls
/-- How a text begins: with a minus, or not. -/
abbrev Hd (l : List UInt8) (ei : Int) (i0 : Nat) : Prop := ei = (i0 : Int) ∧ ((ei = 1 ∧ 0 < l.length ∧ l.head? = some 45) ∨ (ei = 0 ∧ l.head? ≠ some 45))
abbrev DNo (w : World) (a : Int) (c : Int) : Ending → World → Prop := fun e w' => e = .returned (.tuple #[ratV false none 0 0 none 0 0, .int .i64 a, .int .i64 c]) ∧ Ext w w'
abbrev DYes (w : World) (z : Int) (d : Nat) : Ending → World → Prop := fun e w' => ∃ F : FH, e = .returned (.tuple #[fV (decide (z < 0)) F, .int .i64 0, .int .i64 0]) ∧ Hid (RaF w' z d F ∧ Fr w F.A ∧ Fr w F.D) ∧ Ext w w'
theorem rd_Parse_long (l : List UInt8) (hl : 65536 < l.length) (hm : l.length ≤ 9223372036854775807) (w : World) : Calls Tryz.prog 10 #[.string (bs l)] w (DNo w 0 3) := by
  have hlt : decide ((65536 : Int) < (l.length : Int)) = true := decide_eq_true (by omega)
  go_enter Tryz.func10, Tryz.ntmps10
  go_wp2
  refine bodyPost_ret (v := .tuple #[ratV false none 0 0 none 0 0, .int .i64 0, .int .i64 3]) ?h rfl ⟨rfl, ext_alloc (ext_refl w) _⟩
  case h => simp [results, Tryz.results10, go_sem]
end Go.Proofs.YtchbefambnhjjaaGreatDoor.NB
end
section
/- The document's fractions out of texts, case by case (written by mkd2p.py). -/
namespace Go.Proofs.YtchbefambnhjjaaGreatDoor.NB
open Go.RowKit
attribute [local go_sem] bs_size bs_extract bs_get bs_append bs_toList const_get
attribute [local go_sem] sz2 sz3 sz4 sz5 sz6 sz7 sz8
set_option maxHeartbeats 4000000
set_option maxRecDepth 100000
attribute [local irreducible] Calls
theorem rd_Parse_none (s : Bool) (l u D : List UInt8) (ei : Int) (i0 i1 : Nat) (hl : l.length ≤ 65536) (hh : Hd l ei i0) (hu : l.drop i0 = u) (hi : u.length + i0 = l.length) (hD : u.takeWhile isD = D) (hi1 : i0 + D.length = i1) (ht : l.take i1 = if s then 45 :: D else D) (h0 : D.length = 0) (w : World) (hT : Tz w) :
    Calls Tryz.prog 10 #[.string (bs l)] w (DNo w ei 12) := by
  have hDl : D.length ≤ u.length := by rw [← hD]; exact (tw_run isD u).2.2
  have hi0 : i0 ≤ l.length := by omega
  have hil : i1 ≤ l.length := by omega
  have hDb : digsB D = true := by rw [← hD]; exact take_dig u
  have kD1 : ∀ w', Calls Tryz.prog 48 #[.string (bs l), .int .i64 ei] w' fun e w'' => e = .returned (.int .i64 (i1 : Int)) ∧ Ext w' w'' := fun w' => by have := rd_digits l i0 i1 hi0 (by omega) (by rw [hu, hD]; exact hi1) w'; rwa [hh.1]
  have heq : (((i1 : Nat) : Int) == ei) = true := by rw [beq_iff_eq]; rw [hh.1]; omega
  have heq2 : ((i1 : Nat) : Int) = ei := by rw [hh.1]; omega
  obtain ⟨hei, hh⟩ := hh
  clear hei hu hi hD hDb hi1 hDl
  rcases hh with ⟨rfl, hx0, hc⟩ | ⟨rfl, hc⟩
  · have hc0 : l[0].toNat = 45 := by cases l with | nil => simp at hx0 | cons c r => simp at hc; subst hc; rfl
    have hc1 : ((l[0].toNat : Int) == 45) = true := by rw [hc0]; rfl
    clear hc
    go_enter Tryz.func10, Tryz.ntmps10
    go_wp2_with (first
      | (go_at_call 48; (with_reducible refine (kD1 _).mono ?_); rintro e w1 ⟨rfl, xb1⟩; obtain ⟨xc1, xf1, xl1, xz1⟩ := ext_use xb1; (try simp at xz1); obtain ⟨l1_0, gc, gf⟩ := kp xb1 (w.heap.size) (by first | omega | (simp; try omega)); have r1_0 := gc 0; have f1_0 := gf 0; have r1_0_1 := gc 1; have f1_0_1 := gf 1; have r1_0_2 := gc 2; have f1_0_2 := gf 2; clear gc gf)
     )
    have z0 : w1.cell? ⟨w.heap.size, 0, none⟩ = some (.bool false) := by simp [go_sem, *]
    have z1 : w1.cell? ⟨w.heap.size, 1, none⟩ = some (.slice none 0 0) := by simp [go_sem, *]
    have z2 : w1.cell? ⟨w.heap.size, 2, none⟩ = some (.slice none 0 0) := by simp [go_sem, *]
    obtain ⟨q0, q1, q2⟩ := set3 (b := w.heap.size) z0 z1 z2 (.bool false) (.slice none 0 0) (.slice none 0 0)
    have hEE : Ext w w1 := by (repeat (first | exact ext_refl _ | assumption | refine ext_setCell ?_ (by simp; try omega) _ | refine ext_alloc ?_ _ | refine ext_drew ?_ | refine ext_drewN ?_ _ | refine ext_trans ?_ (Aft.use _) | refine ext_trans ?_ (by assumption)))
    refine bodyPost_ret (v := .tuple #[ratV false none 0 0 none 0 0, .int .i64 _, .int .i64 12]) ?h rfl ⟨rfl, ext_set3 hEE (Nat.le_refl _) _ _ _⟩
    case h => simp [results, Tryz.results10, go_sem, q0, q1, q2]
  · by_cases hx0 : 0 < l.length
    · have hc0 : ¬ l[0].toNat = 45 := by
        cases l with
        | nil => simp at hx0
        | cons c r => simp at hc ⊢; intro e; exact hc (UInt8.toNat_inj.1 e)
      have hc1 : ((l[0].toNat : Int) == 45) = false := by rw [beq_eq_false_iff_ne]; omega
      have hc2 : ¬ (l[0].toNat : Int) = 45 := by omega
      clear hc
      go_enter Tryz.func10, Tryz.ntmps10
      go_wp2_with (first
        | (go_at_call 48; (with_reducible refine (kD1 _).mono ?_); rintro e w1 ⟨rfl, xb1⟩; obtain ⟨xc1, xf1, xl1, xz1⟩ := ext_use xb1; (try simp at xz1); obtain ⟨l1_0, gc, gf⟩ := kp xb1 (w.heap.size) (by first | omega | (simp; try omega)); have r1_0 := gc 0; have f1_0 := gf 0; have r1_0_1 := gc 1; have f1_0_1 := gf 1; have r1_0_2 := gc 2; have f1_0_2 := gf 2; clear gc gf)
       )
      have z0 : w1.cell? ⟨w.heap.size, 0, none⟩ = some (.bool false) := by simp [go_sem, *]
      have z1 : w1.cell? ⟨w.heap.size, 1, none⟩ = some (.slice none 0 0) := by simp [go_sem, *]
      have z2 : w1.cell? ⟨w.heap.size, 2, none⟩ = some (.slice none 0 0) := by simp [go_sem, *]
      obtain ⟨q0, q1, q2⟩ := set3 (b := w.heap.size) z0 z1 z2 (.bool false) (.slice none 0 0) (.slice none 0 0)
      have hEE : Ext w w1 := by (repeat (first | exact ext_refl _ | assumption | refine ext_setCell ?_ (by simp; try omega) _ | refine ext_alloc ?_ _ | refine ext_drew ?_ | refine ext_drewN ?_ _ | refine ext_trans ?_ (Aft.use _) | refine ext_trans ?_ (by assumption)))
      refine bodyPost_ret (v := .tuple #[ratV false none 0 0 none 0 0, .int .i64 _, .int .i64 12]) ?h rfl ⟨rfl, ext_set3 hEE (Nat.le_refl _) _ _ _⟩
      case h => simp [results, Tryz.results10, go_sem, q0, q1, q2]
    · have hx1 : decide ((0 : Int) < (l.length : Int)) = false := decide_eq_false (by omega)
      clear hc
      go_enter Tryz.func10, Tryz.ntmps10
      go_wp2_with (first
        | (go_at_call 48; (with_reducible refine (kD1 _).mono ?_); rintro e w1 ⟨rfl, xb1⟩; obtain ⟨xc1, xf1, xl1, xz1⟩ := ext_use xb1; (try simp at xz1); obtain ⟨l1_0, gc, gf⟩ := kp xb1 (w.heap.size) (by first | omega | (simp; try omega)); have r1_0 := gc 0; have f1_0 := gf 0; have r1_0_1 := gc 1; have f1_0_1 := gf 1; have r1_0_2 := gc 2; have f1_0_2 := gf 2; clear gc gf)
       )
      have z0 : w1.cell? ⟨w.heap.size, 0, none⟩ = some (.bool false) := by simp [go_sem, *]
      have z1 : w1.cell? ⟨w.heap.size, 1, none⟩ = some (.slice none 0 0) := by simp [go_sem, *]
      have z2 : w1.cell? ⟨w.heap.size, 2, none⟩ = some (.slice none 0 0) := by simp [go_sem, *]
      obtain ⟨q0, q1, q2⟩ := set3 (b := w.heap.size) z0 z1 z2 (.bool false) (.slice none 0 0) (.slice none 0 0)
      have hEE : Ext w w1 := by (repeat (first | exact ext_refl _ | assumption | refine ext_setCell ?_ (by simp; try omega) _ | refine ext_alloc ?_ _ | refine ext_drew ?_ | refine ext_drewN ?_ _ | refine ext_trans ?_ (Aft.use _) | refine ext_trans ?_ (by assumption)))
      refine bodyPost_ret (v := .tuple #[ratV false none 0 0 none 0 0, .int .i64 _, .int .i64 12]) ?h rfl ⟨rfl, ext_set3 hEE (Nat.le_refl _) _ _ _⟩
      case h => simp [results, Tryz.results10, go_sem, q0, q1, q2]
end Go.Proofs.YtchbefambnhjjaaGreatDoor.NB
end
section
/- The document's fractions out of texts, case by case (written by mkd2p.py). -/
namespace Go.Proofs.YtchbefambnhjjaaGreatDoor.NB
open Go.RowKit
attribute [local go_sem] bs_size bs_extract bs_get bs_append bs_toList const_get
attribute [local go_sem] sz2 sz3 sz4 sz5 sz6 sz7 sz8
set_option maxHeartbeats 4000000
set_option maxRecDepth 100000
attribute [local irreducible] Calls
theorem rd_Parse_other (s : Bool) (l u D : List UInt8) (ei : Int) (i0 i1 : Nat) (hl : l.length ≤ 65536) (hh : Hd l ei i0) (hu : l.drop i0 = u) (hi : u.length + i0 = l.length) (hD : u.takeWhile isD = D) (hi1 : i0 + D.length = i1) (ht : l.take i1 = if s then 45 :: D else D) (h0 : 0 < D.length) (hx : i1 < l.length) (hv : l[i1] ≠ 47) (w : World) (hT : Tz w) :
    Calls Tryz.prog 10 #[.string (bs l)] w (DNo w (i1 : Int) 12) := by
  have hDl : D.length ≤ u.length := by rw [← hD]; exact (tw_run isD u).2.2
  have hi0 : i0 ≤ l.length := by omega
  have hil : i1 ≤ l.length := by omega
  have hDb : digsB D = true := by rw [← hD]; exact take_dig u
  have kD1 : ∀ w', Calls Tryz.prog 48 #[.string (bs l), .int .i64 ei] w' fun e w'' => e = .returned (.int .i64 (i1 : Int)) ∧ Ext w' w'' := fun w' => by have := rd_digits l i0 i1 hi0 (by omega) (by rw [hu, hD]; exact hi1) w'; rwa [hh.1]
  have hne : (((i1 : Nat) : Int) == ei) = false := by rw [beq_eq_false_iff_ne]; rw [hh.1]; omega
  have hne2 : ¬ ((i1 : Nat) : Int) = ei := by rw [hh.1]; omega
  have kS1 := op_SetString s D hDb h0 (by omega) (l.take i1) ht
  clear ht
  have hlt : decide (((i1 : Nat) : Int) < ((l.length : Nat) : Int)) = true := decide_eq_true (by omega)
  have hlt2 : ((i1 : Nat) : Int) < ((l.length : Nat) : Int) := by omega
  have hv0 : ¬ l[i1].toNat = 47 := fun e => hv (UInt8.toNat_inj.1 e)
  have hv1 : ((l[i1].toNat : Int) == 47) = false := by rw [beq_eq_false_iff_ne]; omega
  have hv2 : ¬ (l[i1].toNat : Int) = 47 := by omega
  clear hv
  obtain ⟨hei, hh⟩ := hh
  clear hei hu hi hD hDb hi1 hDl
  rcases hh with ⟨rfl, hx0, hc⟩ | ⟨rfl, hc⟩
  · have hc0 : l[0].toNat = 45 := by cases l with | nil => simp at hx0 | cons c r => simp at hc; subst hc; rfl
    have hc1 : ((l[0].toNat : Int) == 45) = true := by rw [hc0]; rfl
    clear hc
    go_enter Tryz.func10, Tryz.ntmps10
    go_upto_region 9 with (first
      | (go_at_call 48; (with_reducible refine (kD1 _).mono ?_); rintro e w1 ⟨rfl, xb1⟩; obtain ⟨xc1, xf1, xl1, xz1⟩ := ext_use xb1; (try simp at xz1); obtain ⟨l1_0, gc, gf⟩ := kp xb1 (w.heap.size) (by first | omega | (simp; try omega)); have r1_0 := gc 0; have f1_0 := gf 0; have r1_0_1 := gc 1; have f1_0_1 := gf 1; have r1_0_2 := gc 2; have f1_0_2 := gf 2; clear gc gf)
     )
    go_upto_region 11 with (first
      | (go_at_call 49; (with_reducible refine (kS1 w1).mono ?_); rintro e w2 ⟨A2, n2, c2, rfl, hI2, xb2⟩; obtain ⟨xc2, xf2, xl2, xz2⟩ := ext_use xb2; (try simp at xz2); obtain ⟨l2_0, gc, gf⟩ := kp xb2 (w.heap.size) (by first | omega | (simp; try omega)); have r2_0 := gc 0; have f2_0 := gf 0; have r2_0_1 := gc 1; have f2_0_1 := gf 1; have r2_0_2 := gc 2; have f2_0_2 := gf 2; clear gc gf)
      | (go_at_call 50; (with_reducible refine (op_One _).mono ?_); rintro e w3 ⟨b3, A3, n3, c3, rfl, hI3, xb3⟩; obtain ⟨xc3, xf3, xl3, xz3⟩ := ext_use xb3; (try simp at xz3); obtain ⟨l3_0, gc, gf⟩ := kp xb3 (w.heap.size) (by first | omega | (simp; try omega)); have r3_0 := gc 0; have f3_0 := gf 0; have r3_0_1 := gc 1; have f3_0_1 := gf 1; have r3_0_2 := gc 2; have f3_0_2 := gf 2; clear gc gf)
     )
    go_wp2
    have z0 : w3.cell? ⟨w.heap.size, 0, none⟩ = some (.bool false) := by simp [go_sem, *]
    have z1 : w3.cell? ⟨w.heap.size, 1, none⟩ = some (.slice none 0 0) := by simp [go_sem, *]
    have z2 : w3.cell? ⟨w.heap.size, 2, none⟩ = some (.slice none 0 0) := by simp [go_sem, *]
    obtain ⟨q0, q1, q2⟩ := set3 (b := w.heap.size) z0 z1 z2 (.bool false) (.slice none 0 0) (.slice none 0 0)
    have hEE : Ext w w3 := by (repeat (first | exact ext_refl _ | assumption | refine ext_setCell ?_ (by simp; try omega) _ | refine ext_alloc ?_ _ | refine ext_drew ?_ | refine ext_drewN ?_ _ | refine ext_trans ?_ (Aft.use _) | refine ext_trans ?_ (by assumption)))
    refine bodyPost_ret (v := .tuple #[ratV false none 0 0 none 0 0, .int .i64 ↑i1, .int .i64 12]) ?h rfl ⟨rfl, ext_set3 hEE (Nat.le_refl _) _ _ _⟩
    case h => simp [results, Tryz.results10, go_sem, q0, q1, q2]
  · have hx0 : 0 < l.length := by omega
    have hc0 : ¬ l[0].toNat = 45 := by
      cases l with
      | nil => simp at hx0
      | cons c r => simp at hc ⊢; intro e; exact hc (UInt8.toNat_inj.1 e)
    have hc1 : ((l[0].toNat : Int) == 45) = false := by rw [beq_eq_false_iff_ne]; omega
    have hc2 : ¬ (l[0].toNat : Int) = 45 := by omega
    clear hc
    go_enter Tryz.func10, Tryz.ntmps10
    go_upto_region 9 with (first
      | (go_at_call 48; (with_reducible refine (kD1 _).mono ?_); rintro e w1 ⟨rfl, xb1⟩; obtain ⟨xc1, xf1, xl1, xz1⟩ := ext_use xb1; (try simp at xz1); obtain ⟨l1_0, gc, gf⟩ := kp xb1 (w.heap.size) (by first | omega | (simp; try omega)); have r1_0 := gc 0; have f1_0 := gf 0; have r1_0_1 := gc 1; have f1_0_1 := gf 1; have r1_0_2 := gc 2; have f1_0_2 := gf 2; clear gc gf)
     )
    go_upto_region 11 with (first
      | (go_at_call 49; (with_reducible refine (kS1 w1).mono ?_); rintro e w2 ⟨A2, n2, c2, rfl, hI2, xb2⟩; obtain ⟨xc2, xf2, xl2, xz2⟩ := ext_use xb2; (try simp at xz2); obtain ⟨l2_0, gc, gf⟩ := kp xb2 (w.heap.size) (by first | omega | (simp; try omega)); have r2_0 := gc 0; have f2_0 := gf 0; have r2_0_1 := gc 1; have f2_0_1 := gf 1; have r2_0_2 := gc 2; have f2_0_2 := gf 2; clear gc gf)
      | (go_at_call 50; (with_reducible refine (op_One _).mono ?_); rintro e w3 ⟨b3, A3, n3, c3, rfl, hI3, xb3⟩; obtain ⟨xc3, xf3, xl3, xz3⟩ := ext_use xb3; (try simp at xz3); obtain ⟨l3_0, gc, gf⟩ := kp xb3 (w.heap.size) (by first | omega | (simp; try omega)); have r3_0 := gc 0; have f3_0 := gf 0; have r3_0_1 := gc 1; have f3_0_1 := gf 1; have r3_0_2 := gc 2; have f3_0_2 := gf 2; clear gc gf)
     )
    go_wp2
    have z0 : w3.cell? ⟨w.heap.size, 0, none⟩ = some (.bool false) := by simp [go_sem, *]
    have z1 : w3.cell? ⟨w.heap.size, 1, none⟩ = some (.slice none 0 0) := by simp [go_sem, *]
    have z2 : w3.cell? ⟨w.heap.size, 2, none⟩ = some (.slice none 0 0) := by simp [go_sem, *]
    obtain ⟨q0, q1, q2⟩ := set3 (b := w.heap.size) z0 z1 z2 (.bool false) (.slice none 0 0) (.slice none 0 0)
    have hEE : Ext w w3 := by (repeat (first | exact ext_refl _ | assumption | refine ext_setCell ?_ (by simp; try omega) _ | refine ext_alloc ?_ _ | refine ext_drew ?_ | refine ext_drewN ?_ _ | refine ext_trans ?_ (Aft.use _) | refine ext_trans ?_ (by assumption)))
    refine bodyPost_ret (v := .tuple #[ratV false none 0 0 none 0 0, .int .i64 ↑i1, .int .i64 12]) ?h rfl ⟨rfl, ext_set3 hEE (Nat.le_refl _) _ _ _⟩
    case h => simp [results, Tryz.results10, go_sem, q0, q1, q2]
end Go.Proofs.YtchbefambnhjjaaGreatDoor.NB
end
section
/- The document's fractions out of texts, case by case (written by mkd2p.py). -/
namespace Go.Proofs.YtchbefambnhjjaaGreatDoor.NB
open Go.RowKit
attribute [local go_sem] bs_size bs_extract bs_get bs_append bs_toList const_get
attribute [local go_sem] sz2 sz3 sz4 sz5 sz6 sz7 sz8
set_option maxHeartbeats 4000000
set_option maxRecDepth 100000
attribute [local irreducible] Calls
theorem rd_Parse_bare (s : Bool) (l u D : List UInt8) (ei : Int) (i0 i1 : Nat) (hl : l.length ≤ 65536) (hh : Hd l ei i0) (hu : l.drop i0 = u) (hi : u.length + i0 = l.length) (hD : u.takeWhile isD = D) (hi1 : i0 + D.length = i1) (ht : l.take i1 = if s then 45 :: D else D) (h0 : 0 < D.length)
    (E : List UInt8) (i2 i3 k : Nat) (hx : i1 < l.length) (hv : l[i1] = 47) (hi2 : i1 + 1 = i2) (hdE : l.drop i2 = E) (hk : (E.takeWhile isD).length = k) (hi3 : i2 + k = i3) (hk0 : k = 0) (w : World) (hT : Tz w) :
    Calls Tryz.prog 10 #[.string (bs l)] w (DNo w (i3 : Int) 12) := by
  have hDl : D.length ≤ u.length := by rw [← hD]; exact (tw_run isD u).2.2
  have hi0 : i0 ≤ l.length := by omega
  have hil : i1 ≤ l.length := by omega
  have hDb : digsB D = true := by rw [← hD]; exact take_dig u
  have kD1 : ∀ w', Calls Tryz.prog 48 #[.string (bs l), .int .i64 ei] w' fun e w'' => e = .returned (.int .i64 (i1 : Int)) ∧ Ext w' w'' := fun w' => by have := rd_digits l i0 i1 hi0 (by omega) (by rw [hu, hD]; exact hi1) w'; rwa [hh.1]
  have hne : (((i1 : Nat) : Int) == ei) = false := by rw [beq_eq_false_iff_ne]; rw [hh.1]; omega
  have hne2 : ¬ ((i1 : Nat) : Int) = ei := by rw [hh.1]; omega
  have kS1 := op_SetString s D hDb h0 (by omega) (l.take i1) ht
  clear ht
  have hlt : decide (((i1 : Nat) : Int) < ((l.length : Nat) : Int)) = true := decide_eq_true (by omega)
  have hlt2 : ((i1 : Nat) : Int) < ((l.length : Nat) : Int) := by omega
  have hv0 : l[i1].toNat = 47 := by rw [hv]; rfl
  have hv1 : ((l[i1].toNat : Int) == 47) = true := by rw [hv0]; rfl
  have e2 : ((i1 : Nat) : Int) + 1 = ((i2 : Nat) : Int) := by omega
  have hEl : E.length + i2 = l.length := by rw [← hdE, List.length_drop]; omega
  have hkl : k ≤ E.length := by rw [← hk]; exact (tw_run isD E).2.2
  have hi2l : i2 ≤ l.length := by omega
  have kD2 : ∀ w', Calls Tryz.prog 48 #[.string (bs l), .int .i64 (i2 : Int)] w' fun e w'' => e = .returned (.int .i64 (i3 : Int)) ∧ Ext w' w'' := fun w' => rd_digits l i2 i3 hi2l (by omega) (by rw [hdE, hk]; exact hi3) w'
  clear hv
  have hq : (((i3 : Nat) : Int) == ((i2 : Nat) : Int)) = true := by rw [beq_iff_eq]; omega
  have hq2 : ((i3 : Nat) : Int) = ((i2 : Nat) : Int) := by omega
  clear hdE hk
  obtain ⟨hei, hh⟩ := hh
  clear hei hu hi hD hDb hi1 hDl
  rcases hh with ⟨rfl, hx0, hc⟩ | ⟨rfl, hc⟩
  · have hc0 : l[0].toNat = 45 := by cases l with | nil => simp at hx0 | cons c r => simp at hc; subst hc; rfl
    have hc1 : ((l[0].toNat : Int) == 45) = true := by rw [hc0]; rfl
    clear hc
    go_enter Tryz.func10, Tryz.ntmps10
    go_upto_region 9 with (first
      | (go_at_call 48; (with_reducible refine (kD1 _).mono ?_); rintro e w1 ⟨rfl, xb1⟩; obtain ⟨xc1, xf1, xl1, xz1⟩ := ext_use xb1; (try simp at xz1); obtain ⟨l1_0, gc, gf⟩ := kp xb1 (w.heap.size) (by first | omega | (simp; try omega)); have r1_0 := gc 0; have f1_0 := gf 0; have r1_0_1 := gc 1; have f1_0_1 := gf 1; have r1_0_2 := gc 2; have f1_0_2 := gf 2; clear gc gf)
     )
    go_upto_region 11 with (first
      | (go_at_call 49; (with_reducible refine (kS1 w1).mono ?_); rintro e w2 ⟨A2, n2, c2, rfl, hI2, xb2⟩; obtain ⟨xc2, xf2, xl2, xz2⟩ := ext_use xb2; (try simp at xz2); obtain ⟨l2_0, gc, gf⟩ := kp xb2 (w.heap.size) (by first | omega | (simp; try omega)); have r2_0 := gc 0; have f2_0 := gf 0; have r2_0_1 := gc 1; have f2_0_1 := gf 1; have r2_0_2 := gc 2; have f2_0_2 := gf 2; clear gc gf)
      | (go_at_call 50; (with_reducible refine (op_One _).mono ?_); rintro e w3 ⟨b3, A3, n3, c3, rfl, hI3, xb3⟩; obtain ⟨xc3, xf3, xl3, xz3⟩ := ext_use xb3; (try simp at xz3); obtain ⟨l3_0, gc, gf⟩ := kp xb3 (w.heap.size) (by first | omega | (simp; try omega)); have r3_0 := gc 0; have f3_0 := gf 0; have r3_0_1 := gc 1; have f3_0_1 := gf 1; have r3_0_2 := gc 2; have f3_0_2 := gf 2; clear gc gf)
     )
    go_upto_region 16 with (first
      | (go_at_call 48; (with_reducible refine (kD2 _).mono ?_); rintro e w4 ⟨rfl, xb4⟩; obtain ⟨xc4, xf4, xl4, xz4⟩ := ext_use xb4; (try simp at xz4); obtain ⟨l4_0, gc, gf⟩ := kp xb4 (w.heap.size) (by first | omega | (simp; try omega)); have r4_0 := gc 0; have f4_0 := gf 0; have r4_0_1 := gc 1; have f4_0_1 := gf 1; have r4_0_2 := gc 2; have f4_0_2 := gf 2; clear gc gf)
     )
    go_wp2
    have z0 : w4.cell? ⟨w.heap.size, 0, none⟩ = some (.bool false) := by simp [go_sem, *]
    have z1 : w4.cell? ⟨w.heap.size, 1, none⟩ = some (.slice none 0 0) := by simp [go_sem, *]
    have z2 : w4.cell? ⟨w.heap.size, 2, none⟩ = some (.slice none 0 0) := by simp [go_sem, *]
    obtain ⟨q0, q1, q2⟩ := set3 (b := w.heap.size) z0 z1 z2 (.bool false) (.slice none 0 0) (.slice none 0 0)
    have hEE : Ext w w4 := by (repeat (first | exact ext_refl _ | assumption | refine ext_setCell ?_ (by simp; try omega) _ | refine ext_alloc ?_ _ | refine ext_drew ?_ | refine ext_drewN ?_ _ | refine ext_trans ?_ (Aft.use _) | refine ext_trans ?_ (by assumption)))
    refine bodyPost_ret (v := .tuple #[ratV false none 0 0 none 0 0, .int .i64 ↑i3, .int .i64 12]) ?h rfl ⟨rfl, ext_set3 hEE (Nat.le_refl _) _ _ _⟩
    case h => simp [results, Tryz.results10, go_sem, q0, q1, q2, hq2]
  · have hx0 : 0 < l.length := by omega
    have hc0 : ¬ l[0].toNat = 45 := by
      cases l with
      | nil => simp at hx0
      | cons c r => simp at hc ⊢; intro e; exact hc (UInt8.toNat_inj.1 e)
    have hc1 : ((l[0].toNat : Int) == 45) = false := by rw [beq_eq_false_iff_ne]; omega
    have hc2 : ¬ (l[0].toNat : Int) = 45 := by omega
    clear hc
    go_enter Tryz.func10, Tryz.ntmps10
    go_upto_region 9 with (first
      | (go_at_call 48; (with_reducible refine (kD1 _).mono ?_); rintro e w1 ⟨rfl, xb1⟩; obtain ⟨xc1, xf1, xl1, xz1⟩ := ext_use xb1; (try simp at xz1); obtain ⟨l1_0, gc, gf⟩ := kp xb1 (w.heap.size) (by first | omega | (simp; try omega)); have r1_0 := gc 0; have f1_0 := gf 0; have r1_0_1 := gc 1; have f1_0_1 := gf 1; have r1_0_2 := gc 2; have f1_0_2 := gf 2; clear gc gf)
     )
    go_upto_region 11 with (first
      | (go_at_call 49; (with_reducible refine (kS1 w1).mono ?_); rintro e w2 ⟨A2, n2, c2, rfl, hI2, xb2⟩; obtain ⟨xc2, xf2, xl2, xz2⟩ := ext_use xb2; (try simp at xz2); obtain ⟨l2_0, gc, gf⟩ := kp xb2 (w.heap.size) (by first | omega | (simp; try omega)); have r2_0 := gc 0; have f2_0 := gf 0; have r2_0_1 := gc 1; have f2_0_1 := gf 1; have r2_0_2 := gc 2; have f2_0_2 := gf 2; clear gc gf)
      | (go_at_call 50; (with_reducible refine (op_One _).mono ?_); rintro e w3 ⟨b3, A3, n3, c3, rfl, hI3, xb3⟩; obtain ⟨xc3, xf3, xl3, xz3⟩ := ext_use xb3; (try simp at xz3); obtain ⟨l3_0, gc, gf⟩ := kp xb3 (w.heap.size) (by first | omega | (simp; try omega)); have r3_0 := gc 0; have f3_0 := gf 0; have r3_0_1 := gc 1; have f3_0_1 := gf 1; have r3_0_2 := gc 2; have f3_0_2 := gf 2; clear gc gf)
     )
    go_upto_region 16 with (first
      | (go_at_call 48; (with_reducible refine (kD2 _).mono ?_); rintro e w4 ⟨rfl, xb4⟩; obtain ⟨xc4, xf4, xl4, xz4⟩ := ext_use xb4; (try simp at xz4); obtain ⟨l4_0, gc, gf⟩ := kp xb4 (w.heap.size) (by first | omega | (simp; try omega)); have r4_0 := gc 0; have f4_0 := gf 0; have r4_0_1 := gc 1; have f4_0_1 := gf 1; have r4_0_2 := gc 2; have f4_0_2 := gf 2; clear gc gf)
     )
    go_wp2
    have z0 : w4.cell? ⟨w.heap.size, 0, none⟩ = some (.bool false) := by simp [go_sem, *]
    have z1 : w4.cell? ⟨w.heap.size, 1, none⟩ = some (.slice none 0 0) := by simp [go_sem, *]
    have z2 : w4.cell? ⟨w.heap.size, 2, none⟩ = some (.slice none 0 0) := by simp [go_sem, *]
    obtain ⟨q0, q1, q2⟩ := set3 (b := w.heap.size) z0 z1 z2 (.bool false) (.slice none 0 0) (.slice none 0 0)
    have hEE : Ext w w4 := by (repeat (first | exact ext_refl _ | assumption | refine ext_setCell ?_ (by simp; try omega) _ | refine ext_alloc ?_ _ | refine ext_drew ?_ | refine ext_drewN ?_ _ | refine ext_trans ?_ (Aft.use _) | refine ext_trans ?_ (by assumption)))
    refine bodyPost_ret (v := .tuple #[ratV false none 0 0 none 0 0, .int .i64 ↑i3, .int .i64 12]) ?h rfl ⟨rfl, ext_set3 hEE (Nat.le_refl _) _ _ _⟩
    case h => simp [results, Tryz.results10, go_sem, q0, q1, q2, hq2]
end Go.Proofs.YtchbefambnhjjaaGreatDoor.NB
end
section
/- The document's fractions out of texts, case by case (written by mkd2p.py). -/
namespace Go.Proofs.YtchbefambnhjjaaGreatDoor.NB
open Go.RowKit
attribute [local go_sem] bs_size bs_extract bs_get bs_append bs_toList const_get
attribute [local go_sem] sz2 sz3 sz4 sz5 sz6 sz7 sz8
set_option maxHeartbeats 4000000
set_option maxRecDepth 100000
attribute [local irreducible] Calls
theorem rd_Parse_more (s : Bool) (l u D : List UInt8) (ei : Int) (i0 i1 : Nat) (hl : l.length ≤ 65536) (hh : Hd l ei i0) (hu : l.drop i0 = u) (hi : u.length + i0 = l.length) (hD : u.takeWhile isD = D) (hi1 : i0 + D.length = i1) (ht : l.take i1 = if s then 45 :: D else D) (h0 : 0 < D.length)
    (E : List UInt8) (i2 i3 k : Nat) (hx : i1 < l.length) (hv : l[i1] = 47) (hi2 : i1 + 1 = i2) (hdE : l.drop i2 = E) (hk : (E.takeWhile isD).length = k) (hi3 : i2 + k = i3) (hk0 : 0 < k) (h3 : i3 < l.length) (w : World) (hT : Tz w) :
    Calls Tryz.prog 10 #[.string (bs l)] w (DNo w (i3 : Int) 12) := by
  have hDl : D.length ≤ u.length := by rw [← hD]; exact (tw_run isD u).2.2
  have hi0 : i0 ≤ l.length := by omega
  have hil : i1 ≤ l.length := by omega
  have hDb : digsB D = true := by rw [← hD]; exact take_dig u
  have kD1 : ∀ w', Calls Tryz.prog 48 #[.string (bs l), .int .i64 ei] w' fun e w'' => e = .returned (.int .i64 (i1 : Int)) ∧ Ext w' w'' := fun w' => by have := rd_digits l i0 i1 hi0 (by omega) (by rw [hu, hD]; exact hi1) w'; rwa [hh.1]
  have hne : (((i1 : Nat) : Int) == ei) = false := by rw [beq_eq_false_iff_ne]; rw [hh.1]; omega
  have hne2 : ¬ ((i1 : Nat) : Int) = ei := by rw [hh.1]; omega
  have kS1 := op_SetString s D hDb h0 (by omega) (l.take i1) ht
  clear ht
  have hlt : decide (((i1 : Nat) : Int) < ((l.length : Nat) : Int)) = true := decide_eq_true (by omega)
  have hlt2 : ((i1 : Nat) : Int) < ((l.length : Nat) : Int) := by omega
  have hv0 : l[i1].toNat = 47 := by rw [hv]; rfl
  have hv1 : ((l[i1].toNat : Int) == 47) = true := by rw [hv0]; rfl
  have e2 : ((i1 : Nat) : Int) + 1 = ((i2 : Nat) : Int) := by omega
  have hEl : E.length + i2 = l.length := by rw [← hdE, List.length_drop]; omega
  have hkl : k ≤ E.length := by rw [← hk]; exact (tw_run isD E).2.2
  have hi2l : i2 ≤ l.length := by omega
  have kD2 : ∀ w', Calls Tryz.prog 48 #[.string (bs l), .int .i64 (i2 : Int)] w' fun e w'' => e = .returned (.int .i64 (i3 : Int)) ∧ Ext w' w'' := fun w' => rd_digits l i2 i3 hi2l (by omega) (by rw [hdE, hk]; exact hi3) w'
  clear hv
  have hq : (((i3 : Nat) : Int) == ((i2 : Nat) : Int)) = false := by rw [beq_eq_false_iff_ne]; omega
  have hq2 : ¬ ((i3 : Nat) : Int) = ((i2 : Nat) : Int) := by omega
  have hr : decide (((i3 : Nat) : Int) < ((l.length : Nat) : Int)) = true := decide_eq_true (by omega)
  clear hdE hk
  obtain ⟨hei, hh⟩ := hh
  clear hei hu hi hD hDb hi1 hDl
  rcases hh with ⟨rfl, hx0, hc⟩ | ⟨rfl, hc⟩
  · have hc0 : l[0].toNat = 45 := by cases l with | nil => simp at hx0 | cons c r => simp at hc; subst hc; rfl
    have hc1 : ((l[0].toNat : Int) == 45) = true := by rw [hc0]; rfl
    clear hc
    go_enter Tryz.func10, Tryz.ntmps10
    go_upto_region 9 with (first
      | (go_at_call 48; (with_reducible refine (kD1 _).mono ?_); rintro e w1 ⟨rfl, xb1⟩; obtain ⟨xc1, xf1, xl1, xz1⟩ := ext_use xb1; (try simp at xz1); obtain ⟨l1_0, gc, gf⟩ := kp xb1 (w.heap.size) (by first | omega | (simp; try omega)); have r1_0 := gc 0; have f1_0 := gf 0; have r1_0_1 := gc 1; have f1_0_1 := gf 1; have r1_0_2 := gc 2; have f1_0_2 := gf 2; clear gc gf)
     )
    go_upto_region 11 with (first
      | (go_at_call 49; (with_reducible refine (kS1 w1).mono ?_); rintro e w2 ⟨A2, n2, c2, rfl, hI2, xb2⟩; obtain ⟨xc2, xf2, xl2, xz2⟩ := ext_use xb2; (try simp at xz2); obtain ⟨l2_0, gc, gf⟩ := kp xb2 (w.heap.size) (by first | omega | (simp; try omega)); have r2_0 := gc 0; have f2_0 := gf 0; have r2_0_1 := gc 1; have f2_0_1 := gf 1; have r2_0_2 := gc 2; have f2_0_2 := gf 2; clear gc gf)
      | (go_at_call 50; (with_reducible refine (op_One _).mono ?_); rintro e w3 ⟨b3, A3, n3, c3, rfl, hI3, xb3⟩; obtain ⟨xc3, xf3, xl3, xz3⟩ := ext_use xb3; (try simp at xz3); obtain ⟨l3_0, gc, gf⟩ := kp xb3 (w.heap.size) (by first | omega | (simp; try omega)); have r3_0 := gc 0; have f3_0 := gf 0; have r3_0_1 := gc 1; have f3_0_1 := gf 1; have r3_0_2 := gc 2; have f3_0_2 := gf 2; clear gc gf)
     )
    go_upto_region 16 with (first
      | (go_at_call 48; (with_reducible refine (kD2 _).mono ?_); rintro e w4 ⟨rfl, xb4⟩; obtain ⟨xc4, xf4, xl4, xz4⟩ := ext_use xb4; (try simp at xz4); obtain ⟨l4_0, gc, gf⟩ := kp xb4 (w.heap.size) (by first | omega | (simp; try omega)); have r4_0 := gc 0; have f4_0 := gf 0; have r4_0_1 := gc 1; have f4_0_1 := gf 1; have r4_0_2 := gc 2; have f4_0_2 := gf 2; clear gc gf)
     )
    go_wp2
    have z0 : w4.cell? ⟨w.heap.size, 0, none⟩ = some (.bool false) := by simp [go_sem, *]
    have z1 : w4.cell? ⟨w.heap.size, 1, none⟩ = some (.slice none 0 0) := by simp [go_sem, *]
    have z2 : w4.cell? ⟨w.heap.size, 2, none⟩ = some (.slice none 0 0) := by simp [go_sem, *]
    obtain ⟨q0, q1, q2⟩ := set3 (b := w.heap.size) z0 z1 z2 (.bool false) (.slice none 0 0) (.slice none 0 0)
    have hEE : Ext w w4 := by (repeat (first | exact ext_refl _ | assumption | refine ext_setCell ?_ (by simp; try omega) _ | refine ext_alloc ?_ _ | refine ext_drew ?_ | refine ext_drewN ?_ _ | refine ext_trans ?_ (Aft.use _) | refine ext_trans ?_ (by assumption)))
    refine bodyPost_ret (v := .tuple #[ratV false none 0 0 none 0 0, .int .i64 ↑i3, .int .i64 12]) ?h rfl ⟨rfl, ext_set3 hEE (Nat.le_refl _) _ _ _⟩
    case h => simp [results, Tryz.results10, go_sem, q0, q1, q2]
  · have hx0 : 0 < l.length := by omega
    have hc0 : ¬ l[0].toNat = 45 := by
      cases l with
      | nil => simp at hx0
      | cons c r => simp at hc ⊢; intro e; exact hc (UInt8.toNat_inj.1 e)
    have hc1 : ((l[0].toNat : Int) == 45) = false := by rw [beq_eq_false_iff_ne]; omega
    have hc2 : ¬ (l[0].toNat : Int) = 45 := by omega
    clear hc
    go_enter Tryz.func10, Tryz.ntmps10
    go_upto_region 9 with (first
      | (go_at_call 48; (with_reducible refine (kD1 _).mono ?_); rintro e w1 ⟨rfl, xb1⟩; obtain ⟨xc1, xf1, xl1, xz1⟩ := ext_use xb1; (try simp at xz1); obtain ⟨l1_0, gc, gf⟩ := kp xb1 (w.heap.size) (by first | omega | (simp; try omega)); have r1_0 := gc 0; have f1_0 := gf 0; have r1_0_1 := gc 1; have f1_0_1 := gf 1; have r1_0_2 := gc 2; have f1_0_2 := gf 2; clear gc gf)
     )
    go_upto_region 11 with (first
      | (go_at_call 49; (with_reducible refine (kS1 w1).mono ?_); rintro e w2 ⟨A2, n2, c2, rfl, hI2, xb2⟩; obtain ⟨xc2, xf2, xl2, xz2⟩ := ext_use xb2; (try simp at xz2); obtain ⟨l2_0, gc, gf⟩ := kp xb2 (w.heap.size) (by first | omega | (simp; try omega)); have r2_0 := gc 0; have f2_0 := gf 0; have r2_0_1 := gc 1; have f2_0_1 := gf 1; have r2_0_2 := gc 2; have f2_0_2 := gf 2; clear gc gf)
      | (go_at_call 50; (with_reducible refine (op_One _).mono ?_); rintro e w3 ⟨b3, A3, n3, c3, rfl, hI3, xb3⟩; obtain ⟨xc3, xf3, xl3, xz3⟩ := ext_use xb3; (try simp at xz3); obtain ⟨l3_0, gc, gf⟩ := kp xb3 (w.heap.size) (by first | omega | (simp; try omega)); have r3_0 := gc 0; have f3_0 := gf 0; have r3_0_1 := gc 1; have f3_0_1 := gf 1; have r3_0_2 := gc 2; have f3_0_2 := gf 2; clear gc gf)
     )
    go_upto_region 16 with (first
      | (go_at_call 48; (with_reducible refine (kD2 _).mono ?_); rintro e w4 ⟨rfl, xb4⟩; obtain ⟨xc4, xf4, xl4, xz4⟩ := ext_use xb4; (try simp at xz4); obtain ⟨l4_0, gc, gf⟩ := kp xb4 (w.heap.size) (by first | omega | (simp; try omega)); have r4_0 := gc 0; have f4_0 := gf 0; have r4_0_1 := gc 1; have f4_0_1 := gf 1; have r4_0_2 := gc 2; have f4_0_2 := gf 2; clear gc gf)
     )
    go_wp2
    have z0 : w4.cell? ⟨w.heap.size, 0, none⟩ = some (.bool false) := by simp [go_sem, *]
    have z1 : w4.cell? ⟨w.heap.size, 1, none⟩ = some (.slice none 0 0) := by simp [go_sem, *]
    have z2 : w4.cell? ⟨w.heap.size, 2, none⟩ = some (.slice none 0 0) := by simp [go_sem, *]
    obtain ⟨q0, q1, q2⟩ := set3 (b := w.heap.size) z0 z1 z2 (.bool false) (.slice none 0 0) (.slice none 0 0)
    have hEE : Ext w w4 := by (repeat (first | exact ext_refl _ | assumption | refine ext_setCell ?_ (by simp; try omega) _ | refine ext_alloc ?_ _ | refine ext_drew ?_ | refine ext_drewN ?_ _ | refine ext_trans ?_ (Aft.use _) | refine ext_trans ?_ (by assumption)))
    refine bodyPost_ret (v := .tuple #[ratV false none 0 0 none 0 0, .int .i64 ↑i3, .int .i64 12]) ?h rfl ⟨rfl, ext_set3 hEE (Nat.le_refl _) _ _ _⟩
    case h => simp [results, Tryz.results10, go_sem, q0, q1, q2]
end Go.Proofs.YtchbefambnhjjaaGreatDoor.NB
end
section
/- The document's fractions out of texts, case by case (written by mkd2p.py). -/
namespace Go.Proofs.YtchbefambnhjjaaGreatDoor.NB
open Go.RowKit
attribute [local go_sem] bs_size bs_extract bs_get bs_append bs_toList const_get
attribute [local go_sem] sz2 sz3 sz4 sz5 sz6 sz7 sz8
set_option maxHeartbeats 4000000
set_option maxRecDepth 100000
attribute [local irreducible] Calls
theorem rd_Parse_nought (s : Bool) (l u D : List UInt8) (ei : Int) (i0 i1 : Nat) (hl : l.length ≤ 65536) (hh : Hd l ei i0) (hu : l.drop i0 = u) (hi : u.length + i0 = l.length) (hD : u.takeWhile isD = D) (hi1 : i0 + D.length = i1) (ht : l.take i1 = if s then 45 :: D else D) (h0 : 0 < D.length)
    (E : List UInt8) (i2 i3 k : Nat) (hx : i1 < l.length) (hv : l[i1] = 47) (hi2 : i1 + 1 = i2) (hdE : l.drop i2 = E) (hk : (E.takeWhile isD).length = k) (hi3 : i2 + k = i3) (hk0 : k = E.length) (h3 : 0 < k) (hz : dval E = 0) (w : World) (hT : Tz w) :
    Calls Tryz.prog 10 #[.string (bs l)] w (DNo w (i2 : Int) 11) := by
  have hDl : D.length ≤ u.length := by rw [← hD]; exact (tw_run isD u).2.2
  have hi0 : i0 ≤ l.length := by omega
  have hil : i1 ≤ l.length := by omega
  have hDb : digsB D = true := by rw [← hD]; exact take_dig u
  have kD1 : ∀ w', Calls Tryz.prog 48 #[.string (bs l), .int .i64 ei] w' fun e w'' => e = .returned (.int .i64 (i1 : Int)) ∧ Ext w' w'' := fun w' => by have := rd_digits l i0 i1 hi0 (by omega) (by rw [hu, hD]; exact hi1) w'; rwa [hh.1]
  have hne : (((i1 : Nat) : Int) == ei) = false := by rw [beq_eq_false_iff_ne]; rw [hh.1]; omega
  have hne2 : ¬ ((i1 : Nat) : Int) = ei := by rw [hh.1]; omega
  have kS1 := op_SetString s D hDb h0 (by omega) (l.take i1) ht
  clear ht
  have hlt : decide (((i1 : Nat) : Int) < ((l.length : Nat) : Int)) = true := decide_eq_true (by omega)
  have hlt2 : ((i1 : Nat) : Int) < ((l.length : Nat) : Int) := by omega
  have hv0 : l[i1].toNat = 47 := by rw [hv]; rfl
  have hv1 : ((l[i1].toNat : Int) == 47) = true := by rw [hv0]; rfl
  have e2 : ((i1 : Nat) : Int) + 1 = ((i2 : Nat) : Int) := by omega
  have hEl : E.length + i2 = l.length := by rw [← hdE, List.length_drop]; omega
  have hkl : k ≤ E.length := by rw [← hk]; exact (tw_run isD E).2.2
  have hi2l : i2 ≤ l.length := by omega
  have kD2 : ∀ w', Calls Tryz.prog 48 #[.string (bs l), .int .i64 (i2 : Int)] w' fun e w'' => e = .returned (.int .i64 (i3 : Int)) ∧ Ext w' w'' := fun w' => rd_digits l i2 i3 hi2l (by omega) (by rw [hdE, hk]; exact hi3) w'
  clear hv
  have hq : (((i3 : Nat) : Int) == ((i2 : Nat) : Int)) = false := by rw [beq_eq_false_iff_ne]; omega
  have hq2 : ¬ ((i3 : Nat) : Int) = ((i2 : Nat) : Int) := by omega
  have hr : decide (((i3 : Nat) : Int) < ((l.length : Nat) : Int)) = false := decide_eq_false (by omega)
  have hr2 : ¬ ((i3 : Nat) : Int) < ((l.length : Nat) : Int) := by omega
  have hEb : digsB E = true := by have h1 := (tw_run isD E).1; unfold digsB; rw [List.all_eq_true]; intro c hc; obtain ⟨j, hj, rfl⟩ := List.getElem_of_mem hc; exact h1 j hj (by rw [hk]; omega)
  have kS2 := op_SetString false E hEb (by omega) (by omega) (l.drop i2) hdE
  have hzs : sgn false (dval E) = 0 := by rw [hz]; rfl
  rw [hzs] at kS2
  clear hdE hk hk0 hz
  obtain ⟨hei, hh⟩ := hh
  clear hei hu hi hD hDb hi1 hDl
  rcases hh with ⟨rfl, hx0, hc⟩ | ⟨rfl, hc⟩
  · have hc0 : l[0].toNat = 45 := by cases l with | nil => simp at hx0 | cons c r => simp at hc; subst hc; rfl
    have hc1 : ((l[0].toNat : Int) == 45) = true := by rw [hc0]; rfl
    clear hc
    go_enter Tryz.func10, Tryz.ntmps10
    go_upto_region 9 with (first
      | (go_at_call 48; (with_reducible refine (kD1 _).mono ?_); rintro e w1 ⟨rfl, xb1⟩; obtain ⟨xc1, xf1, xl1, xz1⟩ := ext_use xb1; (try simp at xz1); obtain ⟨l1_0, gc, gf⟩ := kp xb1 (w.heap.size) (by first | omega | (simp; try omega)); have r1_0 := gc 0; have f1_0 := gf 0; have r1_0_1 := gc 1; have f1_0_1 := gf 1; have r1_0_2 := gc 2; have f1_0_2 := gf 2; clear gc gf)
     )
    go_upto_region 11 with (first
      | (go_at_call 49; (with_reducible refine (kS1 w1).mono ?_); rintro e w2 ⟨A2, n2, c2, rfl, hI2, xb2⟩; obtain ⟨xc2, xf2, xl2, xz2⟩ := ext_use xb2; (try simp at xz2); obtain ⟨l2_0, gc, gf⟩ := kp xb2 (w.heap.size) (by first | omega | (simp; try omega)); have r2_0 := gc 0; have f2_0 := gf 0; have r2_0_1 := gc 1; have f2_0_1 := gf 1; have r2_0_2 := gc 2; have f2_0_2 := gf 2; clear gc gf)
      | (go_at_call 50; (with_reducible refine (op_One _).mono ?_); rintro e w3 ⟨b3, A3, n3, c3, rfl, hI3, xb3⟩; obtain ⟨xc3, xf3, xl3, xz3⟩ := ext_use xb3; (try simp at xz3); obtain ⟨l3_0, gc, gf⟩ := kp xb3 (w.heap.size) (by first | omega | (simp; try omega)); have r3_0 := gc 0; have f3_0 := gf 0; have r3_0_1 := gc 1; have f3_0_1 := gf 1; have r3_0_2 := gc 2; have f3_0_2 := gf 2; clear gc gf)
     )
    go_upto_region 16 with (first
      | (go_at_call 48; (with_reducible refine (kD2 _).mono ?_); rintro e w4 ⟨rfl, xb4⟩; obtain ⟨xc4, xf4, xl4, xz4⟩ := ext_use xb4; (try simp at xz4); obtain ⟨l4_0, gc, gf⟩ := kp xb4 (w.heap.size) (by first | omega | (simp; try omega)); have r4_0 := gc 0; have f4_0 := gf 0; have r4_0_1 := gc 1; have f4_0_1 := gf 1; have r4_0_2 := gc 2; have f4_0_2 := gf 2; clear gc gf)
     )
    go_upto_region 19 with (first
      | (go_at_call 49; (with_reducible refine (kS2 w4).mono ?_); rintro e w5 ⟨A5, n5, c5, rfl, hI5, xb5⟩; obtain ⟨xc5, xf5, xl5, xz5⟩ := ext_use xb5; (try simp at xz5); obtain ⟨l5_0, gc, gf⟩ := kp xb5 (w.heap.size) (by first | omega | (simp; try omega)); have r5_0 := gc 0; have f5_0 := gf 0; have r5_0_1 := gc 1; have f5_0_1 := gf 1; have r5_0_2 := gc 2; have f5_0_2 := gf 2; clear gc gf)
     )
    go_wp2_with (first
      | (go_at_call 51; (with_reducible refine (bi_Sign _ _ 0 _ _ _ _ hI5.out).mono ?_); rintro e w6 ⟨rfl, xb6⟩; obtain ⟨xc6, xf6, xl6, xz6⟩ := ext_use xb6; (try simp at xz6); obtain ⟨l6_0, gc, gf⟩ := kp xb6 (w.heap.size) (by first | omega | (simp; try omega)); have r6_0 := gc 0; have f6_0 := gf 0; have r6_0_1 := gc 1; have f6_0_1 := gf 1; have r6_0_2 := gc 2; have f6_0_2 := gf 2; clear gc gf)
     )
    have z0 : w6.cell? ⟨w.heap.size, 0, none⟩ = some (.bool false) := by simp [go_sem, *]
    have z1 : w6.cell? ⟨w.heap.size, 1, none⟩ = some (.slice none 0 0) := by simp [go_sem, *]
    have z2 : w6.cell? ⟨w.heap.size, 2, none⟩ = some (.slice none 0 0) := by simp [go_sem, *]
    obtain ⟨q0, q1, q2⟩ := set3 (b := w.heap.size) z0 z1 z2 (.bool false) (.slice none 0 0) (.slice none 0 0)
    have hEE : Ext w w6 := by (repeat (first | exact ext_refl _ | assumption | refine ext_setCell ?_ (by simp; try omega) _ | refine ext_alloc ?_ _ | refine ext_drew ?_ | refine ext_drewN ?_ _ | refine ext_trans ?_ (Aft.use _) | refine ext_trans ?_ (by assumption)))
    refine bodyPost_ret (v := .tuple #[ratV false none 0 0 none 0 0, .int .i64 ↑i2, .int .i64 11]) ?h rfl ⟨rfl, ext_set3 hEE (Nat.le_refl _) _ _ _⟩
    case h => simp [results, Tryz.results10, go_sem, q0, q1, q2]
  · have hx0 : 0 < l.length := by omega
    have hc0 : ¬ l[0].toNat = 45 := by
      cases l with
      | nil => simp at hx0
      | cons c r => simp at hc ⊢; intro e; exact hc (UInt8.toNat_inj.1 e)
    have hc1 : ((l[0].toNat : Int) == 45) = false := by rw [beq_eq_false_iff_ne]; omega
    have hc2 : ¬ (l[0].toNat : Int) = 45 := by omega
    clear hc
    go_enter Tryz.func10, Tryz.ntmps10
    go_upto_region 9 with (first
      | (go_at_call 48; (with_reducible refine (kD1 _).mono ?_); rintro e w1 ⟨rfl, xb1⟩; obtain ⟨xc1, xf1, xl1, xz1⟩ := ext_use xb1; (try simp at xz1); obtain ⟨l1_0, gc, gf⟩ := kp xb1 (w.heap.size) (by first | omega | (simp; try omega)); have r1_0 := gc 0; have f1_0 := gf 0; have r1_0_1 := gc 1; have f1_0_1 := gf 1; have r1_0_2 := gc 2; have f1_0_2 := gf 2; clear gc gf)
     )
    go_upto_region 11 with (first
      | (go_at_call 49; (with_reducible refine (kS1 w1).mono ?_); rintro e w2 ⟨A2, n2, c2, rfl, hI2, xb2⟩; obtain ⟨xc2, xf2, xl2, xz2⟩ := ext_use xb2; (try simp at xz2); obtain ⟨l2_0, gc, gf⟩ := kp xb2 (w.heap.size) (by first | omega | (simp; try omega)); have r2_0 := gc 0; have f2_0 := gf 0; have r2_0_1 := gc 1; have f2_0_1 := gf 1; have r2_0_2 := gc 2; have f2_0_2 := gf 2; clear gc gf)
      | (go_at_call 50; (with_reducible refine (op_One _).mono ?_); rintro e w3 ⟨b3, A3, n3, c3, rfl, hI3, xb3⟩; obtain ⟨xc3, xf3, xl3, xz3⟩ := ext_use xb3; (try simp at xz3); obtain ⟨l3_0, gc, gf⟩ := kp xb3 (w.heap.size) (by first | omega | (simp; try omega)); have r3_0 := gc 0; have f3_0 := gf 0; have r3_0_1 := gc 1; have f3_0_1 := gf 1; have r3_0_2 := gc 2; have f3_0_2 := gf 2; clear gc gf)
     )
    go_upto_region 16 with (first
      | (go_at_call 48; (with_reducible refine (kD2 _).mono ?_); rintro e w4 ⟨rfl, xb4⟩; obtain ⟨xc4, xf4, xl4, xz4⟩ := ext_use xb4; (try simp at xz4); obtain ⟨l4_0, gc, gf⟩ := kp xb4 (w.heap.size) (by first | omega | (simp; try omega)); have r4_0 := gc 0; have f4_0 := gf 0; have r4_0_1 := gc 1; have f4_0_1 := gf 1; have r4_0_2 := gc 2; have f4_0_2 := gf 2; clear gc gf)
     )
    go_upto_region 19 with (first
      | (go_at_call 49; (with_reducible refine (kS2 w4).mono ?_); rintro e w5 ⟨A5, n5, c5, rfl, hI5, xb5⟩; obtain ⟨xc5, xf5, xl5, xz5⟩ := ext_use xb5; (try simp at xz5); obtain ⟨l5_0, gc, gf⟩ := kp xb5 (w.heap.size) (by first | omega | (simp; try omega)); have r5_0 := gc 0; have f5_0 := gf 0; have r5_0_1 := gc 1; have f5_0_1 := gf 1; have r5_0_2 := gc 2; have f5_0_2 := gf 2; clear gc gf)
     )
    go_wp2_with (first
      | (go_at_call 51; (with_reducible refine (bi_Sign _ _ 0 _ _ _ _ hI5.out).mono ?_); rintro e w6 ⟨rfl, xb6⟩; obtain ⟨xc6, xf6, xl6, xz6⟩ := ext_use xb6; (try simp at xz6); obtain ⟨l6_0, gc, gf⟩ := kp xb6 (w.heap.size) (by first | omega | (simp; try omega)); have r6_0 := gc 0; have f6_0 := gf 0; have r6_0_1 := gc 1; have f6_0_1 := gf 1; have r6_0_2 := gc 2; have f6_0_2 := gf 2; clear gc gf)
     )
    have z0 : w6.cell? ⟨w.heap.size, 0, none⟩ = some (.bool false) := by simp [go_sem, *]
    have z1 : w6.cell? ⟨w.heap.size, 1, none⟩ = some (.slice none 0 0) := by simp [go_sem, *]
    have z2 : w6.cell? ⟨w.heap.size, 2, none⟩ = some (.slice none 0 0) := by simp [go_sem, *]
    obtain ⟨q0, q1, q2⟩ := set3 (b := w.heap.size) z0 z1 z2 (.bool false) (.slice none 0 0) (.slice none 0 0)
    have hEE : Ext w w6 := by (repeat (first | exact ext_refl _ | assumption | refine ext_setCell ?_ (by simp; try omega) _ | refine ext_alloc ?_ _ | refine ext_drew ?_ | refine ext_drewN ?_ _ | refine ext_trans ?_ (Aft.use _) | refine ext_trans ?_ (by assumption)))
    refine bodyPost_ret (v := .tuple #[ratV false none 0 0 none 0 0, .int .i64 ↑i2, .int .i64 11]) ?h rfl ⟨rfl, ext_set3 hEE (Nat.le_refl _) _ _ _⟩
    case h => simp [results, Tryz.results10, go_sem, q0, q1, q2]
end Go.Proofs.YtchbefambnhjjaaGreatDoor.NB
end
section
/- The document's fractions out of texts, case by case (written by mkd2p.py). -/
namespace Go.Proofs.YtchbefambnhjjaaGreatDoor.NB
open Go.RowKit
attribute [local go_sem] bs_size bs_extract bs_get bs_append bs_toList const_get
attribute [local go_sem] sz2 sz3 sz4 sz5 sz6 sz7 sz8
set_option maxHeartbeats 4000000
set_option maxRecDepth 100000
attribute [local irreducible] Calls
theorem rd_Parse_whole (s : Bool) (l u D : List UInt8) (ei : Int) (i0 i1 : Nat) (hl : l.length ≤ 65536) (hh : Hd l ei i0) (hu : l.drop i0 = u) (hi : u.length + i0 = l.length) (hD : u.takeWhile isD = D) (hi1 : i0 + D.length = i1) (ht : l.take i1 = if s then 45 :: D else D) (h0 : 0 < D.length) (hw : i1 = l.length) (w : World) (hT : Tz w) :
    Calls Tryz.prog 10 #[.string (bs l)] w (DYes w (canN (sgn s (dval D)) 1) (canD (sgn s (dval D)) 1)) := by
  have hDl : D.length ≤ u.length := by rw [← hD]; exact (tw_run isD u).2.2
  have hi0 : i0 ≤ l.length := by omega
  have hil : i1 ≤ l.length := by omega
  have hDb : digsB D = true := by rw [← hD]; exact take_dig u
  have kD1 : ∀ w', Calls Tryz.prog 48 #[.string (bs l), .int .i64 ei] w' fun e w'' => e = .returned (.int .i64 (i1 : Int)) ∧ Ext w' w'' := fun w' => by have := rd_digits l i0 i1 hi0 (by omega) (by rw [hu, hD]; exact hi1) w'; rwa [hh.1]
  have hne : (((i1 : Nat) : Int) == ei) = false := by rw [beq_eq_false_iff_ne]; rw [hh.1]; omega
  have hne2 : ¬ ((i1 : Nat) : Int) = ei := by rw [hh.1]; omega
  have kS1 := op_SetString s D hDb h0 (by omega) (l.take i1) ht
  clear ht
  have hlt : decide (((i1 : Nat) : Int) < ((l.length : Nat) : Int)) = false := decide_eq_false (by omega)
  have hlt2 : ¬ ((i1 : Nat) : Int) < ((l.length : Nat) : Int) := by omega
  have hd0 : (1 : Nat) ≠ 0 := by decide
  have l1 : (lim 1).length = 1 := by kernel_rfl
  have hld : (lim 1).length ≤ 400000 := by omega
  have hlz : (lim (sgn s (dval D)).natAbs).length ≤ 400000 := by rw [sgn_abs]; have := dval_small hDb (by omega : D.length ≤ 65536); omega
  have hff : Few 16384 (sgn s (dval D)) 1 := ⟨by rw [sgn_abs]; have := dval_small hDb (by omega : D.length ≤ 65536); omega, by omega⟩
  have HT := Lib.hid hT
  clear hT hw
  obtain ⟨hei, hh⟩ := hh
  clear hei hu hi hD hDb hi1 hDl
  rcases hh with ⟨rfl, hx0, hc⟩ | ⟨rfl, hc⟩
  · have hc0 : l[0].toNat = 45 := by cases l with | nil => simp at hx0 | cons c r => simp at hc; subst hc; rfl
    have hc1 : ((l[0].toNat : Int) == 45) = true := by rw [hc0]; rfl
    clear hc
    go_enter Tryz.func10, Tryz.ntmps10
    go_upto_region 9 with (first
      | (go_at_call 48; (with_reducible refine (kD1 _).mono ?_); rintro e w1 ⟨rfl, xb1⟩; obtain ⟨xc1, xf1, xl1, xz1⟩ := ext_use xb1; (try simp at xz1); obtain ⟨l1_0, gc, gf⟩ := kp xb1 (w.heap.size) (by first | omega | (simp; try omega)); have r1_0 := gc 0; have f1_0 := gf 0; have r1_0_1 := gc 1; have f1_0_1 := gf 1; have r1_0_2 := gc 2; have f1_0_2 := gf 2; clear gc gf)
     )
    go_upto_region 11 with (first
      | (go_at_call 49; (with_reducible refine (kS1 w1).mono ?_); rintro e w2 ⟨A2, n2, c2, rfl, hI2, xb2⟩; obtain ⟨xc2, xf2, xl2, xz2⟩ := ext_use xb2; (try simp at xz2); obtain ⟨l2_0, gc, gf⟩ := kp xb2 (w.heap.size) (by first | omega | (simp; try omega)); have r2_0 := gc 0; have f2_0 := gf 0; have r2_0_1 := gc 1; have f2_0_1 := gf 1; have r2_0_2 := gc 2; have f2_0_2 := gf 2; clear gc gf)
      | (go_at_call 50; (with_reducible refine (op_One _).mono ?_); rintro e w3 ⟨b3, A3, n3, c3, rfl, hI3, xb3⟩; obtain ⟨xc3, xf3, xl3, xz3⟩ := ext_use xb3; (try simp at xz3); obtain ⟨l3_0, gc, gf⟩ := kp xb3 (w.heap.size) (by first | omega | (simp; try omega)); have r3_0 := gc 0; have f3_0 := gf 0; have r3_0_1 := gc 1; have f3_0_1 := gf 1; have r3_0_2 := gc 2; have f3_0_2 := gf 2; clear gc gf)
     )
    have hI2' := Lib.hid (hI2.out.ext xb3)
    have hI2 := hI2'
    clear hI2'
    go_wp2_with (first
      | (go_at_call 53; (with_reducible refine (op_SetFrac _ _ hd0 hlz hld _ _ _ _ _ _ _ _ w3 (HT.out.ext (by (repeat (first | exact ext_refl _ | assumption | refine ext_setCell ?_ (by simp; try omega) _ | refine ext_alloc ?_ _ | refine ext_drew ?_ | refine ext_drewN ?_ _ | refine ext_trans ?_ (Aft.use _) | refine ext_trans ?_ (by assumption))))) hI2.out hI3.out).mono ?_); rintro e w7 ⟨A7, n7, c7, D7, m7, k7, rfl, hR7, xb7⟩; obtain ⟨xc7, xf7, xl7, xz7⟩ := ext_use xb7; (try simp at xz7); obtain ⟨l7_0, gc, gf⟩ := kp xb7 (w.heap.size) (by first | omega | (simp; try omega)); have r7_0 := gc 0; have f7_0 := gf 0; have r7_0_1 := gc 1; have f7_0_1 := gf 1; have r7_0_2 := gc 2; have f7_0_2 := gf 2; clear gc gf)
      | (go_at_call 52; (with_reducible refine (op_Of hd0 hff hR7.out).mono ?_); rintro e w8 ⟨F8, rfl, hR8, xb8⟩; obtain ⟨xc8, xf8, xl8, xz8⟩ := ext_use xb8; (try simp at xz8); obtain ⟨l8_0, gc, gf⟩ := kp xb8 (w.heap.size) (by first | omega | (simp; try omega)); have r8_0 := gc 0; have f8_0 := gf 0; have r8_0_1 := gc 1; have f8_0_1 := gf 1; have r8_0_2 := gc 2; have f8_0_2 := gf 2; clear gc gf)
     )
    have z0 : w8.cell? ⟨w.heap.size, 0, none⟩ = some (.bool false) := by simp [go_sem, *]
    have z1 : w8.cell? ⟨w.heap.size, 1, none⟩ = some (.slice none 0 0) := by simp [go_sem, *]
    have z2 : w8.cell? ⟨w.heap.size, 2, none⟩ = some (.slice none 0 0) := by simp [go_sem, *]
    have rl : w.heap.size < w8.heap.size := by assumption
    have hE : Ext w w8 := by (repeat (first | exact ext_refl _ | assumption | refine ext_setCell ?_ (by simp; try omega) _ | refine ext_alloc ?_ _ | refine ext_drew ?_ | refine ext_drewN ?_ _ | refine ext_trans ?_ (Aft.use _) | refine ext_trans ?_ (by assumption)))
    obtain ⟨q0, q1, q2⟩ := set3 (b := w.heap.size) z0 z1 z2 (.bool (decide (canN (sgn s (dval D)) 1 < 0))) (.slice F8.A F8.n F8.c) (.slice F8.D F8.m F8.k)
    have hal : Ext (((w8.setCell ⟨w.heap.size, 0, none⟩ (.bool (decide (canN (sgn s (dval D)) 1 < 0)))).setCell ⟨w.heap.size, 1, none⟩ (.slice F8.A F8.n F8.c)).setCell ⟨w.heap.size, 2, none⟩ (.slice F8.D F8.m F8.k)) ((((w8.setCell ⟨w.heap.size, 0, none⟩ (.bool (decide (canN (sgn s (dval D)) 1 < 0)))).setCell ⟨w.heap.size, 1, none⟩ (.slice F8.A F8.n F8.c)).setCell ⟨w.heap.size, 2, none⟩ (.slice F8.D F8.m F8.k)).alloc (Obj.cells #[(.bool (decide (canN (sgn s (dval D)) 1 < 0))), .slice F8.A F8.n F8.c, .slice F8.D F8.m F8.k] 32)) := ext_alloc (ext_refl _) _
    have rl' : w.heap.size < (((w8.setCell ⟨w.heap.size, 0, none⟩ (.bool (decide (canN (sgn s (dval D)) 1 < 0)))).setCell ⟨w.heap.size, 1, none⟩ (.slice F8.A F8.n F8.c)).setCell ⟨w.heap.size, 2, none⟩ (.slice F8.D F8.m F8.k)).heap.size := by simpa using rl
    have q0 := (Below.cell (p := ⟨w.heap.size, 0, none⟩) hal rl').trans q0
    have q1 := (Below.cell (p := ⟨w.heap.size, 1, none⟩) hal rl').trans q1
    have q2 := (Below.cell (p := ⟨w.heap.size, 2, none⟩) hal rl').trans q2
    have n5' : ∀ a, F8.A = some a → w.heap.size < a.block := fun a ha => by have := hR8.out.2.1 a ha; omega
    have n6' : ∀ a, F8.D = some a → w.heap.size < a.block := fun a ha => by have := hR8.out.2.2 a ha; omega
    refine bodyPost_ret (v := .tuple #[fV (decide (canN (sgn s (dval D)) 1 < 0)) F8, .int .i64 0, .int .i64 0]) ?h rfl ⟨F8, rfl, ⟨⟨(hR8.out.1.num.set3 n5' _ _ _).ext hal, (hR8.out.1.den.set3 n6' _ _ _).ext hal, hR8.out.1.d0, hR8.out.1.low⟩, fun a ha => Nat.le_of_lt (n5' a ha), fun a ha => Nat.le_of_lt (n6' a ha)⟩, ext_trans (ext_set3 hE (Nat.le_refl _) _ _ _) hal⟩
    case h => simp [results, Tryz.results10, go_sem, q0, q1, q2]
  · have hx0 : 0 < l.length := by omega
    have hc0 : ¬ l[0].toNat = 45 := by
      cases l with
      | nil => simp at hx0
      | cons c r => simp at hc ⊢; intro e; exact hc (UInt8.toNat_inj.1 e)
    have hc1 : ((l[0].toNat : Int) == 45) = false := by rw [beq_eq_false_iff_ne]; omega
    have hc2 : ¬ (l[0].toNat : Int) = 45 := by omega
    clear hc
    go_enter Tryz.func10, Tryz.ntmps10
    go_upto_region 9 with (first
      | (go_at_call 48; (with_reducible refine (kD1 _).mono ?_); rintro e w1 ⟨rfl, xb1⟩; obtain ⟨xc1, xf1, xl1, xz1⟩ := ext_use xb1; (try simp at xz1); obtain ⟨l1_0, gc, gf⟩ := kp xb1 (w.heap.size) (by first | omega | (simp; try omega)); have r1_0 := gc 0; have f1_0 := gf 0; have r1_0_1 := gc 1; have f1_0_1 := gf 1; have r1_0_2 := gc 2; have f1_0_2 := gf 2; clear gc gf)
     )
    go_upto_region 11 with (first
      | (go_at_call 49; (with_reducible refine (kS1 w1).mono ?_); rintro e w2 ⟨A2, n2, c2, rfl, hI2, xb2⟩; obtain ⟨xc2, xf2, xl2, xz2⟩ := ext_use xb2; (try simp at xz2); obtain ⟨l2_0, gc, gf⟩ := kp xb2 (w.heap.size) (by first | omega | (simp; try omega)); have r2_0 := gc 0; have f2_0 := gf 0; have r2_0_1 := gc 1; have f2_0_1 := gf 1; have r2_0_2 := gc 2; have f2_0_2 := gf 2; clear gc gf)
      | (go_at_call 50; (with_reducible refine (op_One _).mono ?_); rintro e w3 ⟨b3, A3, n3, c3, rfl, hI3, xb3⟩; obtain ⟨xc3, xf3, xl3, xz3⟩ := ext_use xb3; (try simp at xz3); obtain ⟨l3_0, gc, gf⟩ := kp xb3 (w.heap.size) (by first | omega | (simp; try omega)); have r3_0 := gc 0; have f3_0 := gf 0; have r3_0_1 := gc 1; have f3_0_1 := gf 1; have r3_0_2 := gc 2; have f3_0_2 := gf 2; clear gc gf)
     )
    have hI2' := Lib.hid (hI2.out.ext xb3)
    have hI2 := hI2'
    clear hI2'
    go_wp2_with (first
      | (go_at_call 53; (with_reducible refine (op_SetFrac _ _ hd0 hlz hld _ _ _ _ _ _ _ _ w3 (HT.out.ext (by (repeat (first | exact ext_refl _ | assumption | refine ext_setCell ?_ (by simp; try omega) _ | refine ext_alloc ?_ _ | refine ext_drew ?_ | refine ext_drewN ?_ _ | refine ext_trans ?_ (Aft.use _) | refine ext_trans ?_ (by assumption))))) hI2.out hI3.out).mono ?_); rintro e w7 ⟨A7, n7, c7, D7, m7, k7, rfl, hR7, xb7⟩; obtain ⟨xc7, xf7, xl7, xz7⟩ := ext_use xb7; (try simp at xz7); obtain ⟨l7_0, gc, gf⟩ := kp xb7 (w.heap.size) (by first | omega | (simp; try omega)); have r7_0 := gc 0; have f7_0 := gf 0; have r7_0_1 := gc 1; have f7_0_1 := gf 1; have r7_0_2 := gc 2; have f7_0_2 := gf 2; clear gc gf)
      | (go_at_call 52; (with_reducible refine (op_Of hd0 hff hR7.out).mono ?_); rintro e w8 ⟨F8, rfl, hR8, xb8⟩; obtain ⟨xc8, xf8, xl8, xz8⟩ := ext_use xb8; (try simp at xz8); obtain ⟨l8_0, gc, gf⟩ := kp xb8 (w.heap.size) (by first | omega | (simp; try omega)); have r8_0 := gc 0; have f8_0 := gf 0; have r8_0_1 := gc 1; have f8_0_1 := gf 1; have r8_0_2 := gc 2; have f8_0_2 := gf 2; clear gc gf)
     )
    have z0 : w8.cell? ⟨w.heap.size, 0, none⟩ = some (.bool false) := by simp [go_sem, *]
    have z1 : w8.cell? ⟨w.heap.size, 1, none⟩ = some (.slice none 0 0) := by simp [go_sem, *]
    have z2 : w8.cell? ⟨w.heap.size, 2, none⟩ = some (.slice none 0 0) := by simp [go_sem, *]
    have rl : w.heap.size < w8.heap.size := by assumption
    have hE : Ext w w8 := by (repeat (first | exact ext_refl _ | assumption | refine ext_setCell ?_ (by simp; try omega) _ | refine ext_alloc ?_ _ | refine ext_drew ?_ | refine ext_drewN ?_ _ | refine ext_trans ?_ (Aft.use _) | refine ext_trans ?_ (by assumption)))
    obtain ⟨q0, q1, q2⟩ := set3 (b := w.heap.size) z0 z1 z2 (.bool (decide (canN (sgn s (dval D)) 1 < 0))) (.slice F8.A F8.n F8.c) (.slice F8.D F8.m F8.k)
    have hal : Ext (((w8.setCell ⟨w.heap.size, 0, none⟩ (.bool (decide (canN (sgn s (dval D)) 1 < 0)))).setCell ⟨w.heap.size, 1, none⟩ (.slice F8.A F8.n F8.c)).setCell ⟨w.heap.size, 2, none⟩ (.slice F8.D F8.m F8.k)) ((((w8.setCell ⟨w.heap.size, 0, none⟩ (.bool (decide (canN (sgn s (dval D)) 1 < 0)))).setCell ⟨w.heap.size, 1, none⟩ (.slice F8.A F8.n F8.c)).setCell ⟨w.heap.size, 2, none⟩ (.slice F8.D F8.m F8.k)).alloc (Obj.cells #[(.bool (decide (canN (sgn s (dval D)) 1 < 0))), .slice F8.A F8.n F8.c, .slice F8.D F8.m F8.k] 32)) := ext_alloc (ext_refl _) _
    have rl' : w.heap.size < (((w8.setCell ⟨w.heap.size, 0, none⟩ (.bool (decide (canN (sgn s (dval D)) 1 < 0)))).setCell ⟨w.heap.size, 1, none⟩ (.slice F8.A F8.n F8.c)).setCell ⟨w.heap.size, 2, none⟩ (.slice F8.D F8.m F8.k)).heap.size := by simpa using rl
    have q0 := (Below.cell (p := ⟨w.heap.size, 0, none⟩) hal rl').trans q0
    have q1 := (Below.cell (p := ⟨w.heap.size, 1, none⟩) hal rl').trans q1
    have q2 := (Below.cell (p := ⟨w.heap.size, 2, none⟩) hal rl').trans q2
    have n5' : ∀ a, F8.A = some a → w.heap.size < a.block := fun a ha => by have := hR8.out.2.1 a ha; omega
    have n6' : ∀ a, F8.D = some a → w.heap.size < a.block := fun a ha => by have := hR8.out.2.2 a ha; omega
    refine bodyPost_ret (v := .tuple #[fV (decide (canN (sgn s (dval D)) 1 < 0)) F8, .int .i64 0, .int .i64 0]) ?h rfl ⟨F8, rfl, ⟨⟨(hR8.out.1.num.set3 n5' _ _ _).ext hal, (hR8.out.1.den.set3 n6' _ _ _).ext hal, hR8.out.1.d0, hR8.out.1.low⟩, fun a ha => Nat.le_of_lt (n5' a ha), fun a ha => Nat.le_of_lt (n6' a ha)⟩, ext_trans (ext_set3 hE (Nat.le_refl _) _ _ _) hal⟩
    case h => simp [results, Tryz.results10, go_sem, q0, q1, q2]
end Go.Proofs.YtchbefambnhjjaaGreatDoor.NB
end
section
/- The second law's fractions: made. -/
namespace Go.Proofs.YtchbefambnhjjaaGreatDoor
open Go.RowKit
attribute [local go_sem] sz2 sz3 sz4 sz5 sz6 sz7 sz8
set_option maxHeartbeats 4000000
set_option maxRecDepth 100000
attribute [local irreducible] Calls
end Go.Proofs.YtchbefambnhjjaaGreatDoor
end
