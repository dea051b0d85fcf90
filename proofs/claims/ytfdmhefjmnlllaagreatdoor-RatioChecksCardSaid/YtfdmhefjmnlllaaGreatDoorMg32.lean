/- Lemmas of this proof, laid together: ParO, D2F, OpsB, D2I, D2J, AbN, AbB. -/
import Derived.Test.YtfdmhefjmnlllaaGreatDoorMg31
import Derived.Test.YtfdmhefjmnlllaaGreatDoorMg29
import Derived.Deep.DeepCutAuto
import Derived.Deep.RegionWith
import Derived.Test.YtfdmhefjmnlllaaGreatDoorMg27
import Derived.Test.YtfdmhefjmnlllaaGreatDoorMg28
import Derived.Test.YtfdmhefjmnlllaaGreatDoorMg26
import Derived.Test.YtfdmhefjmnlllaaGreatDoorMg30
import Derived.Deep.LoopGhost
import Derived.Test.YtfdmhefjmnlllaaGreatDoorMg03
set_option linter.unusedSimpArgs false
set_option linter.unusedVariables false
section
/- A text is read: the program's answer and the document's, together. -/
namespace Go.Proofs.YtfdmhefjmnlllaaGreatDoor
open Go.RowKit
attribute [local go_sem] bs_size bs_extract bs_get bs_append bs_toList const_get
attribute [local go_sem] sz2 sz3 sz4 sz5 sz6 sz7 sz8
set_option maxHeartbeats 4000000
set_option maxRecDepth 100000
attribute [local irreducible] Calls
theorem RdO.nil (w : World) (Z : Option Addr) : RdO w none 0 0 [] Z := ⟨Rd.nil w, World.ownsRow_nil _ _ _ _, (fun a z h => by cases h), rfl⟩
theorem fr_none (w : World) : Fr w none := fun a h => by cases h
end Go.Proofs.YtfdmhefjmnlllaaGreatDoor
end
section
/- The document's fractions: sums, differences, products, quotients, order (written by mkd2f.py out of D2F.tpl). -/
namespace Go.Proofs.YtfdmhefjmnlllaaGreatDoor.NB
open Go.RowKit
attribute [local go_sem] sz2 sz3 sz4 sz5 sz6 sz7 sz8
set_option maxHeartbeats 4000000
set_option maxRecDepth 100000
attribute [local irreducible] Calls
abbrev DfPst (w : World) (s : Bool) (xs ys : List Nat) (E : Int) : Ending → World → Prop := fun e w' => ∃ F : FH, e = .returned (.tuple #[fV s F, .int .i64 E]) ∧ Hid (Rd w' F.A F.n F.c xs ∧ Rd w' F.D F.m F.k ys ∧ Fr w F.A ∧ Fr w F.D) ∧ Ext w w'
section
variable (s t : Bool) (A : Option Addr) (n c : Nat) (D : Option Addr) (m k : Nat) (B : Option Addr) (n2 c2 : Nat) (C : Option Addr) (m2 k2 : Nat) (w : World)
end
end Go.Proofs.YtfdmhefjmnlllaaGreatDoor.NB
end
section
/- Two fractions: the program's answer and the document's, together (written by mkopsb.py). -/
namespace Go.Proofs.YtfdmhefjmnlllaaGreatDoor.NB
open Go.RowKit
set_option maxHeartbeats 4000000
set_option maxRecDepth 100000
attribute [local irreducible] Calls
theorem rd_check_no (s : Bool) (A : Option Addr) (n c : Nat) (xs : List Nat) (D : Option Addr) (m k : Nat) (ys : List Nat) (hno : ¬ RatOk s xs ys) (w : World) (hT : Tz w) (hA : Rd w A n c xs) (hD : Rd w D m k ys) :
  Calls Tryz.prog 20 #[ratV s A n c D m k] w fun e w' => e = .returned (.int .i64 20) ∧ Ext w w' := by
 by_cases h1 : chk xs = 0
 ·by_cases h2 : chk ys ≠ 0 ∨ m = 0
  ·exact rd_Check_no2 s A n c D m k w xs ys h1 h2 hA hD
  ·have h2' : chk ys = 0 := by
    by_cases h : chk ys = 0
    ·exact h
    ·exact absurd (.inl h) h2
   have hm : m ≠ 0 := fun h => h2 (.inr h)
   obtain ⟨l1, e1⟩ := chk_zero hA.lb h1
   obtain ⟨l2, e2⟩ := chk_zero hD.lb h2'
   have a1 := hA.len
   have a2 := hD.len
   have h3 : val ys ≠ 0 := fun h => hm (by rw [← a2, e2, h, lim_zero]; rfl)
   have hA' := hA
   have hD' := hD
   rw [e1] at hA'
   rw [e2] at hD'
   refine rd_Check_in s A n c (val xs) D m k (val ys) w (Nat.gcd (val xs) (val ys)) rfl h3 (by omega) (by omega) hT hA' hD' 20 ?_
   rw [if_pos]
   by_cases h4 : Nat.gcd (val xs) (val ys) = 1
   ·left
    by_cases h5 : val xs = 0
    ·refine ⟨h5, ?_⟩
     by_cases h6 : s = true
     ·exact .inl h6
     ·right
      intro h7
      exact hno ⟨h1, h2', h3, h4, fun h => absurd h h6⟩
    ·exact absurd ⟨h1, h2', h3, h4, fun _ => h5⟩ hno
   ·exact .inr h4
 ·exact rd_Check_no1 s A n c D m k w rfl xs ys h1 hA hD
theorem rd_check_yes (s : Bool) (A : Option Addr) (n c a : Nat) (D : Option Addr) (m k d : Nat) (hd : d ≠ 0) (hn : n ≤ 16384) (hm : m ≤ 16384) (hg : Nat.gcd a d = 1) (hng : s = true → a ≠ 0) (w : World) (hT : Tz w) (hA : Rd w A n c (lim a)) (hD : Rd w D m k (lim d)) :
  Calls Tryz.prog 20 #[ratV s A n c D m k] w fun e w' => e = .returned (.int .i64 0) ∧ Ext w w' := by
 refine rd_Check_in s A n c a D m k d w 1 hg hd hn hm hT hA hD 0 ?_
 rw [if_neg]
 rintro (⟨h1, h2⟩ | h)
 ·rcases h2 with h2 | h2
  ·exact hng h2 h1
  ·rw [h1, Nat.gcd_zero_left] at hg; exact h2 hg
 ·exact h rfl
end Go.Proofs.YtfdmhefjmnlllaaGreatDoor.NB
namespace Go.Proofs.YtfdmhefjmnlllaaGreatDoor
open Go.RowKit
set_option maxHeartbeats 4000000
set_option maxRecDepth 100000
attribute [local irreducible] Calls
abbrev OfPst (w : World) (s : Bool) (xs ys : List Nat) (E : Int) : Ending → World → Prop := fun e w' => ∃ F : FH, e = .returned (.tuple #[fV s F, .int .i64 E]) ∧ Hid (RdO w' F.A F.n F.c xs none ∧ Fr w F.A ∧ RdO w' F.D F.m F.k ys F.A ∧ Fr w F.D) ∧ Ext w w'
structure FrIn (w : World) (F : FH) (xs ys : List Nat) : Prop where
 num : Rd w F.A F.n F.c xs
 den : Rd w F.D F.m F.k ys
theorem FrIn.ext {w w' : World} {F : FH} {xs ys : List Nat} (h : FrIn w F xs ys) (he : Ext w w') : FrIn w' F xs ys := ⟨h.num.ext he, h.den.ext he⟩
theorem RatOk.parts {s : Bool} {xs ys : List Nat} (h : RatOk s xs ys) (hb : Lb xs) (hb2 : Lb ys) : ∃ a d, xs = lim a ∧ ys = lim d ∧ d ≠ 0 ∧ Nat.gcd a d = 1 ∧ (s = true → a ≠ 0) :=
 ⟨val xs, val ys, (chk_zero hb h.1).2, (chk_zero hb2 h.2.1).2, h.2.2.1, h.2.2.2.1, h.2.2.2.2⟩
section
variable {s t : Bool} {xs ys us vs : List Nat}
theorem tk_no {s : Bool} {xs ys : List Nat} (h : ¬ RatOk s xs ys) (F : FH) (w : World) (hT : Tz w) (hF : FrIn w F xs ys) : ∀ w', Ext w w' → Calls Tryz.prog 40 #[fV s F] w' fun e w'' => e = .returned (.tuple #[.pointer none, .int .i64 20]) ∧ Ext w' w'' := fun w' he => ra_taken_no s F.A F.n F.c xs F.D F.m F.k ys h w' (hT.ext he) (hF.num.ext he) (hF.den.ext he)
theorem ck_no {s : Bool} {xs ys : List Nat} (h : ¬ RatOk s xs ys) (F : FH) (w : World) (hT : Tz w) (hF : FrIn w F xs ys) : ∀ w', Ext w w' → Calls Tryz.prog 19 #[fV s F] w' fun e w'' => e = .returned (.int .i64 20) ∧ Ext w' w'' := fun w' he => ra_check_no s F.A F.n F.c xs F.D F.m F.k ys h w' (hT.ext he) (hF.num.ext he) (hF.den.ext he)
theorem dk_no {s : Bool} {xs ys : List Nat} (h : ¬ RatOk s xs ys) (F : FH) (w : World) (hT : Tz w) (hF : FrIn w F xs ys) : ∀ w', Ext w w' → Calls Tryz.prog 20 #[fV s F] w' fun e w'' => e = .returned (.int .i64 20) ∧ Ext w' w'' := fun w' he => NB.rd_check_no s F.A F.n F.c xs F.D F.m F.k ys h w' (hT.ext he) (hF.num.ext he) (hF.den.ext he)
section
variable {a d : Nat} (hd : d ≠ 0) (hg : Nat.gcd a d = 1) (hn : s = true → a ≠ 0) (l1 : (lim a).length ≤ 40) (l2 : (lim d).length ≤ 40) (F : FH) (w : World) (hT : Tz w) (hF : FrIn w F (lim a) (lim d))
include hd hg hn l1 l2 hT hF
theorem tk_yes : ∀ w', Ext w w' → Calls Tryz.prog 40 #[fV s F] w' (KPost w' (sgn s a) (lowD a d)) := fun w' he => ra_taken s F.A F.n F.c a F.D F.m F.k d hd (by have := hF.num.len; omega) (by have := hF.den.len; omega) hg hn w' (hT.ext he) (hF.num.ext he) (hF.den.ext he)
theorem ck_yes : ∀ w', Ext w w' → Calls Tryz.prog 19 #[fV s F] w' fun e w'' => e = .returned (.int .i64 0) ∧ Ext w' w'' := fun w' he => ra_check_yes s F.A F.n F.c a F.D F.m F.k d hd (by have := hF.num.len; omega) (by have := hF.den.len; omega) hg hn w' (hT.ext he) (hF.num.ext he) (hF.den.ext he)
theorem dk_yes : ∀ w', Ext w w' → Calls Tryz.prog 20 #[fV s F] w' fun e w'' => e = .returned (.int .i64 0) ∧ Ext w' w'' := fun w' he => NB.rd_check_yes s F.A F.n F.c a F.D F.m F.k d hd (by have := hF.num.len; omega) (by have := hF.den.len; omega) hg hn w' (hT.ext he) (hF.num.ext he) (hF.den.ext he)
end
theorem dr_yes {s : Bool} {a d : Nat} (hd : d ≠ 0) (hg : Nat.gcd a d = 1) (l1 : (lim a).length ≤ 40) (l2 : (lim d).length ≤ 40) (F : FH) (w : World) (hT : Tz w) (hF : FrIn w F (lim a) (lim d)) : ∀ w', Ext w w' → Calls Tryz.prog 32 #[fV s F] w' (NB.RatPst w' (sgn s a) (lowD a d)) := fun w' he => NB.rd_Rat s F.A F.n F.c a F.D F.m F.k d hd (by have := hF.num.len; omega) (by have := hF.den.len; omega) hg w' (hT.ext he) (hF.num.ext he) (hF.den.ext he)
end
end Go.Proofs.YtfdmhefjmnlllaaGreatDoor
end
section
/- The document's fractions: the sign turned, dropped. -/
namespace Go.Proofs.YtfdmhefjmnlllaaGreatDoor.NB
open Go.RowKit
attribute [local go_sem] sz2 sz3 sz4 sz5 sz6 sz7 sz8
set_option maxHeartbeats 4000000
set_option maxRecDepth 100000
attribute [local irreducible] Calls
theorem br_SetSelf (g : Nat) (z : Int) (A : Option Addr) (n c d : Nat) (D : Option Addr) (m e : Nat) (hn : n ≤ 1000000) (hm : m ≤ 1000000) (w : World) (hx : RatIs w g z A n c d D m e) :
  Calls Tryz.prog 82 #[.pointer (some ⟨g, 0, none⟩), .pointer (some ⟨g, 0, none⟩)] w (FPost w g z d) := by
 have HX := Lib.hid hx
 have x2 := hx.c2
 have hlt := hx.int.room.lt
 clear hx
 go_enter Tryz.func82, Tryz.ntmps82
 go_upto_region 2 with (first
  | (go_at_call 92; (with_reducible refine (bw_copied D m e _ hm _ HX.out.rd).mono ?_); rintro e w1 ⟨rfl, hR1, xb1⟩; obtain ⟨xc1, xf1, xl1, xz1⟩ := jU xb1; (try simp at xz1))
  )
 have hX1 := Lib.hid ((HX.out.ext xb1).ext (jD (jR w1)))
 have kS := bi_Setx g 0 g 0 A n c z hn w1.drew hX1.out.int.room hX1.out.int
 have g2 := hX1.out.c2
 have f2 := hX1.out.f2
 have hlt1 := hX1.out.int.room.lt
 go_region_with (first
  | (go_at_call 98; (with_reducible refine kS.mono ?_); rintro e w3 ⟨rfl, A3, n3, c3, hI3, xt3, hP3⟩)
  )
 have g2' := (hP3.out 2 (by decide) (by decide)).1.trans g2
 have g3' := (hP3.out 2 (by decide) (by decide)).2.trans f2
 have hlt3 := hI3.out.1.room.lt
 have hO : Off (some ⟨w.heap.size, 0, none⟩) m g := fun x hx _ e => by cases hx; simp only at e; omega
 have hD3 : Rd w3 (some ⟨w.heap.size, 0, none⟩) m m (lim d) := (hR1.out.ext (jD (jR w1))).tch xt3 hO
 have hM := Lib.hid (rat_made (D := some ⟨w.heap.size, 0, none⟩) (m := m) (k := m) (d := d) hI3.out.1 ⟨_, g2'⟩ g3' hD3 hO)
 have hT3 := Lib.hid ((Tch.of (b := g) xb1).trans ((Tch.of (jD (jR w1))).trans xt3))
 have hF3 : Fr w A3 := Fr.mono hI3.out.2 (jT xb1 (jD (jR w1)))
 clear kS xt3 hD3 hX1 HX hR1
 go_wp2_with fail
 refine bodyPost_ret (v := .pointer (some ⟨g, 0, none⟩)) ?h rfl ⟨rfl, A3, n3, c3, some ⟨w.heap.size, 0, none⟩, m, m, ⟨hM.out, hF3, fun a ha => by cases ha; exact Nat.le_refl _⟩, hT3.out.set _ _⟩
 case h => simp [results, Tryz.results82, go_sem]
theorem rat_sign {w : World} {g : Nat} {z y : Int} {A : Option Addr} {n c d : Nat} {D : Option Addr} {m e : Nat} (h : RatIs w g z A n c d D m e) (hy : y.natAbs = z.natAbs) : RatIs (w.setCell ⟨g, 0, none⟩ (.bool (decide (y < 0)))) g y A n c d D m e := by
 have ht : Tch g w (w.setCell ⟨g, 0, none⟩ (.bool (decide (y < 0)))) := (Tch.refl g w).set 0 _
 have hA := h.int.rd.tch ht h.int.off
 have hD := h.rd.tch ht h.off
 obtain ⟨⟨⟨r1, ⟨v0, r2⟩, ⟨v1, r3⟩, r4, r5⟩, i2, i3, i4, i5⟩, k2, k3, k4, k5⟩ := h
 rw [← hy] at hA
 refine ⟨⟨⟨by simpa using r1, ⟨_, World.cell?_setCell_same _ _ _ r2⟩, ⟨v1, ?_⟩, by simp [go_sem]; exact r4, by simp [go_sem]; exact r5⟩, World.cell?_setCell_same _ _ _ r2, ?_, hA, i5⟩, ?_, by simp [go_sem]; exact k3, hD, k5⟩
 ·rw [World.cell?_setCell_other _ _ _ _ (by intro e; simp at e)]; exact r3
 ·rw [World.cell?_setCell_other _ _ _ _ (by intro e; simp at e)]; exact i3
 ·rw [World.cell?_setCell_other _ _ _ _ (by intro e; simp at e)]; exact k2
theorem br_NegSelf (g : Nat) (z : Int) (A : Option Addr) (n c d : Nat) (D : Option Addr) (m e : Nat) (hn : n ≤ 1000000) (hm : m ≤ 1000000) (w : World) (hx : RatIs w g z A n c d D m e) :
  Calls Tryz.prog 34 #[.pointer (some ⟨g, 0, none⟩), .pointer (some ⟨g, 0, none⟩)] w (FPost w g (-z) d) := by
 have kS := br_SetSelf g z A n c d D m e hn hm w hx
 clear hx
 have hc : (decide (z < 0) = true ∧ True ∧ decide (-z < 0) = false) ∨ (decide (z < 0) = false ∧ z = 0 ∧ decide (-z < 0) = false) ∨ (decide (z < 0) = false ∧ 0 < z ∧ decide (-z < 0) = true) := by
  by_cases h : z < 0
  ·exact .inl ⟨decide_eq_true h, trivial, decide_eq_false (by omega)⟩
  ·by_cases h0 : z = 0
   ·exact .inr (.inl ⟨decide_eq_false h, h0, decide_eq_false (by omega)⟩)
   ·exact .inr (.inr ⟨decide_eq_false h, by omega, decide_eq_true (by omega)⟩)
 go_enter Tryz.func34, Tryz.ntmps34
 go_upto_region 2 with (first
  | (go_at_call 82; (with_reducible refine kS.mono ?_); rintro e w3 ⟨rfl, A3, n3, c3, D3, m3, k3, hR3, xt3⟩)
  )
 have i0 := hR3.out.1.int.neg
 have i1 := hR3.out.1.int.words
 have fz := hR3.out.1.int.room.f0
 have lt3 := hR3.out.1.int.room.lt
 have e3 := hR3.out.1.int.rd.len
 rw [Nat.zero_add] at i1
 have hM := Lib.hid (rat_sign hR3.out.1 (y := -z) (Int.natAbs_neg z))
 have hT := Lib.hid (xt3.set 0 (.bool (decide (-z < 0))))
 have hF := Lib.hid hR3.out.2
 clear kS hR3 xt3
 rcases hc with ⟨c1, c2, c3'⟩ | ⟨c1, c2, c3'⟩ | ⟨c1, c2, c3'⟩
 ·rw [c1] at i0
  rw [c3'] at hM hT
  go_wp2
  refine bodyPost_ret (v := .pointer (some ⟨g, 0, none⟩)) ?h rfl ⟨rfl, A3, n3, c3, D3, m3, k3, ⟨hM.out, hF.out⟩, hT.out⟩
  case h => simp [results, Tryz.results34, go_sem]
 ·rw [c1] at i0
  rw [c3'] at hM hT
  have hn0 : n3 = 0 := by rw [c2, Int.natAbs_zero, lim_zero] at e3; simpa using e3.symm
  have hn1 : decide ((0 : Int) < (n3 : Int)) = false := decide_eq_false (by omega)
  have hn2 : decide (0 < n3) = false := decide_eq_false (by omega)
  clear c2 e3 hn0
  go_wp2
  refine bodyPost_ret (v := .pointer (some ⟨g, 0, none⟩)) ?h rfl ⟨rfl, A3, n3, c3, D3, m3, k3, ⟨hM.out, hF.out⟩, hT.out⟩
  case h => simp [results, Tryz.results34, go_sem]
 ·rw [c1] at i0
  rw [c3'] at hM hT
  have hn0 : n3 ≠ 0 := fun h => by
   rw [h] at e3
   have := lim_nil.1 (List.eq_nil_of_length_eq_zero e3)
   omega
  have hn1 : decide ((0 : Int) < (n3 : Int)) = true := decide_eq_true (by omega)
  have hn2 : decide (0 < n3) = true := decide_eq_true (by omega)
  clear c2 e3 hn0
  go_wp2
  refine bodyPost_ret (v := .pointer (some ⟨g, 0, none⟩)) ?h rfl ⟨rfl, A3, n3, c3, D3, m3, k3, ⟨hM.out, hF.out⟩, hT.out⟩
  case h => simp [results, Tryz.results34, go_sem]
theorem br_AbsSelf (g : Nat) (z : Int) (A : Option Addr) (n c d : Nat) (D : Option Addr) (m e : Nat) (hn : n ≤ 1000000) (hm : m ≤ 1000000) (w : World) (hx : RatIs w g z A n c d D m e) :
  Calls Tryz.prog 35 #[.pointer (some ⟨g, 0, none⟩), .pointer (some ⟨g, 0, none⟩)] w (FPost w g ((z.natAbs : Nat) : Int) d) := by
 have kS := br_SetSelf g z A n c d D m e hn hm w hx
 clear hx
 go_enter Tryz.func35, Tryz.ntmps35
 go_upto_region 2 with (first
  | (go_at_call 82; (with_reducible refine kS.mono ?_); rintro e w3 ⟨rfl, A3, n3, c3, D3, m3, k3, hR3, xt3⟩)
  )
 have i0 := hR3.out.1.int.neg
 have fz := hR3.out.1.int.room.f0
 have lt3 := hR3.out.1.int.room.lt
 have hM := Lib.hid (rat_sign hR3.out.1 (y := ((z.natAbs : Nat) : Int)) (Int.natAbs_natCast _))
 have hT := Lib.hid (xt3.set 0 (.bool (decide (((z.natAbs : Nat) : Int) < 0))))
 have hF := Lib.hid hR3.out.2
 rw [decide_eq_false (show ¬ ((z.natAbs : Nat) : Int) < 0 by omega)] at hM hT
 clear kS hR3 xt3
 go_wp2
 refine bodyPost_ret (v := .pointer (some ⟨g, 0, none⟩)) ?h rfl ⟨rfl, A3, n3, c3, D3, m3, k3, ⟨hM.out, hF.out⟩, hT.out⟩
 case h => simp [results, Tryz.results35, go_sem]
end Go.Proofs.YtfdmhefjmnlllaaGreatDoor.NB
end
section
/- The document's fractions: the sign turned, dropped; the whole number below; the text (written by mkd2j.py). -/
namespace Go.Proofs.YtfdmhefjmnlllaaGreatDoor.NB
open Go.RowKit
attribute [local go_sem] bs_size bs_extract bs_get bs_append bs_toList const_get
attribute [local go_sem] sz2 sz3 sz4 sz5 sz6 sz7 sz8
set_option maxHeartbeats 4000000
set_option maxRecDepth 100000
attribute [local irreducible] Calls
section
variable (s : Bool) (A : Option Addr) (n c : Nat) (D : Option Addr) (m k : Nat) (w : World)
theorem rd_Neg_no (kC : ∀ w', Ext w w' → Calls Tryz.prog 20 #[ratV s A n c D m k] w' fun e w'' => e = .returned (.int .i64 20) ∧ Ext w' w'') :
  Calls Tryz.prog 8 #[ratV s A n c D m k] w (DfPst w false [] [] 20) := by
 go_enter Tryz.func8, Tryz.ntmps8
 go_wp2_with (first
  | (go_at_call 20; (with_reducible refine (kC _ xcl).mono ?_); rintro e w1 ⟨rfl, xb1⟩; obtain ⟨xc1, xf1, xl1, xz1⟩ := jU xb1; (try simp at xz1); obtain ⟨l1_0, r1_0, f1_0, r1_0_1, f1_0_1, r1_0_2, f1_0_2⟩ := kq3 xb1 (w.heap.size + 1))
  )
 have z0 : w1.cell? ⟨w.heap.size + 1, 0, none⟩ = some (.bool false) := by simp [go_sem, *]
 have z1 : w1.cell? ⟨w.heap.size + 1, 1, none⟩ = some (.slice none 0 0) := by simp [go_sem, *]
 have z2 : w1.cell? ⟨w.heap.size + 1, 2, none⟩ = some (.slice none 0 0) := by simp [go_sem, *]
 obtain ⟨q0, q1, q2⟩ := set3 (b := w.heap.size + 1) z0 z1 z2 (.bool false) (.slice none 0 0) (.slice none 0 0)
 have hEE : Ext w w1 := xcl
 refine bodyPost_ret (v := .tuple #[ratV false none 0 0 none 0 0, .int .i64 20]) ?h rfl ⟨⟨none, 0, 0, none, 0, 0⟩, rfl, ⟨Rd.nil _, Rd.nil _, fr_none _, fr_none _⟩, ext_set3 hEE (by omega) _ _ _⟩
 case h => simp [results, Tryz.results8, go_sem, q0, q1, q2]
theorem rd_Neg_yes (x : Int) (p : Nat) (z : Int) (E : Nat) (kC : ∀ w', Ext w w' → Calls Tryz.prog 20 #[ratV s A n c D m k] w' fun e w'' => e = .returned (.int .i64 0) ∧ Ext w' w'') (kR : ∀ w', Ext w w' → Calls Tryz.prog 32 #[ratV s A n c D m k] w' (RatPst w' x p))
  (kO : ∀ (g : Nat) (A : Option Addr) (n c : Nat) (D : Option Addr) (m k : Nat) (w' : World), RatIs w' g x A n c p D m k → Calls Tryz.prog 34 #[.pointer (some ⟨g, 0, none⟩), .pointer (some ⟨g, 0, none⟩)] w' (FPost w' g z p))
  (kF : ∀ (g : Nat) (A : Option Addr) (n c : Nat) (D : Option Addr) (m k : Nat) (w' : World), RatIs w' g z A n c p D m k → Calls Tryz.prog 33 #[.pointer (some ⟨g, 0, none⟩)] w' (UPost w' z E)) :
  Calls Tryz.prog 8 #[ratV s A n c D m k] w (DfPst w (decide (z < 0)) (lim z.natAbs) (lim E) 0) := by
 go_enter Tryz.func8, Tryz.ntmps8
 go_upto_region 5 with (first
  | (go_at_call 20; (with_reducible refine (kC _ xcl).mono ?_); rintro e w1 ⟨rfl, xb1⟩; obtain ⟨xc1, xf1, xl1, xz1⟩ := jU xb1; (try simp at xz1); obtain ⟨l1_0, r1_0, f1_0, r1_0_1, f1_0_1, r1_0_2, f1_0_2⟩ := kq3 xb1 (w.heap.size); obtain ⟨l1_1, r1_1, f1_1, r1_1_1, f1_1_1, r1_1_2, f1_1_2⟩ := kq3 xb1 (w.heap.size + 1))
  | (go_at_call 32; (with_reducible refine (kR _ xcl).mono ?_); rintro e w4 ⟨g1, A1, n1, c1, D1, m1, k1, rfl, hR1, hg1, xb4⟩; obtain ⟨xc4, xf4, xl4, xz4⟩ := jU xb4; (try simp at xz4); obtain ⟨l4_0, r4_0, f4_0, r4_0_1, f4_0_1, r4_0_2, f4_0_2⟩ := kq3 xb4 (w.heap.size + 1))
  )
 have kO1 := kO g1 A1 n1 c1 D1 m1 k1 w4 hR1.out.1
 have z0 : w4.cell? ⟨w.heap.size + 1, 0, none⟩ = some (.bool false) := by simp [go_sem, *]
 have z1 : w4.cell? ⟨w.heap.size + 1, 1, none⟩ = some (.slice none 0 0) := by simp [go_sem, *]
 have z2 : w4.cell? ⟨w.heap.size + 1, 2, none⟩ = some (.slice none 0 0) := by simp [go_sem, *]
 have f0 : w4.frozen? ⟨w.heap.size + 1, 0, none⟩ = false := by simp [go_sem, *]
 have f1 : w4.frozen? ⟨w.heap.size + 1, 1, none⟩ = false := by simp [go_sem, *]
 have f2 : w4.frozen? ⟨w.heap.size + 1, 2, none⟩ = false := by simp [go_sem, *]
 have zl : w.heap.size + 1 < w4.heap.size := by assumption
 have hxb := Lib.hid (jT xb1 xb4)
 have hgg : w.heap.size + 1 + 1 ≤ g1 := by have h1 := ext_size xb1; simp at h1; omega
 have hg2 : ((w.alloc (Obj.cells #[.bool s, .slice A n c, .slice D m k] 26)).alloc (Obj.cells #[.bool false, .slice none 0 0, .slice none 0 0] 26)).heap.size ≤ g1 := by simp; omega
 clear kO kC kR hR1 xb1 xb4
 go_wp2_with (first
  | (go_at_call 34; (with_reducible refine kO1.mono ?_); rintro e w2 ⟨rfl, A2, i2, e2, D2, u2, v2, hR2, xt2⟩; have y0 := (xt2.cell (p := ⟨w.heap.size + 1, 0, none⟩) zl (by simp only; omega)).trans z0; have y1 := (xt2.cell (p := ⟨w.heap.size + 1, 1, none⟩) zl (by simp only; omega)).trans z1; have y2 := (xt2.cell (p := ⟨w.heap.size + 1, 2, none⟩) zl (by simp only; omega)).trans z2; have t0 := (xt2.frozen (p := ⟨w.heap.size + 1, 0, none⟩) zl (by simp only; omega)).trans f0; have t1 := (xt2.frozen (p := ⟨w.heap.size + 1, 1, none⟩) zl (by simp only; omega)).trans f1; have t2 := (xt2.frozen (p := ⟨w.heap.size + 1, 2, none⟩) zl (by simp only; omega)).trans f2; have gl := Nat.lt_of_lt_of_le zl xt2.size; have hE2 := Lib.hid (xt2.ext hxb.out hg2); clear z0 z1 z2 f0 f1 f2)
  | (go_at_call 33; (with_reducible refine (kF _ _ _ _ _ _ _ _ hR2.out.1).mono ?_); rintro e w3 ⟨A3, n3, c3, D3, m3, k3, rfl, hR3, xb3⟩; obtain ⟨xc3, xf3, xl3, xz3⟩ := jU xb3; (try simp at xz3); obtain ⟨l3_0, r3_0, f3_0, r3_0_1, f3_0_1, r3_0_2, f3_0_2⟩ := kq3 xb3 (w.heap.size + 1))
  )
 have z0 : w3.cell? ⟨w.heap.size + 1, 0, none⟩ = some (.bool false) := by simp [go_sem, *]
 have z1 : w3.cell? ⟨w.heap.size + 1, 1, none⟩ = some (.slice none 0 0) := by simp [go_sem, *]
 have z2 : w3.cell? ⟨w.heap.size + 1, 2, none⟩ = some (.slice none 0 0) := by simp [go_sem, *]
 obtain ⟨q0, q1, q2⟩ := set3 (b := w.heap.size + 1) z0 z1 z2 (.bool (decide (z < 0))) (.slice A3 n3 c3) (.slice D3 m3 k3)
 have hEE : Ext w w3 := jT (jA (jA (jR w) _) _) (jT hE2.out xb3)
 have n5 : ∀ a, A3 = some a → w.heap.size + 1 < a.block := fun a ha => by have := hR3.out.2.1 a ha; omega
 have n6 : ∀ a, D3 = some a → w.heap.size + 1 < a.block := fun a ha => by have := hR3.out.2.2.2 a ha; omega
 refine bodyPost_ret (v := .tuple #[ratV (decide (z < 0)) A3 n3 c3 D3 m3 k3, .int .i64 0]) ?h rfl ⟨⟨A3, n3, c3, D3, m3, k3⟩, rfl, ⟨hR3.out.1.set3 n5 _ _ _, hR3.out.2.2.1.set3 n6 _ _ _, fun a ha => by have := n5 a ha; omega, fun a ha => by have := n6 a ha; omega⟩, ext_set3 hEE (by omega) _ _ _⟩
 case h => simp [results, Tryz.results8, go_sem, q0, q1, q2]
theorem rd_Abs_no (kC : ∀ w', Ext w w' → Calls Tryz.prog 20 #[ratV s A n c D m k] w' fun e w'' => e = .returned (.int .i64 20) ∧ Ext w' w'') :
  Calls Tryz.prog 9 #[ratV s A n c D m k] w (DfPst w false [] [] 20) := by
 go_enter Tryz.func9, Tryz.ntmps9
 go_wp2_with (first
  | (go_at_call 20; (with_reducible refine (kC _ xcl).mono ?_); rintro e w1 ⟨rfl, xb1⟩; obtain ⟨xc1, xf1, xl1, xz1⟩ := jU xb1; (try simp at xz1); obtain ⟨l1_0, r1_0, f1_0, r1_0_1, f1_0_1, r1_0_2, f1_0_2⟩ := kq3 xb1 (w.heap.size + 1))
  )
 have z0 : w1.cell? ⟨w.heap.size + 1, 0, none⟩ = some (.bool false) := by simp [go_sem, *]
 have z1 : w1.cell? ⟨w.heap.size + 1, 1, none⟩ = some (.slice none 0 0) := by simp [go_sem, *]
 have z2 : w1.cell? ⟨w.heap.size + 1, 2, none⟩ = some (.slice none 0 0) := by simp [go_sem, *]
 obtain ⟨q0, q1, q2⟩ := set3 (b := w.heap.size + 1) z0 z1 z2 (.bool false) (.slice none 0 0) (.slice none 0 0)
 have hEE : Ext w w1 := xcl
 refine bodyPost_ret (v := .tuple #[ratV false none 0 0 none 0 0, .int .i64 20]) ?h rfl ⟨⟨none, 0, 0, none, 0, 0⟩, rfl, ⟨Rd.nil _, Rd.nil _, fr_none _, fr_none _⟩, ext_set3 hEE (by omega) _ _ _⟩
 case h => simp [results, Tryz.results9, go_sem, q0, q1, q2]
theorem rd_Abs_yes (x : Int) (p : Nat) (z : Int) (E : Nat) (kC : ∀ w', Ext w w' → Calls Tryz.prog 20 #[ratV s A n c D m k] w' fun e w'' => e = .returned (.int .i64 0) ∧ Ext w' w'') (kR : ∀ w', Ext w w' → Calls Tryz.prog 32 #[ratV s A n c D m k] w' (RatPst w' x p))
  (kO : ∀ (g : Nat) (A : Option Addr) (n c : Nat) (D : Option Addr) (m k : Nat) (w' : World), RatIs w' g x A n c p D m k → Calls Tryz.prog 35 #[.pointer (some ⟨g, 0, none⟩), .pointer (some ⟨g, 0, none⟩)] w' (FPost w' g z p))
  (kF : ∀ (g : Nat) (A : Option Addr) (n c : Nat) (D : Option Addr) (m k : Nat) (w' : World), RatIs w' g z A n c p D m k → Calls Tryz.prog 33 #[.pointer (some ⟨g, 0, none⟩)] w' (UPost w' z E)) :
  Calls Tryz.prog 9 #[ratV s A n c D m k] w (DfPst w (decide (z < 0)) (lim z.natAbs) (lim E) 0) := by
 go_enter Tryz.func9, Tryz.ntmps9
 go_upto_region 5 with (first
  | (go_at_call 20; (with_reducible refine (kC _ xcl).mono ?_); rintro e w1 ⟨rfl, xb1⟩; obtain ⟨xc1, xf1, xl1, xz1⟩ := jU xb1; (try simp at xz1); obtain ⟨l1_0, r1_0, f1_0, r1_0_1, f1_0_1, r1_0_2, f1_0_2⟩ := kq3 xb1 (w.heap.size); obtain ⟨l1_1, r1_1, f1_1, r1_1_1, f1_1_1, r1_1_2, f1_1_2⟩ := kq3 xb1 (w.heap.size + 1))
  | (go_at_call 32; (with_reducible refine (kR _ xcl).mono ?_); rintro e w4 ⟨g1, A1, n1, c1, D1, m1, k1, rfl, hR1, hg1, xb4⟩; obtain ⟨xc4, xf4, xl4, xz4⟩ := jU xb4; (try simp at xz4); obtain ⟨l4_0, r4_0, f4_0, r4_0_1, f4_0_1, r4_0_2, f4_0_2⟩ := kq3 xb4 (w.heap.size + 1))
  )
 have kO1 := kO g1 A1 n1 c1 D1 m1 k1 w4 hR1.out.1
 have z0 : w4.cell? ⟨w.heap.size + 1, 0, none⟩ = some (.bool false) := by simp [go_sem, *]
 have z1 : w4.cell? ⟨w.heap.size + 1, 1, none⟩ = some (.slice none 0 0) := by simp [go_sem, *]
 have z2 : w4.cell? ⟨w.heap.size + 1, 2, none⟩ = some (.slice none 0 0) := by simp [go_sem, *]
 have f0 : w4.frozen? ⟨w.heap.size + 1, 0, none⟩ = false := by simp [go_sem, *]
 have f1 : w4.frozen? ⟨w.heap.size + 1, 1, none⟩ = false := by simp [go_sem, *]
 have f2 : w4.frozen? ⟨w.heap.size + 1, 2, none⟩ = false := by simp [go_sem, *]
 have zl : w.heap.size + 1 < w4.heap.size := by assumption
 have hxb := Lib.hid (jT xb1 xb4)
 have hgg : w.heap.size + 1 + 1 ≤ g1 := by have h1 := ext_size xb1; simp at h1; omega
 have hg2 : ((w.alloc (Obj.cells #[.bool s, .slice A n c, .slice D m k] 26)).alloc (Obj.cells #[.bool false, .slice none 0 0, .slice none 0 0] 26)).heap.size ≤ g1 := by simp; omega
 clear kO kC kR hR1 xb1 xb4
 go_wp2_with (first
  | (go_at_call 35; (with_reducible refine kO1.mono ?_); rintro e w2 ⟨rfl, A2, i2, e2, D2, u2, v2, hR2, xt2⟩; have y0 := (xt2.cell (p := ⟨w.heap.size + 1, 0, none⟩) zl (by simp only; omega)).trans z0; have y1 := (xt2.cell (p := ⟨w.heap.size + 1, 1, none⟩) zl (by simp only; omega)).trans z1; have y2 := (xt2.cell (p := ⟨w.heap.size + 1, 2, none⟩) zl (by simp only; omega)).trans z2; have t0 := (xt2.frozen (p := ⟨w.heap.size + 1, 0, none⟩) zl (by simp only; omega)).trans f0; have t1 := (xt2.frozen (p := ⟨w.heap.size + 1, 1, none⟩) zl (by simp only; omega)).trans f1; have t2 := (xt2.frozen (p := ⟨w.heap.size + 1, 2, none⟩) zl (by simp only; omega)).trans f2; have gl := Nat.lt_of_lt_of_le zl xt2.size; have hE2 := Lib.hid (xt2.ext hxb.out hg2); clear z0 z1 z2 f0 f1 f2)
  | (go_at_call 33; (with_reducible refine (kF _ _ _ _ _ _ _ _ hR2.out.1).mono ?_); rintro e w3 ⟨A3, n3, c3, D3, m3, k3, rfl, hR3, xb3⟩; obtain ⟨xc3, xf3, xl3, xz3⟩ := jU xb3; (try simp at xz3); obtain ⟨l3_0, r3_0, f3_0, r3_0_1, f3_0_1, r3_0_2, f3_0_2⟩ := kq3 xb3 (w.heap.size + 1))
  )
 have z0 : w3.cell? ⟨w.heap.size + 1, 0, none⟩ = some (.bool false) := by simp [go_sem, *]
 have z1 : w3.cell? ⟨w.heap.size + 1, 1, none⟩ = some (.slice none 0 0) := by simp [go_sem, *]
 have z2 : w3.cell? ⟨w.heap.size + 1, 2, none⟩ = some (.slice none 0 0) := by simp [go_sem, *]
 obtain ⟨q0, q1, q2⟩ := set3 (b := w.heap.size + 1) z0 z1 z2 (.bool (decide (z < 0))) (.slice A3 n3 c3) (.slice D3 m3 k3)
 have hEE : Ext w w3 := jT (jA (jA (jR w) _) _) (jT hE2.out xb3)
 have n5 : ∀ a, A3 = some a → w.heap.size + 1 < a.block := fun a ha => by have := hR3.out.2.1 a ha; omega
 have n6 : ∀ a, D3 = some a → w.heap.size + 1 < a.block := fun a ha => by have := hR3.out.2.2.2 a ha; omega
 refine bodyPost_ret (v := .tuple #[ratV (decide (z < 0)) A3 n3 c3 D3 m3 k3, .int .i64 0]) ?h rfl ⟨⟨A3, n3, c3, D3, m3, k3⟩, rfl, ⟨hR3.out.1.set3 n5 _ _ _, hR3.out.2.2.1.set3 n6 _ _ _, fun a ha => by have := n5 a ha; omega, fun a ha => by have := n6 a ha; omega⟩, ext_set3 hEE (by omega) _ _ _⟩
 case h => simp [results, Tryz.results9, go_sem, q0, q1, q2]
theorem rd_Floor_no (kC : ∀ w', Ext w w' → Calls Tryz.prog 20 #[ratV s A n c D m k] w' fun e w'' => e = .returned (.int .i64 20) ∧ Ext w' w'') :
  Calls Tryz.prog 14 #[ratV s A n c D m k] w fun e w' => e = .returned (.tuple #[.bool false, natV none 0 0, .int .i64 20]) ∧ Ext w w' := by
 go_enter Tryz.func14, Tryz.ntmps14
 go_wp2_with (first
  | (go_at_call 20; (with_reducible refine (kC _ xcl).mono ?_); rintro e w1 ⟨rfl, xb1⟩; obtain ⟨xc1, xf1, xl1, xz1⟩ := jU xb1; (try simp at xz1); obtain ⟨l1_0, r1_0, f1_0⟩ := kq1 xb1 (w.heap.size + 1))
  )
 have z0 : w1.cell? ⟨w.heap.size + 1, 0, none⟩ = some (.slice none 0 0) := by simp [go_sem, *]
 have q0 := World.cell?_setCell_same w1 ⟨w.heap.size + 1, 0, none⟩ (.slice none 0 0) z0
 have hEE : Ext w w1 := xcl
 refine bodyPost_ret (v := .tuple #[.bool false, natV none 0 0, .int .i64 20]) ?h rfl ⟨rfl, jS hEE (Nat.le_succ _) _⟩
 case h => simp [results, Tryz.results14, go_sem, q0, natV]
theorem rd_Text_no (kC : ∀ w', Ext w w' → Calls Tryz.prog 20 #[ratV s A n c D m k] w' fun e w'' => e = .returned (.int .i64 20) ∧ Ext w' w'') :
  Calls Tryz.prog 17 #[ratV s A n c D m k] w fun e w' => e = .returned (.tuple #[.string ⟨#[]⟩, .int .i64 20]) ∧ Ext w w' := by
 go_enter Tryz.func17, Tryz.ntmps17
 go_wp2_with (first
  | (go_at_call 20; (with_reducible refine (kC _ xcl).mono ?_); rintro e w1 ⟨rfl, xb1⟩; obtain ⟨xc1, xf1, xl1, xz1⟩ := jU xb1; (try simp at xz1))
  )
 refine bodyPost_ret (v := .tuple #[.string ⟨#[]⟩, .int .i64 20]) ?h rfl ⟨rfl, ?_⟩
 case h => simp [results, Tryz.results17, go_sem]
 exact xcl
theorem rd_Floor_yes (x : Int) (p : Nat) (Q : Int) (hQ : x / ((denOf p : Nat) : Int) = Q) (hp : 0 < denOf p) (hx : (lim x.natAbs).length ≤ 300000) (hpl : (lim p).length ≤ 300000) (hpd : (lim (denOf p)).length ≤ 300000) (kC : ∀ w', Ext w w' → Calls Tryz.prog 20 #[ratV s A n c D m k] w' fun e w'' => e = .returned (.int .i64 0) ∧ Ext w' w'') (kR : ∀ w', Ext w w' → Calls Tryz.prog 32 #[ratV s A n c D m k] w' (RatPst w' x p)) :
  Calls Tryz.prog 14 #[ratV s A n c D m k] w fun e w' => ∃ (B : Option Addr) (j l : Nat), e = .returned (.tuple #[.bool (decide (Q < 0)), natV B j l, .int .i64 0]) ∧ Hid (Rd w' B j l (lim Q.natAbs)) ∧ Ext w w' := by
 have hql : (lim Q.natAbs).length ≤ 300000 := by rw [← hQ]; exact Nat.le_trans (lim_mono (Int.natAbs_ediv_le_natAbs x _)) hx
 have hsg : decide (Q.sign < 0) = decide (Q < 0) := by rw [decide_eq_decide]; exact Int.sign_neg_iff
 go_enter Tryz.func14, Tryz.ntmps14
 go_upto_region 7 with (first
  | (go_at_call 20; (with_reducible refine (kC _ xcl).mono ?_); rintro e w1 ⟨rfl, xb1⟩; obtain ⟨xc1, xf1, xl1, xz1⟩ := jU xb1; (try simp at xz1); obtain ⟨l1_0, r1_0, f1_0, r1_0_1, f1_0_1, r1_0_2, f1_0_2⟩ := kq3 xb1 (w.heap.size); obtain ⟨l1_1, r1_1, f1_1⟩ := kq1 xb1 (w.heap.size + 1))
  | (go_at_call 32; (with_reducible refine (kR _ xcl).mono ?_); rintro e w2 ⟨g2, A2, n2, c2, D2, m2, k2, rfl, hR2, hg2, xb2⟩; obtain ⟨xc2, xf2, xl2, xz2⟩ := jU xb2; (try simp at xz2); obtain ⟨l2_0, r2_0, f2_0⟩ := kq1 xb2 (w.heap.size + 1))
  )
 have hE2 : Hid (Ext w w2) := by show Ext w w2; exact xcl
 have hn2 : n2 ≤ 1000000 := by have := hR2.out.1.int.rd.len; omega
 have hm2 : m2 ≤ 900000 := by have := hR2.out.1.rd.len; omega
 have hz2 : w2.heap.size < w2.heap.size + 1 := Nat.lt_succ_self _
 have hr1 : Hid (Room (newInt (newInt w2)) w2.heap.size 0) := Lib.hid ((room_int w2).ext (jA (jR _) _))
 have hr2 : Hid (Room (newInt (newInt w2)) (w2.heap.size + 1) 0) := Lib.hid (by have := room_int (newInt w2); simpa using this)
 have hR2' := Lib.hid hR2.out.1
 have hX2 := Lib.hid (jA (jA (jR w2) (Obj.cells #[.bool false, .slice none 0 0] 77)) (Obj.cells #[.bool false, .slice none 0 0] 77))
 have y0 : w2.cell? ⟨w.heap.size + 1, 0, none⟩ = some (.slice none 0 0) := by simp [go_sem, *]
 have y1 : w2.frozen? ⟨w.heap.size + 1, 0, none⟩ = false := by simp [go_sem, *]
 have yl : w.heap.size + 1 < w2.heap.size := by assumption
 have hQs : Q.sign < 0 ↔ Q < 0 := Int.sign_neg_iff
 have HQ := Lib.hid hQ
 clear kC kR xb1 xb2 hR2 hQ
 go_upto_region 8 with (first
  | (go_at_call 47; (with_reducible refine (br_Num g2 x A2 n2 c2 p D2 m2 k2 hn2 _ (hR2'.out.ext hX2.out)).mono ?_); rintro e w3 ⟨b3, B3, j3, l3, rfl, hI3, hb3, xb3⟩; obtain ⟨xc3, xf3, xl3, xz3⟩ := jU xb3; (try simp at xz3))
  | (go_at_call 48; (with_reducible refine (br_Denom g2 x A2 n2 c2 p D2 m2 k2 hm2 _ (hR2'.out.ext (jT hX2.out xb3))).mono ?_); rintro e w4 ⟨b4, B4, j4, l4, rfl, hI4, hb4, xb4⟩; obtain ⟨xc4, xf4, xl4, xz4⟩ := jU xb4; (try simp at xz4))
  | (go_at_call 46; have hs3 : w2.heap.size + 1 + 1 ≤ b3 := (by have h := hb3; simp at h; omega); have hs4 : w2.heap.size + 1 + 1 ≤ b4 := (by have h := hb4; have h2 := ext_size xb3; simp at h2; omega); have hj3 : j3 ≤ 400000 := (by have h := hI3.out.1.rd.len; omega); have hj4 : j4 ≤ 400000 := (by have h := hI4.out.1.rd.len; rw [Int.natAbs_natCast] at h; omega); have X1 := bi_DivMod w2.heap.size (w2.heap.size + 1) b3 b4 x ((denOf p : Nat) : Int) (by omega) (by omega) ⟨by omega, by omega⟩ ⟨by omega, by omega⟩ B3 j3 l3 B4 j4 l4 hj3 hj4 w4 (hr1.out.ext (jT xb3 xb4)) (hr2.out.ext (jT xb3 xb4)) (hI3.out.1.ext xb4) hI4.out.1; rw [HQ.out] at X1; (with_reducible refine X1.mono ?_); rintro e w5 ⟨rfl, A5, n5, c5, A6, n6, c6, hI5, hE5, hz5⟩)
  )
 have hE25 := Lib.hid (hE5.out w2 (jT hX2.out (jT xb3 xb4)) (Nat.le_refl _) (Nat.le_succ _))
 have hI5' := Lib.hid hI5.out.1
 have hn5 : n5 ≤ 1000000 := by have := hI5.out.1.rd.len; omega
 have y0 := (Below.cell (p := ⟨w.heap.size + 1, 0, none⟩) hE25.out yl).trans y0
 have y1 := (Below.frozen (p := ⟨w.heap.size + 1, 0, none⟩) hE25.out yl).trans y1
 have yl := Nat.lt_of_lt_of_le yl hE25.out.size
 have hEw := Lib.hid (jT hE2.out hE25.out)
 have kSg : ∀ w', Ext w5 w' → Calls Tryz.prog 49 #[.pointer (some ⟨w2.heap.size, 0, none⟩)] w' fun e w'' => e = .returned (.int .i64 Q.sign) ∧ Ext w' w'' := fun w' he => bi_Sign w2.heap.size 0 Q A5 n5 c5 w' (hI5'.out.ext he)
 have kNt : ∀ w', Ext w5 w' → Calls Tryz.prog 50 #[.pointer (some ⟨w2.heap.size, 0, none⟩)] w' fun e w'' => ∃ (B : Option Addr) (k l : Nat), e = .returned (natV B k l) ∧ Hid (Rd w'' B k l (lim Q.natAbs) ∧ Fr w' B) ∧ Ext w' w'' := fun w' he => rd_Nat w2.heap.size 0 Q A5 n5 c5 hn5 w' (hI5'.out.ext he)
 have hQs2 := Lib.hid hsg
 clear hI3 hb3 xb3 hI4 hb4 xb4 hI5 hE5 hz5 hr1 hr2 hR2' hX2 hE2 hI5'
 go_wp2_with (first
  | (go_at_call 49; (with_reducible refine (kSg _ xcl).mono ?_); rintro e w6 ⟨rfl, xb6⟩; obtain ⟨xc6, xf6, xl6, xz6⟩ := jU xb6; (try simp at xz6); obtain ⟨l6_0, r6_0, f6_0⟩ := kq1 xb6 (w.heap.size + 1))
  | (go_at_call 50; (with_reducible refine (kNt _ xcl).mono ?_); rintro e w7 ⟨B7, j7, l7, rfl, hR7, xb7⟩; obtain ⟨xc7, xf7, xl7, xz7⟩ := jU xb7; (try simp at xz7); obtain ⟨l7_0, r7_0, f7_0⟩ := kq1 xb7 (w.heap.size + 1))
  )
 have hE57 : Ext w5 w7 := xcl
 have z0 : w7.cell? ⟨w.heap.size + 1, 0, none⟩ = some (.slice none 0 0) := by simp [go_sem, *]
 have q0 := World.cell?_setCell_same w7 ⟨w.heap.size + 1, 0, none⟩ (.slice B7 j7 l7) z0
 have n7 : ∀ a, B7 = some a → w.heap.size + 1 < a.block := fun a ha => by have := hR7.out.2 a ha; omega
 refine bodyPost_ret (v := .tuple #[.bool (decide (Q < 0)), natV B7 j7 l7, .int .i64 0]) ?h rfl ⟨B7, j7, l7, rfl, hR7.out.1.set _ n7, jS (jT hEw.out hE57) (Nat.le_succ _) _⟩
 case h => simp [results, Tryz.results14, go_sem, q0, natV, hsg]
theorem rd_Text_yes (x : Int) (p : Nat) (hx : (lim x.natAbs).length ≤ 18000) (hpl : (lim p).length ≤ 18000) (hpd : (lim (denOf p)).length ≤ 18000) (kC : ∀ w', Ext w w' → Calls Tryz.prog 20 #[ratV s A n c D m k] w' fun e w'' => e = .returned (.int .i64 0) ∧ Ext w' w'') (kR : ∀ w', Ext w w' → Calls Tryz.prog 32 #[ratV s A n c D m k] w' (RatPst w' x p)) :
  Calls Tryz.prog 17 #[ratV s A n c D m k] w fun e w' => e = .returned (.tuple #[.string (bs (rtext x (denOf p))), .int .i64 0]) ∧ Ext w w' := by
 by_cases h1 : denOf p = 1
 ·have hd : decide (denOf p = 1) = true := decide_eq_true h1
  have hr : rtext x (denOf p) = itext x := by unfold rtext; rw [if_pos h1]
  rw [hr]
  have HR := Lib.hid hr
  clear hr h1
  go_enter Tryz.func17, Tryz.ntmps17
  go_upto_region 5 with (first
   | (go_at_call 20; (with_reducible refine (kC _ xcl).mono ?_); rintro e w1 ⟨rfl, xb1⟩; obtain ⟨xc1, xf1, xl1, xz1⟩ := jU xb1; (try simp at xz1); obtain ⟨l1_0, r1_0, f1_0, r1_0_1, f1_0_1, r1_0_2, f1_0_2⟩ := kq3 xb1 (w.heap.size))
   | (go_at_call 32; (with_reducible refine (kR _ xcl).mono ?_); rintro e w2 ⟨g2, A2, n2, c2, D2, m2, k2, rfl, hR2, hg2, xb2⟩; obtain ⟨xc2, xf2, xl2, xz2⟩ := jU xb2; (try simp at xz2))
   )
  have hn2 : n2 ≤ 1000000 := by have := hR2.out.1.int.rd.len; omega
  go_wp2_with (first
   | (go_at_call 53; (with_reducible refine (br_IsInt g2 x A2 n2 c2 p D2 m2 k2 _ hR2.out.1).mono ?_); rintro e w3 ⟨rfl, xb3⟩; obtain ⟨xc3, xf3, xl3, xz3⟩ := jU xb3; (try simp at xz3))
   | (go_at_call 47; (with_reducible refine (br_Num g2 x A2 n2 c2 p D2 m2 k2 hn2 _ (hR2.out.1.ext xb3)).mono ?_); rintro e w4 ⟨b4, B4, j4, l4, rfl, hI4, hb4, xb4⟩; obtain ⟨xc4, xf4, xl4, xz4⟩ := jU xb4; (try simp at xz4))
   | (go_at_call 54; have hj4 : j4 ≤ 19000 := (by have h := hI4.out.1.rd.len; omega); (with_reducible refine (bi_String b4 x B4 j4 l4 hj4 _ hI4.out.1).mono ?_); rintro e w5 ⟨rfl, xb5⟩)
   )
  refine bodyPost_ret (v := .tuple #[.string (bs (itext x)), .int .i64 0]) ?h rfl ⟨rfl, ?_⟩
  case h => simp [results, Tryz.results17, go_sem]
  exact xcl
 ·have hd : decide (denOf p = 1) = false := decide_eq_false h1
  have hr : rtext x (denOf p) = itext x ++ 47 :: itext ((denOf p : Nat) : Int) := by unfold rtext; rw [if_neg h1, itext_nat]
  have l1 : (itext x).length ≤ 600002 := by
   unfold itext dtext
   rw [List.length_append]
   have h2 : (digs x.natAbs).length ≤ 32 * 18000 := digs_lim' (k := 18000) hx
   split <;> split <;> simp <;> omega
  have l2 : (itext ((denOf p : Nat) : Int)).length ≤ 600002 := by
   rw [itext_nat]
   unfold dtext
   have h2 : (digs (denOf p)).length ≤ 32 * 18000 := digs_lim' (k := 18000) hpd
   split
   ·simp
   ·omega
  have kS4 : ∀ (b : Nat) (B : Option Addr) (j l : Nat) (w' : World), IntIs w' b 0 x B j l → Calls Tryz.prog 54 #[.pointer (some ⟨b, 0, none⟩)] w' fun e' w'' => e' = .returned (.string (bs (itext x))) ∧ Ext w' w'' := fun b B j l w' hI => by
   have h1 := hI.rd.len
   exact bi_String b x B j l (by omega) w' hI
  have kS6 : ∀ (b : Nat) (B : Option Addr) (j l : Nat) (w' : World), IntIs w' b 0 ((denOf p : Nat) : Int) B j l → Calls Tryz.prog 54 #[.pointer (some ⟨b, 0, none⟩)] w' fun e' w'' => e' = .returned (.string (bs (itext ((denOf p : Nat) : Int)))) ∧ Ext w' w'' := fun b B j l w' hI => by
   have h1 := hI.rd.len
   rw [Int.natAbs_natCast] at h1
   exact bi_String b _ B j l (by omega) w' hI
  rw [hr]
  clear hr h1
  generalize itext x = a at *
  generalize itext ((denOf p : Nat) : Int) = b at *
  go_enter Tryz.func17, Tryz.ntmps17
  go_upto_region 5 with (first
   | (go_at_call 20; (with_reducible refine (kC _ xcl).mono ?_); rintro e w1 ⟨rfl, xb1⟩; obtain ⟨xc1, xf1, xl1, xz1⟩ := jU xb1; (try simp at xz1); obtain ⟨l1_0, r1_0, f1_0, r1_0_1, f1_0_1, r1_0_2, f1_0_2⟩ := kq3 xb1 (w.heap.size))
   | (go_at_call 32; (with_reducible refine (kR _ xcl).mono ?_); rintro e w2 ⟨g2, A2, n2, c2, D2, m2, k2, rfl, hR2, hg2, xb2⟩; obtain ⟨xc2, xf2, xl2, xz2⟩ := jU xb2; (try simp at xz2))
   )
  have hn2 : n2 ≤ 1000000 := by have := hR2.out.1.int.rd.len; omega
  have hm2 : m2 ≤ 900000 := by have := hR2.out.1.rd.len; omega
  go_wp2_with (first
   | (go_at_call 53; (with_reducible refine (br_IsInt g2 x A2 n2 c2 p D2 m2 k2 _ hR2.out.1).mono ?_); rintro e w3 ⟨rfl, xb3⟩; obtain ⟨xc3, xf3, xl3, xz3⟩ := jU xb3; (try simp at xz3))
   | (go_at_call 47; (with_reducible refine (br_Num g2 x A2 n2 c2 p D2 m2 k2 hn2 _ (hR2.out.1.ext xcl)).mono ?_); rintro e w4 ⟨b4, B4, j4, l4, rfl, hI4, hb4, xb4⟩; obtain ⟨xc4, xf4, xl4, xz4⟩ := jU xb4; (try simp at xz4))
   | (go_at_call 48; (with_reducible refine (br_Denom g2 x A2 n2 c2 p D2 m2 k2 hm2 _ (hR2.out.1.ext xcl)).mono ?_); rintro e w6 ⟨b6, B6, j6, l6, rfl, hI6, hb6, xb6⟩; obtain ⟨xc6, xf6, xl6, xz6⟩ := jU xb6; (try simp at xz6))
   | (go_at_call 54; (with_reducible refine (kS6 b6 B6 j6 l6 _ hI6.out.1).mono ?_); rintro e w7 ⟨rfl, xb7⟩)
   | (go_at_call 54; (with_reducible refine (kS4 b4 B4 j4 l4 _ hI4.out.1).mono ?_); rintro e w5 ⟨rfl, xb5⟩)
   )
  have e1 : bs a ++ ({ data := #[47] } : ByteArray) ++ bs b = bs (a ++ 47 :: b) := by
   show bs a ++ bs [47] ++ bs b = _
   rw [bs_append, bs_append, List.append_assoc]; rfl
  refine bodyPost_ret (v := .tuple #[.string (bs (a ++ 47 :: b)), .int .i64 0]) ?h rfl ⟨rfl, ?_⟩
  case h => simp [results, Tryz.results17, go_sem, e1]
  exact xcl
end
end Go.Proofs.YtfdmhefjmnlllaaGreatDoor.NB
end
section
/- The sign turned, and dropped: the program's ratio.Neg and ratio.Abs, out of what `of` answers (written by mkabn.py). -/
namespace Go.Proofs.YtfdmhefjmnlllaaGreatDoor
open Go.RowKit
attribute [local go_sem] sz2 sz3 sz4 sz5 sz6 sz7 sz8
attribute [local go_sem] D2.Oper.detAt D2.detUpon D2.relUpon
set_option maxHeartbeats 4000000
set_option maxRecDepth 100000
attribute [local irreducible] Calls
def D2.RFr (s : Bool) (z : Int) (d : Nat) : List Value → Value → World → Prop := fun _ u w => ∃ F : FH, u = fV s F ∧ RaF w z d F
theorem D2.stays_fr (s : Bool) (z : Int) (d : Nat) : D2.Stays (D2.RFr s z d) := fun _ _ _ _ ⟨F, h1, h2⟩ he => ⟨F, h1, h2.ext he⟩
theorem D2.fr_at {s : Bool} {z : Int} {d : Nat} {vals : List Value} {F : FH} {w : World} (h : D2.RFr s z d vals (fV s F) w) : RaF w z d F := by
 obtain ⟨⟨A, n, c, D, m, k⟩, e, h2⟩ := h
 obtain ⟨A', n', c', D', m', k'⟩ := F
 simp only [Value.agg.injEq, Array.mk.injEq, List.cons.injEq, Value.slice.injEq, true_and, and_true] at e
 obtain ⟨⟨rfl, rfl, rfl⟩, rfl, rfl, rfl⟩ := e
 exact h2
theorem D2.rel_fr {P : Program} {f : FuncId} {args : Array Value} {s : Bool} {z : Int} {d : Nat} {vals : List Value} {w : World} (h : Calls P f args w fun e w' => ∃ F : FH, e = .returned (fV s F) ∧ Hid (RaF w' z d F) ∧ Ext w w') :
  Calls P f args w fun e w' => ∃ v, e = .returned v ∧ Ext w w' ∧ D2.Fresh w v w' ∧ D2.RFr s z d vals v w' :=
 h.mono fun e w' ⟨F, h1, h2, h3⟩ => ⟨_, h1, h3, fun b hb => by simp [D2.blk] at hb, F, rfl, h2.out⟩
theorem rat_room_at {w : World} {g : Nat} (h : w.heap[g]? = some (.cells #[.bool false, .slice none 0 0, .slice none 0 0] 68 (0, 0))) : RatRoom w g := by
 have hl := (Array.getElem?_eq_some_iff.1 h).1
 have c := fun i => D2.cell_of_block h i
 have f := fun i => D2.frozen_of_block h i
 exact ⟨⟨hl, ⟨_, c 0⟩, ⟨_, c 1⟩, f 0, f 1⟩, ⟨_, c 2⟩, f 2⟩
abbrev OgPst (g : Nat) (w : World) (s : Bool) (xs ys : List Nat) (E : Int) : Ending → World → Prop := fun e w' => ∃ F : FH, e = .returned (.tuple #[fV s F, .int .i64 E]) ∧ Hid (RdO w' F.A F.n F.c xs none ∧ Fr w F.A ∧ RdO w' F.D F.m F.k ys F.A ∧ Fr w F.D) ∧ Tch g w w'
section
variable (s : Bool) (A : Option Addr) (n c : Nat) (D : Option Addr) (m k : Nat) (w : World) (r : Bool) (zs ws : List Nat) (E : Int)
theorem ra_Neg_of (kO : ∀ (g : Nat) (F : FH) (W : World), RatRoom W g → Ext w W → RaF W 0 1 F → Calls Tryz.prog 36 #[fV false F, ratV s A n c D m k, .func (.func 37) #[.pointer (some ⟨g, 0, none⟩)] #[]] W (OgPst g W r zs ws E)) :
  Calls Tryz.prog 10 #[ratV s A n c D m k] w (OfPst w r zs ws E) := by
 have kW := fun w' => op_Whole (z := 0) (u := false) (by decide) (by decide) rfl w'
 go_enter Tryz.func10, Tryz.ntmps10
 go_upto_region 1 with fail
 refine D2.wp_drawn_neck 4 (D2.tab [(0, D2.RFr false 0 1), (2, D2.RAlloc (w.heap.size + 1 + 1) (.cells #[.bool false, .slice none 0 0, .slice none 0 0] 68))]) (by kernel_rfl) (by kernel_rfl) (by kernel_rfl) (D2.tab_stays (by simp [D2.stays_alloc, D2.stays_fr])) (fun hq hqf => ?_)
 simp only [List.take_succ_cons, List.take_zero, List.drop_succ_cons, List.drop_zero]
 refine D2.wpK_rel _ rfl rfl ?_ ?_
 ·rintro _ ⟨nn, rfl⟩ _
  unfold D2.Oper.relAt
  go_simp
  exact D2.rel_fr (kW _)
 rintro v ⟨_, ⟨nn, rfl⟩, hr⟩
 obtain ⟨F0, rfl, -⟩ := hr
 clear nn
 refine D2.wpK_det rfl (fun K hK => ?_)
 go_simp
 refine hK _ ?_; clear hK K
 refine D2.wpK_rel _ rfl rfl ?_ ?_
 ·rintro _ ⟨n, rfl⟩ _
  unfold D2.Oper.relAt
  go_simp
  exact D2.rAlloc_new (vals := []) (by have := ext_size n.use; simpa using this)
 rintro v ⟨_, ⟨n, rfl⟩, hr⟩
 obtain ⟨G, rfl, leG⟩ := D2.rAlloc_open (vals := []) hr
 clear hr n
 simp only [Act.put, List.setIfInBounds_toArray, List.set_cons_zero, List.set_cons_succ]
 refine D2.wpK_det rfl (fun K hK => ?_)
 go_simp
 refine hK _ ?_; clear hK K
 refine D2.wpK_nil ?_
 intro nq hG f
 have hB : nq.out.heap[G]? = some (.cells #[.bool false, .slice none 0 0, .slice none 0 0] 68 (0, 0)) := by have := hG.fact 2; simp [D2.Facts.put, D2.RAlloc] at this; exact this.2
 have hF0 : Hid (RaF nq.out 0 1 F0) := by
  have : D2.RFr false 0 1 [] (fV false F0) nq.out := by have := hG.fact 0; simp [D2.Facts.put] at this; exact this
  exact Lib.hid (D2.fr_at this)
 have hr := rat_room_at hB
 have lG := hr.int.lt
 have hE := nq.use
 have hEw : Ext w nq.out := jT (jA (jA (jR w) (Obj.cells #[.bool s, .slice A n c, .slice D m k] 26)) (Obj.cells #[.bool false, .slice none 0 0, .slice none 0 0] 26)) hE
 have kC := kO G F0 nq.out hr hEw hF0.out
 have z0 : nq.out.cell? ⟨w.heap.size + 1, 0, none⟩ = some (.bool false) := (hq nq (w.heap.size + 1) 0 (by simp)).trans (by simp [go_sem])
 have z1 : nq.out.cell? ⟨w.heap.size + 1, 1, none⟩ = some (.slice none 0 0) := (hq nq (w.heap.size + 1) 1 (by simp)).trans (by simp [go_sem])
 have z2 : nq.out.cell? ⟨w.heap.size + 1, 2, none⟩ = some (.slice none 0 0) := (hq nq (w.heap.size + 1) 2 (by simp)).trans (by simp [go_sem])
 have f0 : nq.out.frozen? ⟨w.heap.size + 1, 0, none⟩ = false := (hqf nq (w.heap.size + 1) 0 (by simp)).trans (by simp [go_sem])
 have f1 : nq.out.frozen? ⟨w.heap.size + 1, 1, none⟩ = false := (hqf nq (w.heap.size + 1) 1 (by simp)).trans (by simp [go_sem])
 have f2 : nq.out.frozen? ⟨w.heap.size + 1, 2, none⟩ = false := (hqf nq (w.heap.size + 1) 2 (by simp)).trans (by simp [go_sem])
 have zl : w.heap.size + 1 < nq.out.heap.size := by have := hE.size; simp at this; omega
 have HE := Lib.hid hEw
 clear hG hB hF0 hr hE hEw hq hqf
 refine any_one (i := 4) (f := f + 4) (by kernel_rfl) rfl ?_
 go_wp2_with (first
  | (go_at_call 36; (with_reducible refine kC.mono ?_); rintro e wc ⟨F1, rfl, hI, ht⟩)
  )
 have nb : ∀ o, (⟨w.heap.size + 1, o, none⟩ : Addr).block ≠ G := fun o => by simp only; omega
 have z0 := (ht.cell (p := ⟨w.heap.size + 1, 0, none⟩) zl (nb 0)).trans z0
 have z1 := (ht.cell (p := ⟨w.heap.size + 1, 1, none⟩) zl (nb 1)).trans z1
 have z2 := (ht.cell (p := ⟨w.heap.size + 1, 2, none⟩) zl (nb 2)).trans z2
 have f0 := (ht.frozen (p := ⟨w.heap.size + 1, 0, none⟩) zl (nb 0)).trans f0
 have f1 := (ht.frozen (p := ⟨w.heap.size + 1, 1, none⟩) zl (nb 1)).trans f1
 have f2 := (ht.frozen (p := ⟨w.heap.size + 1, 2, none⟩) zl (nb 2)).trans f2
 have hE1 := Lib.hid (ht.ext HE.out (by omega))
 have n5 : ∀ a, F1.A = some a → w.heap.size + 1 < a.block := fun a ha => by have := hI.out.2.1 a ha; omega
 have n6 : ∀ a, F1.D = some a → w.heap.size + 1 < a.block := fun a ha => by have := hI.out.2.2.2 a ha; omega
 obtain ⟨q0, q1, q2⟩ := set3 (b := w.heap.size + 1) z0 z1 z2 (.bool r) (.slice F1.A F1.n F1.c) (.slice F1.D F1.m F1.k)
 clear HE kC kO ht nb zl
 refine any_two (i := 5) (j := 6) (f := f + 3) (by kernel_rfl) rfl rfl ?_ ?_
 ·go_wp2
  refine any_one (i := 6) (f := f + 2) (by kernel_rfl) rfl ?_
  go_wp2
  refine any_one (i := 7) (f := f + 1) (by kernel_rfl) rfl ?_
  go_wp2
  refine any_one (i := 8) (f := f) (by kernel_rfl) rfl ?_
  go_wp2
  refine any_none (by kernel_rfl) ?_
  go_wp2
  refine bodyPost_ret (v := .tuple #[ratV r F1.A F1.n F1.c F1.D F1.m F1.k, .int .i64 E]) ?h rfl ⟨F1, rfl, ⟨hI.out.1.set3 n5 _ _ _, fun a ha => Nat.le_of_lt (by have := n5 a ha; omega), hI.out.2.2.1.set3 n6 _ _ _, fun a ha => Nat.le_of_lt (by have := n6 a ha; omega)⟩, ext_set3 hE1.out (by omega) _ _ _⟩
  case h => simp [results, Tryz.results10, go_sem, q0, q1, q2]
 ·go_wp2
  refine any_one (i := 5) (f := f + 2) (by kernel_rfl) rfl ?_
  go_wp2
  refine any_one (i := 7) (f := f + 1) (by kernel_rfl) rfl ?_
  go_wp2
  refine any_one (i := 8) (f := f) (by kernel_rfl) rfl ?_
  go_wp2
  refine any_none (by kernel_rfl) ?_
  go_wp2
  refine bodyPost_ret (v := .tuple #[ratV r F1.A F1.n F1.c F1.D F1.m F1.k, .int .i64 E]) ?h rfl ⟨F1, rfl, ⟨hI.out.1.set3 n5 _ _ _, fun a ha => Nat.le_of_lt (by have := n5 a ha; omega), hI.out.2.2.1.set3 n6 _ _ _, fun a ha => Nat.le_of_lt (by have := n6 a ha; omega)⟩, ext_set3 hE1.out (by omega) _ _ _⟩
  case h => simp [results, Tryz.results10, go_sem, q0, q1, q2]
theorem ra_Abs_of (kO : ∀ (g : Nat) (F : FH) (W : World), RatRoom W g → Ext w W → RaF W 0 1 F → Calls Tryz.prog 36 #[fV false F, ratV false A n c D m k, .func (.func 39) #[.pointer (some ⟨g, 0, none⟩)] #[]] W (OgPst g W r zs ws E)) :
  Calls Tryz.prog 12 #[ratV false A n c D m k] w (OfPst w r zs ws E) := by
 have kW := fun w' => op_Whole (z := 0) (u := false) (by decide) (by decide) rfl w'
 go_enter Tryz.func12, Tryz.ntmps12
 go_upto_region 3 with fail
 refine D2.wp_drawn_neck 4 (D2.tab [(0, D2.RFr false 0 1), (2, D2.RAlloc (w.heap.size + 1 + 1) (.cells #[.bool false, .slice none 0 0, .slice none 0 0] 68))]) (by kernel_rfl) (by kernel_rfl) (by kernel_rfl) (D2.tab_stays (by simp [D2.stays_alloc, D2.stays_fr])) (fun hq hqf => ?_)
 simp only [List.take_succ_cons, List.take_zero, List.drop_succ_cons, List.drop_zero]
 refine D2.wpK_rel _ rfl rfl ?_ ?_
 ·rintro _ ⟨nn, rfl⟩ _
  unfold D2.Oper.relAt
  go_simp
  exact D2.rel_fr (kW _)
 rintro v ⟨_, ⟨nn, rfl⟩, hr⟩
 obtain ⟨F0, rfl, -⟩ := hr
 clear nn
 refine D2.wpK_det rfl (fun K hK => ?_)
 go_simp
 refine hK _ ?_; clear hK K
 refine D2.wpK_rel _ rfl rfl ?_ ?_
 ·rintro _ ⟨n, rfl⟩ _
  unfold D2.Oper.relAt
  go_simp
  exact D2.rAlloc_new (vals := []) (by have := ext_size n.use; simpa using this)
 rintro v ⟨_, ⟨n, rfl⟩, hr⟩
 obtain ⟨G, rfl, leG⟩ := D2.rAlloc_open (vals := []) hr
 clear hr n
 simp only [Act.put, List.setIfInBounds_toArray, List.set_cons_zero, List.set_cons_succ]
 refine D2.wpK_det rfl (fun K hK => ?_)
 go_simp
 refine hK _ ?_; clear hK K
 refine D2.wpK_nil ?_
 intro nq hG f
 have hB : nq.out.heap[G]? = some (.cells #[.bool false, .slice none 0 0, .slice none 0 0] 68 (0, 0)) := by have := hG.fact 2; simp [D2.Facts.put, D2.RAlloc] at this; exact this.2
 have hF0 : Hid (RaF nq.out 0 1 F0) := by
  have : D2.RFr false 0 1 [] (fV false F0) nq.out := by have := hG.fact 0; simp [D2.Facts.put] at this; exact this
  exact Lib.hid (D2.fr_at this)
 have hr := rat_room_at hB
 have lG := hr.int.lt
 have hE := nq.use
 have hEw : Ext w nq.out := jT (jA (jA (jR w) (Obj.cells #[.bool false, .slice A n c, .slice D m k] 26)) (Obj.cells #[.bool false, .slice none 0 0, .slice none 0 0] 26)) hE
 have kC := kO G F0 nq.out hr hEw hF0.out
 have z0 : nq.out.cell? ⟨w.heap.size + 1, 0, none⟩ = some (.bool false) := (hq nq (w.heap.size + 1) 0 (by simp)).trans (by simp [go_sem])
 have z1 : nq.out.cell? ⟨w.heap.size + 1, 1, none⟩ = some (.slice none 0 0) := (hq nq (w.heap.size + 1) 1 (by simp)).trans (by simp [go_sem])
 have z2 : nq.out.cell? ⟨w.heap.size + 1, 2, none⟩ = some (.slice none 0 0) := (hq nq (w.heap.size + 1) 2 (by simp)).trans (by simp [go_sem])
 have f0 : nq.out.frozen? ⟨w.heap.size + 1, 0, none⟩ = false := (hqf nq (w.heap.size + 1) 0 (by simp)).trans (by simp [go_sem])
 have f1 : nq.out.frozen? ⟨w.heap.size + 1, 1, none⟩ = false := (hqf nq (w.heap.size + 1) 1 (by simp)).trans (by simp [go_sem])
 have f2 : nq.out.frozen? ⟨w.heap.size + 1, 2, none⟩ = false := (hqf nq (w.heap.size + 1) 2 (by simp)).trans (by simp [go_sem])
 have zl : w.heap.size + 1 < nq.out.heap.size := by have := hE.size; simp at this; omega
 have HE := Lib.hid hEw
 clear hG hB hF0 hr hE hEw hq hqf
 refine any_one (i := 4) (f := f + 4) (by kernel_rfl) rfl ?_
 go_wp2_with (first
  | (go_at_call 36; (with_reducible refine kC.mono ?_); rintro e wc ⟨F1, rfl, hI, ht⟩)
  )
 have nb : ∀ o, (⟨w.heap.size + 1, o, none⟩ : Addr).block ≠ G := fun o => by simp only; omega
 have z0 := (ht.cell (p := ⟨w.heap.size + 1, 0, none⟩) zl (nb 0)).trans z0
 have z1 := (ht.cell (p := ⟨w.heap.size + 1, 1, none⟩) zl (nb 1)).trans z1
 have z2 := (ht.cell (p := ⟨w.heap.size + 1, 2, none⟩) zl (nb 2)).trans z2
 have f0 := (ht.frozen (p := ⟨w.heap.size + 1, 0, none⟩) zl (nb 0)).trans f0
 have f1 := (ht.frozen (p := ⟨w.heap.size + 1, 1, none⟩) zl (nb 1)).trans f1
 have f2 := (ht.frozen (p := ⟨w.heap.size + 1, 2, none⟩) zl (nb 2)).trans f2
 have hE1 := Lib.hid (ht.ext HE.out (by omega))
 have n5 : ∀ a, F1.A = some a → w.heap.size + 1 < a.block := fun a ha => by have := hI.out.2.1 a ha; omega
 have n6 : ∀ a, F1.D = some a → w.heap.size + 1 < a.block := fun a ha => by have := hI.out.2.2.2 a ha; omega
 obtain ⟨q0, q1, q2⟩ := set3 (b := w.heap.size + 1) z0 z1 z2 (.bool r) (.slice F1.A F1.n F1.c) (.slice F1.D F1.m F1.k)
 clear HE kC kO ht nb zl
 refine any_two (i := 5) (j := 6) (f := f + 3) (by kernel_rfl) rfl rfl ?_ ?_
 ·go_wp2
  refine any_one (i := 6) (f := f + 2) (by kernel_rfl) rfl ?_
  go_wp2
  refine any_one (i := 7) (f := f + 1) (by kernel_rfl) rfl ?_
  go_wp2
  refine any_one (i := 8) (f := f) (by kernel_rfl) rfl ?_
  go_wp2
  refine any_none (by kernel_rfl) ?_
  go_wp2
  refine bodyPost_ret (v := .tuple #[ratV r F1.A F1.n F1.c F1.D F1.m F1.k, .int .i64 E]) ?h rfl ⟨F1, rfl, ⟨hI.out.1.set3 n5 _ _ _, fun a ha => Nat.le_of_lt (by have := n5 a ha; omega), hI.out.2.2.1.set3 n6 _ _ _, fun a ha => Nat.le_of_lt (by have := n6 a ha; omega)⟩, ext_set3 hE1.out (by omega) _ _ _⟩
  case h => simp [results, Tryz.results12, go_sem, q0, q1, q2]
 ·go_wp2
  refine any_one (i := 5) (f := f + 2) (by kernel_rfl) rfl ?_
  go_wp2
  refine any_one (i := 7) (f := f + 1) (by kernel_rfl) rfl ?_
  go_wp2
  refine any_one (i := 8) (f := f) (by kernel_rfl) rfl ?_
  go_wp2
  refine any_none (by kernel_rfl) ?_
  go_wp2
  refine bodyPost_ret (v := .tuple #[ratV r F1.A F1.n F1.c F1.D F1.m F1.k, .int .i64 E]) ?h rfl ⟨F1, rfl, ⟨hI.out.1.set3 n5 _ _ _, fun a ha => Nat.le_of_lt (by have := n5 a ha; omega), hI.out.2.2.1.set3 n6 _ _ _, fun a ha => Nat.le_of_lt (by have := n6 a ha; omega)⟩, ext_set3 hE1.out (by omega) _ _ _⟩
  case h => simp [results, Tryz.results12, go_sem, q0, q1, q2]
theorem ra_Abs_neg (kO : ∀ w', Ext w w' → Calls Tryz.prog 10 #[ratV true A n c D m k] w' (OfPst w' r zs ws E)) :
  Calls Tryz.prog 12 #[ratV true A n c D m k] w (OfPst w r zs ws E) := by
 go_enter Tryz.func12, Tryz.ntmps12
 go_wp2_with (first
  | (go_at_call 10; (with_reducible refine (kO _ xcl).mono ?_); rintro e w1 ⟨F1, rfl, hI, xb1⟩; obtain ⟨xc1, xf1, xl1, xz1⟩ := jU xb1; (try simp at xz1); obtain ⟨l1_0, r1_0, f1_0, r1_0_1, f1_0_1, r1_0_2, f1_0_2⟩ := kq3 xb1 (w.heap.size + 1))
  )
 have z0 : w1.cell? ⟨w.heap.size + 1, 0, none⟩ = some (.bool false) := by simp [go_sem, *]
 have z1 : w1.cell? ⟨w.heap.size + 1, 1, none⟩ = some (.slice none 0 0) := by simp [go_sem, *]
 have z2 : w1.cell? ⟨w.heap.size + 1, 2, none⟩ = some (.slice none 0 0) := by simp [go_sem, *]
 obtain ⟨q0, q1, q2⟩ := set3 (b := w.heap.size + 1) z0 z1 z2 (.bool r) (.slice F1.A F1.n F1.c) (.slice F1.D F1.m F1.k)
 have hEE : Ext w w1 := xcl
 have n5 : ∀ a, F1.A = some a → w.heap.size + 1 < a.block := fun a ha => by have := hI.out.2.1 a ha; simp at this; omega
 have n6 : ∀ a, F1.D = some a → w.heap.size + 1 < a.block := fun a ha => by have := hI.out.2.2.2 a ha; simp at this; omega
 refine bodyPost_ret (v := .tuple #[ratV r F1.A F1.n F1.c F1.D F1.m F1.k, .int .i64 E]) ?h rfl ⟨F1, rfl, ⟨hI.out.1.set3 n5 _ _ _, fun a ha => Nat.le_of_lt (by have := n5 a ha; omega), hI.out.2.2.1.set3 n6 _ _ _, fun a ha => Nat.le_of_lt (by have := n6 a ha; omega)⟩, ext_set3 hEE (by omega) _ _ _⟩
 case h => simp [results, Tryz.results12, go_sem, q0, q1, q2]
end
end Go.Proofs.YtfdmhefjmnlllaaGreatDoor
end
section
/- Neg, Abs, Floor, Text, Check: the program's answer and the document's, together (written by mkabb.py). -/
namespace Go.Proofs.YtfdmhefjmnlllaaGreatDoor
open Go.RowKit
set_option maxHeartbeats 4000000
set_option maxRecDepth 100000
attribute [local irreducible] Calls
abbrev UnPst (f g : FuncId) (s : Bool) (xs ys : List Nat) : Prop := ∃ (r : Bool) (zs ws : List Nat) (E : Int), zs.length ≤ 1000000 ∧ ws.length ≤ 1000000 ∧
 (∀ F w, Tz w → FrIn w F xs ys → Calls Tryz.prog f #[fV s F] w (OfPst w r zs ws E)) ∧ (∀ F w, Tz w → FrIn w F xs ys → Calls Tryz.prog g #[fV s F] w (NB.DfPst w r zs ws E))
theorem nought_in {w : World} {F : FH} (h : RaF w 0 1 F) : FrIn w F (lim 0) (lim 1) := ⟨h.num, h.den⟩
theorem lim_one1 : (lim 1).length = 1 := by kernel_rfl
theorem tk_nought {w : World} {F : FH} (hT : Tz w) (h : RaF w 0 1 F) : ∀ w', Ext w w' → Calls Tryz.prog 40 #[fV false F] w' (KPost w' (sgn false 0) (lowD 0 1)) :=
 tk_yes (s := false) (a := 0) (d := 1) (by decide) (by decide) (fun h => by cases h) (by rw [lim_zero]; simp) (by rw [lim_one1]; decide) F w hT (nought_in h)
theorem og_no {g : Nat} {w : World} {E : Int} {f : FuncId} {v : Array Value} (h : Calls Tryz.prog f v w (NoE w E)) : Calls Tryz.prog f v w (OgPst g w false [] [] E) := by
 refine h.mono ?_
 rintro e w' ⟨rfl, h1⟩
 exact ⟨⟨none, 0, 0, none, 0, 0⟩, rfl, Lib.hid ⟨RdO.nil _ _, fr_none _, RdO.nil _ _, fr_none _⟩, Tch.of h1⟩
theorem og_of {g : Nat} {w : World} {z : Int} {d : Nat} {f : FuncId} {v : Array Value} (h : Calls Tryz.prog f v w (OPost g w z d)) : Calls Tryz.prog f v w (OgPst g w (decide (z < 0)) (lim z.natAbs) (lim d) 0) := by
 refine h.mono ?_
 rintro e w' ⟨A, n, c, D, m, k, rfl, h1, h2⟩
 exact ⟨⟨A, n, c, D, m, k⟩, rfl, h1, h2⟩
section
variable {s : Bool} {xs ys : List Nat}
theorem og_Neg {a d : Nat} (hd : d ≠ 0) (hg : Nat.gcd a d = 1) (hn : s = true → a ≠ 0) (l1 : (lim a).length ≤ 40) (l2 : (lim d).length ≤ 40) (F : FH) (w : World) (hT : Tz w) (hF : FrIn w F (lim a) (lim d)) (g : Nat) (F0 : FH) (W : World) (hr : RatRoom W g) (he : Ext w W) (h0 : RaF W 0 1 F0) :
  Calls Tryz.prog 36 #[fV false F0, fV s F, .func (.func 37) #[.pointer (some ⟨g, 0, none⟩)] #[]] W (OgPst g W (decide (-(sgn s a) < 0)) (lim (-(sgn s a)).natAbs) (lim d) 0) := by
 have h1 : (1 : Nat) ≠ 0 := by decide
 have hq : 1 * d ≠ 0 := by omega
 have hG := can_self (z := -(sgn s a)) (d := d) hd (by rw [Int.natAbs_neg, sgn_abs]; exact hg)
 have e0 : -(sgn s a) = sgn false 0 * (d : Int) - sgn s a * ((1 : Nat) : Int) := by show _ = 0 * (d : Int) - _; rw [Int.zero_mul]; simp
 have e1 : d = 1 * d := (Nat.one_mul d).symm
 have hz1 : canN (sgn false 0 * (d : Int) - sgn s a * ((1 : Nat) : Int)) (1 * d) = -(sgn s a) := by rw [← e0, ← e1]; exact hG.1
 have hz2 : canD (sgn false 0 * (d : Int) - sgn s a * ((1 : Nat) : Int)) (1 * d) = d := by rw [← e0, ← e1]; exact hG.2
 have hWl := lim_mono (canW_le (sgn false 0 * (d : Int) - sgn s a * ((1 : Nat) : Int)) (1 * d))
 rw [← e1] at hWl
 have l3 : (lim (-(sgn s a)).natAbs).length ≤ 40 := by rw [Int.natAbs_neg, sgn_abs]; exact l1
 have hF' := hF.ext he
 have hn0 := h0.num.len
 have hm0 := h0.den.len
 have hn1 := hF'.num.len
 have hm1 := hF'.den.len
 rw [lim_one1] at hm0
 have hn0' : F0.n = 0 := by rw [← hn0]; exact congrArg List.length lim_zero
 have hO := ra_of_Sub g (canN (sgn false 0 * (d : Int) - sgn s a * ((1 : Nat) : Int)) (1 * d)) (canW (sgn false 0 * (d : Int) - sgn s a * ((1 : Nat) : Int)) (1 * d)) (by rw [hz1]; omega) (by rw [← e1]; omega) (by rw [canW_den hq, hz2]; omega) false F0.A F0.n F0.c 0 F0.D F0.m F0.k 1 h1 (by omega) (by omega) rfl (fun h => by cases h) s F.A F.n F.c a F.D F.m F.k d hd (by omega) (by omega) hg hn W (hT.ext he) hr h0.num h0.den hF'.num hF'.den (fun bx X n' c' Y m' k' b2 X2 n2' c2' Y2 m2' k2' w' hE h5 h6 h7 h8 => by
  have q1 := h5.int.rd.len
  have q2 := h5.rd.len
  have q3 := h6.int.rd.len
  have q4 := h6.rd.len
  rw [sgn_abs] at q1 q3
  rw [lim_zero] at q1
  have q5 := lim_mono (lowD_le a d)
  have q6 := lim_mono (lowD_le 0 1)
  rw [lim_one1] at q6
  simp only [List.length_nil] at q1
  have := br_Sub g bx b2 (sgn false 0) (sgn s a) (lowD 0 1) (lowD a d) (by rw [sgn_abs, den_low h1 rfl]; rfl) (by rw [sgn_abs, den_low hd hg]; exact hg) X n' c' Y m' k' X2 n2' c2' Y2 m2' k2' (by omega) (by omega) (by omega) (by omega) w' ((hT.ext he).ext hE) (hr.ext hE) h5 h6 h7 h8
  rwa [den_low h1 rfl, den_low hd hg] at this)
 rw [canW_den hq, hz1, hz2] at hO
 exact og_of hO
theorem og_Abs {a d : Nat} (hd : d ≠ 0) (hg : Nat.gcd a d = 1) (l1 : (lim a).length ≤ 40) (l2 : (lim d).length ≤ 40) (F : FH) (w : World) (hT : Tz w) (hF : FrIn w F (lim a) (lim d)) (g : Nat) (F0 : FH) (W : World) (hr : RatRoom W g) (he : Ext w W) (h0 : RaF W 0 1 F0) :
  Calls Tryz.prog 36 #[fV false F0, fV false F, .func (.func 39) #[.pointer (some ⟨g, 0, none⟩)] #[]] W (OgPst g W (decide (sgn false a < 0)) (lim (sgn false a).natAbs) (lim d) 0) := by
 have h1 : (1 : Nat) ≠ 0 := by decide
 have hq : 1 * d ≠ 0 := by omega
 have hG := can_self (z := sgn false a) (d := d) hd (by rw [sgn_abs]; exact hg)
 have e0 : sgn false a = sgn false 0 * (d : Int) + sgn false a * ((1 : Nat) : Int) := by show _ = 0 * (d : Int) + _; rw [Int.zero_mul]; simp
 have e1 : d = 1 * d := (Nat.one_mul d).symm
 have hz1 : canN (sgn false 0 * (d : Int) + sgn false a * ((1 : Nat) : Int)) (1 * d) = sgn false a := by rw [← e0, ← e1]; exact hG.1
 have hz2 : canD (sgn false 0 * (d : Int) + sgn false a * ((1 : Nat) : Int)) (1 * d) = d := by rw [← e0, ← e1]; exact hG.2
 have hWl := lim_mono (canW_le (sgn false 0 * (d : Int) + sgn false a * ((1 : Nat) : Int)) (1 * d))
 rw [← e1] at hWl
 have l3 : (lim (sgn false a).natAbs).length ≤ 40 := by rw [sgn_abs]; exact l1
 have hF' := hF.ext he
 have hn0 := h0.num.len
 have hm0 := h0.den.len
 have hn1 := hF'.num.len
 have hm1 := hF'.den.len
 rw [lim_one1] at hm0
 have hn0' : F0.n = 0 := by rw [← hn0]; exact congrArg List.length lim_zero
 have hO := ra_of_Add g (canN (sgn false 0 * (d : Int) + sgn false a * ((1 : Nat) : Int)) (1 * d)) (canW (sgn false 0 * (d : Int) + sgn false a * ((1 : Nat) : Int)) (1 * d)) (by rw [hz1]; omega) (by rw [← e1]; omega) (by rw [canW_den hq, hz2]; omega) false F0.A F0.n F0.c 0 F0.D F0.m F0.k 1 h1 (by omega) (by omega) rfl (fun h => by cases h) false F.A F.n F.c a F.D F.m F.k d hd (by omega) (by omega) hg (fun h => by cases h) W (hT.ext he) hr h0.num h0.den hF'.num hF'.den (fun bx X n' c' Y m' k' b2 X2 n2' c2' Y2 m2' k2' w' hE h5 h6 h7 h8 => by
  have q1 := h5.int.rd.len
  have q2 := h5.rd.len
  have q3 := h6.int.rd.len
  have q4 := h6.rd.len
  rw [sgn_abs] at q1 q3
  rw [lim_zero] at q1
  have q5 := lim_mono (lowD_le a d)
  have q6 := lim_mono (lowD_le 0 1)
  rw [lim_one1] at q6
  simp only [List.length_nil] at q1
  have := br_Add g bx b2 (sgn false 0) (sgn false a) (lowD 0 1) (lowD a d) (by rw [sgn_abs, den_low h1 rfl]; rfl) (by rw [sgn_abs, den_low hd hg]; exact hg) X n' c' Y m' k' X2 n2' c2' Y2 m2' k2' (by omega) (by omega) (by omega) (by omega) w' ((hT.ext he).ext hE) (hr.ext hE) h5 h6 h7 h8
  rwa [den_low h1 rfl, den_low hd hg] at this)
 rw [canW_den hq, hz1, hz2] at hO
 exact og_of hO
theorem ne_no (h : ¬ RatOk s xs ys) (F : FH) (w : World) (hT : Tz w) (hF : FrIn w F xs ys) : Calls Tryz.prog 10 #[fV s F] w (OfPst w false [] [] 20) :=
 ra_Neg_of s F.A F.n F.c F.D F.m F.k w false [] [] 20 fun g F0 W _ he h0 => og_no (ra_of_no2 false s F0.A F0.n F0.c F0.D F0.m F0.k F.A F.n F.c F.D F.m F.k W _ _ _ (tk_nought (hT.ext he) h0) (tk_no h F W (hT.ext he) (hF.ext he)))
theorem ne_yes {a d : Nat} (hd : d ≠ 0) (hg : Nat.gcd a d = 1) (hn : s = true → a ≠ 0) (l1 : (lim a).length ≤ 40) (l2 : (lim d).length ≤ 40) (F : FH) (w : World) (hT : Tz w) (hF : FrIn w F (lim a) (lim d)) :
  Calls Tryz.prog 10 #[fV s F] w (OfPst w (decide (-(sgn s a) < 0)) (lim (-(sgn s a)).natAbs) (lim d) 0) :=
 ra_Neg_of s F.A F.n F.c F.D F.m F.k w _ _ _ _ fun g F0 W hr he h0 => og_Neg hd hg hn l1 l2 F w hT hF g F0 W hr he h0
theorem bo_Neg (hx : Lb xs) (hy : Lb ys) (l1 : xs.length ≤ 40) (l2 : ys.length ≤ 40) : UnPst 10 8 s xs ys := by
 by_cases h1 : RatOk s xs ys
 ·obtain ⟨a, d, rfl, rfl, hd, hg, hn⟩ := h1.parts hx hy
  have l3 : (lim (-(sgn s a)).natAbs).length ≤ 40 := by rw [Int.natAbs_neg, sgn_abs]; exact l1
  have l4 := lim_mono (lowD_le a d)
  refine ⟨_, lim (-(sgn s a)).natAbs, lim d, 0, by omega, by omega, fun F w hT hF => ne_yes hd hg hn l1 l2 F w hT hF, fun F w hT hF => ?_⟩
  refine NB.rd_Neg_yes s F.A F.n F.c F.D F.m F.k w (sgn s a) (lowD a d) (-(sgn s a)) d (dk_yes hd hg hn l1 l2 F w hT hF) (dr_yes hd hg l1 l2 F w hT hF) (fun g A n c D m k w' hX => ?_) (fun g A n c D m k w' hX => ?_)
  ·have e1 := hX.int.rd.len
   have e2 := hX.rd.len
   rw [sgn_abs] at e1
   exact NB.br_NegSelf g _ A n c _ D m k (by omega) (by omega) w' hX
  ·have e1 := hX.int.rd.len
   have e2 := hX.rd.len
   have h := NB.rd_Of g _ A n c _ D m k (by omega) (by omega) (by rw [den_low hd hg]; omega) w' hX
   rwa [den_low hd hg] at h
 ·exact ⟨false, [], [], 20, by simp, by simp, fun F w hT hF => ne_no h1 F w hT hF, fun F w hT hF => NB.rd_Neg_no s F.A F.n F.c F.D F.m F.k w (dk_no h1 F w hT hF)⟩
theorem bo_Abs (hx : Lb xs) (hy : Lb ys) (l1 : xs.length ≤ 40) (l2 : ys.length ≤ 40) : UnPst 12 9 s xs ys := by
 by_cases h1 : RatOk s xs ys
 ·obtain ⟨a, d, rfl, rfl, hd, hg, hn⟩ := h1.parts hx hy
  have l4 := lim_mono (lowD_le a d)
  have hA : ((((sgn s a).natAbs : Nat)) : Int) = ((a : Nat) : Int) := by rw [sgn_abs]
  have hD : ∀ F w, Tz w → FrIn w F (lim a) (lim d) → Calls Tryz.prog 9 #[fV s F] w (NB.DfPst w (decide (((a : Nat) : Int) < 0)) (lim ((a : Nat) : Int).natAbs) (lim d) 0) := fun F w hT hF => by
   refine NB.rd_Abs_yes s F.A F.n F.c F.D F.m F.k w (sgn s a) (lowD a d) ((a : Nat) : Int) d (dk_yes hd hg hn l1 l2 F w hT hF) (dr_yes hd hg l1 l2 F w hT hF) (fun g A n c D m k w' hX => ?_) (fun g A n c D m k w' hX => ?_)
   ·have e1 := hX.int.rd.len
    have e2 := hX.rd.len
    rw [sgn_abs] at e1
    have h := NB.br_AbsSelf g _ A n c _ D m k (by omega) (by omega) w' hX
    rwa [hA] at h
   ·have e1 := hX.int.rd.len
    have e2 := hX.rd.len
    rw [Int.natAbs_natCast] at e1
    have h := NB.rd_Of g _ A n c _ D m k (by omega) (by omega) (by rw [den_low hd hg]; omega) w' hX
    rwa [den_low hd hg] at h
  cases s
  ·refine ⟨_, lim ((a : Nat) : Int).natAbs, lim d, 0, by rw [Int.natAbs_natCast]; omega, by omega, fun F w hT hF => ?_, hD⟩
   exact ra_Abs_of F.A F.n F.c F.D F.m F.k w _ _ _ _ fun g F0 W hr he h0 => og_Abs hd hg l1 l2 F w hT hF g F0 W hr he h0
  ·have e : -(sgn true a) = ((a : Nat) : Int) := by unfold sgn; simp
   refine ⟨_, lim ((a : Nat) : Int).natAbs, lim d, 0, by rw [Int.natAbs_natCast]; omega, by omega, fun F w hT hF => ?_, hD⟩
   refine ra_Abs_neg F.A F.n F.c F.D F.m F.k w _ _ _ _ fun w' he => ?_
   have h := ne_yes hd hg hn l1 l2 F w' (hT.ext he) (hF.ext he)
   rwa [e] at h
 ·refine ⟨false, [], [], 20, by simp, by simp, fun F w hT hF => ?_, fun F w hT hF => NB.rd_Abs_no s F.A F.n F.c F.D F.m F.k w (dk_no h1 F w hT hF)⟩
  cases s
  ·exact ra_Abs_of F.A F.n F.c F.D F.m F.k w false [] [] 20 fun g F0 W _ he h0 => og_no (ra_of_no2 false false F0.A F0.n F0.c F0.D F0.m F0.k F.A F.n F.c F.D F.m F.k W _ _ _ (tk_nought (hT.ext he) h0) (tk_no h1 F W (hT.ext he) (hF.ext he)))
  ·exact ra_Abs_neg F.A F.n F.c F.D F.m F.k w false [] [] 20 fun w' he => ne_no h1 F w' (hT.ext he) (hF.ext he)
theorem bo_Floor (hx : Lb xs) (hy : Lb ys) (l1 : xs.length ≤ 40) (l2 : ys.length ≤ 40) : ∃ (r : Bool) (zs : List Nat) (E : Int), zs.length ≤ 1000000 ∧
  (∀ F w, Tz w → FrIn w F xs ys → Calls Tryz.prog 13 #[fV s F] w fun e w' => ∃ (B : Option Addr) (j l : Nat), e = .returned (.tuple #[.bool r, natV B j l, .int .i64 E]) ∧ Hid (RdO w' B j l zs none ∧ Fr w B) ∧ Ext w w') ∧
  (∀ F w, Tz w → FrIn w F xs ys → Calls Tryz.prog 14 #[fV s F] w fun e w' => ∃ (B : Option Addr) (j l : Nat), e = .returned (.tuple #[.bool r, natV B j l, .int .i64 E]) ∧ Hid (Rd w' B j l zs) ∧ Ext w w') := by
 by_cases h1 : RatOk s xs ys
 ·obtain ⟨a, d, rfl, rfl, hd, hg, hn⟩ := h1.parts hx hy
  have hq : (lim (sgn s a / (d : Int)).natAbs).length ≤ 40 := by
   refine Nat.le_trans (lim_mono (Int.natAbs_ediv_le_natAbs _ _)) ?_
   rw [sgn_abs]; exact l1
  have l4 := lim_mono (lowD_le a d)
  refine ⟨_, lim (sgn s a / (d : Int)).natAbs, 0, by omega, fun F w hT hF => ra_Floor s F.A F.n F.c a F.D F.m F.k d hd (by have := hF.num.len; omega) (by have := hF.den.len; omega) hg hn w hT hF.num hF.den, fun F w hT hF => ?_⟩
  exact NB.rd_Floor_yes s F.A F.n F.c F.D F.m F.k w (sgn s a) (lowD a d) (sgn s a / (d : Int)) (by rw [den_low hd hg]) (by rw [den_low hd hg]; omega) (by rw [sgn_abs]; omega) (by omega) (by rw [den_low hd hg]; omega) (dk_yes hd hg hn l1 l2 F w hT hF) (dr_yes hd hg l1 l2 F w hT hF)
 ·refine ⟨false, [], 20, by simp, fun F w hT hF => ?_, fun F w hT hF => ?_⟩
  ·refine (ra_Floor_no s F.A F.n F.c F.D F.m F.k w (tk_no h1 F w hT hF)).mono ?_
   rintro e w' ⟨rfl, h⟩
   exact ⟨none, 0, 0, rfl, Lib.hid ⟨RdO.nil _ _, fr_none _⟩, h⟩
  ·refine (NB.rd_Floor_no s F.A F.n F.c F.D F.m F.k w (dk_no h1 F w hT hF)).mono ?_
   rintro e w' ⟨rfl, h⟩
   exact ⟨none, 0, 0, rfl, Lib.hid (Rd.nil _), h⟩
theorem bo_Text (hx : Lb xs) (hy : Lb ys) (l1 : xs.length ≤ 40) (l2 : ys.length ≤ 40) : ∃ (t : ByteArray) (E : Int),
  (∀ F w, Tz w → FrIn w F xs ys → Calls Tryz.prog 16 #[fV s F] w fun e w' => e = .returned (.tuple #[.string t, .int .i64 E]) ∧ Ext w w') ∧
  (∀ F w, Tz w → FrIn w F xs ys → Calls Tryz.prog 17 #[fV s F] w fun e w' => e = .returned (.tuple #[.string t, .int .i64 E]) ∧ Ext w w') := by
 by_cases h1 : RatOk s xs ys
 ·obtain ⟨a, d, rfl, rfl, hd, hg, hn⟩ := h1.parts hx hy
  have l4 := lim_mono (lowD_le a d)
  refine ⟨bs (rtext (sgn s a) d), 0, fun F w hT hF => ra_Text s F.A F.n F.c a F.D F.m F.k d hd (by have := hF.num.len; omega) (by have := hF.den.len; omega) hg hn w hT hF.num hF.den, fun F w hT hF => ?_⟩
  have h := NB.rd_Text_yes s F.A F.n F.c F.D F.m F.k w (sgn s a) (lowD a d) (by rw [sgn_abs]; omega) (by omega) (by rw [den_low hd hg]; omega) (dk_yes hd hg hn l1 l2 F w hT hF) (dr_yes hd hg l1 l2 F w hT hF)
  rwa [den_low hd hg] at h
 ·exact ⟨⟨#[]⟩, 20, fun F w hT hF => ra_Text_no s F.A F.n F.c F.D F.m F.k w (tk_no h1 F w hT hF), fun F w hT hF => NB.rd_Text_no s F.A F.n F.c F.D F.m F.k w (dk_no h1 F w hT hF)⟩
theorem bo_Check (hx : Lb xs) (hy : Lb ys) (l1 : xs.length ≤ 40) (l2 : ys.length ≤ 40) : ∃ E : Int,
  (∀ F w, Tz w → FrIn w F xs ys → Calls Tryz.prog 19 #[fV s F] w fun e w' => e = .returned (.int .i64 E) ∧ Ext w w') ∧
  (∀ F w, Tz w → FrIn w F xs ys → Calls Tryz.prog 20 #[fV s F] w fun e w' => e = .returned (.int .i64 E) ∧ Ext w w') := by
 by_cases h1 : RatOk s xs ys
 ·obtain ⟨a, d, rfl, rfl, hd, hg, hn⟩ := h1.parts hx hy
  exact ⟨0, fun F w hT hF => ck_yes hd hg hn l1 l2 F w hT hF w (jR w), fun F w hT hF => dk_yes hd hg hn l1 l2 F w hT hF w (jR w)⟩
 ·exact ⟨20, fun F w hT hF => ck_no h1 F w hT hF w (jR w), fun F w hT hF => dk_no h1 F w hT hF w (jR w)⟩
end
end Go.Proofs.YtfdmhefjmnlllaaGreatDoor
end
