/- Lemmas of this proof, laid together: IntK, BigQ, BigR, BigT, BigS, BigU, IntL, IntM, TwBigQ, TwBigR, TwBigS, TwBigT, TwBigU, TwIntK, TwIntL, TwIntM. -/
import Derived.Test.YtfdmhefjmnlllaaGreatDoorMg22
import Derived.Deep.DeepCutAuto
import Derived.Deep.RegionWith
import Derived.Deep.LoopGhost
import Derived.Test.YtfdmhefjmnlllaaGreatDoorMg21
import Derived.Test.YtfdmhefjmnlllaaGreatDoorMg12
import Derived.Maps.AppendAt
import Derived.Test.YtfdmhefjmnlllaaGreatDoorMg20
set_option linter.unusedSimpArgs false
set_option linter.unusedVariables false
section
/- Whole numbers of the library's: quotients rounded down. -/
namespace Go.Proofs.YtfdmhefjmnlllaaGreatDoor
open Go.RowKit
attribute [local go_sem] sz2 sz3 sz4 sz5 sz6 sz7 sz8
set_option maxHeartbeats 4000000
set_option maxRecDepth 100000
theorem floor_plain {x y : Int} (hy : 0 < y) (h : ¬ (x < 0 ∧ x.natAbs % y.natAbs ≠ 0)) : sgn (decide (x < 0)) (x.natAbs / y.natAbs) = x / y ∧ sgn (decide (x < 0)) (x.natAbs % y.natAbs) = x % y := by
 obtain ⟨d, rfl⟩ : ∃ d : Nat, y = (d : Int) := ⟨y.natAbs, by omega⟩
 have hd : 0 < d := by omega
 rw [Int.natAbs_natCast] at *
 have hdm := Nat.div_add_mod x.natAbs d
 have hml := Nat.mod_lt x.natAbs hd
 obtain ⟨h1, h2⟩ := (Int.ediv_emod_unique (a := x) (b := (d : Int)) (r := sgn (decide (x < 0)) (x.natAbs % d)) (q := sgn (decide (x < 0)) (x.natAbs / d)) (by omega)).2 (by
  generalize x.natAbs % d = r at *
  generalize hq : x.natAbs / d = q at *
  by_cases h0 : x < 0
  ·have hr : r = 0 := by
    by_cases hr : r = 0
    ·exact hr
    ·exact absurd ⟨h0, hr⟩ h
   subst hr
   simp only [sgn, decide_eq_true h0, if_true]
   have e : ((d * q + 0 : Nat) : Int) = (x.natAbs : Int) := by rw [hdm]
   simp only [Nat.add_zero, Int.natCast_mul] at e
   refine ⟨?_, by omega, by omega⟩
   rw [Int.mul_neg]
   omega
  ·simp only [sgn, decide_eq_false h0]
   have e : ((d * q + r : Nat) : Int) = (x.natAbs : Int) := by rw [hdm]
   rw [Int.natCast_add, Int.natCast_mul] at e
   refine ⟨?_, by simp, by simp; omega⟩
   simp only [Bool.false_eq_true, if_false]
   omega)
 exact ⟨h1.symm, h2.symm⟩
theorem floor_turn {x y : Int} (hy : 0 < y) (h0 : x < 0) (h : x.natAbs % y.natAbs ≠ 0) : sgn (decide (x < 0)) (x.natAbs / y.natAbs) - 1 = x / y ∧ ((y.natAbs - x.natAbs % y.natAbs : Nat) : Int) = x % y := by
 obtain ⟨d, rfl⟩ : ∃ d : Nat, y = (d : Int) := ⟨y.natAbs, by omega⟩
 have hd : 0 < d := by omega
 rw [Int.natAbs_natCast] at *
 have hdm := Nat.div_add_mod x.natAbs d
 have hml := Nat.mod_lt x.natAbs hd
 obtain ⟨h1, h2⟩ := (Int.ediv_emod_unique (a := x) (b := (d : Int)) (r := ((d - x.natAbs % d : Nat) : Int)) (q := sgn (decide (x < 0)) (x.natAbs / d) - 1) (by omega)).2 (by
  generalize x.natAbs % d = r at *
  generalize hq : x.natAbs / d = q at *
  simp only [sgn, decide_eq_true h0, if_true]
  have e : ((d * q + r : Nat) : Int) = (x.natAbs : Int) := by rw [hdm]
  rw [Int.natCast_add, Int.natCast_mul] at e
  refine ⟨?_, by omega, by omega⟩
  rw [Int.mul_sub, Int.mul_neg]
  omega)
 exact ⟨h1.symm, h2.symm⟩
attribute [local irreducible] Calls
abbrev DMPost (w : World) (b g : Nat) (q r : Int) : Ending → World → Prop := fun e w' => e = .returned (.tuple #[.pointer (some ⟨b, 0, none⟩), .pointer (some ⟨g, 0, none⟩)]) ∧ ∃ (A : Option Addr) (n c : Nat) (B : Option Addr) (m d : Nat),
 Hid (IntIs w' b 0 q A n c ∧ Fr w A ∧ IntIs w' g 0 r B m d ∧ Fr w B) ∧ Hid (∀ U, Ext U w → U.heap.size ≤ b → U.heap.size ≤ g → Ext U w') ∧ w.heap.size ≤ w'.heap.size
theorem bi_DivMod (b g bx b2 : Nat) (x y : Int) (hy0 : 0 < y) (hbg : b ≠ g) (hbx : bx ≠ b ∧ bx ≠ g) (hb2 : b2 ≠ b ∧ b2 ≠ g) (A : Option Addr) (n c : Nat) (B : Option Addr) (m d : Nat) (hn : n ≤ 400000) (hm : m ≤ 400000) (w : World) (hr : Room w b 0) (hr2 : Room w g 0) (hx : IntIs w bx 0 x A n c) (hy : IntIs w b2 0 y B m d) :
  Calls Tryz.prog 86 #[.pointer (some ⟨b, 0, none⟩), .pointer (some ⟨bx, 0, none⟩), .pointer (some ⟨b2, 0, none⟩), .pointer (some ⟨g, 0, none⟩)] w (DMPost w b g (x / y) (x % y)) := by
 have HX := Lib.hid hx
 have HY := Lib.hid hy
 have HR := Lib.hid hr
 have HR2 := Lib.hid hr2
 have lx := hx.room.lt
 have ly := hy.room.lt
 have y0 := hy.neg
 have y1 := hy.words
 simp only [Nat.zero_add] at y1
 have hyn : decide (y < 0) = false := decide_eq_false (by omega)
 rw [hyn] at y0
 have kQ : ∀ w', Ext w w' → Calls Tryz.prog 127 #[.pointer (some ⟨b, 0, none⟩), .pointer (some ⟨bx, 0, none⟩), .pointer (some ⟨b2, 0, none⟩), .pointer (some ⟨g, 0, none⟩)] w' (QRPost w' b g (sgn (decide (x < 0)) (x.natAbs / y.natAbs)) (sgn (decide (x < 0)) (x.natAbs % y.natAbs))) := fun w' he => by
  have := bi_QuoRem b g bx b2 x y (by omega) hbg A n c B m d hn w' (HR.out.ext he) (HR2.out.ext he) (HX.out.ext he) (HY.out.ext he)
  rw [hyn] at this
  have e : ∀ s : Bool, (!(s == false)) = s := by decide
  rw [e] at this
  exact this
 have HBG := Lib.hid hbg
 have HBX := Lib.hid hbx
 have HB2 := Lib.hid hb2
 clear hx hy hr hr2 hbg hbx hb2
 by_cases hneg : x < 0 ∧ x.natAbs % y.natAbs ≠ 0
 ·obtain ⟨hx0, hr0⟩ := hneg
  obtain ⟨e1, e2⟩ := floor_turn hy0 hx0 hr0
  have hrn : decide (sgn (decide (x < 0)) (x.natAbs % y.natAbs) < 0) = true := decide_eq_true (by rw [decide_eq_true hx0]; simp [sgn]; omega)
  have hab : (sgn (decide (x < 0)) (x.natAbs % y.natAbs)).natAbs = x.natAbs % y.natAbs := sgn_abs _ _
  have hle : x.natAbs % y.natAbs ≤ y.natAbs := Nat.le_of_lt (Nat.mod_lt _ (by omega))
  have hql : (lim (x.natAbs / y.natAbs)).length ≤ n := by rw [← HX.out.rd.len]; exact lim_mono (Nat.div_le_self _ _)
  have hqa : (sgn (decide (x < 0)) (x.natAbs / y.natAbs)).natAbs = x.natAbs / y.natAbs := sgn_abs _ _
  have hE12 := Lib.hid (And.intro e1 (And.intro e2 (And.intro hab (And.intro hle (And.intro hql hqa)))))
  have hsg : Hid (sgn false (y.natAbs - x.natAbs % y.natAbs) = ((y.natAbs - x.natAbs % y.natAbs : Nat) : Int)) := Lib.hid rfl
  clear e1 e2 hx0 hr0 hyn hab hle hql hqa
  generalize x / y = q at *
  generalize x % y = r at *
  generalize sgn (decide (x < 0)) (x.natAbs / y.natAbs) = q0 at *
  generalize sgn (decide (x < 0)) (x.natAbs % y.natAbs) = r0 at *
  go_enter Tryz.func86, Tryz.ntmps86
  go_upto_region 7 with (first
   | (go_at_call 89; (with_reducible refine (bw_copied B m d (lim y.natAbs) (Nat.le_trans hm (by decide)) _ HY.out.rd).mono ?_); rintro e w2 ⟨rfl, hR2, xb2⟩)
   | (go_at_call 127; (with_reducible refine (kQ _ xb2).mono ?_); rintro e w3 ⟨rfl, A3, n3, c3, B3, m3, d3, w2', hI3, xt3, xt4⟩; have g0 := hI3.out.2.2.1.neg; have g1 := hI3.out.2.2.1.room.lt; rw [hrn] at g0; have hxt := Lib.hid (And.intro xt3 xt4); clear xt3 xt4)
   )
  have hn3 : n3 ≤ 1000000 := by
   have h1 := hI3.out.1.rd.len
   rw [hE12.out.2.2.2.2.2] at h1
   have := hE12.out.2.2.2.2.1
   omega
  have hm3 : m3 ≤ 1000000 := by
   have h1 := hI3.out.2.2.1.rd.len
   rw [hE12.out.2.2.1] at h1
   have h2 := lim_mono hE12.out.2.2.2.1
   rw [HY.out.rd.len] at h2
   omega
  have hob : b < w.heap.size := HR.out.lt
  have hog : g < w.heap.size := HR2.out.lt
  have hOb : Off (some ⟨w.heap.size, 0, none⟩) m b := fun k hk _ e => by cases hk; simp at e; omega
  have hOg : Off (some ⟨w.heap.size, 0, none⟩) m g := fun k hk _ e => by cases hk; simp at e; omega
  have hsz3 : w2.heap.size ≤ w3.heap.size := Nat.le_trans hxt.out.1.size hxt.out.2.size
  have hSz : Hid (Rd w3 (some ⟨w.heap.size, 0, none⟩) m m (lim y.natAbs)) := Lib.hid ((hR2.out.tch hxt.out.1 hOg).tch hxt.out.2 hOb)
  have hB3b : Off B3 m3 b := hI3.out.2.2.2.off (Nat.lt_of_lt_of_le hob xb2.size) m3
  have hA3g : Off A3 n3 g := hI3.out.2.1.off (Nat.lt_of_lt_of_le hog xb2.size) n3
  have HQ := Lib.hid (And.intro hOb (And.intro hOg (And.intro hB3b hA3g)))
  have hsub : ∀ (P4 : Option Addr) (p4 k4 l4 : Nat) (w4 : World), Ext w3 w4 → IntIs w4 p4 0 1 P4 k4 l4 → Calls Tryz.prog 128 #[.pointer (some ⟨b, 0, none⟩), .pointer (some ⟨b, 0, none⟩), .pointer (some ⟨p4, 0, none⟩)] w4 (IPost w4 b 0 q) := fun P4 p4 k4 l4 w4 he h4 => by
   have h5 := h4.rd.len
   rw [show (lim (1 : Int).natAbs).length = 1 by kernel_rfl] at h5
   have := bi_Sub b 0 b 0 p4 0 q0 1 A3 n3 c3 P4 k4 l4 hn3 (by omega) w4 (hI3.out.1.room.ext he) (hI3.out.1.ext he) h4
   rw [hE12.out.1] at this
   exact this
  have hgb := Ne.symm HBG.out
  have hmI := Lib.hid hI3.out.2.2.1
  have hle5 : Hid (x.natAbs % y.natAbs ≤ y.natAbs ∧ r0.natAbs = x.natAbs % y.natAbs) := Lib.hid ⟨hE12.out.2.2.2.1, hE12.out.2.2.1⟩
  have hgs : g < w2.heap.size := Nat.lt_of_lt_of_le hog xb2.size
  have HGB := Lib.hid hgb
  have kS : ∀ w', Rd w' (some ⟨w.heap.size, 0, none⟩) m m (lim y.natAbs) → Rd w' B3 m3 d3 (lim r0.natAbs) → Calls Tryz.prog 129 #[.slice (some ⟨w.heap.size, 0, none⟩) m m, .slice B3 m3 d3] w' (WPost w' (y.natAbs - r0.natAbs)) := fun w' h1 h2 =>
   bw_sub _ B3 m m m3 d3 y.natAbs r0.natAbs (by rw [hle5.out.2]; exact hle5.out.1) (Nat.le_trans hm (by decide)) w' h1 h2
  clear hgb g0 g1 hOb hOg hB3b hA3g hrn
  go_wp2_with (first
   | (go_at_call 70; (with_reducible refine (bi_NewInt 1 (by decide) (by decide) _).mono ?_); rintro e w4 ⟨p4, P4, k4, l4, rfl, hI4, hp4, xb4⟩)
   | (go_at_call 128; (with_reducible refine (hsub P4 p4 k4 l4 _ xb4 hI4.out.1).mono ?_); rintro e w5 ⟨rfl, A5, n5, c5, hI5, xt5⟩; have hm5 := Lib.hid ((hmI.out.ext xb4).tch xt5 HGB.out HQ.out.2.2.1); have hs5 := Lib.hid ((hSz.out.ext xb4).tch xt5 HQ.out.1); have g5 := hm5.out.words; have g6 := hm5.out.room.lt; simp only [Nat.zero_add] at g5; have HT5 := Lib.hid xt5; clear xt5)
   | (go_at_call 129; (with_reducible refine (kS _ hs5.out hm5.out.rd).mono ?_); rintro e w6 ⟨A6, k6, c6, rfl, hR6, xb6⟩; have ho6 := hR6.out.2.off g6 k6)
   | (go_at_call 88; (with_reducible refine (bi_set g 0 false A6 k6 c6 (y.natAbs - r0.natAbs) _ (hm5.out.room.ext xb6) hR6.out.1 ho6).mono ?_); rintro e w7 ⟨rfl, hI7, xt7⟩; have HT7 := Lib.hid xt7; clear xt7)
   )
  have hP : Hid (∀ U, Ext U w → U.heap.size ≤ b → U.heap.size ≤ g → Ext U w7) := Lib.hid fun U hU h1 h2 => HT7.out.ext (jT (HT5.out.ext (jT (hxt.out.2.ext (hxt.out.1.ext (jT hU xb2) h2) h1) xb4) h1) xb6) h2
  have hS : w.heap.size ≤ w7.heap.size := Nat.le_trans xb2.size (Nat.le_trans hsz3 (Nat.le_trans xb4.size (Nat.le_trans HT5.out.size (Nat.le_trans xb6.size HT7.out.size))))
  have hA5 : Off A5 n5 g := hI5.out.2.off (Nat.lt_of_lt_of_le hgs (Nat.le_trans hsz3 xb4.size)) n5
  have hF5 : Fr w A5 := fun a ha => Nat.le_trans (Nat.le_trans xb2.size (Nat.le_trans hsz3 xb4.size)) (hI5.out.2 a ha)
  have hF6 : Fr w A6 := fun a ha => Nat.le_trans (Nat.le_trans xb2.size (Nat.le_trans hsz3 (Nat.le_trans xb4.size HT5.out.size))) (hR6.out.2 a ha)
  have hr7 : sgn false (y.natAbs - r0.natAbs) = r := by rw [hle5.out.2, hsg.out]; exact hE12.out.2.1
  have HR7 := Lib.hid hr7
  clear hr7
  refine bodyPost_ret (v := .tuple #[.pointer (some ⟨b, 0, none⟩), .pointer (some ⟨g, 0, none⟩)]) ?h rfl ⟨rfl, A5, n5, c5, A6, k6, c6, ⟨(hI5.out.1.ext xb6).tch HT7.out HBG.out hA5, hF5, by have := hI7.out; rwa [HR7.out] at this, hF6⟩, hP, hS⟩
  case h => simp [results, Tryz.results86, go_sem]
 ·obtain ⟨e1, e2⟩ := floor_plain hy0 hneg
  rw [e1, e2] at kQ
  have hrn : decide (x % y < 0) = false := decide_eq_false (by have := Int.emod_nonneg x (show y ≠ 0 by omega); omega)
  have hE12 := Lib.hid (And.intro e1 e2)
  clear e1 e2 hneg hyn
  generalize x / y = q at *
  generalize x % y = r at *
  go_enter Tryz.func86, Tryz.ntmps86
  go_wp2_with (first
   | (go_at_call 89; (with_reducible refine (bw_copied B m d (lim y.natAbs) (Nat.le_trans hm (by decide)) _ HY.out.rd).mono ?_); rintro e w2 ⟨rfl, hR2, xb2⟩)
   | (go_at_call 127; (with_reducible refine (kQ _ xb2).mono ?_); rintro e w3 ⟨rfl, A3, n3, c3, B3, m3, d3, w2', hI3, xt3, xt4⟩; have g0 := hI3.out.2.2.1.neg; have g1 := hI3.out.2.2.1.room.lt; rw [hrn] at g0; have hxt := Lib.hid (And.intro xt3 xt4); clear xt3 xt4)
   )
  have hP : Hid (∀ U, Ext U w → U.heap.size ≤ b → U.heap.size ≤ g → Ext U w3) := Lib.hid fun U hU h1 h2 => hxt.out.2.ext (hxt.out.1.ext (jT hU xb2) h2) h1
  have hS : w.heap.size ≤ w3.heap.size := Nat.le_trans xb2.size (Nat.le_trans hxt.out.1.size hxt.out.2.size)
  refine bodyPost_ret (v := .tuple #[.pointer (some ⟨b, 0, none⟩), .pointer (some ⟨g, 0, none⟩)]) ?h rfl ⟨rfl, A3, n3, c3, B3, m3, d3, ⟨hI3.out.1, hI3.out.2.1.mono xb2, hI3.out.2.2.1, hI3.out.2.2.2.mono xb2⟩, hP, hS⟩
  case h => simp [results, Tryz.results86, go_sem]
theorem bi_Div (b bx b2 : Nat) (x y : Int) (hy0 : 0 < y) (hbx : bx ≠ b) (hb2 : b2 ≠ b) (A : Option Addr) (n c : Nat) (B : Option Addr) (m d : Nat) (hn : n ≤ 400000) (hm : m ≤ 400000) (w : World) (hr : Room w b 0) (hx : IntIs w bx 0 x A n c) (hy : IntIs w b2 0 y B m d) :
  Calls Tryz.prog 41 #[.pointer (some ⟨b, 0, none⟩), .pointer (some ⟨bx, 0, none⟩), .pointer (some ⟨b2, 0, none⟩)] w fun e w' => e = .returned (.pointer (some ⟨b, 0, none⟩)) ∧ ∃ (A : Option Addr) (n c : Nat), Hid (IntIs w' b 0 (x / y) A n c ∧ Fr w A) ∧ Hid (∀ U, Ext U w → U.heap.size ≤ b → Ext U w') := by
 have hbl := hr.lt
 have lx := hx.room.lt
 have ly := hy.room.lt
 have hrm := Lib.hid (int_room w)
 have kD : Calls Tryz.prog 86 #[.pointer (some ⟨b, 0, none⟩), .pointer (some ⟨bx, 0, none⟩), .pointer (some ⟨b2, 0, none⟩), .pointer (some ⟨w.heap.size, 0, none⟩)] (w.alloc (Obj.cells #[.bool false, .slice none 0 0] 66)) (DMPost (w.alloc (Obj.cells #[.bool false, .slice none 0 0] 66)) b w.heap.size (x / y) (x % y)) :=
  bi_DivMod b w.heap.size bx b2 x y hy0 (by omega) ⟨hbx, by omega⟩ ⟨hb2, by omega⟩ A n c B m d hn hm _ (hr.ext (jA (jR _) _)) hrm.out (hx.ext (jA (jR _) _)) (hy.ext (jA (jR _) _))
 clear hx hy hr hbx hb2
 go_enter Tryz.func41, Tryz.ntmps41
 go_wp2_with (first
  | (go_at_call 86; (with_reducible refine kD.mono ?_); rintro e w3 ⟨rfl, A3, n3, c3, B3, m3, d3, hI3, hP3, hS3⟩)
  )
 refine bodyPost_ret (v := .pointer (some ⟨b, 0, none⟩)) ?h rfl ⟨rfl, A3, n3, c3, ⟨hI3.out.1, hI3.out.2.1.mono (jA (jR w) _)⟩, fun U hU h1 => hP3.out U (jA hU _) h1 hU.size⟩
 case h => simp [results, Tryz.results41, go_sem]
end Go.Proofs.YtfdmhefjmnlllaaGreatDoor
end
section
/- Words of the library's: powers. -/
namespace Go.Proofs.YtfdmhefjmnlllaaGreatDoor
open Go.RowKit
attribute [local go_sem] sz2 sz3 sz4 sz5 sz6 sz7 sz8
set_option maxHeartbeats 4000000
set_option maxRecDepth 100000
theorem pow_halves (b n i : Nat) : b ^ (n / 2 ^ i) = b ^ (n / 2 ^ (i + 1)) * b ^ (n / 2 ^ (i + 1)) * b ^ (n / 2 ^ i % 2) := by
 rw [← Nat.pow_add, ← Nat.pow_add]
 congr 1
 have e : n / 2 ^ (i + 1) = n / 2 ^ i / 2 := by rw [Nat.pow_succ, ← Nat.div_div_eq_div_mul]
 omega
theorem pow_part {b n i : Nat} (hb : 2 ≤ b) : b ^ (n / 2 ^ i) ≤ b ^ n := Nat.pow_le_pow_right (by omega) (Nat.div_le_self _ _)
theorem word_row (w : World) (x : Nat) (h0 : 0 < x) (hx : x < 4294967296) : Rd (w.alloc (Obj.cells #[.int .u32 (x : Int)] 47)) (some ⟨w.heap.size, 0, none⟩) 1 1 (lim x) := by
 have e : lim x = [x] := by rw [lim_pos (by omega), Nat.mod_eq_of_lt hx, Nat.div_eq_of_lt hx, lim_zero]
 rw [e]
 exact Rd.made w #[.int .u32 (x : Int)] 47 [x] (by intro y hy; simp at hy; rw [hy]; exact hx) (by simp [u32V]) (by simp) rfl (by simp)
theorem bit_i64 (n i : Nat) (h : n / 2 ^ i < 9223372036854775808) {d : Nat} (hd : n / 2 ^ i % 2 = d) : (bits BinOp.and IntKind.i64 ((n : Int) / 2 ^ i) 1 == 1) = decide (d = 1) := by
 have e : (n : Int) / 2 ^ i = ((n / 2 ^ i : Nat) : Int) := by rw [Int.natCast_ediv, Int.natCast_pow]; rfl
 rw [e, and_one _ h, hd]
 rcases (show d = 0 ∨ d = 1 by omega) with rfl | rfl <;> rfl
attribute [local irreducible] Calls
theorem bw_power (b n : Nat) (hb : 2 ≤ b) (hb2 : b < 4294967296) (hn : n < 9223372036854775808) (hl : (lim (b ^ n)).length ≤ 90000) (w : World) :
  Calls Tryz.prog 152 #[.int .i64 (b : Int), .int .i64 (n : Int)] w (WPost w (b ^ n)) := by
 have HL := Lib.hid hl
 clear hl
 go_enter Tryz.func152, Tryz.ntmps152
 go_wp2
 go_loopg [5, 6] 63 (fun j vo vi wr => ∃ (x : Nat) (A : Option Addr) (k c : Nat), j ≤ 63 ∧ vi = .int .i64 ((j : Int) - 1) ∧ vo = .slice A k c ∧ Hid (x = b ^ (n / 2 ^ j)) ∧ Hid (Rd wr A k c (lim x) ∧ Fr w A) ∧ Hid (Ext w wr))
 case atStart =>
  refine ⟨1, _, 1, 1, Nat.le_refl _, rfl, rfl, ?_, ⟨one_row w, fun a ha => by cases ha; exact Nat.le_refl _⟩, jA (jR _) _⟩
  show 1 = b ^ (n / 2 ^ 63)
  rw [Nat.div_eq_of_lt (show n < 2 ^ 63 by omega)]; rfl
 case round =>
  obtain ⟨x, A, k, c, hj, rfl, rfl, hx, hR, hext⟩ := hrel
  by_cases h0 : 0 < gk
  ·obtain ⟨i, rfl⟩ : ∃ i, gk = i + 1 := ⟨gk - 1, by omega⟩
   have e1 : ((i + 1 : Nat) : Int) - 1 = (i : Int) := by omega
   rw [e1]
   have hxp : 0 < x := by rw [hx.out]; exact Nat.pow_pos (by omega)
   have hkx : (lim x).length = k := hR.out.1.len
   have hk1 : 1 ≤ k := by
    rcases Nat.eq_zero_or_pos k with e | e
    ·rw [e] at hkx; have := lim_nil.1 (List.eq_nil_of_length_eq_zero hkx); omega
    ·exact e
   have hkb : k ≤ 90000 := by
    have h1 := lim_mono (pow_part (n := n) (i := i + 1) hb)
    rw [← hx.out, hkx] at h1
    exact Nat.le_trans h1 HL.out
   have hcap := hR.out.1.cap
   have hmx := hR.out.1.mx
   have hsq : ∀ w', Ext wr w' → Calls Tryz.prog 121 #[.slice A k c, .slice A k c] w' (WPost w' (x * x)) := fun w' he => bw_mul (k + k) A A k c k c x x rfl (by omega) w' (hR.out.1.ext he) (hR.out.1.ext he)
   have hbm : ∀ (A1 : Option Addr) (k1 c1 : Nat) (w1 : World), Ext wr w1 → Hid (Rd w1 A1 k1 c1 (lim (x * x))) → Calls Tryz.prog 121 #[.slice A1 k1 c1, .slice (some ⟨w1.heap.size, 0, none⟩) 1 1] (w1.alloc (Obj.cells #[.int .u32 (b : Int)] 47)) (WPost (w1.alloc (Obj.cells #[.int .u32 (b : Int)] 47)) (x * x * b)) := fun A1 k1 c1 w1 he h1 => by
    have hk1' : k1 ≤ 90000 := by
     have h2 := lim_mono (pow_part (n := n) (i := i) hb)
     have h3 : (lim (x * x)).length ≤ (lim (b ^ (n / 2 ^ i))).length := lim_mono (by
      rw [pow_halves, ← hx.out]
      exact Nat.le_mul_of_pos_right _ (Nat.pow_pos (by omega)))
     rw [h1.out.len] at h3
     have := HL.out
     omega
    exact bw_mul (k1 + 1) A1 _ k1 c1 1 1 (x * x) b rfl (by omega) _ (h1.out.ext (jA (jR _) _)) (word_row w1 b (by omega) hb2)
   have hst : x * x * b ^ (n / 2 ^ i % 2) = b ^ (n / 2 ^ i) := by rw [hx.out]; exact (pow_halves b n i).symm
   have HST := Lib.hid hst
   have HSQ := Lib.hid hsq
   have hbit : n / 2 ^ i % 2 = 0 ∨ n / 2 ^ i % 2 = 1 := by omega
   have hsh : n / 2 ^ i < 9223372036854775808 := Nat.lt_of_le_of_lt (Nat.div_le_self _ _) hn
   clear hst hsq hxp
   by_cases hk2 : 1 < k
   ·skip
    rcases hbit with hbit | hbit
    ·have hb1 := bit_i64 n i hsh hbit
     simp at hb1
     go_wp2_with (first
      | (go_at_call 121; (with_reducible refine (HSQ.out _ (jR _)).mono ?_); rintro e w1 ⟨A1, k1, c1, rfl, hR1, xb1⟩; obtain ⟨xc1, xf1, xl1, xz1⟩ := jU xb1; (try simp at xz1))
      )
     go_roundg i
     case rel => exact ⟨x * x, A1, k1, c1, by omega, rfl, rfl, by rw [← HST.out, hbit, Nat.pow_zero, Nat.mul_one]; exact rfl, ⟨hR1.out.1, hR1.out.2.mono hext.out⟩, jT hext.out xb1⟩
     case measure => omega
    ·have hb1 := bit_i64 n i hsh hbit
     simp at hb1
     go_wp2_with (first
      | (go_at_call 121; (with_reducible refine (HSQ.out _ (jR _)).mono ?_); rintro e w1 ⟨A1, k1, c1, rfl, hR1, xb1⟩; obtain ⟨xc1, xf1, xl1, xz1⟩ := jU xb1; (try simp at xz1))
      | (go_at_call 121; (with_reducible refine (hbm A1 k1 c1 w1 xb1 (Lib.hid hR1.out.1)).mono ?_); rintro e w2 ⟨A2, k2, c2, rfl, hR2, xb2⟩; obtain ⟨xc2, xf2, xl2, xz2⟩ := jU xb2; (try simp at xz2))
      )
     go_roundg i
     case rel => exact ⟨x * x * b, A2, k2, c2, by omega, rfl, rfl, by rw [← HST.out, hbit, Nat.pow_one]; exact rfl, ⟨hR2.out.1, hR2.out.2.mono (jT hext.out (jT xb1 (jA (jR _) _)))⟩, jT hext.out (jT xb1 (jT (jA (jR _) _) xb2))⟩
     case measure => omega
   ·obtain rfl : k = 1 := by omega
    obtain ⟨bb, off, rfl⟩ : ∃ bb off, A = some ⟨bb, off, none⟩ := by
     rcases hR.out.1.shape with ⟨_, h, _⟩ | h
     ·omega
     ·exact h
    obtain ⟨y, hy, hyb, hc⟩ := hR.out.1.get 0 (by omega)
    have hxy : x = y := by
     have h1 := hy.out
     have h2 : x < Bs := by have := lim_lt x; rw [hkx, Nat.pow_one] at this; exact this
     have h3 : x ≠ 0 := by intro e; rw [e, lim_zero] at hkx; simp at hkx
     rw [lim_pos h3] at h1
     rw [← h1]
     exact (Nat.mod_eq_of_lt h2).symm
    subst hxy
    rw [Nat.add_zero] at hc
    have hx0 : 1 ≤ x := by
     rcases Nat.eq_zero_or_pos x with e | e
     ·rw [e, lim_zero] at hkx; simp at hkx
     ·exact e
    by_cases hx1 : 1 < x
    ·skip
     rcases hbit with hbit | hbit
     ·have hb1 := bit_i64 n i hsh hbit
      simp at hb1
      go_wp2_with (first
       | (go_at_call 121; (with_reducible refine (HSQ.out _ (jR _)).mono ?_); rintro e w1 ⟨A1, k1, c1, rfl, hR1, xb1⟩; obtain ⟨xc1, xf1, xl1, xz1⟩ := jU xb1; (try simp at xz1))
       )
      go_roundg i
      case rel => exact ⟨x * x, A1, k1, c1, by omega, rfl, rfl, by rw [← HST.out, hbit, Nat.pow_zero, Nat.mul_one]; exact rfl, ⟨hR1.out.1, hR1.out.2.mono hext.out⟩, jT hext.out xb1⟩
      case measure => omega
     ·have hb1 := bit_i64 n i hsh hbit
      simp at hb1
      go_wp2_with (first
       | (go_at_call 121; (with_reducible refine (HSQ.out _ (jR _)).mono ?_); rintro e w1 ⟨A1, k1, c1, rfl, hR1, xb1⟩; obtain ⟨xc1, xf1, xl1, xz1⟩ := jU xb1; (try simp at xz1))
       | (go_at_call 121; (with_reducible refine (hbm A1 k1 c1 w1 xb1 (Lib.hid hR1.out.1)).mono ?_); rintro e w2 ⟨A2, k2, c2, rfl, hR2, xb2⟩; obtain ⟨xc2, xf2, xl2, xz2⟩ := jU xb2; (try simp at xz2))
       )
      go_roundg i
      case rel => exact ⟨x * x * b, A2, k2, c2, by omega, rfl, rfl, by rw [← HST.out, hbit, Nat.pow_one]; exact rfl, ⟨hR2.out.1, hR2.out.2.mono (jT hext.out (jT xb1 (jA (jR _) _)))⟩, jT hext.out (jT xb1 (jT (jA (jR _) _) xb2))⟩
      case measure => omega
    ·obtain rfl : x = 1 := by omega
     have H1x : Hid (Rd wr (some ⟨bb, off, none⟩) 1 c (lim (1 * 1))) := Lib.hid hR.out.1
     rcases hbit with hbit | hbit
     ·have hb1 := bit_i64 n i hsh hbit
      simp at hb1
      go_wp2
      go_roundg i
      case rel => exact ⟨1, _, 1, c, by omega, rfl, rfl, by rw [← HST.out, hbit, Nat.pow_zero]; exact rfl, hR, hext⟩
      case measure => omega
     ·have hb1 := bit_i64 n i hsh hbit
      simp at hb1
      go_wp2_with (first
       | (go_at_call 121; (with_reducible refine (hbm _ 1 c wr (jR _) H1x).mono ?_); rintro e w2 ⟨A2, k2, c2, rfl, hR2, xb2⟩; obtain ⟨xc2, xf2, xl2, xz2⟩ := jU xb2; (try simp at xz2))
       )
      go_roundg i
      case rel => exact ⟨1 * 1 * b, A2, k2, c2, by omega, rfl, rfl, by rw [← HST.out, hbit, Nat.pow_one]; exact rfl, ⟨hR2.out.1, hR2.out.2.mono (jT hext.out (jT (jR _) (jA (jR _) _)))⟩, jT hext.out (jT (jR _) (jT (jA (jR _) _) xb2))⟩
      case measure => omega
  ·obtain rfl : gk = 0 := by omega
   have hfin : x = b ^ n := by rw [hx.out, Nat.pow_zero, Nat.div_one]
   clear h0
   go_wp2
   refine bodyPost_ret (v := .slice A k c) ?h rfl ⟨A, k, c, rfl, ⟨by rw [← hfin]; exact hR.out.1, hR.out.2⟩, hext.out⟩
   case h => simp [results, Tryz.results152, go_sem]
end Go.Proofs.YtfdmhefjmnlllaaGreatDoor
end
section
/- Words of the library's: texts of digits are read. -/
namespace Go.Proofs.YtfdmhefjmnlllaaGreatDoor
open Go.RowKit
attribute [local go_sem] bs_size bs_extract bs_get bs_append bs_toList const_get
attribute [local go_sem] sz2 sz3 sz4 sz5 sz6 sz7 sz8
set_option maxHeartbeats 4000000
set_option maxRecDepth 100000
attribute [local irreducible] Calls
theorem bw_worth (c : Nat) (h1 : 48 ≤ c) (h2 : c ≤ 57) (w : World) : Calls Tryz.prog 153 #[.int .u8 (c : Int)] w fun e w' => e = .returned (.int .u32 ((c - 48 : Nat) : Int)) ∧ Ext w w' := by
 go_enter Tryz.func153, Tryz.ntmps153
 go_wp2
 have e : (c : Int) - 48 = ((c - 48 : Nat) : Int) := by omega
 refine bodyPost_ret (v := .int .u32 ↑(c - 48)) ?h rfl ⟨rfl, jR _⟩
 case h => simp [results, Tryz.results153, go_sem, e]
abbrev ReadPost (w : World) (v : Nat) : Ending → World → Prop := fun e w' => ∃ (A : Option Addr) (k c : Nat), e = .returned (.tuple #[.slice A k c, .bool true]) ∧ Hid (Rd w' A k c (lim v) ∧ Fr w A) ∧ Ext w w'
theorem read_small (l : List UInt8) (hd : digsB l = true) (hl : l.length ≤ 300) (w : World) : Calls Tryz.prog 119 #[.string (bs l), .int .i64 10] w (ReadPost w (dval l)) := by
 have HD := Lib.hid hd
 clear hd
 go_enter Tryz.func119, Tryz.ntmps119
 go_wp2
 go_loopg [11, 12, 13, 14] l.length (fun g vw vt vs vi wr => ∃ (n x T N i : Nat), g = l.length - i ∧ i ≤ l.length ∧ vt = .int .u32 (T : Int) ∧ vs = .int .u32 (N : Int) ∧ vi = .int .i64 (i : Int) ∧ (T ≤ 100000000 ∧ 0 < T ∧ N < T) ∧ (i = l.length → T = 1 ∧ N = 0) ∧
   Hid (∃ q, q ≤ 8 ∧ T = 10 ^ q) ∧ Hid (x * T + N = dval (l.take i)) ∧ Hid (wr.ownsRow w.heap.size 47 1 vw n ((lim x).map u32V)) ∧ Hid (Ext w wr))
 case atStart =>
  exact ⟨0, 0, 1, 0, 0, rfl, Nat.zero_le _, rfl, rfl, rfl, by omega, fun _ => ⟨rfl, rfl⟩, ⟨0, by omega, rfl⟩, Lib.hid (show 0 * 1 + 0 = dval (l.take 0) by simp [dval]), Lib.hid (by rw [lim_zero]; exact World.ownsRow_nil _ _ _ _), jR _⟩
 case round =>
  obtain ⟨n, x, T, N, i, rfl, hi, rfl, rfl, rfl, ⟨hT1, hT2, hNT⟩, hend, hq, hx, hown, hext⟩ := hrel
  by_cases hgo : i < l.length
  ·obtain ⟨hb1, hb2⟩ := digs_at HD.out i hgo
   have hkn : (lim x).length = n := by have := hown.out.1; simpa using this
   have hnb : n ≤ 100 := by
    have h1 := dval_lt _ (digs_take HD.out i)
    rw [List.length_take, Nat.min_eq_left hi] at h1
    have h2 : x * 1 ≤ x * T := Nat.mul_le_mul_left _ hT2
    have h3 := hx.out
    rw [← hkn]
    exact lim_fits (n := i) (by omega) (by omega) (by decide)
   obtain ⟨d, hdd⟩ : ∃ d, d = l[i].toNat - 48 := ⟨_, rfl⟩
   have hd9 : d ≤ 9 := by omega
   have hwt := fun w' => bw_worth l[i].toNat hb1 hb2 w'
   rw [← hdd] at hwt
   have hstep : Hid (dval (l.take (i + 1)) = x * (T * 10) + (N * 10 + d)) := Lib.hid (by
    have e1 : l.take (i + 1) = l.take i ++ [l[i]] := List.take_succ_eq_append_getElem hgo
    rw [e1, dval_snoc, ← hx.out, ← hdd, ← Nat.mul_assoc]; omega)
   have hms : ∀ w', Ext wr w' → Calls Tryz.prog 154 #[u11, .int .u32 ((T : Int) * 10), .int .u32 ((N : Int) * 10 + (d : Int))] w' fun e w'' => ∃ (v' : Value) (n' : Nat), e = .returned v' ∧ Hid (w''.ownsRow w.heap.size 47 1 v' n' ((lim (dval (l.take (i + 1)))).map u32V)) ∧ n' ≤ n + 1 ∧ Ext w w'' := fun w' he => by
    have e1 : (T : Int) * 10 = ((T * 10 : Nat) : Int) := by omega
    have e2 : (N : Int) * 10 + (d : Int) = ((N * 10 + d : Nat) : Int) := by omega
    rw [e1, e2]
    have := bw_mulSmall w u11 n x (T * 10) (N * 10 + d) (by omega) (by omega) (by omega) (by omega) w' (jT hext.out he) (own_ext hown.out he)
    rw [← hstep.out] at this
    exact this
   have hq8 : T = 100000000 ∨ T ≤ 10000000 := by
    obtain ⟨q, hq1, hq2⟩ := hq.out
    rcases Nat.lt_or_ge q 8 with h | h
    ·right
     rw [hq2]
     exact Nat.le_trans (Nat.pow_le_pow_right (by decide) (show q ≤ 7 by omega)) (by decide)
    ·left
     obtain rfl : q = 8 := by omega
     exact hq2
   have HH := Lib.hid (And.intro hms hwt)
   have HQ8 := Lib.hid hq8
   have HI := Lib.hid (And.intro hb1 hb2)
   clear hms hwt hdd hq8 hend hb1 hb2 hT2
   by_cases hfl : (429496729 : Int) < (T : Int) * 10
   ·have hfd : decide ((429496729 : Int) < (T : Int) * 10) = true := decide_eq_true hfl
    go_wp2_with (first
     | (go_at_call 153; (with_reducible refine (HH.out.2 _).mono ?_); rintro e w1 ⟨rfl, xb1⟩; obtain ⟨xc1, xf1, xl1, xz1⟩ := jU xb1; (try simp at xz1))
     | (go_at_call 154; (with_reducible refine (HH.out.1 _ xb1).mono ?_); rintro e w2 ⟨v2, n2, rfl, hR2, hn2, xb2⟩; obtain ⟨xc2, xf2, xl2, xz2⟩ := jU xb2; (try simp at xz2))
     )
    go_roundg (l.length - (i + 1))
    case rel => exact ⟨n2, dval (l.take (i + 1)), 1, 0, i + 1, rfl, by omega, rfl, rfl, by simp, by omega, fun _ => ⟨rfl, rfl⟩, ⟨0, by omega, rfl⟩, Lib.hid (by omega), hR2, Lib.hid xb2⟩
    case measure => omega
   ·have hfd : decide ((429496729 : Int) < (T : Int) * 10) = false := decide_eq_false hfl
    by_cases hie : i = l.length - 1
    ·have hed : ((i : Int) == (l.length : Int) - 1) = true := by rw [beq_iff_eq]; omega
     have HIE := Lib.hid hie
     clear hie
     go_wp2_with (first
      | (go_at_call 153; (with_reducible refine (HH.out.2 _).mono ?_); rintro e w1 ⟨rfl, xb1⟩; obtain ⟨xc1, xf1, xl1, xz1⟩ := jU xb1; (try simp at xz1))
      | (go_at_call 154; (with_reducible refine (HH.out.1 _ xb1).mono ?_); rintro e w2 ⟨v2, n2, rfl, hR2, hn2, xb2⟩; obtain ⟨xc2, xf2, xl2, xz2⟩ := jU xb2; (try simp at xz2))
      )
     go_roundg (l.length - (i + 1))
     case rel => exact ⟨n2, dval (l.take (i + 1)), 1, 0, i + 1, rfl, by omega, rfl, rfl, by simp, by omega, fun _ => ⟨rfl, rfl⟩, ⟨0, by omega, rfl⟩, Lib.hid (by omega), hR2, Lib.hid xb2⟩
     case measure => omega
    ·have hed : ((i : Int) == (l.length : Int) - 1) = false := by rw [beq_eq_false_iff_ne]; omega
     have hed' : ¬ (i : Int) = (l.length : Int) - 1 := by omega
     have hT7 : Hid (T ≤ 10000000) := Lib.hid (by rcases HQ8.out with h | h <;> omega)
     go_wp2_with (first
      | (go_at_call 153; (with_reducible refine (HH.out.2 _).mono ?_); rintro e w1 ⟨rfl, xb1⟩; obtain ⟨xc1, xf1, xl1, xz1⟩ := jU xb1; (try simp at xz1))
      )
     go_roundg (l.length - (i + 1))
     case rel =>
      have h7 := hT7.out
      refine ⟨n, x, T * 10, N * 10 + d, i + 1, rfl, by omega, by simp, by simp, by simp, by omega, fun h => by omega, ?_, Lib.hid hstep.out.symm, Lib.hid (own_ext hown.out xb1), Lib.hid (jT hext.out xb1)⟩
      obtain ⟨q, hq1, hq2⟩ := hq.out
      refine ⟨q + 1, ?_, by rw [hq2, Nat.pow_succ]⟩
      rcases Nat.lt_or_ge q 8 with h | h
      ·exact h
      ·obtain rfl : q = 8 := by omega
       omega
     case measure => omega
  ·obtain rfl : i = l.length := by omega
   obtain ⟨rfl, rfl⟩ := hend rfl
   obtain ⟨A, c, rfl, hR⟩ := Rd.own hown.out (lb_lim x)
   have hv : x = dval l := by have := hx.out; rw [List.take_length] at this; omega
   have HR : Hid (Rd wr A n c (lim (dval l)) ∧ Fr w A) := ⟨by rw [← hv]; exact hR, own_fr hown.out⟩
   have hcap := hR.cap
   have hmx := hR.mx
   clear hgo hv hR hend
   go_wp2
   refine bodyPost_ret (v := .tuple #[.slice A n c, .bool true]) ?h rfl ⟨A, n, c, rfl, HR, hext.out⟩
   case h => simp [results, Tryz.results119, go_sem]
end Go.Proofs.YtfdmhefjmnlllaaGreatDoor
end
section
/- Words of the library's: short numbers are told in tens. -/
namespace Go.Proofs.YtfdmhefjmnlllaaGreatDoor
open Go.RowKit
attribute [local go_sem] bs_size bs_extract bs_get bs_append bs_toList const_get
attribute [local go_sem] sz2 sz3 sz4 sz5 sz6 sz7 sz8
set_option maxHeartbeats 8000000
set_option maxRecDepth 100000
def tellL (v : Nat) (least : Int) : List UInt8 := List.replicate (least - (digs v).length).toNat 48 ++ digs v
theorem own_pre {w : World} {base : Nat} {e : TypeId} {g n cap : Nat} {xs : List Value} (h : w.ownsRow base e 1 (.slice (some ⟨g, 0, none⟩) n cap) n xs) {k : Nat} (hk : k ≤ n) : w.ownsRow base e 1 (.slice (some ⟨g, 0, none⟩) k cap) k (xs.take k) := by
 obtain ⟨h1, h2⟩ := h
 refine ⟨by rw [List.length_take]; omega, ?_⟩
 rcases h2 with ⟨h3, _⟩ | ⟨g', cap', cur, h3, h4, h5, h6, h7, h8, h9⟩
 ·cases h3
 ·simp only [Value.slice.injEq, Option.some.injEq, Addr.mk.injEq] at h3
  obtain ⟨⟨rfl, _⟩, _, rfl⟩ := h3
  refine .inr ⟨g, cap, cur, rfl, h4, h5, by omega, h7, h8, ?_⟩
  rw [← h9, List.take_take, Nat.mul_one, Nat.mul_one, Nat.min_eq_left hk]
theorem own_base {w : World} {base b2 : Nat} {e : TypeId} {s : Nat} {v : Value} {n : Nat} {xs : List Value} (h : w.ownsRow base e s v n xs) (hb : b2 ≤ base) : w.ownsRow b2 e s v n xs := by
 obtain ⟨h1, h2⟩ := h
 refine ⟨h1, ?_⟩
 rcases h2 with h3 | ⟨g', cap', cur, h3, h4, h5⟩
 ·exact .inl h3
 ·exact .inr ⟨g', cap', cur, h3, by omega, h5⟩
theorem own_only {w w' : World} {base : Nat} {e : TypeId} {s : Nat} {v : Value} {n : Nat} {xs : List Value} (h : w.ownsRow base e s v n xs) {row : Option Nat} (hg : w.grownBy w' row) (hne : ∀ b, v.ownBlock = some b → row ≠ some b) : w'.ownsRow base e s v n xs := by
 have hl := h.lt
 obtain ⟨h1, h2⟩ := h
 refine ⟨h1, ?_⟩
 rcases h2 with h3 | ⟨g', cap', cur, h3, h4, h5, h6⟩
 ·exact .inl h3
 ·refine .inr ⟨g', cap', cur, h3, h4, ?_, h6⟩
  have hb : v.ownBlock = some g' := by rw [h3]; rfl
  rw [hg.block g' (hl g' hb).2 (fun e => hne g' hb e.symm)]
  exact h5
theorem own_form {w : World} {base : Nat} {e : TypeId} {v : Value} {n : Nat} {xs : List Value} (h : w.ownsRow base e 1 v n xs) : (v = .slice none 0 0 ∧ n = 0) ∨ ∃ g c, v = .slice (some ⟨g, 0, none⟩) n c ∧ n ≤ c ∧ c ≤ 9223372036854775807 ∧ base ≤ g ∧ g < w.heap.size := by
 have hl := h.lt
 obtain ⟨h1, h2⟩ := h
 rcases h2 with h3 | ⟨g', cap', cur, h3, h4, h5, h6, h7, h8⟩
 ·exact .inl h3
 ·exact .inr ⟨g', cap', h3, h6, h7, h4, (hl g' (by rw [h3]; rfl)).2⟩
theorem own_size {w : World} {base : Nat} {e : TypeId} {v : Value} {n : Nat} {xs : List Value} (h : w.ownsRow base e 1 v n xs) (hn : 0 < n) : base + 1 ≤ w.heap.size := by
 rcases own_form h with ⟨_, h0⟩ | ⟨g, c, _, _, _, h1, h2⟩ <;> omega
theorem push_u8o {ops : Array Oper} {rest : List Oper} {o : Oper} {a : Act} {Q : Exit → Act → World → Prop} {w : World} (hgd : o.guard = none) (s x : Operand)
  (ho : o.op = .call { callee := .builtin .append, args := #[s, x], argTypes := #[51, 51] })
  {W : World} {w0 : World} (ob : Obj) (hw : w = w0.alloc ob) (hW : Ext W w0) {base : Nat} (hbase : W.heap.size ≤ base) (hsz0 : base ≤ w0.heap.size) {v : Value} {n : Nat} {xs : List UInt8} (hown : w0.ownsRow base 5 1 v n (xs.map bV)) (hs : a.eval s = v)
  (y : UInt8) (ad : Addr) (c : Nat) (hx : a.eval x = .slice (some ad) 1 c) (hnew : w.cell? ad = some (bV y)) (hn : n ≤ 1000000000)
  {b2 : Nat} {e2 : TypeId} {s2 : Nat} {v2 : Value} {n2 : Nat} {xs2 : List Value} (h2 : w0.ownsRow b2 e2 s2 v2 n2 xs2) (hap : ∀ b, v2.ownBlock = some b → b < base)
  (h : ∀ v' w', Ext W w' → Hid (w'.ownsRow base 5 1 v' (n + 1) ((xs ++ [y]).map bV)) → Hid (w'.ownsRow b2 e2 s2 v2 n2 xs2) → wpList Tryz.prog ops Q rest (a.put o.dst v') w') : wpList Tryz.prog ops Q (o :: rest) a w := by
 obtain ⟨i, hi, hz, hsz, hby⟩ := info_parts u8_info
 subst hw
 have hlt := hown.lt
 refine wpList_append_own _ hgd s x _ ho base 5 i _ 1 1 u8_under hi hz hsz hby rfl (by decide) v n _ hs (hown.alloc _) ad 1 c [bV y] hx rfl ?_ ?_ ?_ ?_ ?_ ?_
 ·intro j u hj
  match j, hj with
  | 0, hj => simp at hj; subst hj; simpa [Addr.add] using hnew
 ·intro u hu; simp at hu; subst hu; rfl
 ·unfold maxLen; omega
 ·omega
 ·simp; omega
 ·intro v' w' ho' hg _
  refine h v' w' (ext_grown (jA hW _) (hown.alloc _) hbase hg) ?_ ?_
  ·show World.ownsRow _ _ _ _ _ _ _
   simpa using ho'
  ·refine Lib.hid (own_only (h2.alloc _) hg fun b hb e => ?_)
   have h3 := hap b hb
   have h4 := hlt b e
   omega
theorem fig_at (r : Nat) (h : r % 10 < ([48, 49, 50, 51, 52, 53, 54, 55, 56, 57, 97, 98, 99, 100, 101, 102, 103, 104, 105, 106, 107, 108, 109, 110, 111, 112, 113, 114, 115, 116, 117, 118, 119, 120, 121, 122] : List UInt8).length) : ([48, 49, 50, 51, 52, 53, 54, 55, 56, 57, 97, 98, 99, 100, 101, 102, 103, 104, 105, 106, 107, 108, 109, 110, 111, 112, 113, 114, 115, 116, 117, 118, 119, 120, 121, 122] : List UInt8)[r % 10]'h = UInt8.ofNat (48 + r % 10) := by
 have h10 : r % 10 < 10 := Nat.mod_lt _ (by decide)
 generalize r % 10 = y at *
 have : ∀ (y : Nat) (h : y < ([48, 49, 50, 51, 52, 53, 54, 55, 56, 57, 97, 98, 99, 100, 101, 102, 103, 104, 105, 106, 107, 108, 109, 110, 111, 112, 113, 114, 115, 116, 117, 118, 119, 120, 121, 122] : List UInt8).length), y < 10 → ([48, 49, 50, 51, 52, 53, 54, 55, 56, 57, 97, 98, 99, 100, 101, 102, 103, 104, 105, 106, 107, 108, 109, 110, 111, 112, 113, 114, 115, 116, 117, 118, 119, 120, 121, 122] : List UInt8)[y]'h = UInt8.ofNat (48 + y) := by decide
 exact this y h h10
attribute [local irreducible] Calls
theorem bw_copied_own (A : Option Addr) (n c : Nat) (xs : List Nat) (hn : n ≤ 1000000) (w : World) (hA : Rd w A n c xs) :
  Calls Tryz.prog 89 #[.slice A n c] w fun e w' => e = .returned (.slice (some ⟨w.heap.size, 0, none⟩) n n) ∧ Hid (w'.ownsRow w.heap.size 47 1 (.slice (some ⟨w.heap.size, 0, none⟩) n n) n (xs.map u32V)) ∧ Ext w w' := by
 have HA := Lib.hid hA
 have hlen := Lib.hid hA.len
 clear hA
 go_enter Tryz.func89, Tryz.ntmps89
 go_wp2_with (first
  | (at_make; refine make_u32 rfl _ _ rfl _ _ _ _ n rfl rfl (by simp) (by simp) (by omega) ?_; intro w1 hx1 ho1; have hext1 := Lib.hid hx1; clear hx1)
  | (with_reducible refine copy_u32 rfl (.tmp 7) (.tmp 8) rfl ho1.out (HA.out.ext hext1.out) rfl rfl (Nat.le_refl _) hext1.out (Nat.le_refl _) ?_; intro w2 hx2 ho2; have hext2 := Lib.hid hx2; clear hx2)
  | go_in)
 refine bodyPost_ret (v := .slice (some ⟨w.heap.size, 0, none⟩) n n) ?h rfl ⟨rfl, ?_, hext2.out⟩
 case h => simp [results, Tryz.results89, go_sem]
 have e : xs ++ (List.replicate n 0).drop n = xs := by simp
 rw [e] at ho2
 exact ho2
theorem tell_small (v : Nat) (least : Int) (A : Option Addr) (n c : Nat) (hn : n ≤ 40) (hl : -9000000000 ≤ least ∧ least ≤ 10000000) (w : World) (hA : Rd w A n c (lim v)) :
  Calls Tryz.prog 172 #[.slice A n c, .int .i64 10, .int .i64 least] w fun e w' => ∃ vv, e = .returned vv ∧ Hid (w'.ownsRow w.heap.size 5 1 vv (tellL v least).length ((tellL v least).map bV)) ∧ Ext w w' := by
 have HA := Lib.hid hA
 have hkn := hA.len
 have hcap := hA.cap
 have hmx := hA.mx
 obtain ⟨hl1, hl2⟩ := hl
 have HD : Hid ((digs v).length ≤ 1300) := Lib.hid (Nat.le_trans (digs_lim' (k := 40) (by omega)) (by decide))
 clear hA
 go_enter Tryz.func172, Tryz.ntmps172
 go_wp2
 go_loopg [10, 11] 8 (fun g vb vp wr => ∃ (p B : Nat), g = 9 - p ∧ (1 ≤ p ∧ p ≤ 9) ∧ vb = .int .u32 (B : Int) ∧ vp = .int .i64 (p : Int) ∧ (B ≤ 100000000 ∧ p ≤ 8 ∨ B = 1000000000 ∧ p = 9) ∧ Hid (B = 10 ^ p) ∧ Hid (Ext w wr))
 case atStart => exact ⟨1, 10, rfl, by omega, rfl, rfl, by omega, Lib.hid rfl, jR _⟩
 case round =>
  obtain ⟨p, B, rfl, ⟨hp1, hp2⟩, rfl, rfl, hB, hBp, hext⟩ := hrel
  by_cases h8 : p ≤ 8
  ·have hB8 : B ≤ 100000000 := by omega
   have hB9 : (B : Int) ≤ 429496729 := by omega
   have hBB : Hid (B * 10 ≤ 100000000 ∧ p + 1 ≤ 8 ∨ B * 10 = 1000000000 ∧ p + 1 = 9) := Lib.hid (by
    rcases Nat.lt_or_ge p 8 with h | h
    ·left
     rw [hBp.out, ← Nat.pow_succ]
     exact ⟨Nat.le_trans (Nat.pow_le_pow_right (by decide) (show p + 1 ≤ 8 by omega)) (by decide), by omega⟩
    ·right
     obtain rfl : p = 8 := by omega
     rw [hBp.out]; exact ⟨rfl, rfl⟩)
   clear hB
   go_wp2
   go_roundg (9 - (p + 1))
   case rel => exact ⟨p + 1, B * 10, rfl, by omega, by simp, by simp, hBB.out, Lib.hid (by rw [hBp.out, Nat.pow_succ]), hext⟩
   case measure => omega
  ·obtain rfl : p = 9 := by omega
   obtain rfl : B = 1000000000 := by omega
   clear hB h8 hBp
   obtain ⟨W1, rfl⟩ : ∃ W1, W1 = wr := ⟨wr, rfl⟩
   have hcp : ∀ w', Ext W1 w' → Calls Tryz.prog 89 #[.slice A n c] w' fun e w'' => e = .returned (.slice (some ⟨w'.heap.size, 0, none⟩) n n) ∧ Hid (w''.ownsRow w'.heap.size 47 1 (.slice (some ⟨w'.heap.size, 0, none⟩) n n) n ((lim v).map u32V)) ∧ Ext w' w'' := fun w' he => bw_copied_own A n c (lim v) (by omega) w' ((HA.out.ext hext.out).ext he)
   go_wp2_with (first
    | (go_at_call 89; (with_reducible refine (hcp _ (jR _)).mono ?_); rintro e w1 ⟨rfl, hR1, xb1⟩; obtain ⟨xc1, xf1, xl1, xz1⟩ := jU xb1; (try simp at xz1))
    )
   have HX1 := Lib.hid xb1
   have hz1 : W1.heap.size + 1 ≤ w1.heap.size := by have := (hR1.out.lt W1.heap.size rfl).2; omega
   clear hcp xc1 xf1 xl1 xz1 xb1
   go_loopg [0, 12] v (fun u vw vb wr => ∃ (k : Nat) (back : List UInt8), vw = .slice (some ⟨W1.heap.size, 0, none⟩) k n ∧ k ≤ n ∧ Hid (digs v = digs u ++ back.reverse) ∧ Hid (wr.ownsRow W1.heap.size 47 1 (.slice (some ⟨W1.heap.size, 0, none⟩) k n) k ((lim u).map u32V)) ∧ Hid (wr.ownsRow (W1.heap.size + 1) 5 1 vb back.length (back.map bV)) ∧ Hid (Ext w1 wr ∨ True) ∧ Hid (Ext W1 wr) ∧ W1.heap.size + 1 ≤ wr.heap.size)
   case atStart => exact ⟨n, [], rfl, Nat.le_refl _, Lib.hid (by simp), hR1, World.ownsRow_nil _ _ _ _, Lib.hid (.inr trivial), HX1, hz1⟩
   case round =>
    clear hR1 HX1 hz1
    obtain ⟨k, back, rfl, hk, hdig, hownw, hownb, -, hE, hz⟩ := hrel
    have hku : (lim gk).length = k := by have := hownw.out.1; simpa using this
    have hbl : back.length ≤ 1300 := by
     have h1 := HD.out
     rw [hdig.out] at h1
     simp at h1; omega
    by_cases hk0 : 0 < k
    ·have hu0 : gk ≠ 0 := by intro e; rw [e, lim_zero] at hku; simp at hku; omega
     have HU := Lib.hid hu0
     have HK := Lib.hid hku
     clear hu0 hku
     go_wp2
     go_loopw [13, 14] (fun vr vi wr2 => ∃ (j r : Nat) (os : List Nat), j ≤ k ∧ r < 1000000000 ∧ vi = .int .i64 ((j : Int) - 1) ∧ vr = .int .u64 (r : Int) ∧ Hid (os.length = k ∧ Lb os ∧ os.take j = (lim gk).take j ∧ val ((lim gk).drop j) = 1000000000 * val (os.drop j) + r) ∧
       Hid (wr2.ownsRow W1.heap.size 47 1 (.slice (some ⟨W1.heap.size, 0, none⟩) k n) k (os.map u32V)) ∧ Hid (wr2.ownsRow (W1.heap.size + 1) 5 1 u12 back.length (back.map bV)) ∧ Hid (Ext W1 wr2) ∧ W1.heap.size + 1 ≤ wr2.heap.size)
      (fun _ vi _ => (intOf vi + 1).toNat)
     case atStart =>
      refine ⟨k, 0, lim gk, Nat.le_refl _, by decide, by go_num, rfl, Lib.hid ⟨HK.out, lb_lim _, rfl, ?_⟩, hownw, hownb, hE, hz⟩
      rw [List.drop_eq_nil_of_le (by rw [HK.out]; exact Nat.le_refl _)]; rfl
     case round =>
      clear hownw hownb hE hz
      obtain ⟨j, r, os, hj, hr, rfl, rfl, hos, hownw, hownb, hE, hz⟩ := hrel
      by_cases h0 : 0 < j
      ·obtain ⟨x, hx, hxb⟩ : ∃ x : Nat, Hid ((lim gk).getD (j - 1) 0 = x) ∧ x < 4294967296 := ⟨_, rfl, lb_getD (lb_lim _) _⟩
       have hx2 : os.getD (j - 1) 0 = x := by
        have h1 := congrArg (fun z : List Nat => z.getD (j - 1) 0) hos.out.2.2.1
        simp only [List.getD_eq_getElem?_getD] at h1
        rw [List.getElem?_take_of_lt (by omega), List.getElem?_take_of_lt (by omega)] at h1
        rw [List.getD_eq_getElem?_getD, h1, ← List.getD_eq_getElem?_getD]
        exact hx.out
       obtain ⟨hc1, hf1⟩ := own_at hownw.out (j - 1) (by omega)
       rw [hx2] at hc1
       have hor := or_shift r x (by omega) hxb
       obtain ⟨s, hse⟩ : ∃ s, s = r * 4294967296 + x := ⟨_, rfl⟩
       have hs : s < 1000000000 * 4294967296 := by rw [hse]; omega
       have hq : s / 1000000000 < 4294967296 := by omega
       rw [← hse] at hor
       have HSE := Lib.hid hse
       clear hse hx2
       go_wp2
       case roundEnd =>
        refine ⟨⟨j - 1, s % 1000000000, os.set (j - 1) (s / 1000000000), by omega, by omega, ?_, ?_, ⟨?_, ?_, ?_, ?_⟩, ?_, ?_, ?_, ?_⟩, ?_⟩
        ·simp; omega
        ·simp
        ·simp [hos.out.1]
        ·exact lb_set hos.out.2.1 _ hq
        ·rw [List.take_set_of_le (by omega)]
         have h1 := congrArg (fun z : List Nat => z.take (j - 1)) hos.out.2.2.1
         simp only [List.take_take] at h1
         rwa [Nat.min_eq_left (by omega)] at h1
        ·have h := over_step (d := 1000000000) (by decide) h0 (by rw [HK.out]; exact hj) (by rw [hos.out.1, HK.out]) hos.out.2.2.2 hx.out
         rwa [← HSE.out] at h
        ·show World.ownsRow _ _ _ _ _ _ _
         have e : (s : Int) / 1000000000 = ((s / 1000000000 : Nat) : Int) := by omega
         rw [e]
         exact own_set hownw.out _ _
        ·exact own_far hownb.out _ _ (fun e => by have := (hownb.out.lt _ e).1; simp only at this; omega)
        ·exact jS hE.out (Nat.le_refl _) _
        ·simpa using hz
        ·simp [intOf]; omega
      ·obtain rfl : j = 0 := by omega
       have hv := hos.out.2.2.2
       simp only [List.drop_zero, val_lim] at hv
       obtain ⟨q, hqv⟩ : ∃ q, q = val os := ⟨_, rfl⟩
       have hq1 : gk = 1000000000 * q + r := by rw [hqv]; exact hv
       obtain ⟨A', c', he, hR⟩ := Rd.own hownw.out hos.out.2.1
       have hT : Calls Tryz.prog 130 #[.slice (some ⟨W1.heap.size, 0, none⟩) k n] wr fun e w'' => e = .returned (.slice (some ⟨W1.heap.size, 0, none⟩) (lim q).length n) ∧ wr = w'' := by
        cases he
        refine (bw_trim _ k n os wr hR).mono ?_
        rintro e w'' ⟨k2, rfl, hR2, rfl⟩
        refine ⟨?_, rfl⟩
        rw [← hR2.len, trimZ_lim os hos.out.2.1, hqv]
       have hk2 : (lim q).length ≤ k := by
        have h1 : (lim q).length ≤ (lim gk).length := lim_mono (by omega)
        rw [HK.out] at h1; exact h1
       have hown2 : Hid (wr.ownsRow W1.heap.size 47 1 (.slice (some ⟨W1.heap.size, 0, none⟩) (lim q).length n) (lim q).length ((lim q).map u32V)) := Lib.hid (by
        have h1 := own_pre hownw.out hk2
        obtain ⟨m, hm1, hm2⟩ := trimZ_prefix os
        rw [trimZ_lim os hos.out.2.1, ← hqv] at hm2
        have hm3 : m = (lim q).length := by rw [hm2, List.length_take, hos.out.1]; rw [hos.out.1] at hm1; omega
        rw [← List.map_take, ← hm3, ← hm2] at h1
        rw [← hm3] at *
        exact h1)
       obtain ⟨k2, hk2e⟩ : ∃ k2, k2 = (lim q).length := ⟨_, rfl⟩
       rw [← hk2e] at hT hk2 hown2
       have HK2 := Lib.hid hk2e
       have HQ1 := Lib.hid hq1
       clear hv hqv hq1 he hR hk2e h0 hj hownw
       go_wp2_with (first
        | (go_at_call 130; (with_reducible refine (hT).mono ?_); rintro e w' ⟨rfl, rfl⟩)
        )
       have hr9 : Hid (r < 10 ^ (9 - 0) ∧ digs v = digs (q * 10 ^ (9 - 0) + r) ++ back.reverse) := Lib.hid ⟨hr, by rw [hdig.out]; congr 2; rw [HQ1.out]; show 1000000000 * q + r = q * 1000000000 + r; omega⟩
       go_loopw [12, 16, 17] (fun vb vr vi wr2 => ∃ (j r' : Nat) (back2 : List UInt8), j ≤ 9 ∧ vi = .int .i64 (j : Int) ∧ vr = .int .u32 (r' : Int) ∧ r' < 1000000000 ∧ Hid (r' < 10 ^ (9 - j) ∧ digs v = digs (q * 10 ^ (9 - j) + r') ++ back2.reverse) ∧
         Hid (wr2.ownsRow (W1.heap.size + 1) 5 1 vb back2.length (back2.map bV)) ∧ Hid (wr2.ownsRow W1.heap.size 47 1 (.slice (some ⟨W1.heap.size, 0, none⟩) k2 n) k2 ((lim q).map u32V)) ∧ Hid (Ext W1 wr2) ∧ W1.heap.size + 1 ≤ wr2.heap.size)
        (fun _ _ vi _ => 9 - (intOf vi).toNat)
       case atStart => exact ⟨0, r, back, Nat.zero_le _, rfl, by go_num, hr, hr9, hownb, hown2, hE, hz⟩
       case round =>
        clear hownb hown2 hE hz hr9
        obtain ⟨j, r', back2, hj, rfl, rfl, hr', hd2, hownb, hownw, hE, hz⟩ := hrel
        have hbl2 : back2.length ≤ 1300 := by
         have h1 := HD.out
         rw [hd2.out.2] at h1
         simp at h1; omega
        have hz' : W1.heap.size ≤ W1.heap.size + 1 := Nat.le_succ _
        obtain ⟨dg, hdg⟩ : ∃ dg : UInt8, Hid (dg = UInt8.ofNat (48 + r' % 10)) := ⟨_, rfl⟩
        by_cases hgo : j < 9 ∧ (0 < k2 ∨ 0 < r')
        ·have HP : Hid (r' < 10 * 10 ^ (9 - (j + 1)) → 0 < q * (10 * 10 ^ (9 - (j + 1))) + r') := Lib.hid (fun hlt => by
          rcases hgo.2 with h | h
          ·have h1 : 0 < q := by
            rcases Nat.eq_zero_or_pos q with e | e
            ·have := HK2.out; rw [e, lim_zero] at this; simp at this; omega
            ·exact e
           have := Nat.mul_pos h1 (show 0 < 10 * 10 ^ (9 - (j + 1)) by omega)
           omega
          ·omega)
         by_cases hk20 : 0 < k2
         ·skip
          go_wp2_with (first
           | (at_builtin; refine push_u8o rfl _ _ rfl _ rfl hE.out hz' hz hownb.out rfl dg ⟨wr.heap.size, 0, none⟩ 1 rfl (by rw [World.cell?_alloc_at _ _ _ _ rfl]; simp [bV, hdg.out, fig_at]) (by omega) hownw.out (fun b e => by cases e; exact Nat.lt_succ_self _) ?_)
           | go_in)
          all_goals
           intro v' w3 hx3 ho3 hk3
           have HX3 := Lib.hid hx3
           have hz3 := hx3.size
           have hz4 : W1.heap.size + 1 ≤ w3.heap.size := (hk3.out.lt W1.heap.size rfl).2
           clear hx3 hownb hownw
           go_wp2
           go_roundw
           case rel =>
            have e1 : 10 ^ (9 - j) = 10 * 10 ^ (9 - (j + 1)) := by
             rw [show 9 - j = 9 - (j + 1) + 1 by omega, Nat.pow_succ]; omega
            have hd3 := hd2.out
            rw [e1] at hd3
            refine ⟨j + 1, r' / 10, back2 ++ [dg], by omega, by go_num, by go_num, by omega, ⟨by omega, by rw [hdg.out]; exact digs_step10 hd3.2 (HP.out hd3.1)⟩, ?_, hk3, HX3, hz4⟩
            show World.ownsRow _ _ _ _ _ _ _
            rw [List.length_append, List.map_append]
            exact ho3.out
           case measure => simp [intOf]; omega
         ·obtain rfl : k2 = 0 := by omega
          have hr0 : 0 < r' := by omega
          have hj9 : j < 9 := hgo.1
          clear hgo
          go_wp2_with (first
           | (at_builtin; refine push_u8o rfl _ _ rfl _ rfl hE.out hz' hz hownb.out rfl dg ⟨wr.heap.size, 0, none⟩ 1 rfl (by rw [World.cell?_alloc_at _ _ _ _ rfl]; simp [bV, hdg.out, fig_at]) (by omega) hownw.out (fun b e => by cases e; exact Nat.lt_succ_self _) ?_)
           | go_in)
          all_goals
           intro v' w3 hx3 ho3 hk3
           have HX3 := Lib.hid hx3
           have hz3 := hx3.size
           have hz4 : W1.heap.size + 1 ≤ w3.heap.size := (hk3.out.lt W1.heap.size rfl).2
           clear hx3 hownb hownw
           go_wp2
           go_roundw
           case rel =>
            have e1 : 10 ^ (9 - j) = 10 * 10 ^ (9 - (j + 1)) := by
             rw [show 9 - j = 9 - (j + 1) + 1 by omega, Nat.pow_succ]; omega
            have hd3 := hd2.out
            rw [e1] at hd3
            refine ⟨j + 1, r' / 10, back2 ++ [dg], by omega, by go_num, by go_num, by omega, ⟨by omega, by rw [hdg.out]; exact digs_step10 hd3.2 (HP.out hd3.1)⟩, ?_, hk3, HX3, hz4⟩
            show World.ownsRow _ _ _ _ _ _ _
            rw [List.length_append, List.map_append]
            exact ho3.out
           case measure => simp [intOf]; omega
        ·have HDQ : Hid (digs v = digs q ++ back2.reverse) := Lib.hid (by
          have h1 := hd2.out
          have h2 : r' = 0 := by
           by_cases hj9 : j = 9
           ·subst hj9
            have := h1.1; simp at this; exact this
           ·omega
          by_cases hj9 : j = 9
          ·subst hj9
           rw [h2] at h1
           simpa using h1.2
          ·have hq0 : q = 0 := lim_nil.1 (List.eq_nil_of_length_eq_zero (by have := HK2.out; omega))
           rw [h2, hq0] at h1
           rw [hq0]
           simpa using h1.2)
         by_cases hj9 : j = 9
         ·subst hj9
          clear hgo
          go_wp2
          go_roundg q
          case rel => exact ⟨k2, back2, rfl, by omega, HDQ, hownw, hownb, Lib.hid (.inr trivial), hE, hz⟩
          case measure => have := HQ1.out; have := HU.out; omega
         ·obtain rfl : k2 = 0 := by omega
          obtain rfl : r' = 0 := by omega
          have hj8 : j < 9 := by omega
          clear hgo hj9
          go_wp2
          go_roundg q
          case rel => exact ⟨0, back2, rfl, by omega, HDQ, hownw, hownb, Lib.hid (.inr trivial), hE, hz⟩
          case measure => have := HQ1.out; have := HU.out; omega
    ·obtain rfl : k = 0 := by omega
     have hu0 : gk = 0 := lim_nil.1 (List.eq_nil_of_length_eq_zero hku)
     have HB : Hid (digs v = back.reverse) := Lib.hid (by rw [hdig.out, hu0, digs_zero]; simp)
     clear hk0 hdig hu0 hku hownw
     go_wp2
     go_loopg [12] (least - (back.length : Int)).toNat (fun g vb wr => ∃ (m : Nat), g = (least - (back.length + m : Nat)).toNat ∧ (m = 0 ∨ ((back.length + m : Nat) : Int) ≤ least) ∧ Hid (wr.ownsRow (W1.heap.size + 1) 5 1 vb (back.length + m) ((back ++ List.replicate m 48).map bV)) ∧ Hid (Ext W1 wr) ∧ W1.heap.size + 1 ≤ wr.heap.size)
     case atStart => exact ⟨0, rfl, .inl rfl, Lib.hid (by simpa using hownb.out), hE, hz⟩
     case round =>
      clear hownb hE hz
      obtain ⟨m, rfl, hm, hownb, hE, hz⟩ := hrel
      have hz' : W1.heap.size ≤ W1.heap.size + 1 := Nat.le_succ _
      have hbm : back.length + m ≤ 10001300 := by omega
      have hlen : (back ++ List.replicate m (48 : UInt8)).length = back.length + m := by simp
      have hown1 := hownb.out
      rcases own_form hownb.out with ⟨hu, hz0⟩ | ⟨gb, cb, hu, hc1, hc2, hg1, hg2⟩
      ·subst hu
       have hm0 : m = 0 := by omega
       have hbn : back = [] := List.eq_nil_of_length_eq_zero (by omega)
       subst hm0 hbn
       by_cases hgo : (0 : Int) < least
       ·go_wp2_with (first
         | (at_builtin; refine push_u8 rfl _ _ rfl _ rfl hE.out hz' hz hownb.out rfl 48 ⟨wr.heap.size, 0, none⟩ 1 rfl (by rw [World.cell?_alloc_at _ _ _ _ rfl]; simp [bV]) (by omega) ?_)
         | go_in)
        all_goals
         intro v' w3 hx3 ho3 hk3
         have HX3 := Lib.hid hx3
         have hz3 := hx3.size
         clear hx3 hownb
         go_wp2
         go_roundg (least - (([] : List UInt8).length + 1 : Nat)).toNat
         case rel => exact ⟨1, rfl, .inr (by simp; omega), Lib.hid (by simpa using ho3.out), HX3, by have := own_size ho3.out (by omega); omega⟩
         case measure => simp; omega
       ·have HT : Hid (tellL v least = []) := Lib.hid (by
         unfold tellL
         rw [HB.out]
         simp; omega)
        obtain ⟨wo, rfl⟩ : ∃ wo, wo = wr := ⟨_, rfl⟩
        clear hm hbm hlen hz0 hown1 hownb HB
        go_wp2_with (first
         | (at_make; refine make_u8 rfl _ _ rfl _ _ _ _ 0 rfl rfl rfl rfl (by omega) ?_; intro w5 hx1 ho1; have hext1 := Lib.hid hx1; clear hx1)
         | go_in)
        go_loopw [19] (fun vi wr2 => vi = .int .i64 0 ∧ Hid (wr2.ownsRow wo.heap.size 5 1 (.slice (some ⟨wo.heap.size, 0, none⟩) 0 0) 0 []) ∧ Hid (Ext wo wr2)) (fun _ _ => 0)
        case atStart => exact ⟨rfl, ho1, hext1⟩
        case round =>
         obtain ⟨rfl, ho, hx⟩ := hrel
         have HR : Hid (wr.ownsRow w.heap.size 5 1 (.slice (some ⟨wo.heap.size, 0, none⟩) 0 0) (tellL v least).length ((tellL v least).map bV)) := Lib.hid (by
          rw [HT.out]
          exact own_base ho.out (jT hext.out hE.out).size)
         clear HT
         go_wp2
         refine bodyPost_ret (v := .slice (some ⟨wo.heap.size, 0, none⟩) 0 0) ?h rfl ⟨_, rfl, HR, jT hext.out (jT hE.out hx.out)⟩
         case h => simp [results, Tryz.results172, go_sem]
      ·subst hu
       by_cases hgo : ((back.length + m : Nat) : Int) < least
       ·go_wp2_with (first
         | (at_builtin; refine push_u8 rfl _ _ rfl _ rfl hE.out hz' hz hownb.out rfl 48 ⟨wr.heap.size, 0, none⟩ 1 rfl (by rw [World.cell?_alloc_at _ _ _ _ rfl]; simp [bV]) (by omega) ?_)
         | go_in)
        all_goals
         intro v' w3 hx3 ho3 hk3
         have HX3 := Lib.hid hx3
         have hz3 := hx3.size
         clear hx3 hownb
         go_wp2
         go_roundg (least - (back.length + (m + 1) : Nat)).toNat
         case rel =>
          refine ⟨m + 1, rfl, .inr (by omega), Lib.hid ?_, HX3, by have := own_size ho3.out (by omega); omega⟩
          have h1 := ho3.out
          rw [List.replicate_succ', List.map_append, List.map_append]
          simp only [List.map_replicate, List.map_cons, List.map_nil]
          exact h1
         case measure => omega
       ·obtain ⟨L, hL⟩ : ∃ L, L = back.length + m := ⟨_, rfl⟩
        obtain ⟨B3, hB3⟩ : ∃ B3, B3 = back ++ List.replicate m (48 : UInt8) := ⟨_, rfl⟩
        have HF : Hid (B3.reverse = tellL v least) := Lib.hid (by
         unfold tellL
         rw [hB3, List.reverse_append, List.reverse_replicate, HB.out, List.length_reverse]
         congr 2
         omega)
        have hlen : Hid (B3.length = L) := Lib.hid (by rw [hB3, hL]; simp)
        rw [← hL] at hbm hown1 hc1 hgo ⊢
        rw [← hB3] at hown1
        rw [← hL, ← hB3] at hownb
        clear hL hB3 hm hown1 HB
        obtain ⟨wo, rfl⟩ : ∃ wo, wo = wr := ⟨_, rfl⟩
        go_wp2_with (first
         | (at_make; refine make_u8 rfl _ _ rfl _ _ _ _ L rfl rfl rfl rfl (by omega) ?_; intro w5 hx1 ho1; have hext1 := Lib.hid hx1; clear hx1)
         | go_in)
        have hgl1 : wo.heap.size < w5.heap.size := (ho1.out.lt wo.heap.size rfl).2
        go_loopw [19] (fun vi wr2 => ∃ (i : Nat) (os : List UInt8), i ≤ L ∧ vi = .int .i64 (i : Int) ∧ Hid (os.length = L ∧ ∀ p, p < i → os.getD p 0 = B3.getD (L - 1 - p) 0) ∧
          Hid (wr2.ownsRow wo.heap.size 5 1 (.slice (some ⟨wo.heap.size, 0, none⟩) L L) L (os.map bV)) ∧
          Hid (wr2.ownsRow (W1.heap.size + 1) 5 1 (.slice (some ⟨gb, 0, none⟩) L cb) L (B3.map bV)) ∧ Hid (Ext wo wr2))
         (fun vi _ => L - (intOf vi).toNat)
        case atStart => exact ⟨0, List.replicate L 0, Nat.zero_le _, rfl, ⟨by simp, fun p hp => absurd hp (Nat.not_lt_zero _)⟩, ho1.out, own_ext hownb.out hext1.out, hext1.out⟩
        case round =>
         obtain ⟨i, os, hi, rfl, hos, ho, hb, hx⟩ := hrel
         by_cases hlt : i < L
         ·obtain ⟨y, hy⟩ : ∃ y : UInt8, Hid (B3.getD (L - 1 - i) 0 = y) := ⟨_, rfl⟩
          obtain ⟨hc1, hf1⟩ := ownb_at hb.out (L - 1 - i) (by omega)
          rw [hy.out] at hc1
          obtain ⟨hc2, hf2⟩ := ownb_at ho.out i hlt
          go_wp2
          case roundEnd =>
           refine ⟨⟨i + 1, os.set i y, by omega, by simp, ⟨by rw [List.length_set]; exact hos.out.1, fun p hp => ?_⟩, ownb_set ho.out i y, own_far hb.out _ _ (by simp [Value.ownBlock]; omega), jS hx.out (Nat.le_refl _) _⟩, ?_⟩
           ·by_cases e : p = i
            ·subst e
             rw [List.getD_eq_getElem?_getD, List.getElem?_set_self (by rw [hos.out.1]; exact hlt), hy.out]; rfl
            ·rw [List.getD_eq_getElem?_getD, List.getElem?_set_ne (by omega), ← List.getD_eq_getElem?_getD]
             exact hos.out.2 p (by omega)
           ·simp [intOf]; omega
         ·obtain rfl : i = L := by omega
          have hfin : os = tellL v least := by
           rw [← HF.out]
           refine List.ext_getElem (by rw [List.length_reverse, hlen.out]; exact hos.out.1) fun p h1 h2 => ?_
           have h3 := hos.out.2 p (by rw [← hos.out.1]; exact h1)
           have h4 : p < B3.length := by rw [hlen.out, ← hos.out.1]; exact h1
           rw [List.getD_eq_getElem?_getD, List.getD_eq_getElem?_getD, List.getElem?_eq_getElem h1, List.getElem?_eq_getElem (by have := hlen.out; omega)] at h3
           rw [List.getElem_reverse]
           have e : B3.length - 1 - p = i - 1 - p := by rw [hlen.out]
           simp only [e]
           exact h3
          have HR : Hid (wr.ownsRow w.heap.size 5 1 (.slice (some ⟨wo.heap.size, 0, none⟩) i i) (tellL v least).length ((tellL v least).map bV)) := Lib.hid (by
           rw [← hfin, hos.out.1]
           exact own_base ho.out (jT hext.out hE.out).size)
          clear hfin hlt
          go_wp2
          refine bodyPost_ret (v := .slice (some ⟨wo.heap.size, 0, none⟩) i i) ?h rfl ⟨_, rfl, HR, jT hext.out (jT hE.out hx.out)⟩
          case h => simp [results, Tryz.results172, go_sem]
end Go.Proofs.YtfdmhefjmnlllaaGreatDoor
end
section
/- Words of the library's: long texts of digits are read by halves. -/
namespace Go.Proofs.YtfdmhefjmnlllaaGreatDoor
open Go.RowKit
attribute [local go_sem] bs_size bs_extract bs_get bs_append bs_toList const_get
attribute [local go_sem] sz2 sz3 sz4 sz5 sz6 sz7 sz8
set_option maxHeartbeats 4000000
set_option maxRecDepth 100000
theorem read_halves {l : List UInt8} {k h : Nat} (hk : k + h = l.length) : dval (l.take k) * 10 ^ h + dval (l.drop k) = dval l := by
 conv => rhs; rw [← List.take_append_drop k l]
 rw [dval_append, List.length_drop]
 congr 3; omega
theorem dval_words {l : List UInt8} (hd : digsB l = true) (hl : l.length ≤ 70000) : (lim (dval l)).length ≤ 17500 := lim_fits (n := l.length) (Nat.le_of_lt (dval_lt l hd)) (by omega) (by decide)
theorem ten_words {h : Nat} (hl : h ≤ 70000) : (lim (10 ^ h)).length ≤ 17500 := lim_fits (n := h) (Nat.le_refl _) (by omega) (by decide)
attribute [local irreducible] Calls
theorem bw_read : ∀ (N : Nat) (l : List UInt8), l.length = N → N ≤ 70000 → digsB l = true → ∀ w, Calls Tryz.prog 119 #[.string (bs l), .int .i64 10] w (ReadPost w (dval l)) := by
 intro N
 induction N using Nat.strongRecOn with
 | _ N ih =>
  intro l hl hN hd w
  by_cases hs : l.length ≤ 300
  ·exact read_small l hd hs w
  ·obtain ⟨h, hh⟩ : ∃ h, h = l.length / 2 := ⟨_, rfl⟩
   obtain ⟨k, hk⟩ : ∃ k, k = l.length - h := ⟨_, rfl⟩
   have k1 : ∀ w', Calls Tryz.prog 119 #[.string (bs (l.take k)), .int .i64 10] w' (ReadPost w' (dval (l.take k))) := fun w' => ih k (by omega) _ (by rw [List.length_take]; omega) (by omega) (digs_take hd k) w'
   have k2 : ∀ w', Calls Tryz.prog 119 #[.string (bs (l.drop k)), .int .i64 10] w' (ReadPost w' (dval (l.drop k))) := fun w' => ih h (by omega) _ (by rw [List.length_drop]; omega) (by omega) (digs_drop hd k) w'
   have k3 : ∀ w', Calls Tryz.prog 152 #[.int .i64 10, .int .i64 (h : Int)] w' (WPost w' (10 ^ h)) := fun w' => bw_power 10 h (by decide) (by decide) (by omega) (Nat.le_trans (ten_words (by omega)) (by decide)) w'
   have b1 := dval_words (digs_take hd k) (by rw [List.length_take]; omega)
   have b2 := dval_words (digs_drop hd k) (by rw [List.length_drop]; omega)
   have b3 := ten_words (h := h) (by omega)
   have hv := read_halves (l := l) (k := k) (h := h) (by omega)
   have k4 : ∀ (A : Option Addr) (n c : Nat) (B : Option Addr) (m d : Nat) (w' : World), Rd w' A n c (lim (dval (l.take k))) → Rd w' B m d (lim (10 ^ h)) → Calls Tryz.prog 121 #[.slice A n c, .slice B m d] w' (WPost w' (dval (l.take k) * 10 ^ h)) := fun A n c B m d w' g1 g2 =>
    bw_mulA A B n c m d _ _ (by rw [← g1.len, ← g2.len]; omega) w' g1 g2
   have k5 : ∀ (A : Option Addr) (n c : Nat) (B : Option Addr) (m d : Nat) (w' : World), Rd w' A n c (lim (dval (l.take k) * 10 ^ h)) → Rd w' B m d (lim (dval (l.drop k))) → Calls Tryz.prog 151 #[.slice A n c, .slice B m d] w' (WPost w' (dval l)) := fun A n c B m d w' g1 g2 => by
    have g3 := lim_mul_len (dval (l.take k)) (10 ^ h)
    have := bw_add A B n c m d _ _ (by rw [← g1.len]; omega) (by rw [← g2.len]; omega) w' g1 g2
    rw [hv] at this
    exact this.mono fun e w'' ⟨A', k', c', q1, q2, q3⟩ => ⟨A', k', c', q1, ⟨q2.out.1, q2.out.2.1⟩, q3⟩
   have hkh : (l.length : Int) - (h : Int) = (k : Int) := by omega
   have hl2 : (l.length : Int) / 2 = (h : Int) := by omega
   have hbig : (300 : Int) < (l.length : Int) := by omega
   have hkl : k ≤ l.length := by omega
   have hlb : l.length ≤ 70000 := by omega
   have HK := Lib.hid (And.intro k1 (And.intro k2 (And.intro k3 (And.intro k4 k5))))
   have HHH := Lib.hid (And.intro hh hk)
   clear k1 k2 k3 k4 k5 b1 b2 b3 hv hh hk ih hl hN hd hs
   generalize dval (l.take k) = x at *
   generalize dval (l.drop k) = y at *
   generalize dval l = z at *
   generalize 10 ^ h = p at *
   go_enter Tryz.func119, Tryz.ntmps119
   go_wp2_with (first
    | (go_at_call 119; (with_reducible refine (HK.out.1 _).mono ?_); rintro e w1 ⟨A1, n1, c1, rfl, hR1, xb1⟩; obtain ⟨xc1, xf1, xl1, xz1⟩ := jU xb1; (try simp at xz1))
    | (go_at_call 119; (with_reducible refine (HK.out.2.1 _).mono ?_); rintro e w2 ⟨A2, n2, c2, rfl, hR2, xb2⟩; obtain ⟨xc2, xf2, xl2, xz2⟩ := jU xb2; (try simp at xz2))
    | (go_at_call 152; (with_reducible refine (HK.out.2.2.1 _).mono ?_); rintro e w3 ⟨A3, n3, c3, rfl, hR3, xb3⟩; obtain ⟨xc3, xf3, xl3, xz3⟩ := jU xb3; (try simp at xz3))
    | (go_at_call 121; (with_reducible refine (HK.out.2.2.2.1 _ _ _ _ _ _ _ (hR1.out.1.ext (jT xb2 xb3)) hR3.out.1).mono ?_); rintro e w4 ⟨A4, n4, c4, rfl, hR4, xb4⟩; obtain ⟨xc4, xf4, xl4, xz4⟩ := jU xb4; (try simp at xz4))
    | (go_at_call 151; (with_reducible refine (HK.out.2.2.2.2 _ _ _ _ _ _ _ hR4.out.1 (hR2.out.1.ext (jT xb3 xb4))).mono ?_); rintro e w5 ⟨A5, n5, c5, rfl, hR5, xb5⟩; obtain ⟨xc5, xf5, xl5, xz5⟩ := jU xb5; (try simp at xz5))
    )
   refine bodyPost_ret (v := .tuple #[.slice A5 n5 c5, .bool true]) ?h rfl ⟨A5, n5, c5, rfl, ⟨hR5.out.1, hR5.out.2.mono (jT xb1 (jT xb2 (jT xb3 xb4)))⟩, jT xb1 (jT xb2 (jT xb3 (jT xb4 xb5)))⟩
   case h => simp [results, Tryz.results119, go_sem]
end Go.Proofs.YtfdmhefjmnlllaaGreatDoor
end
section
/- Words of the library's: numbers are told in tens. -/
namespace Go.Proofs.YtfdmhefjmnlllaaGreatDoor
open Go.RowKit
attribute [local go_sem] bs_size bs_extract bs_get bs_append bs_toList const_get
attribute [local go_sem] sz2 sz3 sz4 sz5 sz6 sz7 sz8
set_option maxHeartbeats 8000000
set_option maxRecDepth 100000
theorem head_app {a b : List UInt8} (h : a ≠ []) : (a ++ b).head? = a.head? := by
 cases a with
 | nil => exact absurd rfl h
 | cons x y => rfl
theorem digs_lead (n : Nat) : lead (digs n) := by
 intro x hx
 induction n using Nat.strongRecOn with
 | _ n ih =>
  by_cases h0 : n = 0
  ·subst h0; rw [digs_zero] at hx; cases hx
  ·rw [digs_pos h0] at hx
   by_cases h1 : n / 10 = 0
   ·rw [h1, digs_zero] at hx
    simp at hx
    subst hx
    intro e
    have := congrArg UInt8.toNat e
    simp at this
    omega
   ·have hne : digs (n / 10) ≠ [] := by rw [digs_pos h1]; simp
    rw [head_app hne] at hx
    exact ih (n / 10) (by omega) hx
theorem digs_split {q r k : Nat} (hq : 0 < q) (hr : r < 10 ^ k) : digs (q * 10 ^ k + r) = digs q ++ (List.replicate (k - (digs r).length) 48 ++ digs r) := by
 have hl := digs_len hr
 have e : q * 10 ^ k + r = dval (digs q ++ (List.replicate (k - (digs r).length) 48 ++ digs r)) := by
  rw [dval_append, dval_append, dval_noughts, dval_digs, dval_digs, List.length_append, List.length_replicate, Nat.sub_add_cancel hl]
  omega
 rw [e]
 refine digs_dval ?_ ?_
 ·have h1 := digs_digs q
  have h2 := digs_digs r
  have h3 := digs_noughts (k - (digs r).length)
  unfold digsB at *
  rw [List.all_append, List.all_append, h1, h2, h3]; rfl
 ·intro x hx
  have hne : digs q ≠ [] := by rw [digs_pos (by omega)]; simp
  rw [head_app hne] at hx
  exact digs_lead q x hx
theorem tell_split {v k : Nat} {least : Int} (hq : 0 < v / 10 ^ k) : tellL v least = tellL (v / 10 ^ k) (least - k) ++ tellL (v % 10 ^ k) k := by
 have hr : v % 10 ^ k < 10 ^ k := Nat.mod_lt _ (Nat.pow_pos (by decide))
 have h1 := digs_split hq hr
 have e : v / 10 ^ k * 10 ^ k + v % 10 ^ k = v := by rw [Nat.mul_comm]; exact Nat.div_add_mod v (10 ^ k)
 rw [e] at h1
 have hl := digs_len hr
 unfold tellL
 have h2 : ((k : Int) - (digs (v % 10 ^ k)).length).toNat = k - (digs (v % 10 ^ k)).length := by omega
 rw [h2, List.append_assoc, ← h1]
 congr 2
 rw [h1, List.length_append, List.length_append, List.length_replicate]
 omega
theorem words_split {v n k : Nat} (hv : (lim v).length = n) (hn : 40 < n) (hk : k = 8 * (n / 2)) : 0 < v / 10 ^ k ∧ (lim (v / 10 ^ k)).length ≤ n - 1 ∧ (lim (v % 10 ^ k)).length ≤ n - 1 ∧ (lim (10 ^ k)).length ≤ n := by
 have h0 : v ≠ 0 := by intro e; subst e; rw [lim_zero] at hv; simp at hv; omega
 have h1 := (lim_len h0).1
 rw [hv] at h1
 have h2 : 10 ^ k ≤ Bs ^ (n / 2) := by
  rw [hk, Nat.pow_mul]
  exact Nat.pow_le_pow_left (by decide) _
 have h3 : Bs ^ (n / 2) ≤ Bs ^ (n - 1) := Nat.pow_le_pow_right (by decide) (by omega)
 have h4 : 0 < 10 ^ k := Nat.pow_pos (by decide)
 refine ⟨Nat.div_pos (by omega) h4, ?_, ?_, ?_⟩
 ·have h5 : v / 10 ^ k ≤ v / Bs ^ 1 := by
   refine Nat.div_le_div_left ?_ (by decide)
   rw [hk, Nat.pow_mul]
   refine Nat.le_trans (show Bs ^ 1 ≤ (10 ^ 8) ^ 2 by decide) (Nat.pow_le_pow_right (by decide) (by omega))
  have h6 := lim_mono h5
  rw [len_div hv] at h6
  exact h6
 ·exact lim_le (Nat.lt_of_lt_of_le (Nat.mod_lt _ h4) (Nat.le_trans h2 h3))
 ·exact Nat.le_trans (lim_mono h2) (lim_le (Nat.pow_lt_pow_right (by decide) (by omega)))
theorem push_u8s {ops : Array Oper} {rest : List Oper} {o : Oper} {a : Act} {Q : Exit → Act → World → Prop} {w : World} (hgd : o.guard = none) (s x : Operand)
  (ho : o.op = .call { callee := .builtin .append, args := #[s, x], argTypes := #[51, 51] })
  {W : World} (hW : Ext W w) {base : Nat} (hbase : W.heap.size ≤ base) (hsz0 : base ≤ w.heap.size) {v : Value} {n : Nat} {xs : List UInt8} (hown : w.ownsRow base 5 1 v n (xs.map bV)) (hs : a.eval s = v)
  {b2 : Nat} {v2 : Value} {m : Nat} {ys : List UInt8} (h2 : w.ownsRow b2 5 1 v2 m (ys.map bV)) (hx : a.eval x = v2) (hm : 0 < m) (hn : n + m ≤ 1000000000)
  (h : ∀ v' w', Ext W w' → Hid (w'.ownsRow base 5 1 v' (n + m) ((xs ++ ys).map bV)) → wpList Tryz.prog ops Q rest (a.put o.dst v') w') : wpList Tryz.prog ops Q (o :: rest) a w := by
 obtain ⟨i, hi, hz, hsz, hby⟩ := info_parts u8_info
 rcases own_form h2 with ⟨_, h0⟩ | ⟨g, c, rfl, hc1, hc2, hg1, hg2⟩
 ·omega
 have hyl : ys.length = m := by have := h2.1; simpa using this
 refine wpList_append_own _ hgd s x _ ho base 5 i _ 1 1 u8_under hi hz hsz hby rfl (by decide) v n _ hs hown ⟨g, 0, none⟩ m c (ys.map bV) hx (by simpa using hyl) ?_ ?_ ?_ ?_ hsz0 ?_
 ·intro j u hj
  have hj' : j < m := by
   have := (List.getElem?_eq_some_iff.1 hj).1
   simp at this; omega
  have h3 := (ownb_at h2 j hj').1
  have e : Addr.add ⟨g, 0, none⟩ j = ⟨g, j, none⟩ := by unfold Addr.add; split <;> simp_all
  rw [e, h3]
  rw [List.getElem?_map] at hj
  rw [List.getD_eq_getElem?_getD]
  cases hq : ys[j]? with
  | none => rw [hq] at hj; cases hj
  | some z => rw [hq] at hj; simp at hj; subst hj; rfl
 ·intro u hu
  obtain ⟨z, _, rfl⟩ := List.mem_map.1 hu
  rfl
 ·unfold maxLen; omega
 ·omega
 ·intro v' w' ho' hg _
  refine h v' w' (ext_grown hW hown hbase hg) ?_
  show World.ownsRow _ _ _ _ _ _ _
  simpa using ho'
attribute [local irreducible] Calls
abbrev TellPost (w : World) (l : List UInt8) : Ending → World → Prop := fun e w' => ∃ vv, e = .returned vv ∧ Hid (w'.ownsRow w.heap.size 5 1 vv l.length (l.map bV)) ∧ Ext w w'
theorem bw_tell : ∀ (N v : Nat) (least : Int) (A : Option Addr) (n c : Nat), n = N → n ≤ 20000 → -9000000 + 80000 * (n : Int) - 1600000000 ≤ least → least ≤ 10000000 → ∀ w, Rd w A n c (lim v) →
  Calls Tryz.prog 172 #[.slice A n c, .int .i64 10, .int .i64 least] w (TellPost w (tellL v least)) := by
 intro N
 induction N using Nat.strongRecOn with
 | _ N ih =>
  intro v least A n c hnN hn hl1 hl2 w hA
  by_cases hs : n ≤ 40
  ·exact tell_small v least A n c hs ⟨by omega, by omega⟩ w hA
  ·obtain ⟨k, hk⟩ : ∃ k, k = 8 * (n / 2) := ⟨_, rfl⟩
   obtain ⟨s1, s2, s3, s4⟩ := words_split hA.len (by omega) hk
   have HA := Lib.hid hA
   have hk0 : 0 < k := by omega
   have hk4 : k ≤ 4 * n := by omega
   have kP : ∀ w', Calls Tryz.prog 152 #[.int .i64 10, .int .i64 (k : Int)] w' (WPost w' (10 ^ k)) := fun w' => bw_power 10 k (by decide) (by decide) (by omega) (by omega) w'
   have kD : ∀ (B : Option Addr) (m d : Nat) (w' : World), Ext w w' → Rd w' B m d (lim (10 ^ k)) → Calls Tryz.prog 162 #[.slice A n c, .slice B m d] w' (QPost w' (v / 10 ^ k) (v % 10 ^ k)) := fun B m d w' he h2 =>
    bw_div A B n c m d v (10 ^ k) (Nat.ne_of_gt (Nat.pow_pos (by decide))) (by omega) w' (HA.out.ext he) h2
   have kH : ∀ (B : Option Addr) (m d : Nat) (w' : World), Rd w' B m d (lim (v / 10 ^ k)) → Calls Tryz.prog 172 #[.slice B m d, .int .i64 10, .int .i64 (least - (k : Int))] w' (TellPost w' (tellL (v / 10 ^ k) (least - k))) := fun B m d w' h2 => by
    have h3 := h2.len
    exact ih m (by omega) _ _ B m d rfl (by omega) (by omega) (by omega) w' h2
   have kL : ∀ (B : Option Addr) (m d : Nat) (w' : World), Rd w' B m d (lim (v % 10 ^ k)) → Calls Tryz.prog 172 #[.slice B m d, .int .i64 10, .int .i64 (k : Int)] w' (TellPost w' (tellL (v % 10 ^ k) k)) := fun B m d w' h2 => by
    have h3 := h2.len
    exact ih m (by omega) _ _ B m d rfl (by omega) (by omega) (by omega) w' h2
   have hT := tell_split (v := v) (k := k) (least := least) s1
   have hll : (tellL (v % 10 ^ k) k).length = k := by
    unfold tellL
    have := digs_len (Nat.mod_lt v (show 0 < 10 ^ k from Nat.pow_pos (by decide)))
    rw [List.length_append, List.length_replicate]
    omega
   have hlh : (tellL (v / 10 ^ k) (least - k)).length ≤ 20000000 := by
    have h3 : (digs (v / 10 ^ k)).length ≤ 32 * n := digs_lim' (k := n) (by omega)
    unfold tellL
    rw [List.length_append, List.length_replicate]
    omega
   have HK := Lib.hid (And.intro kP (And.intro kD (And.intro kH kL)))
   have HT := Lib.hid (And.intro hT hll)
   have hcap := hA.cap
   have hmx := hA.mx
   have hdv : wrap64 (((n : Int) / 2 * 32).tdiv (Lib.bitLen 10 : Nat)) = (k : Int) := by
    rw [show Lib.bitLen 10 = 4 from by kernel_rfl, Int.tdiv_eq_ediv_of_nonneg (by omega)]
    unfold wrap64
    omega
   have hbig : (40 : Int) < (n : Int) := by omega
   have HKE := Lib.hid hk
   have hlo : -2000000000 ≤ least := by omega
   have hlu : least ≤ 10000000 := hl2
   clear hA kP kD kH kL hT hll s1 s2 s3 s4 ih hnN hs hk hl1 hl2
   generalize v / 10 ^ k = q at *
   generalize v % 10 ^ k = r at *
   generalize 10 ^ k = p at *
   go_enter Tryz.func172, Tryz.ntmps172
   go_wp2_with (first
    | (go_at_call 67; (with_reducible refine (Tryz.bits_Len32 10 _ (by omega) (by omega)).mono ?_); rintro e w0 ⟨rfl, rfl⟩)
    | (go_at_call 152; (with_reducible refine (HK.out.1 _).mono ?_); rintro e w1 ⟨A1, n1, c1, rfl, hR1, xb1⟩; obtain ⟨xc1, xf1, xl1, xz1⟩ := jU xb1; (try simp at xz1))
    | (go_at_call 162; (with_reducible refine (HK.out.2.1 _ _ _ _ xb1 hR1.out.1).mono ?_); rintro e w2 ⟨A2, n2, c2, B2, m2, d2, rfl, hR2, hS2, xb2⟩; obtain ⟨xc2, xf2, xl2, xz2⟩ := jU xb2; (try simp at xz2))
    | (go_at_call 172; (with_reducible refine (HK.out.2.2.1 _ _ _ _ hR2.out.1).mono ?_); rintro e w3 ⟨v3, rfl, hR3, xb3⟩; obtain ⟨xc3, xf3, xl3, xz3⟩ := jU xb3; (try simp at xz3))
    | (go_at_call 172; (with_reducible refine (HK.out.2.2.2 _ _ _ _ (hS2.out.1.ext xb3)).mono ?_); rintro e w4 ⟨v4, rfl, hR4, xb4⟩; obtain ⟨xc4, xf4, xl4, xz4⟩ := jU xb4; (try simp at xz4))
    | (at_builtin; refine push_u8s rfl _ _ rfl (jT xb1 (jT xb2 (jT xb3 xb4))) (jT xb1 xb2).size (jT xb3 xb4).size (own_ext hR3.out xb4) rfl hR4.out rfl (by rw [HT.out.2]; exact hk0) (by have := HT.out.2; omega) ?_; intro v5 w5 hx5 ho5)
    )
   refine bodyPost_ret (v := v5) ?h rfl ⟨v5, rfl, ?_, hx5⟩
   case h => simp [results, Tryz.results172, go_sem]
   show World.ownsRow _ _ _ _ _ _ _
   have h6 := own_base ho5.out (jT xb1 xb2).size
   rw [HT.out.1, List.length_append]
   exact h6
end Go.Proofs.YtfdmhefjmnlllaaGreatDoor
end
section
/- Whole numbers of the library's: their texts. -/
namespace Go.Proofs.YtfdmhefjmnlllaaGreatDoor
open Go.RowKit
attribute [local go_sem] bs_size bs_extract bs_get bs_append bs_toList const_get
attribute [local go_sem] sz2 sz3 sz4 sz5 sz6 sz7 sz8
set_option maxHeartbeats 4000000
set_option maxRecDepth 100000
theorem tell_one (v : Nat) : tellL v 1 = dtext v := by
 unfold tellL dtext
 split
 ·rename_i h; subst h; rw [digs_zero]; rfl
 ·rename_i h
  have : 0 < (digs v).length := List.length_pos_iff.2 (by rw [digs_pos h]; simp)
  have e : ((1 : Int) - (digs v).length).toNat = 0 := by omega
  rw [e]; rfl
def itext (z : Int) : List UInt8 := (if z < 0 then [45] else []) ++ dtext z.natAbs
attribute [local irreducible] Calls
theorem bi_Text (b : Nat) (z : Int) (A : Option Addr) (n c : Nat) (hn : n ≤ 19000) (w : World) (hx : IntIs w b 0 z A n c) :
  Calls Tryz.prog 135 #[.pointer (some ⟨b, 0, none⟩), .int .i64 10] w fun e w' => e = .returned (.string (bs (itext z))) ∧ Ext w w' := by
 have HX := Lib.hid hx
 have lx := hx.room.lt
 have x0 := hx.neg
 have x1 := hx.words
 simp only [Nat.zero_add] at x1
 have kT : ∀ w', Ext w w' → Calls Tryz.prog 172 #[.slice A n c, .int .i64 10, .int .i64 1] w' fun e w'' => ∃ (g k cp : Nat), e = .returned (.slice (some ⟨g, 0, none⟩) k cp) ∧ ((convert 51 9 (.slice (some ⟨g, 0, none⟩) k cp)).run Tryz.prog w'' = .ok (.string (bs (dtext z.natAbs))) w'') ∧ Ext w' w'' := fun w' he => by
  have h1 := bw_tell n z.natAbs 1 A n c rfl (by omega) (by omega) (by decide) w' (HX.out.rd.ext he)
  rw [tell_one] at h1
  refine h1.mono ?_
  rintro e w'' ⟨vv, rfl, h2, h3⟩
  have hd0 : 0 < (dtext z.natAbs).length := by
   unfold dtext; split
   ·decide
   ·rename_i h; exact List.length_pos_iff.2 (by rw [digs_pos h]; simp)
  rcases own_form h2.out with ⟨_, h0⟩ | ⟨g, cp, rfl, _⟩
  ·omega
  ·exact ⟨g, _, cp, rfl, ownb_str h2.out 0 _ cp (by omega) (dtext z.natAbs) (by simp), h3⟩
 have hlen : (dtext z.natAbs).length ≤ 608001 := by
  unfold dtext; split
  ·decide
  ·have := digs_lim' (v := z.natAbs) (k := n) (by rw [HX.out.rd.len]; exact Nat.le_refl _); omega
 clear hx
 by_cases hz : z < 0
 ·have e : itext z = 45 :: dtext z.natAbs := by unfold itext; rw [if_pos hz]; rfl
  rw [e]
  rw [decide_eq_true hz] at x0
  clear e hz
  generalize dtext z.natAbs = l at *
  go_enter Tryz.func135, Tryz.ntmps135
  go_wp2_with (first
   | (go_at_call 172; (with_reducible refine (kT _ (jR _)).mono ?_); rintro e w1 ⟨g1, k1, c1, rfl, hR1, xb1⟩; obtain ⟨xc1, xf1, xl1, xz1⟩ := jU xb1; (try simp at xz1); obtain ⟨l1_0, r1_0, f1_0, r1_0_1, f1_0_1⟩ := kq2 xb1 (b))
   )
  have e1 : ({ data := #[45] } : ByteArray) ++ bs l = bs (45 :: l) := by show bs [45] ++ bs l = _; rw [bs_append]; rfl
  refine bodyPost_ret (v := .string (bs (45 :: l))) ?h rfl ⟨rfl, xb1⟩
  case h => simp [results, Tryz.results135, go_sem, e1]
 ·have e : itext z = dtext z.natAbs := by unfold itext; rw [if_neg hz]; rfl
  rw [e]
  rw [decide_eq_false hz] at x0
  clear e hz
  generalize dtext z.natAbs = l at *
  go_enter Tryz.func135, Tryz.ntmps135
  go_wp2_with (first
   | (go_at_call 172; (with_reducible refine (kT _ (jR _)).mono ?_); rintro e w1 ⟨g1, k1, c1, rfl, hR1, xb1⟩; obtain ⟨xc1, xf1, xl1, xz1⟩ := jU xb1; (try simp at xz1); obtain ⟨l1_0, r1_0, f1_0, r1_0_1, f1_0_1⟩ := kq2 xb1 (b))
   )
  refine bodyPost_ret (v := .string (bs l)) ?h rfl ⟨rfl, xb1⟩
  case h => simp [results, Tryz.results135, go_sem]
theorem bi_String (b : Nat) (z : Int) (A : Option Addr) (n c : Nat) (hn : n ≤ 19000) (w : World) (hx : IntIs w b 0 z A n c) :
  Calls Tryz.prog 102 #[.pointer (some ⟨b, 0, none⟩)] w fun e w' => e = .returned (.string (bs (itext z))) ∧ Ext w w' := by
 have kT := bi_Text b z A n c hn w hx
 clear hx
 generalize itext z = l at *
 go_enter Tryz.func102, Tryz.ntmps102
 go_wp2_with (first
  | (go_at_call 135; (with_reducible refine (kT).mono ?_); rintro e w1 ⟨rfl, xb1⟩; obtain ⟨xc1, xf1, xl1, xz1⟩ := jU xb1; (try simp at xz1))
  )
 refine bodyPost_ret (v := .string (bs l)) ?h rfl ⟨rfl, xb1⟩
 case h => simp [results, Tryz.results102, go_sem]
end Go.Proofs.YtfdmhefjmnlllaaGreatDoor
end
section
/- Whole numbers of the library's: out of texts. -/
namespace Go.Proofs.YtfdmhefjmnlllaaGreatDoor
open Go.RowKit
attribute [local go_sem] bs_size bs_extract bs_get bs_append bs_toList const_get
attribute [local go_sem] sz2 sz3 sz4 sz5 sz6 sz7 sz8
set_option maxHeartbeats 4000000
set_option maxRecDepth 100000
attribute [local irreducible] Calls
abbrev StrPost (w : World) (b : Nat) (z : Int) : Ending → World → Prop := fun e w' => e = .returned (.tuple #[.pointer (some ⟨b, 0, none⟩), .bool true]) ∧ ∃ (A : Option Addr) (n c : Nat), Hid (IntIs w' b 0 z A n c ∧ Fr w A) ∧ Tch b w w'
theorem bi_SetString_pos (b : Nat) (l : List UInt8) (hd : digsB l = true) (h0 : 0 < l.length) (hl : l.length ≤ 70000) (w : World) (hr : Room w b 0) :
  Calls Tryz.prog 75 #[.pointer (some ⟨b, 0, none⟩), .string (bs l), .int .i64 10] w (StrPost w b (dval l)) := by
 have HR := Lib.hid hr
 have hlt := hr.lt
 obtain ⟨hb1, hb2⟩ := digs_at hd 0 h0
 have kR : ∀ w', Calls Tryz.prog 119 #[.string (bs l), .int .i64 10] w' (ReadPost w' (dval l)) := fun w' => bw_read l.length l rfl hl hd w'
 have hsg : Hid (sgn false (dval l) = (dval l : Int)) := Lib.hid rfl
 have hne : l.length ≠ 0 := by omega
 have c1 : ((l[0].toNat : Int) == 45) = false := by rw [beq_eq_false_iff_ne]; omega
 have c2 : ((l[0].toNat : Int) == 43) = false := by rw [beq_eq_false_iff_ne]; omega
 have c3 : ¬ (l[0].toNat : Int) = 45 := by omega
 have c4 : ¬ (l[0].toNat : Int) = 43 := by omega
 clear hr hd
 generalize dval l = v at *
 go_enter Tryz.func75, Tryz.ntmps75
 go_wp2_with (first
  | (go_at_call 119; (with_reducible refine (kR _).mono ?_); rintro e w1 ⟨A1, k1, c1, rfl, hR1, xb1⟩; obtain ⟨xc1, xf1, xl1, xz1⟩ := jU xb1; (try simp at xz1))
  | (go_at_call 88; (with_reducible refine (bi_set b 0 false A1 k1 c1 v _ (HR.out.ext xb1) hR1.out.1 (hR1.out.2.off hlt k1)).mono ?_); rintro e w3 ⟨rfl, hI3, xt3⟩)
  )
 refine bodyPost_ret (v := .tuple #[.pointer (some ⟨b, 0, none⟩), .bool true]) ?h rfl ⟨rfl, A1, k1, c1, ⟨by have := hI3.out; rwa [hsg.out] at this, hR1.out.2⟩, (Tch.of xb1).trans xt3⟩
 case h => simp [results, Tryz.results75, go_sem]
theorem bi_SetString_neg (b : Nat) (l : List UInt8) (hd : digsB l = true) (h0 : 0 < l.length) (hl : l.length ≤ 70000) (w : World) (hr : Room w b 0) :
  Calls Tryz.prog 75 #[.pointer (some ⟨b, 0, none⟩), .string (bs (45 :: l)), .int .i64 10] w (StrPost w b (sgn true (dval l))) := by
 have HR := Lib.hid hr
 have hlt := hr.lt
 have kR : ∀ w', Calls Tryz.prog 119 #[.string (bs l), .int .i64 10] w' (ReadPost w' (dval l)) := fun w' => bw_read l.length l rfl hl hd w'
 have hne : l.length ≠ 0 := by omega
 clear hr hd
 generalize dval l = v at *
 go_enter Tryz.func75, Tryz.ntmps75
 go_wp2_with (first
  | (go_at_call 119; (with_reducible refine (kR _).mono ?_); rintro e w1 ⟨A1, k1, c1, rfl, hR1, xb1⟩; obtain ⟨xc1, xf1, xl1, xz1⟩ := jU xb1; (try simp at xz1))
  | (go_at_call 88; (with_reducible refine (bi_set b 0 true A1 k1 c1 v _ (HR.out.ext xb1) hR1.out.1 (hR1.out.2.off hlt k1)).mono ?_); rintro e w3 ⟨rfl, hI3, xt3⟩)
  )
 refine bodyPost_ret (v := .tuple #[.pointer (some ⟨b, 0, none⟩), .bool true]) ?h rfl ⟨rfl, A1, k1, c1, ⟨hI3.out, hR1.out.2⟩, (Tch.of xb1).trans xt3⟩
 case h => simp [results, Tryz.results75, go_sem]
end Go.Proofs.YtfdmhefjmnlllaaGreatDoor
end
