/- Lemmas of this proof, laid together: RatE, IntG, IntH, IntI, LookQ, RatH, RatI, RatP, RatJ, IntJ, RatF, RatG, RatK0, TwIntG, TwIntH, TwRatI, TwRatJ, TwIntI, TwIntJ. -/
import Derived.Test.YtfdmhefjmnlllaaGreatDoorMg21
import Derived.Test.YtfdmhefjmnlllaaGreatDoorMg11
import Derived.Deep.DeepCutAuto
import Derived.Deep.RegionWith
import Derived.Deep.LoopGhost
import Derived.Test.YtfdmhefjmnlllaaGreatDoorMg03
import Derived.Test.YtfdmhefjmnlllaaGreatDoorMg15
import Derived.Test.YtfdmhefjmnlllaaGreatDoorMg09
set_option linter.unusedSimpArgs false
set_option linter.unusedVariables false
section
/- The program's fractions: made. -/
namespace Go.Proofs.YtfdmhefjmnlllaaGreatDoor
open Go.RowKit
attribute [local go_sem] sz2 sz3 sz4 sz5 sz6 sz7 sz8
set_option maxHeartbeats 4000000
set_option maxRecDepth 100000
attribute [local irreducible] Calls
abbrev mkW (w : World) (A : Option Addr) (n c : Nat) (D : Option Addr) (m k : Nat) : World :=
 (((w.alloc (Obj.cells #[.slice A n c] 24)).alloc (Obj.cells #[.slice D m k] 24)).alloc (Obj.cells #[.bool false, .slice none 0 0, .slice none 0 0] 26)).alloc (Obj.cells #[.slice A n c, .slice D m k] 24)
theorem mkW_facts (w : World) (A : Option Addr) (n c : Nat) (D : Option Addr) (m k : Nat) (wr : World) (he : Ext (mkW w A n c D m k) wr) :
  (wr.cell? ⟨w.heap.size, 0, none⟩ = some (.slice A n c) ∧ wr.cell? ⟨w.heap.size + 1, 0, none⟩ = some (.slice D m k) ∧ wr.cell? ⟨w.heap.size + 3, 0, none⟩ = some (.slice A n c) ∧ wr.cell? ⟨w.heap.size + 3, 1, none⟩ = some (.slice D m k)) ∧
  (wr.cell? ⟨w.heap.size + 2, 0, none⟩ = some (.bool false) ∧ wr.cell? ⟨w.heap.size + 2, 1, none⟩ = some (.slice none 0 0) ∧ wr.cell? ⟨w.heap.size + 2, 2, none⟩ = some (.slice none 0 0)) ∧
  (wr.frozen? ⟨w.heap.size + 2, 0, none⟩ = false ∧ wr.frozen? ⟨w.heap.size + 2, 1, none⟩ = false ∧ wr.frozen? ⟨w.heap.size + 2, 2, none⟩ = false) ∧ w.heap.size + 4 ≤ wr.heap.size := by
 have hs : (mkW w A n c D m k).heap.size = w.heap.size + 4 := by simp [mkW]
 have hz := ext_size he
 rw [hs] at hz
 have f : ∀ b o, b < w.heap.size + 4 → wr.cell? ⟨b, o, none⟩ = (mkW w A n c D m k).cell? ⟨b, o, none⟩ := fun b o hb => Below.cell (p := ⟨b, o, none⟩) he (by rw [hs]; exact hb)
 have fz : ∀ b o, b < w.heap.size + 4 → wr.frozen? ⟨b, o, none⟩ = (mkW w A n c D m k).frozen? ⟨b, o, none⟩ := fun b o hb => Below.frozen (p := ⟨b, o, none⟩) he (by rw [hs]; exact hb)
 refine ⟨⟨?_, ?_, ?_, ?_⟩, ⟨?_, ?_, ?_⟩, ⟨?_, ?_, ?_⟩, hz⟩
 all_goals first | (rw [f _ _ (by omega)]; simp [mkW, go_sem]) | (rw [fz _ _ (by omega)]; simp [mkW, go_sem])
theorem ext_mkW (w : World) (A : Option Addr) (n c : Nat) (D : Option Addr) (m k : Nat) : Ext w (mkW w A n c D m k) := jA (jA (jA (jA (jR w) _) _) _) _
theorem br_SetFrac' (g bx b2 : Nat) (s : Bool) (a d : Nat) (hd : d ≠ 0) (A : Option Addr) (n c : Nat) (D : Option Addr) (m k : Nat) (hn : n ≤ 400000) (hm : m ≤ 400000) (w : World) (hT : Tz w) (hr : RatRoom w g) (hx : IntIs w bx 0 (sgn s a) A n c) (hyy : IntIs w b2 0 (d : Int) D m k) :
  Calls Tryz.prog 65 #[.pointer (some ⟨g, 0, none⟩), .pointer (some ⟨bx, 0, none⟩), .pointer (some ⟨b2, 0, none⟩)] w (FPost w g (sgn s (a / Nat.gcd a d : Nat)) (lowD a d)) := by
 have h := br_SetFrac g bx b2 (sgn s a) d (by omega) A n c D m k hn hm w hT hr hx hyy
 rw [sgn_abs, Int.natAbs_natCast] at h
 have e : sgn (qneg (sgn s a) d) (a / Nat.gcd a d : Nat) = sgn s (a / Nat.gcd a d : Nat) := by
  have h1 : qneg (sgn s a) d = (s && decide (0 < a)) := by
   unfold qneg
   rw [sgn_lt, decide_eq_false (show ¬ (d : Int) < 0 by omega)]
   cases (s && decide (0 < a)) <;> rfl
  rw [h1]
  by_cases h0 : a = 0
  ·subst h0; rw [Nat.zero_div]; cases s <;> rfl
  ·have : decide (0 < a) = true := decide_eq_true (by omega)
   rw [this, Bool.and_true]
 rw [e] at h
 exact h
theorem rat_room (w : World) : RatRoom (w.alloc (Obj.cells #[.bool false, .slice none 0 0, .slice none 0 0] 68)) w.heap.size :=
 ⟨⟨by simp, ⟨_, by simp [go_sem]; rfl⟩, ⟨_, by simp [go_sem]; rfl⟩, by simp [go_sem], by simp [go_sem]⟩, ⟨_, by simp [go_sem]; rfl⟩, by simp [go_sem]⟩
theorem lowD_len {a d : Nat} (hd : d ≠ 0) : (lim (denOf (lowD a d))).length ≤ (lim d).length ∧ (lim (lowD a d)).length ≤ (lim d).length ∧ (lim (a / Nat.gcd a d)).length ≤ (lim a).length := by
 have h1 : lowD a d ≤ d := by
  unfold lowD; split
  ·omega
  ·exact Nat.div_le_self _ _
 have h2 : denOf (lowD a d) ≤ d := by
  unfold denOf; split <;> omega
 exact ⟨lim_mono h2, lim_mono h1, lim_mono (Nat.div_le_self _ _)⟩
theorem IntIs.lenNat {w : World} {b o a : Nat} {B : Option Addr} {k l : Nat} (h : IntIs w b o ((a : Nat) : Int) B k l) : (lim a).length = k := by have := h.rd.len; rwa [Int.natAbs_natCast] at this
theorem IntIs.lenSgn {w : World} {b o a : Nat} {s : Bool} {B : Option Addr} {k l : Nat} (h : IntIs w b o (sgn s a) B k l) : (lim a).length = k := by have := h.rd.len; rwa [sgn_abs] at this
theorem ra_make (neg : Bool) (A : Option Addr) (n c a : Nat) (D : Option Addr) (m k d : Nat) (hd : d ≠ 0) (hn : n ≤ 16384) (hm : m ≤ 16384) (w : World) (hT : Tz w) (hA : Rd w A n c (lim a)) (hD : Rd w D m k (lim d)) :
  Calls Tryz.prog 23 #[.bool neg, natV A n c, natV D m k] w (TPost w (sgn neg (a / Nat.gcd a d : Nat)) (denOf (lowD a d))) := by
 have HA := Lib.hid hA
 have HD := Lib.hid hD
 have HT := Lib.hid hT
 have hm0 : ((m : Int) == 0) = false := by
  rw [beq_eq_false_iff_ne]
  have := hD.len; intro h; exact hd (lim_nil.1 (List.eq_nil_of_length_eq_zero (by omega)))
 have hla := hA.len
 have hld := hD.len
 have chA : ∀ w', Ext w w' → Calls Tryz.prog 61 #[natV A n c] w' fun e w'' => e = .returned (.int .i64 0) ∧ Ext w' w'' := fun w' he => by
  have := ncheck_any A n c (lim a) w' (HA.out.ext he); rwa [chk_lim (by omega)] at this
 have chD : ∀ w', Ext w w' → Calls Tryz.prog 61 #[natV D m k] w' fun e w'' => e = .returned (.int .i64 0) ∧ Ext w' w'' := fun w' he => by
  have := ncheck_any D m k (lim d) w' (HD.out.ext he); rwa [chk_lim (by omega)] at this
 clear hA hD hT
 go_enter Tryz.func23, Tryz.ntmps23
 go_wp2
 go_loopw [16] (fun vi wr => ∃ i : Nat, i ≤ 2 ∧ vi = .int .i64 (i : Int) ∧ Hid (Ext (mkW w A n c D m k) wr)) (fun vi _ => 2 - (intOf vi).toNat)
 case atStart => exact ⟨0, by omega, rfl, jR _⟩
 case round =>
  obtain ⟨i, hi, rfl, hext⟩ := hrel
  obtain ⟨⟨c0, c1, c2, c3⟩, ⟨r0, r1, r2⟩, ⟨f0, f1, f2⟩, hsz⟩ := mkW_facts w A n c D m k wr hext.out
  have hE0 := Lib.hid (jT (ext_mkW w A n c D m k) hext.out)
  by_cases h2 : i = 2
  ·subst h2
   have hl3 := lowD_len (a := a) hd
   rw [hla, hld] at hl3
   have hTr := Lib.hid (HT.out.ext hE0.out)
   have hn400 : n ≤ 400000 := by omega
   have hn1000 : n ≤ 1000000 := by omega
   have hm100 : m ≤ 100000 := by omega
   have hdl := Nat.le_trans hl3.1 hm
   have hm400 : m ≤ 400000 := by omega
   cases neg with
   | false =>
    go_wp2_with (first
     | (go_at_call 62; (with_reducible refine (ra_whole A n c a (by omega) _ (HA.out.ext hE0.out)).mono ?_); rintro e w1 ⟨b1, B1, k1, l1, rfl, hI1, hb1, xb1⟩; have hI1s : IntIs w1 b1 0 (sgn false a) B1 k1 l1 := hI1.out.1; have hx1 := (Below.cell (p := ⟨w.heap.size + 1, 0, none⟩) xb1 (by show w.heap.size + 1 < _; omega)).trans c1; have hsz1 : w.heap.size + 1 < w1.heap.size := by (have := ext_size xb1; omega))
     | (go_at_call 62; (with_reducible refine (ra_whole D m k d (by omega) _ (HD.out.ext (jA (jT hE0.out xb1) _))).mono ?_); rintro e w3 ⟨b3, B3, k3, l3, rfl, hI3, hb3, xb3⟩; have hk1 := Nat.le_trans (Nat.le_of_eq (hI1.out.1.lenNat.symm.trans hla)) hn400; have hk3 := Nat.le_trans (Nat.le_of_eq (hI3.out.1.lenNat.symm.trans hld)) hm400; have hE3 := Lib.hid (jT (jA xb1 (Obj.cells #[.bool false, .slice none 0 0, .slice none 0 0] 68)) xb3))
     | (go_at_call 65; (with_reducible refine (br_SetFrac' _ b1 b3 false a d hd B1 k1 l1 B3 k3 l3 hk1 hk3 _ (hTr.out.ext hE3.out) ((rat_room w1).ext xb3) (hI1s.ext (jT (jA (jR _) _) xb3)) hI3.out.1).mono ?_); rintro e w4 ⟨rfl, A4, n4, c4, D4, m4, e4, hI4, xt4⟩; have hn4 := Nat.le_trans (Nat.le_trans (Nat.le_of_eq hI4.out.1.int.lenSgn.symm) hl3.2.2) hn; have hm4 := Nat.le_trans (Nat.le_trans (Nat.le_of_eq hI4.out.1.rd.len.symm) hl3.2.1) hm100)
     | (go_at_call 64; (with_reducible refine (ra_told_ok _ _ A4 n4 c4 _ D4 m4 e4 hn4 hm4 hdl _ hI4.out.1).mono ?_); rintro e w5 ⟨A5, n5, c5, D5, m5, e5, rfl, hI5, xb5⟩; have hE5 := Lib.hid (jT (xt4.ext hE3.out (ext_size xb1)) xb5); obtain ⟨-, ⟨s0, s1, s2⟩, ⟨p0, p1, p2⟩, hs5⟩ := mkW_facts w A n c D m k w5 (jT hext.out hE5.out))
     )
    have hs4 : w.heap.size + 4 ≤ w4.heap.size := by
     have h1 := (mkW_facts w A n c D m k w4 (jT hext.out (xt4.ext hE3.out (ext_size xb1)))).2.2.2; exact h1
    have n5' : ∀ x, A5 = some x → w.heap.size + 1 + 1 < x.block := fun x hx => by have := hI5.out.2.1 x hx; omega
    have n6' : ∀ x, D5 = some x → w.heap.size + 1 + 1 < x.block := fun x hx => by have := hI5.out.2.2.2 x hx; omega
    obtain ⟨q0, q1, q2⟩ := set3 (b := w.heap.size + 1 + 1) s0 s1 s2 (.bool (decide (sgn false (a / a.gcd d : Nat) < 0))) (.slice A5 n5 c5) (.slice D5 m5 e5)
    have hEE := Lib.hid (jT hE0.out hE5.out)
    refine bodyPost_ret (v := .tuple #[ratV (decide (sgn false ↑(a / a.gcd d) < 0)) A5 n5 c5 D5 m5 e5, .int .i64 0]) ?h rfl ⟨A5, n5, c5, D5, m5, e5, rfl, ⟨hI5.out.1.set3 n5' _ _ _, fun x hx => Nat.le_of_lt (by have := n5' x hx; omega), hI5.out.2.2.1.set3 n6' _ _ _, fun x hx => Nat.le_of_lt (by have := n6' x hx; omega)⟩, ext_set3 hEE.out (by omega) _ _ _⟩
    case h => simp [results, Tryz.results23, go_sem, q0, q1, q2]
   | true =>
    go_wp2_with (first
     | (go_at_call 62; (with_reducible refine (ra_whole A n c a (by omega) _ (HA.out.ext hE0.out)).mono ?_); rintro e w1 ⟨b1, B1, k1, l1, rfl, hI1, hb1, xb1⟩; have hk0 := Nat.le_trans (Nat.le_of_eq (hI1.out.1.lenNat.symm.trans hla)) hn1000)
     | (go_at_call 63; (with_reducible refine (bi_Neg b1 0 b1 0 B1 k1 l1 a hk0 _ hI1.out.1.room hI1.out.1).mono ?_); rintro e w2 ⟨rfl, B2, k2, l2, hI2, xt2⟩; have xb2 := xt2.ext xb1 hb1; have hI1s : IntIs w2 b1 0 (sgn true a) B2 k2 l2 := hI2.out.1; have hx1 := (Below.cell (p := ⟨w.heap.size + 1, 0, none⟩) xb2 (by show w.heap.size + 1 < _; omega)).trans c1; have hsz1 : w.heap.size + 1 < w2.heap.size := by (have := ext_size xb2; omega))
     | (go_at_call 62; (with_reducible refine (ra_whole D m k d (by omega) _ (HD.out.ext (jA (jT hE0.out xb2) _))).mono ?_); rintro e w3 ⟨b3, B3, k3, l3, rfl, hI3, hb3, xb3⟩; have hk1 := Nat.le_trans (Nat.le_of_eq (hI1s.lenSgn.symm.trans hla)) hn400; have hk3 := Nat.le_trans (Nat.le_of_eq (hI3.out.1.lenNat.symm.trans hld)) hm400; have hE3 := Lib.hid (jT (jA xb2 (Obj.cells #[.bool false, .slice none 0 0, .slice none 0 0] 68)) xb3))
     | (go_at_call 65; (with_reducible refine (br_SetFrac' _ b1 b3 true a d hd B2 k2 l2 B3 k3 l3 hk1 hk3 _ (hTr.out.ext hE3.out) ((rat_room w2).ext xb3) (hI1s.ext (jT (jA (jR _) _) xb3)) hI3.out.1).mono ?_); rintro e w4 ⟨rfl, A4, n4, c4, D4, m4, e4, hI4, xt4⟩; have hn4 := Nat.le_trans (Nat.le_trans (Nat.le_of_eq hI4.out.1.int.lenSgn.symm) hl3.2.2) hn; have hm4 := Nat.le_trans (Nat.le_trans (Nat.le_of_eq hI4.out.1.rd.len.symm) hl3.2.1) hm100)
     | (go_at_call 64; (with_reducible refine (ra_told_ok _ _ A4 n4 c4 _ D4 m4 e4 hn4 hm4 hdl _ hI4.out.1).mono ?_); rintro e w5 ⟨A5, n5, c5, D5, m5, e5, rfl, hI5, xb5⟩; have hE5 := Lib.hid (jT (xt4.ext hE3.out (ext_size xb2)) xb5); obtain ⟨-, ⟨s0, s1, s2⟩, ⟨p0, p1, p2⟩, hs5⟩ := mkW_facts w A n c D m k w5 (jT hext.out hE5.out))
     )
    have hs4 : w.heap.size + 4 ≤ w4.heap.size := by
     have h1 := (mkW_facts w A n c D m k w4 (jT hext.out (xt4.ext hE3.out (ext_size xb2)))).2.2.2; exact h1
    have n5' : ∀ x, A5 = some x → w.heap.size + 1 + 1 < x.block := fun x hx => by have := hI5.out.2.1 x hx; omega
    have n6' : ∀ x, D5 = some x → w.heap.size + 1 + 1 < x.block := fun x hx => by have := hI5.out.2.2.2 x hx; omega
    obtain ⟨q0, q1, q2⟩ := set3 (b := w.heap.size + 1 + 1) s0 s1 s2 (.bool (decide (sgn true (a / a.gcd d : Nat) < 0))) (.slice A5 n5 c5) (.slice D5 m5 e5)
    have hEE := Lib.hid (jT hE0.out hE5.out)
    refine bodyPost_ret (v := .tuple #[ratV (decide (sgn true ↑(a / a.gcd d) < 0)) A5 n5 c5 D5 m5 e5, .int .i64 0]) ?h rfl ⟨A5, n5, c5, D5, m5, e5, rfl, ⟨hI5.out.1.set3 n5' _ _ _, fun x hx => Nat.le_of_lt (by have := n5' x hx; omega), hI5.out.2.2.1.set3 n6' _ _ _, fun x hx => Nat.le_of_lt (by have := n6' x hx; omega)⟩, ext_set3 hEE.out (by omega) _ _ _⟩
    case h => simp [results, Tryz.results23, go_sem, q0, q1, q2]
  ·by_cases h1 : i = 1
   ·subst h1
    go_wp2_with (first
     | (go_at_call 61; (with_reducible refine (chD _ (jA hE0.out _)).mono ?_); rintro e w5 ⟨rfl, xb5⟩)
     )
    case roundEnd => exact ⟨⟨2, by omega, rfl, jT (jA hext.out _) xb5⟩, by simp [intOf]⟩
   ·obtain rfl : i = 0 := by omega
    go_wp2_with (first
     | (go_at_call 61; (with_reducible refine (chA _ (jA hE0.out _)).mono ?_); rintro e w5 ⟨rfl, xb5⟩)
     )
    case roundEnd => exact ⟨⟨1, by omega, rfl, jT (jA hext.out _) xb5⟩, by simp [intOf]⟩
end Go.Proofs.YtfdmhefjmnlllaaGreatDoor
end
section
/- Whole numbers of the library's: order, sums. -/
namespace Go.Proofs.YtfdmhefjmnlllaaGreatDoor
open Go.RowKit
attribute [local go_sem] sz2 sz3 sz4 sz5 sz6 sz7 sz8
set_option maxHeartbeats 4000000
set_option maxRecDepth 100000
attribute [local irreducible] Calls
theorem cmpN_sign (a b : Nat) : cmpN a b = ((a : Int) - b).sign := by
 unfold cmpN
 split
 ·rw [Int.sign_eq_neg_one_of_neg (by omega)]
 ·split
  ·rw [Int.sign_eq_one_of_pos (by omega)]
  ·rw [show (a : Int) - b = 0 by omega]; rfl
theorem bi_Cmp (b o g p : Nat) (x y : Int) (A : Option Addr) (n c : Nat) (B : Option Addr) (m d : Nat) (w : World) (hx : IntIs w b o x A n c) (hy : IntIs w g p y B m d) :
  Calls Tryz.prog 85 #[.pointer (some ⟨b, o, none⟩), .pointer (some ⟨g, p, none⟩)] w fun e w' => e = .returned (.int .i64 (x - y).sign) ∧ Ext w w' := by
 have HX := Lib.hid hx
 have HY := Lib.hid hy
 have lx := hx.room.lt
 have x0 := hx.neg
 have x1 := hx.words
 have ly := hy.room.lt
 have y0 := hy.neg
 have y1 := hy.words
 have kc : ∀ w', Ext w w' → Calls Tryz.prog 120 #[.slice A n c, .slice B m d] w' fun e w'' => e = .returned (.int .i64 (cmpN x.natAbs y.natAbs)) ∧ Ext w' w'' := fun w' he => bw_cmp A B n c m d _ _ w' (HX.out.rd.ext he) (HY.out.rd.ext he)
 clear hx hy HX HY
 by_cases hs : x < 0
 ·rw [decide_eq_true hs] at x0
  by_cases ht : y < 0
  ·rw [decide_eq_true ht] at y0
   have e1 : -(cmpN x.natAbs y.natAbs) = (x - y).sign := by
    rw [cmpN_sign, ← Int.sign_neg]; congr 1; omega
   have e2 : IntKind.i64.wrap (-(cmpN x.natAbs y.natAbs)) = (x - y).sign := by
    rw [e1]
    have : (x - y).sign = -1 ∨ (x - y).sign = 0 ∨ (x - y).sign = 1 := by
     rcases Int.lt_trichotomy (x - y) 0 with h | h | h
     ·exact .inl (Int.sign_eq_neg_one_of_neg h)
     ·rw [h]; exact .inr (.inl rfl)
     ·exact .inr (.inr (Int.sign_eq_one_of_pos h))
    rcases this with h | h | h <;> rw [h] <;> decide
   generalize cmpN x.natAbs y.natAbs = C at kc e1 e2
   generalize (x - y).sign = R at e1 e2 ⊢
   clear hs ht e1
   go_enter Tryz.func85, Tryz.ntmps85
   go_wp2
   refine wp_aft (by kernel_rfl) (by kernel_rfl) (fun hq hqf => ?_)
   repeat (go_big_quiet_step (first | fail
    ))
   refine wpQuiet_nil ?_
   rintro _ ⟨nq, rfl⟩
   have xl := ext_lt nq.use
   have xz := ext_size nq.use
   try simp at xz
   have hE1 := Lib.hid nq.use
   have z0 := (Below.cell (p := ⟨b, o, none⟩) nq.use lx).trans x0
   have z1 := (Below.cell (p := ⟨b, o + 1, none⟩) nq.use lx).trans x1
   have z2 := (Below.cell (p := ⟨g, p + 1, none⟩) nq.use ly).trans y1
   go_wp2
   have lx2 := xl b lx
   have ly2 := xl g ly
   refine wp_aft (by kernel_rfl) (by kernel_rfl) (fun hq hqf => ?_)
   repeat (go_big_quiet_step (first
    | (go_at_call 120; exact aft_of (kc _ (jT hE1.out (Aft.use _))))
    ))
   refine wpQuiet_nil ?_
   rintro _ ⟨nq, rfl⟩
   have xl := ext_lt nq.use
   have xz := ext_size nq.use
   try simp at xz
   go_wp2
   refine bodyPost_ret (v := .int .i64 R) ?h rfl ⟨rfl, jT hE1.out nq.use⟩
   case h => simp [results, Tryz.results85, go_sem]
  ·rw [decide_eq_false ht] at y0
   have e1 : (x - y).sign = -1 := Int.sign_eq_neg_one_of_neg (by omega)
   rw [e1]
   clear hs ht e1 kc
   go_enter Tryz.func85, Tryz.ntmps85
   go_wp2
   refine wp_aft (by kernel_rfl) (by kernel_rfl) (fun hq hqf => ?_)
   repeat (go_big_quiet_step (first | fail
    ))
   refine wpQuiet_nil ?_
   rintro _ ⟨nq, rfl⟩
   have xl := ext_lt nq.use
   have xz := ext_size nq.use
   try simp at xz
   have hE1 := Lib.hid nq.use
   have z0 := (Below.cell (p := ⟨b, o, none⟩) nq.use lx).trans x0
   go_wp2
   refine bodyPost_ret (v := .int .i64 (-1)) ?h rfl ⟨rfl, hE1.out⟩
   case h => simp [results, Tryz.results85, go_sem]
 ·rw [decide_eq_false hs] at x0
  by_cases ht : y < 0
  ·rw [decide_eq_true ht] at y0
   have e1 : (x - y).sign = 1 := Int.sign_eq_one_of_pos (by omega)
   rw [e1]
   clear hs ht e1 kc
   go_enter Tryz.func85, Tryz.ntmps85
   go_wp2
   refine wp_aft (by kernel_rfl) (by kernel_rfl) (fun hq hqf => ?_)
   repeat (go_big_quiet_step (first | fail
    ))
   refine wpQuiet_nil ?_
   rintro _ ⟨nq, rfl⟩
   have xl := ext_lt nq.use
   have xz := ext_size nq.use
   try simp at xz
   have hE1 := Lib.hid nq.use
   have z0 := (Below.cell (p := ⟨b, o, none⟩) nq.use lx).trans x0
   go_wp2
   refine bodyPost_ret (v := .int .i64 1) ?h rfl ⟨rfl, hE1.out⟩
   case h => simp [results, Tryz.results85, go_sem]
  ·rw [decide_eq_false ht] at y0
   have e1 : cmpN x.natAbs y.natAbs = (x - y).sign := by
    rw [cmpN_sign]; congr 1; omega
   generalize cmpN x.natAbs y.natAbs = C at kc e1
   generalize (x - y).sign = R at e1 ⊢
   subst e1
   clear hs ht
   go_enter Tryz.func85, Tryz.ntmps85
   go_wp2
   refine wp_aft (by kernel_rfl) (by kernel_rfl) (fun hq hqf => ?_)
   repeat (go_big_quiet_step (first | fail
    ))
   refine wpQuiet_nil ?_
   rintro _ ⟨nq, rfl⟩
   have xl := ext_lt nq.use
   have xz := ext_size nq.use
   try simp at xz
   have hE1 := Lib.hid nq.use
   have z0 := (Below.cell (p := ⟨b, o, none⟩) nq.use lx).trans x0
   have z1 := (Below.cell (p := ⟨b, o + 1, none⟩) nq.use lx).trans x1
   have z2 := (Below.cell (p := ⟨g, p + 1, none⟩) nq.use ly).trans y1
   go_wp2
   have lx2 := xl b lx
   have ly2 := xl g ly
   refine wp_aft (by kernel_rfl) (by kernel_rfl) (fun hq hqf => ?_)
   repeat (go_big_quiet_step (first
    | (go_at_call 120; exact aft_of (kc _ (jT hE1.out (Aft.use _))))
    ))
   refine wpQuiet_nil ?_
   rintro _ ⟨nq, rfl⟩
   have xl := ext_lt nq.use
   have xz := ext_size nq.use
   try simp at xz
   go_wp2
   refine bodyPost_ret (v := .int .i64 C) ?h rfl ⟨rfl, jT hE1.out nq.use⟩
   case h => simp [results, Tryz.results85, go_sem]
end Go.Proofs.YtfdmhefjmnlllaaGreatDoor
end
section
/- Whole numbers of the library's: sums. -/
namespace Go.Proofs.YtfdmhefjmnlllaaGreatDoor
open Go.RowKit
attribute [local go_sem] sz2 sz3 sz4 sz5 sz6 sz7 sz8
set_option maxHeartbeats 4000000
set_option maxRecDepth 100000
attribute [local irreducible] Calls
theorem sgn_add_same (s : Bool) (a b : Nat) : sgn s (a + b) = sgn s a + sgn s b := by cases s <;> simp [sgn]; omega
theorem sgn_add_ge (s t : Bool) (a b : Nat) (h : s ≠ t) (hab : b ≤ a) : sgn s (a - b) = sgn s a + sgn t b := by
 cases s <;> cases t <;> simp [sgn] at h ⊢ <;> omega
theorem sgn_add_lt (s t : Bool) (a b : Nat) (h : s ≠ t) (hab : a < b) : sgn t (b - a) = sgn s a + sgn t b := by
 cases s <;> cases t <;> simp [sgn] at h ⊢ <;> omega
theorem bi_added (b o : Nat) (A : Option Addr) (n c a : Nat) (s : Bool) (B : Option Addr) (m d x : Nat) (t : Bool) (hn : n ≤ 1000000) (hm : m ≤ 1000000) (w : World) (hr : Room w b o) (hA : Rd w A n c (lim a)) (hB : Rd w B m d (lim x)) :
  Calls Tryz.prog 166 #[.pointer (some ⟨b, o, none⟩), .slice A n c, .bool s, .slice B m d, .bool t] w (IPost w b o (sgn s a + sgn t x)) := by
 have HA := Lib.hid hA
 have HB := Lib.hid hB
 have HR := Lib.hid hr
 have hbl := hr.lt
 clear hA hB hr
 by_cases hst : s = t
 ·subst hst
  have e := sgn_add_same s a x
  rw [← e]
  clear e
  go_enter Tryz.func166, Tryz.ntmps166
  go_wp2_with (first
   | (go_at_call 151; (with_reducible refine (bw_add A B n c m d a x hn hm _ HA.out HB.out).mono ?_); rintro e w2 ⟨A2, k2, c2, rfl, hR2, xb2⟩; have hF2 : Fr w A2 := hR2.out.2.1; have hO2 := hF2.off hbl k2)
   | (go_at_call 88; (with_reducible refine (bi_set b o s A2 k2 c2 (a + x) _ (HR.out.ext xb2) hR2.out.1 hO2).mono ?_); rintro e w3 ⟨rfl, hI3, xt3⟩)
   )
  refine bodyPost_ret (v := .pointer (some ⟨b, o, none⟩)) ?h rfl ⟨rfl, A2, k2, c2, ⟨hI3.out, hF2⟩, (Tch.of xb2).trans xt3⟩
  case h => simp [results, Tryz.results166, go_sem]
 ·have hst' : (s == t) = false := by rw [beq_eq_false_iff_ne]; exact hst
  by_cases hax : x ≤ a
  ·have e := sgn_add_ge s t a x hst hax
   rw [← e]
   have hc : (0 : Int) ≤ cmpN a x := by unfold cmpN; rw [if_neg (by omega)]; split <;> decide
   clear e hst
   go_enter Tryz.func166, Tryz.ntmps166
   go_wp2_with (first
    | (go_at_call 120; (with_reducible refine (bw_cmp A B n c m d a x _ HA.out HB.out).mono ?_); rintro e w1 ⟨rfl, xb1⟩)
    | (go_at_call 129; (with_reducible refine (bw_sub A B n c m d a x hax hn _ (HA.out.ext xb1) (HB.out.ext xb1)).mono ?_); rintro e w2 ⟨A2, k2, c2, rfl, hR2, xb2⟩; have hF2 : Fr w A2 := Fr.mono hR2.out.2 xb1; have hO2 := hF2.off hbl k2)
    | (go_at_call 88; (with_reducible refine (bi_set b o s A2 k2 c2 (a - x) _ ((HR.out.ext xb1).ext xb2) hR2.out.1 hO2).mono ?_); rintro e w3 ⟨rfl, hI3, xt3⟩)
    )
   refine bodyPost_ret (v := .pointer (some ⟨b, o, none⟩)) ?h rfl ⟨rfl, A2, k2, c2, ⟨hI3.out, hF2⟩, (Tch.of (jT xb1 xb2)).trans xt3⟩
   case h => simp [results, Tryz.results166, go_sem]
  ·have e := sgn_add_lt s t a x hst (by omega)
   rw [← e]
   have hc : ¬ (0 : Int) ≤ cmpN a x := by unfold cmpN; rw [if_pos (by omega)]; decide
   have hxa : a ≤ x := by omega
   clear e hst hax
   go_enter Tryz.func166, Tryz.ntmps166
   go_wp2_with (first
    | (go_at_call 120; (with_reducible refine (bw_cmp A B n c m d a x _ HA.out HB.out).mono ?_); rintro e w1 ⟨rfl, xb1⟩)
    | (go_at_call 129; (with_reducible refine (bw_sub B A m d n c x a hxa hm _ (HB.out.ext xb1) (HA.out.ext xb1)).mono ?_); rintro e w2 ⟨A2, k2, c2, rfl, hR2, xb2⟩; have hF2 : Fr w A2 := Fr.mono hR2.out.2 xb1; have hO2 := hF2.off hbl k2)
    | (go_at_call 88; (with_reducible refine (bi_set b o t A2 k2 c2 (x - a) _ ((HR.out.ext xb1).ext xb2) hR2.out.1 hO2).mono ?_); rintro e w3 ⟨rfl, hI3, xt3⟩)
    )
   refine bodyPost_ret (v := .pointer (some ⟨b, o, none⟩)) ?h rfl ⟨rfl, A2, k2, c2, ⟨hI3.out, hF2⟩, (Tch.of (jT xb1 xb2)).trans xt3⟩
   case h => simp [results, Tryz.results166, go_sem]
theorem bi_Add (b o g p h q : Nat) (x y : Int) (A : Option Addr) (n c : Nat) (B : Option Addr) (m d : Nat) (hn : n ≤ 1000000) (hm : m ≤ 1000000) (w : World) (hr : Room w b o) (hx : IntIs w g p x A n c) (hy : IntIs w h q y B m d) :
  Calls Tryz.prog 126 #[.pointer (some ⟨b, o, none⟩), .pointer (some ⟨g, p, none⟩), .pointer (some ⟨h, q, none⟩)] w (IPost w b o (x + y)) := by
 have HX := Lib.hid hx
 have HY := Lib.hid hy
 have HR := Lib.hid hr
 have lx := hx.room.lt
 have x0 := hx.neg
 have x1 := hx.words
 have ly := hy.room.lt
 have y0 := hy.neg
 have y1 := hy.words
 have hbl := hr.lt
 clear hx hy hr
 go_enter Tryz.func126, Tryz.ntmps126
 go_wp2
 refine wp_aft_tail 17 (by kernel_rfl) (by kernel_rfl) (by kernel_rfl) (fun hq hqf => ?_)
 simp only [List.take_succ_cons, List.take_zero, List.drop_succ_cons, List.drop_zero]
 repeat (go_big_quiet_step (first | fail
  ))
 refine wpQuiet_nil ?_
 rintro _ ⟨nq, rfl⟩
 have xl := ext_lt nq.use
 have xz := ext_size nq.use
 try simp at xz
 have hE := Lib.hid nq.use
 go_wp2_with (first
  | (go_at_call 166; (with_reducible refine (bi_added b o A n c x.natAbs _ B m d y.natAbs _ hn hm _ (HR.out.ext hE.out) (HX.out.rd.ext hE.out) (HY.out.rd.ext hE.out)).mono ?_); rintro e w3 ⟨rfl, A3, n3, c3, hI3, xt3⟩)
  )
 refine bodyPost_ret (v := .pointer (some ⟨b, o, none⟩)) ?h rfl ⟨rfl, A3, n3, c3, ⟨by have := hI3.out.1; rwa [sgn_self, sgn_self] at this, hI3.out.2.mono hE.out⟩, (Tch.of hE.out).trans xt3⟩
 case h => simp [results, Tryz.results126, go_sem]
end Go.Proofs.YtfdmhefjmnlllaaGreatDoor
end
section
/- Whole numbers of the library's: out of machine numbers; without a sign; products, differences. -/
namespace Go.Proofs.YtfdmhefjmnlllaaGreatDoor
open Go.RowKit
attribute [local go_sem] sz2 sz3 sz4 sz5 sz6 sz7 sz8
set_option maxHeartbeats 4000000
set_option maxRecDepth 100000
attribute [local irreducible] Calls
attribute [local go_sem] Oper.detAt detUpon relUpon
theorem bi_SetInt64 (b o : Nat) (x : Int) (h1 : -9223372036854775808 ≤ x) (h2 : x ≤ 9223372036854775807) (w : World) (hr : Room w b o) :
  Calls Tryz.prog 115 #[.pointer (some ⟨b, o, none⟩), .int .i64 x] w (IPost w b o x) := by
 have HR := Lib.hid hr
 have hlt := hr.lt
 clear hr
 by_cases h0 : x < 0
 ·obtain ⟨n, rfl⟩ : ∃ n : Nat, x = -(n : Int) := ⟨x.natAbs, by omega⟩
  have hn : n < 18446744073709551616 := by omega
  have h0' : -(n : Int) < 0 := h0
  have hF : ∀ w', Calls Tryz.prog 145 #[.int .u64 (IntKind.u64.wrap (-IntKind.u64.wrap (-(n : Int))))] w' fun e w'' => ∃ (A : Option Addr) (k c : Nat), e = .returned (.slice A k c) ∧ Hid (Rd w'' A k c (lim n) ∧ Fr w' A) ∧ Ext w' w'' := fun w' => by
   have e1 : IntKind.u64.wrap (-IntKind.u64.wrap (-(n : Int))) = (n : Int) := by rw [IntKind.wrap_u64, IntKind.wrap_u64]; omega
   rw [e1]
   exact bw_fromUint n hn w'
  have hsg : Hid (sgn true n = -(n : Int)) := Lib.hid rfl
  go_enter Tryz.func115, Tryz.ntmps115
  go_wp2_with (first
   | (go_at_call 145; (with_reducible refine (hF _).mono ?_); rintro e w1 ⟨A1, k1, c1, rfl, hR1, xb1⟩; obtain ⟨xc1, xf1, xl1, xz1⟩ := jU xb1; (try simp at xz1))
   | (go_at_call 88; (with_reducible refine (bi_set b o true A1 k1 c1 n _ (HR.out.ext xb1) hR1.out.1 (hR1.out.2.off hlt k1)).mono ?_); rintro e w3 ⟨rfl, hI3, xt3⟩)
   )
  refine bodyPost_ret (v := .pointer (some ⟨b, o, none⟩)) ?h rfl ⟨rfl, A1, k1, c1, ⟨by have := hI3.out; rwa [hsg.out] at this, hR1.out.2⟩, (Tch.of xb1).trans xt3⟩
  case h => simp [results, Tryz.results115, go_sem]
 ·obtain ⟨n, rfl⟩ : ∃ n : Nat, x = (n : Int) := ⟨x.natAbs, by omega⟩
  have hF : ∀ w', Calls Tryz.prog 145 #[.int .u64 (n : Int)] w' fun e w'' => ∃ (A : Option Addr) (k c : Nat), e = .returned (.slice A k c) ∧ Hid (Rd w'' A k c (lim n) ∧ Fr w' A) ∧ Ext w' w'' := fun w' => bw_fromUint n (by omega) w'
  have hsg : Hid (sgn false n = (n : Int)) := Lib.hid rfl
  go_enter Tryz.func115, Tryz.ntmps115
  go_wp2_with (first
   | (go_at_call 145; (with_reducible refine (hF _).mono ?_); rintro e w1 ⟨A1, k1, c1, rfl, hR1, xb1⟩; obtain ⟨xc1, xf1, xl1, xz1⟩ := jU xb1; (try simp at xz1))
   | (go_at_call 88; (with_reducible refine (bi_set b o false A1 k1 c1 n _ (HR.out.ext xb1) hR1.out.1 (hR1.out.2.off hlt k1)).mono ?_); rintro e w3 ⟨rfl, hI3, xt3⟩)
   )
  refine bodyPost_ret (v := .pointer (some ⟨b, o, none⟩)) ?h rfl ⟨rfl, A1, k1, c1, ⟨by have := hI3.out; rwa [hsg.out] at this, hR1.out.2⟩, (Tch.of xb1).trans xt3⟩
  case h => simp [results, Tryz.results115, go_sem]
theorem bi_NewInt (x : Int) (h1 : -9223372036854775808 ≤ x) (h2 : x ≤ 9223372036854775807) (w : World) :
  Calls Tryz.prog 70 #[.int .i64 x] w (NPost w x) := by
 have hrm := Lib.hid (int_room w)
 go_enter Tryz.func70, Tryz.ntmps70
 go_wp2_with (first
  | (go_at_call 115; (with_reducible refine (bi_SetInt64 w.heap.size 0 x h1 h2 _ hrm.out).mono ?_); rintro e w3 ⟨rfl, A3, n3, c3, hI3, xt3⟩)
  )
 have hEE := Lib.hid (xt3.ext (jA (jR w) _) (Nat.le_refl _))
 refine bodyPost_ret (v := .pointer (some ⟨w.heap.size, 0, none⟩)) ?h rfl ⟨_, A3, n3, c3, rfl, ⟨hI3.out.1, Fr.mono hI3.out.2 (jA (jR w) _)⟩, Nat.le_refl _, hEE.out⟩
 case h => simp [results, Tryz.results70, go_sem]
end Go.Proofs.YtfdmhefjmnlllaaGreatDoor
end
section
/- What is seen of a fraction, compared with itself. -/
namespace Go.Proofs.YtfdmhefjmnlllaaGreatDoor
open Go.RowKit
theorem neq_look (b : Bool) (n m : Int) (w : World) : (binOp .neq 113 (.agg #[.bool b, .int .i64 n, .int .i64 m]) (.agg #[.bool b, .int .i64 n, .int .i64 m])).run Tryz.prog w = .ok (.bool false) w := by
 cases b <;> simp [go_sem]
end Go.Proofs.YtfdmhefjmnlllaaGreatDoor
end
section
/- The program's fractions: taken. -/
namespace Go.Proofs.YtfdmhefjmnlllaaGreatDoor
open Go.RowKit
attribute [local go_sem] sz2 sz3 sz4 sz5 sz6 sz7 sz8
set_option maxHeartbeats 4000000
set_option maxRecDepth 100000
attribute [local irreducible] Calls
attribute [local go_sem high] neq_look
abbrev KPost (w : World) (z : Int) (d : Nat) : Ending → World → Prop := fun e w' => ∃ (g : Nat) (A : Option Addr) (n c : Nat) (D : Option Addr) (m k : Nat), e = .returned (.tuple #[.pointer (some ⟨g, 0, none⟩), .int .i64 0]) ∧
 Hid (RatIs w' g z A n c d D m k ∧ Fr w A ∧ Fr w D) ∧ w.heap.size ≤ g ∧ Ext w w'
theorem ra_seen (neg : Bool) (A : Option Addr) (n c : Nat) (D : Option Addr) (m k : Nat) (w : World) : Calls Tryz.prog 84 #[ratV neg A n c D m k] w fun e w' => e = .returned (.agg #[.bool neg, .int .i64 (n : Int), .int .i64 (m : Int)]) ∧ Ext w w' := by
 go_enter Tryz.func84, Tryz.ntmps84
 go_wp2
 refine bodyPost_ret (v := .agg #[.bool neg, .int .i64 ↑n, .int .i64 ↑m]) ?h rfl ⟨rfl, ?_⟩
 case h => simp [results, Tryz.results84, go_sem]
 exact xcl
theorem ra_taken (neg : Bool) (A : Option Addr) (n c a : Nat) (D : Option Addr) (m k d : Nat) (hd : d ≠ 0) (hn : n ≤ 16384) (hm : m ≤ 16384) (hg : Nat.gcd a d = 1) (hng : neg = true → a ≠ 0) (w : World) (hT : Tz w) (hA : Rd w A n c (lim a)) (hD : Rd w D m k (lim d)) :
  Calls Tryz.prog 40 #[ratV neg A n c D m k] w (KPost w (sgn neg a) (lowD a d)) := by
 have HA := Lib.hid hA
 have HD := Lib.hid hD
 have HT := Lib.hid hT
 have hla := hA.len
 have hld := hD.len
 have hm0 : ((m : Int) == 0) = false := by
  rw [beq_eq_false_iff_ne]
  intro h; exact hd (lim_nil.1 (List.eq_nil_of_length_eq_zero (by omega)))
 have chA : ∀ w', Ext w w' → Calls Tryz.prog 61 #[natV A n c] w' fun e w'' => e = .returned (.int .i64 0) ∧ Ext w' w'' := fun w' he => by
  have := ncheck_any A n c (lim a) w' (HA.out.ext he); rwa [chk_lim (by omega)] at this
 have chD : ∀ w', Ext w w' → Calls Tryz.prog 61 #[natV D m k] w' fun e w'' => e = .returned (.int .i64 0) ∧ Ext w' w'' := fun w' he => by
  have := ncheck_any D m k (lim d) w' (HD.out.ext he); rwa [chk_lim (by omega)] at this
 have kA : ∀ w', Ext w w' → Calls Tryz.prog 62 #[natV A n c] w' (NPost w' a) := fun w' he => ra_whole A n c a (by omega) w' (HA.out.ext he)
 have kD : ∀ w', Ext w w' → Calls Tryz.prog 62 #[natV D m k] w' (NPost w' d) := fun w' he => ra_whole D m k d (by omega) w' (HD.out.ext he)
 clear hA hD hT
 go_enter Tryz.func40, Tryz.ntmps40
 go_upto_region 3 with (first
  | (go_at_call 61; (with_reducible refine (chA _ xcl).mono ?_); rintro e w1 ⟨rfl, xb1⟩; obtain ⟨xc1, xf1, xl1, xz1⟩ := jU xb1; (try simp at xz1); obtain ⟨l1_0, r1_0, f1_0, r1_0_1, f1_0_1, r1_0_2, f1_0_2⟩ := kq3 xb1 (w.heap.size))
  | (go_at_call 61; (with_reducible refine (chD _ xcl).mono ?_); rintro e w2 ⟨rfl, xb2⟩; obtain ⟨xc2, xf2, xl2, xz2⟩ := jU xb2; (try simp at xz2); obtain ⟨l2_0, r2_0, f2_0, r2_0_1, f2_0_1, r2_0_2, f2_0_2⟩ := kq3 xb2 (w.heap.size))
  )
 have z0 : w2.cell? ⟨w.heap.size, 0, none⟩ = some (.bool neg) := by simp [go_sem, *]
 have z1 : w2.cell? ⟨w.heap.size, 1, none⟩ = some (.slice A n c) := by simp [go_sem, *]
 have z2 : w2.cell? ⟨w.heap.size, 2, none⟩ = some (.slice D m k) := by simp [go_sem, *]
 have zl : w.heap.size < w2.heap.size := by assumption
 have hE2 : Hid (Ext w w2) := by show Ext w w2; exact xcl
 clear chA chD
 go_cut [4, 5] (fun p q wc => ∃ (b1 : Nat) (B1 : Option Addr) (k1 l1 b3 : Nat) (B3 : Option Addr) (k3 l3 : Nat), p = .pointer (some ⟨b1, 0, none⟩) ∧ q = .pointer (some ⟨b3, 0, none⟩) ∧ Hid (IntIs wc b1 0 a B1 k1 l1) ∧ Hid (IntIs wc b3 0 d B3 k3 l3) ∧ Hid (b3 ≠ b1 ∧ Off B3 k3 b1 ∧ w2.heap.size ≤ b1) ∧ Hid (Ext w2 wc))
 case first =>
  go_region_with (first
   | (go_at_call 62; (with_reducible refine (kA _ (jT hE2.out xcl)).mono ?_); rintro e w5 ⟨b5, B5, k5, l5, rfl, hI5, hb5, xb5⟩; obtain ⟨xc5, xf5, xl5, xz5⟩ := jU xb5; (try simp at xz5); obtain ⟨l5_0, r5_0, f5_0, r5_0_1, f5_0_1, r5_0_2, f5_0_2⟩ := kq3 xb5 (w.heap.size))
   | (go_at_call 62; (with_reducible refine (kD _ (jT hE2.out xcl)).mono ?_); rintro e w6 ⟨b6, B6, k6, l6, rfl, hI6, hb6, xb6⟩; obtain ⟨xc6, xf6, xl6, xz6⟩ := jU xb6; (try simp at xz6); obtain ⟨l6_0, r6_0, f6_0, r6_0_1, f6_0_1, r6_0_2, f6_0_2⟩ := kq3 xb6 (w.heap.size))
   )
  all_goals
   go_wp2_with fail
   go_meet
   case rel =>
    have q5 := hI5.out.1.room.lt
    have q6 := hI6.out.1.room.lt
    simp at hb5 hb6
    first
     | exact ⟨b5, B5, k5, l5, b6, B6, k6, l6, rfl, rfl, hI5.out.1.ext xb6, hI6.out.1, ⟨by omega, hI6.out.2.off q5 k6, by omega⟩, jT (jD (jR w2)) (jT xb5 xb6)⟩
     | exact ⟨b5, B5, k5, l5, b6, B6, k6, l6, rfl, rfl, hI5.out.1, hI6.out.1.ext xb5, ⟨by omega, hI6.out.1.rd.off hb5, by have := ext_size xb6; simp at this; omega⟩, jT (jD (jR w2)) (jT xb6 xb5)⟩
 case rest =>
  obtain ⟨b1, B1, k1, l1, b3, B3, k3, l3, rfl, rfl, hI1, hI3, hap, hEc⟩ := hcut
  have hk1 := Nat.le_trans (Nat.le_of_eq (hI1.out.lenNat.symm.trans hla)) hn
  have hk3 := Nat.le_trans (Nat.le_of_eq (hI3.out.lenNat.symm.trans hld)) hm
  have hk1b : k1 ≤ 1000000 := by omega
  have hk1c : k1 ≤ 400000 := by omega
  have hk3c : k3 ≤ 400000 := by omega
  clear xb1 xb2 kA kD
  have hl3 := lowD_len (a := a) hd
  rw [hla, hld] at hl3
  have hn' := Nat.le_trans hl3.2.2 hn
  have hm' := Nat.le_trans hl3.2.1 (Nat.le_trans hm (show 16384 ≤ 100000 by decide))
  have hdl := Nat.le_trans hl3.1 hm
  have hden : denOf (lowD a d) = d := by
   unfold denOf lowD
   by_cases h0 : a = 0
   ·rw [if_pos h0, if_pos rfl]; subst h0; rw [Nat.gcd_zero_left] at hg; exact hg.symm
   ·rw [if_neg h0, hg, Nat.div_one, if_neg hd]
  have y0 := (Below.cell (p := ⟨w.heap.size, 0, none⟩) hEc.out zl).trans z0
  go_upto_if 33 with (fail)
  go_cut [4] (fun p wn => ∃ (B2 : Option Addr) (k2 l2 : Nat), p = .pointer (some ⟨b1, 0, none⟩) ∧ k2 ≤ 400000 ∧ Hid (IntIs wn b1 0 (sgn neg a) B2 k2 l2) ∧ Hid (IntIs wn b3 0 d B3 k3 l3) ∧ Hid (Ext w2 wn))
  case first =>
   cases neg with
   | false =>
    go_wp2
    go_meet
    case rel => exact ⟨B1, k1, l1, rfl, hk1c, hI1.out, hI3, hEc⟩
   | true =>
    go_wp2_with (first
     | (go_at_call 63; (with_reducible refine (bi_Neg b1 0 b1 0 B1 k1 l1 a hk1b _ hI1.out.room hI1.out).mono ?_); rintro e w7 ⟨rfl, B2, k2, l2, hI2, xt2⟩)
     )
    go_meet
    case rel =>
     refine ⟨B2, k2, l2, rfl, ?_, hI2.out.1, hI3.out.tch xt2 hap.out.1 hap.out.2.1, xt2.ext hEc.out hap.out.2.2⟩
     have := hI2.out.1.rd.len; rw [Int.natAbs_neg, Int.natAbs_natCast, hla] at this; omega
  case rest =>
  obtain ⟨wq, rfl⟩ : ∃ wq, wq = wc := ⟨wc, rfl⟩
  obtain ⟨B2, k2, l2, rfl, hk2, hI2, hI3, hEc⟩ := hcut
  clear y0
  have y0 := (Below.cell (p := ⟨w.heap.size, 0, none⟩) hEc.out zl).trans z0
  have y1 := (Below.cell (p := ⟨w.heap.size, 1, none⟩) hEc.out zl).trans z1
  have y2 := (Below.cell (p := ⟨w.heap.size, 2, none⟩) hEc.out zl).trans z2
  have yl := ext_lt hEc.out _ zl
  have hE3 := Lib.hid (jT hE2.out hEc.out)
  have hTr := Lib.hid (HT.out.ext hE3.out)
  go_upto_region 8 with (first
   | (go_at_call 65; (with_reducible refine (br_SetFrac' _ b1 b3 neg a d hd B2 k2 l2 B3 k3 l3 hk2 hk3c _ (hTr.out.ext (jA (jR _) _)) (rat_room wq) (hI2.out.ext (jA (jR _) _)) (hI3.out.ext (jA (jR _) _))).mono ?_); rintro e w4 ⟨rfl, A4, n4, c4, D4, m4, e4, hI4, xt4⟩; have hn4 := Nat.le_trans (Nat.le_of_eq hI4.out.1.int.lenSgn.symm) hn'; have hm4 := Nat.le_trans (Nat.le_of_eq hI4.out.1.rd.len.symm) hm'; have hx4 := Lib.hid (xt4.ext (jA (jR wq) _) (Nat.le_refl _)); have v0 := (Below.cell (p := ⟨w.heap.size, 0, none⟩) hx4.out yl).trans y0; have v1 := (Below.cell (p := ⟨w.heap.size, 1, none⟩) hx4.out yl).trans y1; have v2 := (Below.cell (p := ⟨w.heap.size, 2, none⟩) hx4.out yl).trans y2; have vl := ext_lt hx4.out _ yl)
   | (go_at_call 64; (with_reducible refine (ra_told_ok _ _ A4 n4 c4 _ D4 m4 e4 hn4 hm4 hdl _ hI4.out.1).mono ?_); rintro e w5 ⟨A5, n5, c5, D5, m5, e5, rfl, hI5, xb5⟩; obtain ⟨xc5, xf5, xl5, xz5⟩ := jU xb5; (try simp at xz5); obtain ⟨l5_0, r5_0, f5_0, r5_0_1, f5_0_1, r5_0_2, f5_0_2⟩ := kq3 xb5 (w.heap.size))
   )
  have hds : decide (sgn neg a < 0) = neg := by rw [sgn_lt]; cases neg; rfl; exact decide_eq_true (Nat.pos_of_ne_zero (hng rfl))
  obtain rfl : n5 = n := by rw [← hI5.out.1.len, ← hla, sgn_abs, hg, Nat.div_one]
  obtain rfl : m5 = m := by rw [← hI5.out.2.2.1.len, hden, hld]
  have hE5 := Lib.hid (jT hx4.out xb5)
  have hR5 := Lib.hid (hI4.out.1.ext xb5)
  have hN5 := Lib.hid (hI3.out.ext hE5.out)
  have kDen : ∀ wx, Ext w5 wx → Calls Tryz.prog 43 #[.pointer (some ⟨wq.heap.size, 0, none⟩)] wx (NPost wx d) := fun wx hx => by
   have := br_Denom _ _ _ _ _ _ _ _ _ (by omega) wx (hR5.out.ext hx); rwa [hden] at this
  have kCmp : ∀ b7 B7 k7 l7 wx, Ext w5 wx → IntIs wx b7 0 d B7 k7 l7 → Calls Tryz.prog 85 #[.pointer (some ⟨b7, 0, none⟩), .pointer (some ⟨b3, 0, none⟩)] wx fun e w' => e = .returned (.int .i64 0) ∧ Ext wx w' := fun b7 B7 k7 l7 wx hx h7 => by
   have := bi_Cmp b7 0 b3 0 d d B7 k7 l7 B3 k3 l3 wx h7 (hN5.out.ext hx); rwa [Int.sub_self, Int.sign_zero] at this
  clear hng
  generalize hdz : decide (sgn neg a < 0) = dz
  rw [hdz] at hds
  subst hds
  clear hdz
  have hcl : Hid (Ext w (w5.alloc (Obj.cells #[.bool false, .slice A5 n5 c5, .slice D5 m5 e5] 26))) := jA (jT hE3.out hE5.out) _
  go_cut [61] (fun v wn => v = .bool false ∧ Hid (Ext w5 wn))
  case first =>
   go_region_with (first
    | (go_at_call 84; (with_reducible refine (ra_seen _ _ _ _ _ _ _ _).mono ?_); rintro e w6 ⟨rfl, xb6⟩; obtain ⟨xc6, xf6, xl6, xz6⟩ := jU xb6; (try simp at xz6); obtain ⟨l6_0, r6_0, f6_0, r6_0_1, f6_0_1, r6_0_2, f6_0_2⟩ := kq3 xb6 (w.heap.size); obtain ⟨l6_1, r6_1, f6_1, r6_1_1, f6_1_1, r6_1_2, f6_1_2⟩ := kq3 xb6 (w5.heap.size))
    | (go_at_call 43; (with_reducible refine (kDen _ xcl).mono ?_); rintro e w7 ⟨b7, B7, k7, l7, rfl, hI7, hb7, xb7⟩; obtain ⟨xc7, xf7, xl7, xz7⟩ := jU xb7; (try simp at xz7); obtain ⟨l7_0, r7_0, f7_0, r7_0_1, f7_0_1, r7_0_2, f7_0_2⟩ := kq3 xb7 (w.heap.size); obtain ⟨l7_1, r7_1, f7_1, r7_1_1, f7_1_1, r7_1_2, f7_1_2⟩ := kq3 xb7 (w5.heap.size))
    | (go_at_call 85; (with_reducible refine (kCmp b7 B7 k7 l7 _ xcl hI7.out.1).mono ?_); rintro e w8 ⟨rfl, xb8⟩; obtain ⟨xc8, xf8, xl8, xz8⟩ := jU xb8; (try simp at xz8); obtain ⟨l8_0, r8_0, f8_0, r8_0_1, f8_0_1, r8_0_2, f8_0_2⟩ := kq3 xb8 (w.heap.size); obtain ⟨l8_1, r8_1, f8_1, r8_1_1, f8_1_1, r8_1_2, f8_1_2⟩ := kq3 xb8 (w5.heap.size))
    )
   all_goals
    go_wp2_with fail
    go_meet
    case rel => exact ⟨rfl, (show Ext _ _ by exact xcl)⟩
  case rest =>
   obtain ⟨rfl, hEn⟩ := hcut
   go_wp2
   refine bodyPost_ret (v := .tuple #[.pointer (some ⟨wq.heap.size, 0, none⟩), .int .i64 0]) ?h rfl ⟨_, A4, n4, c4, D4, m4, e4, rfl, ⟨?_, hI4.out.2.1.mono (jA hE3.out _), hI4.out.2.2.mono (jA hE3.out _)⟩, ext_size hE3.out, jT (jT hE3.out hE5.out) hEn.out⟩
   case h => simp [results, Tryz.results40, go_sem]
   have := hR5.out.ext hEn.out
   rwa [hg, Nat.div_one] at this
end Go.Proofs.YtfdmhefjmnlllaaGreatDoor
end
section
/- Fractions of the library's: products. -/
namespace Go.Proofs.YtfdmhefjmnlllaaGreatDoor
open Go.RowKit
attribute [local go_sem] sz2 sz3 sz4 sz5 sz6 sz7 sz8
set_option maxHeartbeats 4000000
set_option maxRecDepth 100000
attribute [local irreducible] Calls
theorem bw_by (A G : Option Addr) (n c m d a g : Nat) (h0 : g ≠ 0) (hn : n ≤ 400000) (w : World) (hA : Rd w A n c (lim a)) (hG : Rd w G m d (lim g)) :
  Calls Tryz.prog 125 #[.slice A n c, .slice G m d] w fun e w' => ∃ (A' : Option Addr) (k c' : Nat), (e = .returned (.slice A' k c') ∧ k ≤ n) ∧ Hid (Rd w' A' k c' (lim (a / g))) ∧ Ext w w' := by
 have hle : (lim (a / g)).length ≤ n := by rw [← hA.len]; exact lim_mono (Nat.div_le_self _ _)
 by_cases h1 : g = 1
 ·subst h1
  refine (bw_by_one A G n c m d w hG).mono ?_
  rintro e w' ⟨rfl, h2⟩
  exact ⟨A, n, c, ⟨rfl, Nat.le_refl _⟩, by rw [Nat.div_one]; exact hA.ext h2, h2⟩
 ·refine (bw_by_div A G n c m d a g h1 h0 hn w hA hG).mono ?_
  rintro e w' ⟨A', k, c', rfl, h2, h3⟩
  exact ⟨A', k, c', ⟨rfl, by rw [← h2.out.1.len]; exact hle⟩, h2.out.1, h3⟩
theorem bw_mulA (A B : Option Addr) (n c m d a b : Nat) (hs : n + m ≤ 200000) (w : World) (hA : Rd w A n c (lim a)) (hB : Rd w B m d (lim b)) : Calls Tryz.prog 121 #[.slice A n c, .slice B m d] w (WPost w (a * b)) := bw_mul (n + m) A B n c m d a b rfl hs w hA hB
theorem bw_commonA (A B : Option Addr) (n c m d a b : Nat) (hn : n ≤ 400000) (hm : m ≤ 400000) (w : World) (hT : Tz w) (hA : Rd w A n c (lim a)) (hB : Rd w B m d (lim b)) : Calls Tryz.prog 124 #[.slice A n c, .slice B m d] w (WPost w (Nat.gcd a b)) := bw_common A B n c m d a b hn hm w hT hA hB
theorem br_times (g : Nat) (s : Bool) (A D B C : Option Addr) (n cn m cm p cp q cq a d b c : Nat) (ha : a ≠ 0) (hb : b ≠ 0) (hd : d ≠ 0) (hc : c ≠ 0) (hn : n ≤ 100000) (hm : m ≤ 100000) (hp : p ≤ 100000) (hq : q ≤ 100000) (w : World) (hT : Tz w) (hr : RatRoom w g)
  (hA : Rd w A n cn (lim a)) (hD : Rd w D m cm (lim d)) (hB : Rd w B p cp (lim b)) (hC : Rd w C q cq (lim c)) :
  Calls Tryz.prog 116 #[.pointer (some ⟨g, 0, none⟩), .bool s, .slice A n cn, .slice D m cm, .slice B p cp, .slice C q cq] w
   (FPost w g (sgn s ((a / Nat.gcd a c) * (b / Nat.gcd b d) : Nat)) ((d / Nat.gcd b d) * (c / Nat.gcd a c))) := by
 have HA := Lib.hid hA
 have HD := Lib.hid hD
 have HB := Lib.hid hB
 have HC := Lib.hid hC
 have HT := Lib.hid hT
 have HR := Lib.hid hr
 have hgl := hr.int.lt
 have hfc := hr.c2
 have hff := hr.f2
 obtain ⟨v2, hv2⟩ := hfc
 have hn0 : ((n : Int) == 0) = false := by
  rw [beq_eq_false_iff_ne]; have := hA.len; intro h; exact ha (lim_nil.1 (List.eq_nil_of_length_eq_zero (by omega)))
 have hp0 : ((p : Int) == 0) = false := by
  rw [beq_eq_false_iff_ne]; have := hB.len; intro h; exact hb (lim_nil.1 (List.eq_nil_of_length_eq_zero (by omega)))
 obtain ⟨G, hG⟩ : ∃ G, G = Nat.gcd a c := ⟨_, rfl⟩
 obtain ⟨H, hH⟩ : ∃ H, H = Nat.gcd b d := ⟨_, rfl⟩
 have hG0 : G ≠ 0 := by rw [hG]; intro h; exact ha (Nat.eq_zero_of_gcd_eq_zero_left h)
 have hH0 : H ≠ 0 := by rw [hH]; intro h; exact hb (Nat.eq_zero_of_gcd_eq_zero_left h)
 have kG : ∀ w', Ext w w' → Calls Tryz.prog 124 #[.slice A n cn, .slice C q cq] w' (WPost w' G) := fun w' he => by rw [hG]; exact bw_commonA A C n cn q cq a c (by omega) (by omega) w' (HT.out.ext he) (HA.out.ext he) (HC.out.ext he)
 have kH : ∀ w', Ext w w' → Calls Tryz.prog 124 #[.slice B p cp, .slice D m cm] w' (WPost w' H) := fun w' he => by rw [hH]; exact bw_commonA B D p cp m cm b d (by omega) (by omega) w' (HT.out.ext he) (HB.out.ext he) (HD.out.ext he)
 rw [← hG, ← hH]
 have HG1 := Lib.hid hG
 have HH1 := Lib.hid hH
 have hn4 : n ≤ 400000 := by omega
 have hm4 : m ≤ 400000 := by omega
 have hp4 : p ≤ 400000 := by omega
 have hq4 : q ≤ 400000 := by omega
 clear hA hB hC hD hT hr hG hH
 go_enter Tryz.func116, Tryz.ntmps116
 go_wp2_with (first
  | (go_at_call 124; (with_reducible refine (kG _ (jR _)).mono ?_); rintro e w1 ⟨A1, k1, c1, rfl, hR1, xb1⟩)
  | (go_at_call 124; (with_reducible refine (kH _ xb1).mono ?_); rintro e w2 ⟨A2, k2, c2, rfl, hR2, xb2⟩; have hG2 := Lib.hid (hR1.out.1.ext xb2); have hE2 := Lib.hid (jT xb1 xb2))
  | (go_at_call 125; (with_reducible refine (bw_by A A1 n cn k1 c1 a G hG0 hn4 _ (HA.out.ext hE2.out) hG2.out).mono ?_); rintro e w3 ⟨A3, k3, c3, ⟨rfl, hk3⟩, hR3, xb3⟩; have hE3 := Lib.hid (jT hE2.out xb3))
  | (go_at_call 125; (with_reducible refine (bw_by B A2 p cp k2 c2 b H hH0 hp4 _ (HB.out.ext hE3.out) (hR2.out.1.ext xb3)).mono ?_); rintro e w4 ⟨A4, k4, c4, ⟨rfl, hk4⟩, hR4, xb4⟩; have hE4 := Lib.hid (jT hE3.out xb4); have hs4 : k3 + k4 ≤ 200000 := Nat.le_trans (Nat.add_le_add (Nat.le_trans hk3 hn) (Nat.le_trans hk4 hp)) (Nat.le_refl _))
  | (go_at_call 121; (with_reducible refine (bw_mulA A3 A4 k3 c3 k4 c4 _ _ hs4 _ (hR3.out.ext xb4) hR4.out).mono ?_); rintro e w5 ⟨A5, k5, c5, rfl, hR5, xb5⟩; have hE5 := Lib.hid (jT hE4.out xb5))
  | (go_at_call 125; (with_reducible refine (bw_by D A2 m cm k2 c2 d H hH0 hm4 _ (HD.out.ext hE5.out) (hR2.out.1.ext (jT xb3 (jT xb4 xb5)))).mono ?_); rintro e w6 ⟨A6, k6, c6, ⟨rfl, hk6⟩, hR6, xb6⟩; have hE6 := Lib.hid (jT hE5.out xb6))
  | (go_at_call 125; (with_reducible refine (bw_by C A1 q cq k1 c1 c G hG0 hq4 _ (HC.out.ext hE6.out) (hG2.out.ext (jT (jT xb3 xb4) (jT xb5 xb6)))).mono ?_); rintro e w7 ⟨A7, k7, c7, ⟨rfl, hk7⟩, hR7, xb7⟩; have hE7 := Lib.hid (jT hE6.out xb7); have hs7 : k6 + k7 ≤ 200000 := Nat.le_trans (Nat.add_le_add (Nat.le_trans hk6 hm) (Nat.le_trans hk7 hq)) (Nat.le_refl _))
  | (go_at_call 121; (with_reducible refine (bw_mulA A6 A7 k6 c6 k7 c7 _ _ hs7 _ (hR6.out.ext xb7) hR7.out).mono ?_); rintro e w8 ⟨A8, k8, c8, rfl, hR8, xb8⟩; have hE8 := Lib.hid (jT hE7.out xb8); have hF5 : Fr w A5 := hR5.out.2.mono hE4.out; have hF8 : Fr w A8 := hR8.out.2.mono hE7.out; have hO5 := hF5.off hgl k5; have hO8 := hF8.off hgl k8; have hv8 := (Below.cell (p := ⟨g, 2, none⟩) hE8.out hgl).trans hv2; have hf8 := (Below.frozen (p := ⟨g, 2, none⟩) hE8.out hgl).trans hff)
  | (go_at_call 88; (with_reducible refine (bi_setx g 0 s A5 k5 c5 _ _ (HR.out.int.ext hE8.out) (hR5.out.1.ext (jT (jT xb6 xb7) xb8)) hO5).mono ?_); rintro e w9 ⟨rfl, hI9, xt9, hq9⟩; have hv9 := (hq9.out 2 (by omega) (by omega)).1.trans hv8; have hf9 := (hq9.out 2 (by omega) (by omega)).2.trans hf8)
  )
 refine bodyPost_ret (v := .pointer (some ⟨g, 0, none⟩)) ?h rfl ⟨rfl, A5, k5, c5, A8, k8, c8, ⟨rat_made hI9.out ⟨_, hv9⟩ hf9 (hR8.out.1.tch xt9 hO8) hO8, hF5, hF8⟩, ((Tch.of hE8.out).trans xt9).set 2 _⟩
 case h => simp [results, Tryz.results116, go_sem]
theorem br_times_zero (g : Nat) (s : Bool) (A D B C : Option Addr) (n cn m cm p cp q cq : Nat) (h0 : n = 0 ∨ p = 0) (w : World) (hr : RatRoom w g) :
  Calls Tryz.prog 116 #[.pointer (some ⟨g, 0, none⟩), .bool s, .slice A n cn, .slice D m cm, .slice B p cp, .slice C q cq] w (FPost w g 0 0) := by
 have HR := Lib.hid hr
 have kz : Calls Tryz.prog 111 #[.pointer (some ⟨g, 0, none⟩), .bool false, .slice none 0 0, .slice (some ⟨w.heap.size, 0, none⟩) 1 1] (w.alloc (Obj.cells #[.int .u32 1] 47)) (SPost (w.alloc (Obj.cells #[.int .u32 1] 47)) g 0 0 none (some ⟨w.heap.size, 0, none⟩)) :=
  br_set_zero g false none 0 0 (some ⟨w.heap.size, 0, none⟩) 1 1 1 _ (hr.ext (jA (jR _) _)) (by rw [lim_zero]; exact Rd.nil _) (one_row w)
 have KZ := kz.mono (R' := FPost w g 0 0) (by
  rintro e w' ⟨rfl, A', n', c', D', m', k', h1, h2⟩
  have h3 := h1.out.2 w (jA (jR _) _) (Fr.none _) (fun x hx => by cases hx; exact Nat.le_refl _)
  exact ⟨rfl, A', n', c', D', m', k', ⟨h1.out.1, h3.1, h3.2⟩, (Tch.of (jA (jR _) _)).trans h2⟩)
 clear kz hr
 by_cases hn : n = 0
 ·subst hn
  clear h0
  go_enter Tryz.func116, Tryz.ntmps116
  go_wp2_with (first
   | (go_at_call 111; (with_reducible refine KZ.mono ?_); rintro e w3 ⟨rfl, A3, n3, c3, D3, m3, k3, hI3, xt3⟩)
   )
  refine bodyPost_ret (v := .pointer (some ⟨g, 0, none⟩)) ?h rfl ⟨rfl, A3, n3, c3, D3, m3, k3, hI3, xt3⟩
  case h => simp [results, Tryz.results116, go_sem]
 ·have hp : p = 0 := by omega
  subst hp
  have hn0 : ((n : Int) == 0) = false := by rw [beq_eq_false_iff_ne]; omega
  clear h0
  go_enter Tryz.func116, Tryz.ntmps116
  go_wp2_with (first
   | (go_at_call 111; (with_reducible refine KZ.mono ?_); rintro e w3 ⟨rfl, A3, n3, c3, D3, m3, k3, hI3, xt3⟩)
   )
  refine bodyPost_ret (v := .pointer (some ⟨g, 0, none⟩)) ?h rfl ⟨rfl, A3, n3, c3, D3, m3, k3, hI3, xt3⟩
  case h => simp [results, Tryz.results116, go_sem]
end Go.Proofs.YtfdmhefjmnlllaaGreatDoor
end
section
/- Fractions in their lowest terms, plainly. -/
namespace Go.Proofs.YtfdmhefjmnlllaaGreatDoor
theorem low_uniq {a d A D : Nat} (hd : d ≠ 0) (hD : D ≠ 0) (hg : Nat.gcd a d = 1) (hx : a * D = A * d) : a = A / Nat.gcd A D ∧ d = D / Nat.gcd A D := by
 have hG : 0 < Nat.gcd A D := Nat.pos_of_ne_zero (fun h => hD (Nat.eq_zero_of_gcd_eq_zero_right h))
 obtain ⟨u, hu⟩ := Nat.gcd_dvd_left A D
 obtain ⟨v, hv⟩ := Nat.gcd_dvd_right A D
 have hc : Nat.gcd (A / Nat.gcd A D) (D / Nat.gcd A D) = 1 := Nat.coprime_div_gcd_div_gcd hG
 have e1 : A / Nat.gcd A D = u := Nat.div_eq_of_eq_mul_right hG hu
 have e2 : D / Nat.gcd A D = v := Nat.div_eq_of_eq_mul_right hG hv
 rw [e1, e2] at hc ⊢
 have hx' : a * v = u * d := by
  refine Nat.eq_of_mul_eq_mul_left hG ?_
  calc Nat.gcd A D * (a * v) = a * (Nat.gcd A D * v) := by grind
   _ = a * D := by rw [← hv]
   _ = A * d := hx
   _ = (Nat.gcd A D * u) * d := by rw [← hu]
   _ = Nat.gcd A D * (u * d) := by grind
 have d1 : a ∣ u := Nat.Coprime.dvd_of_dvd_mul_right (show Nat.Coprime a d from hg) ⟨v, hx'.symm⟩
 have d2 : u ∣ a := Nat.Coprime.dvd_of_dvd_mul_right (show Nat.Coprime u v from hc) ⟨d, hx'⟩
 have e3 : a = u := Nat.dvd_antisymm d1 d2
 refine ⟨e3, ?_⟩
 have d3 : d ∣ v := Nat.Coprime.dvd_of_dvd_mul_left (show Nat.Coprime d a by rw [Nat.coprime_comm]; exact hg) ⟨u, by rw [hx']; exact Nat.mul_comm _ _⟩
 have d4 : v ∣ d := Nat.Coprime.dvd_of_dvd_mul_left (show Nat.Coprime v u by rw [Nat.coprime_comm]; exact hc) ⟨a, by rw [← hx']; exact Nat.mul_comm _ _⟩
 exact Nat.dvd_antisymm d3 d4
def canN (z : Int) (d : Nat) : Int := sgn (decide (z < 0)) (z.natAbs / Nat.gcd z.natAbs d : Nat)
def canD (z : Int) (d : Nat) : Nat := d / Nat.gcd z.natAbs d
theorem can_uniq {z : Int} {d : Nat} {Z : Int} {D : Nat} (hd : d ≠ 0) (hD : D ≠ 0) (hg : Nat.gcd z.natAbs d = 1) (hx : z * (D : Int) = Z * (d : Int)) : z = canN Z D ∧ d = canD Z D := by
 have ha : z.natAbs * D = Z.natAbs * d := by
  have := congrArg Int.natAbs hx
  rwa [Int.natAbs_mul, Int.natAbs_mul, Int.natAbs_natCast, Int.natAbs_natCast] at this
 have h := low_uniq hd hD hg ha
 have hs : decide (z < 0) = decide (Z < 0) := by
  have hd' : (0 : Int) < d := by omega
  have hD' : (0 : Int) < D := by omega
  by_cases h1 : z < 0
  ·have : Z * (d : Int) < 0 := by rw [← hx]; exact Int.mul_neg_of_neg_of_pos h1 hD'
   have h2 : Z < 0 := by
    rcases Int.lt_or_le Z 0 with h | h
    ·exact h
    ·have := Int.mul_nonneg h (Int.le_of_lt hd'); omega
   rw [decide_eq_true h1, decide_eq_true h2]
  ·have h3 : 0 ≤ z * (D : Int) := Int.mul_nonneg (by omega) (Int.le_of_lt hD')
   have h2 : ¬ Z < 0 := by
    intro h
    have := Int.mul_neg_of_neg_of_pos h hd'; omega
   rw [decide_eq_false h1, decide_eq_false h2]
 refine ⟨?_, h.2⟩
 unfold canN
 rw [← hs, ← h.1, sgn_self]
theorem canD_pos {z : Int} {d : Nat} (hd : d ≠ 0) : canD z d ≠ 0 := by
 unfold canD
 have := Nat.div_pos (Nat.le_of_dvd (Nat.pos_of_ne_zero hd) (Nat.gcd_dvd_right z.natAbs d)) (Nat.gcd_pos_of_pos_right z.natAbs (Nat.pos_of_ne_zero hd))
 omega
theorem can_gcd {z : Int} {d : Nat} (hd : d ≠ 0) : Nat.gcd (canN z d).natAbs (canD z d) = 1 := by
 unfold canN canD
 rw [sgn_abs]
 exact Nat.coprime_div_gcd_div_gcd (Nat.gcd_pos_of_pos_right z.natAbs (Nat.pos_of_ne_zero hd))
theorem can_self {z : Int} {d : Nat} (hd : d ≠ 0) (hg : Nat.gcd z.natAbs d = 1) : canN z d = z ∧ canD z d = d := by
 have := can_uniq hd hd hg rfl
 exact ⟨this.1.symm, this.2.symm⟩
def canW (z : Int) (d : Nat) : Nat := if z = 0 then 0 else canD z d
theorem canN_zero (d : Nat) : canN 0 d = 0 := by unfold canN; rw [Int.natAbs_zero, Nat.zero_div]; rfl
theorem canW_zero (d : Nat) : canW 0 d = 0 := if_pos rfl
theorem canW_den {z : Int} {d : Nat} (hd : d ≠ 0) : denOf (canW z d) = canD z d := by
 unfold canW
 by_cases h : z = 0
 ·subst h; rw [if_pos rfl]; unfold denOf canD; rw [if_pos rfl, Int.natAbs_zero, Nat.gcd_zero_left, Nat.div_self (Nat.pos_of_ne_zero hd)]
 ·rw [if_neg h]; unfold denOf; rw [if_neg (canD_pos hd)]
theorem can_mul {a d b c : Nat} (had : Nat.gcd a d = 1) (hbc : Nat.gcd b c = 1) (hd : d ≠ 0) (hc : c ≠ 0) (s : Bool) :
  sgn s ((a / Nat.gcd a c) * (b / Nat.gcd b d) : Nat) = canN (sgn s (a * b : Nat)) (d * c) ∧ (d / Nat.gcd b d) * (c / Nat.gcd a c) = canD (sgn s (a * b : Nat)) (d * c) := by
 obtain ⟨u, hu⟩ := Nat.gcd_dvd_left a c
 obtain ⟨v, hv⟩ := Nat.gcd_dvd_right a c
 obtain ⟨x, hx⟩ := Nat.gcd_dvd_left b d
 obtain ⟨y, hy⟩ := Nat.gcd_dvd_right b d
 have hG : 0 < Nat.gcd a c := Nat.gcd_pos_of_pos_right a (Nat.pos_of_ne_zero hc)
 have hH : 0 < Nat.gcd b d := Nat.gcd_pos_of_pos_right b (Nat.pos_of_ne_zero hd)
 have c1 := Nat.coprime_div_gcd_div_gcd hG
 have c2 := Nat.coprime_div_gcd_div_gcd hH
 have e1 : a / Nat.gcd a c = u := Nat.div_eq_of_eq_mul_right hG hu
 have e2 : c / Nat.gcd a c = v := Nat.div_eq_of_eq_mul_right hG hv
 have e3 : b / Nat.gcd b d = x := Nat.div_eq_of_eq_mul_right hH hx
 have e4 : d / Nat.gcd b d = y := Nat.div_eq_of_eq_mul_right hH hy
 rw [e1, e2] at c1
 rw [e3, e4] at c2
 rw [e1, e2, e3, e4]
 have c3 : Nat.Coprime u y := Nat.Coprime.coprime_dvd_left ⟨_, (by rw [Nat.mul_comm]; exact hu)⟩ (Nat.Coprime.coprime_dvd_right ⟨_, (by rw [Nat.mul_comm]; exact hy)⟩ (show Nat.Coprime a d from had))
 have c4 : Nat.Coprime x v := Nat.Coprime.coprime_dvd_left ⟨_, (by rw [Nat.mul_comm]; exact hx)⟩ (Nat.Coprime.coprime_dvd_right ⟨_, (by rw [Nat.mul_comm]; exact hv)⟩ (show Nat.Coprime b c from hbc))
 have hcop : Nat.gcd (u * x) (y * v) = 1 := Nat.Coprime.mul_left (Nat.Coprime.mul_right c3 c1) (Nat.Coprime.mul_right c2 c4)
 have hy0 : y ≠ 0 := by intro h; rw [h, Nat.mul_zero] at hy; exact hd hy
 have hv0 : v ≠ 0 := by intro h; rw [h, Nat.mul_zero] at hv; exact hc hv
 refine can_uniq (Nat.mul_ne_zero hy0 hv0) (Nat.mul_ne_zero hd hc) (by rw [sgn_abs]; exact hcop) ?_
 have key : u * x * (d * c) = a * b * (y * v) := by
  conv => lhs; rw [hv, hy]
  conv => rhs; lhs; rw [hu, hx]
  grind
 have kz : ((u * x * (d * c) : Nat) : Int) = ((a * b * (y * v) : Nat) : Int) := congrArg _ key
 cases s
 ·show ((u * x : Nat) : Int) * ((d * c : Nat) : Int) = ((a * b : Nat) : Int) * ((y * v : Nat) : Int)
  rw [← Int.natCast_mul, ← Int.natCast_mul]; exact kz
 ·show -((u * x : Nat) : Int) * ((d * c : Nat) : Int) = -((a * b : Nat) : Int) * ((y * v : Nat) : Int)
  rw [Int.neg_mul, Int.neg_mul, ← Int.natCast_mul, ← Int.natCast_mul]; rw [kz]
theorem can_add {x y : Int} {p q : Nat} (hp : p ≠ 0) (hq : q ≠ 0) (hxp : Nat.gcd x.natAbs p = 1) (hyq : Nat.gcd y.natAbs q = 1) (g : Nat) (hg : g = Nat.gcd p q) (a : Int) (ha : a = x * ((q / g : Nat) : Int) + y * ((p / g : Nat) : Int)) (h : Nat) (hh : h = Nat.gcd a.natAbs g) :
    sgn (decide (a < 0)) (a.natAbs / h : Nat) = canN (x * q + y * p) (p * q) ∧ (p / g) * (q / h) = canD (x * q + y * p) (p * q) := by
  obtain ⟨u, hu⟩ : g ∣ p := by rw [hg]; exact Nat.gcd_dvd_left p q
  obtain ⟨v, hv⟩ : g ∣ q := by rw [hg]; exact Nat.gcd_dvd_right p q
  have hG : 0 < g := by rw [hg]; exact Nat.gcd_pos_of_pos_right p (Nat.pos_of_ne_zero hq)
  have e1 : p / g = u := by rw [hu, Nat.mul_div_cancel_left _ hG]
  have e2 : q / g = v := by rw [hv, Nat.mul_div_cancel_left _ hG]
  have c1 : Nat.Coprime u v := by
    have := Nat.coprime_div_gcd_div_gcd (m := p) (n := q) (by rw [← hg]; exact hG)
    rw [← hg, e1, e2] at this; exact this
  rw [e1, e2] at ha
  rw [e1]
  have hH : 0 < h := by rw [hh]; exact Nat.gcd_pos_of_pos_right _ hG
  obtain ⟨s, hs⟩ : h ∣ a.natAbs := by rw [hh]; exact Nat.gcd_dvd_left _ _
  obtain ⟨t, ht⟩ : h ∣ g := by rw [hh]; exact Nat.gcd_dvd_right _ _
  have e3 : a.natAbs / h = s := by rw [hs, Nat.mul_div_cancel_left _ hH]
  have e4 : g / h = t := by rw [ht, Nat.mul_div_cancel_left _ hH]
  have c2 : Nat.Coprime s t := by
    have := Nat.coprime_div_gcd_div_gcd (m := a.natAbs) (n := g) (by rw [← hh]; exact hH)
    rw [← hh, e3, e4] at this; exact this
  have hqh : q / h = t * v := by
    have : q = h * (t * v) := by rw [hv]; conv => lhs; lhs; rw [ht]
                                 grind
    rw [this, Nat.mul_div_cancel_left _ hH]
  rw [e3, hqh]
  have hxu : Nat.Coprime x.natAbs u := Nat.Coprime.coprime_dvd_right ⟨g, by rw [hu]; exact Nat.mul_comm _ _⟩ (show Nat.Coprime x.natAbs p from hxp)
  have hyv : Nat.Coprime y.natAbs v := Nat.Coprime.coprime_dvd_right ⟨g, by rw [hv]; exact Nat.mul_comm _ _⟩ (show Nat.Coprime y.natAbs q from hyq)
  have cau : Nat.Coprime a.natAbs u := by
    have h1 : Nat.gcd (x * (v : Int)).natAbs u = 1 := by
      rw [Int.natAbs_mul, Int.natAbs_natCast]
      exact Nat.Coprime.mul_left hxu c1.symm
    have h2 : Nat.gcd a.natAbs u ∣ Nat.gcd (x * (v : Int)).natAbs u := by
      refine Nat.dvd_gcd ?_ (Nat.gcd_dvd_right _ _)
      have d1 : ((Nat.gcd a.natAbs u : Nat) : Int) ∣ a := Int.ofNat_dvd_left.2 (Nat.gcd_dvd_left _ _)
      have d2 : ((Nat.gcd a.natAbs u : Nat) : Int) ∣ (u : Int) := Int.natCast_dvd_natCast.2 (Nat.gcd_dvd_right _ _)
      have d3 : ((Nat.gcd a.natAbs u : Nat) : Int) ∣ a - y * (u : Int) := Int.dvd_sub d1 (Int.dvd_trans d2 (Int.dvd_mul_left _ _))
      have e : a - y * (u : Int) = x * (v : Int) := by rw [ha]; omega
      rw [e] at d3
      exact Int.ofNat_dvd_left.1 d3
    rw [h1] at h2
    exact Nat.dvd_one.1 h2
  have cav : Nat.Coprime a.natAbs v := by
    have h1 : Nat.gcd (y * (u : Int)).natAbs v = 1 := by
      rw [Int.natAbs_mul, Int.natAbs_natCast]
      exact Nat.Coprime.mul_left hyv c1
    have h2 : Nat.gcd a.natAbs v ∣ Nat.gcd (y * (u : Int)).natAbs v := by
      refine Nat.dvd_gcd ?_ (Nat.gcd_dvd_right _ _)
      have d1 : ((Nat.gcd a.natAbs v : Nat) : Int) ∣ a := Int.ofNat_dvd_left.2 (Nat.gcd_dvd_left _ _)
      have d2 : ((Nat.gcd a.natAbs v : Nat) : Int) ∣ (v : Int) := Int.natCast_dvd_natCast.2 (Nat.gcd_dvd_right _ _)
      have d3 : ((Nat.gcd a.natAbs v : Nat) : Int) ∣ a - x * (v : Int) := Int.dvd_sub d1 (Int.dvd_trans d2 (Int.dvd_mul_left _ _))
      have e : a - x * (v : Int) = y * (u : Int) := by rw [ha]; omega
      rw [e] at d3
      exact Int.ofNat_dvd_left.1 d3
    rw [h1] at h2
    exact Nat.dvd_one.1 h2
  have csu : Nat.Coprime s u := Nat.Coprime.coprime_dvd_left ⟨h, by rw [Nat.mul_comm]; exact hs⟩ cau
  have csv : Nat.Coprime s v := Nat.Coprime.coprime_dvd_left ⟨h, by rw [Nat.mul_comm]; exact hs⟩ cav
  have hu0 : u ≠ 0 := by intro h; rw [h, Nat.mul_zero] at hu; exact hp hu
  have hv0 : v ≠ 0 := by intro h; rw [h, Nat.mul_zero] at hv; exact hq hv
  have ht0 : t ≠ 0 := by intro h'; rw [h', Nat.mul_zero] at ht; omega
  refine can_uniq (Nat.mul_ne_zero hu0 (Nat.mul_ne_zero ht0 hv0)) (Nat.mul_ne_zero hp hq) (by rw [sgn_abs]; exact Nat.Coprime.mul_right csu (Nat.Coprime.mul_right c2 csv)) ?_
  have ka : sgn (decide (a < 0)) (s : Nat) * (h : Int) = a := by
    have h1 := sgn_self a
    rw [hs] at h1
    refine Eq.trans ?_ h1
    generalize decide (a < 0) = b
    cases b
    · show (s : Int) * h = ((h * s : Nat) : Int)
      rw [Int.natCast_mul, Int.mul_comm]
    · show -(s : Int) * h = -((h * s : Nat) : Int)
      rw [Int.natCast_mul, Int.neg_mul, Int.mul_comm]
  have hs0 : (g : Int) = (h : Int) * (t : Int) := by rw [ht, Int.natCast_mul]
  have hp0 : (p : Int) = (g : Int) * (u : Int) := by rw [hu, Int.natCast_mul]
  have hq0 : (q : Int) = (g : Int) * (v : Int) := by rw [hv, Int.natCast_mul]
  generalize sgn (decide (a < 0)) (s : Nat) = sg at ka ⊢
  rw [Int.natCast_mul, Int.natCast_mul, Int.natCast_mul, hp0, hq0]
  have : x * ((g : Int) * v) + y * ((g : Int) * u) = g * a := by rw [ha]; grind
  rw [this, ← ka]
  rw [hs0]
  grind
end Go.Proofs.YtfdmhefjmnlllaaGreatDoor
end
section
/- Fractions of the library's: a product in lowest terms. -/
namespace Go.Proofs.YtfdmhefjmnlllaaGreatDoor
open Go.RowKit
attribute [local go_sem] sz2 sz3 sz4 sz5 sz6 sz7 sz8
set_option maxHeartbeats 4000000
set_option maxRecDepth 100000
attribute [local irreducible] Calls
attribute [local go_sem] D2.Oper.detAt D2.detUpon D2.relUpon
theorem Rd.nil_of {w : World} {A : Option Addr} {n c a : Nat} (h : Rd w A n c (lim a)) (ha : a = 0) : n = 0 := by
 have := h.len; rw [ha, lim_zero] at this; exact this.symm
theorem br_timesX (g : Nat) (s : Bool) (A D B C : Option Addr) (n cn m cm p cp q cq a d b c : Nat) (hd : d ≠ 0) (hc : c ≠ 0) (had : Nat.gcd a d = 1) (hbc : Nat.gcd b c = 1) (hn : n ≤ 100000) (hm : m ≤ 100000) (hp : p ≤ 100000) (hq : q ≤ 100000) (w : World) (hT : Tz w) (hr : RatRoom w g)
  (hA : Rd w A n cn (lim a)) (hD : Rd w D m cm (lim d)) (hB : Rd w B p cp (lim b)) (hC : Rd w C q cq (lim c)) :
  Calls Tryz.prog 116 #[.pointer (some ⟨g, 0, none⟩), .bool s, .slice A n cn, .slice D m cm, .slice B p cp, .slice C q cq] w
   (FPost w g (canN (sgn s (a * b : Nat)) (d * c)) (canW (sgn s (a * b : Nat)) (d * c))) := by
 by_cases h0 : a = 0 ∨ b = 0
 ·have e : sgn s (a * b : Nat) = 0 := by
   have : a * b = 0 := by rcases h0 with h | h <;> rw [h] <;> simp
   rw [this]; cases s <;> rfl
  rw [e, canN_zero, canW_zero]
  exact br_times_zero g s A D B C n cn m cm p cp q cq (by rcases h0 with h | h; exact Or.inl (hA.nil_of h); exact Or.inr (hB.nil_of h)) w hr
 ·have ha : a ≠ 0 := fun h => h0 (Or.inl h)
  have hb : b ≠ 0 := fun h => h0 (Or.inr h)
  have e : canW (sgn s (a * b : Nat)) (d * c) = canD (sgn s (a * b : Nat)) (d * c) := by
   unfold canW; rw [if_neg]
   have := Nat.mul_ne_zero ha hb
   intro h; have h2 := congrArg Int.natAbs h; rw [sgn_abs, Int.natAbs_zero] at h2; exact this h2
  have k := can_mul had hbc hd hc s
  rw [e, ← k.1, ← k.2]
  exact br_times g s A D B C n cn m cm p cp q cq a d b c ha hb hd hc hn hm hp hq w hT hr hA hD hB hC
namespace D2
def RRow (v : Nat) : List Value → Value → World → Prop := fun _ u w => ∃ (A : Option Addr) (k c : Nat), u = .slice A k c ∧ Rd w A k c (lim v)
theorem stays_row (v : Nat) : Stays (RRow v) := fun _ _ _ _ ⟨A, k, c, h1, h2⟩ he => ⟨A, k, c, h1, h2.ext he⟩
theorem stays_word (N v : Nat) : Stays (RWord N v) := fun _ _ _ _ ⟨A, k, c, h1, h2, h3⟩ he => ⟨A, k, c, h1, h2.ext he, h3⟩
theorem row_at {v : Nat} {vals : List Value} {A : Option Addr} {k c : Nat} {w : World} (h : RRow v vals (.slice A k c) w) : Rd w A k c (lim v) := by
 obtain ⟨A', k', c', e, h2⟩ := h
 simp only [Value.slice.injEq] at e
 obtain ⟨rfl, rfl, rfl⟩ := e
 exact h2
theorem fresh_row {w w' : World} {A : Option Addr} {k c : Nat} : Fresh w (.slice A k c) w' := fun b hb => by simp [blk] at hb
theorem rel_row {f : FuncId} {args : Array Value} {v : Nat} {vals : List Value} {w : World} (h : Calls Tryz.prog f args w fun e w' => ∃ (B : Option Addr) (k l : Nat), e = .returned (.slice B k l) ∧ Hid (Rd w' B k l (lim v)) ∧ Ext w w') :
  Calls Tryz.prog f args w fun e w' => ∃ u, e = .returned u ∧ Ext w w' ∧ Fresh w u w' ∧ RRow v vals u w' :=
 h.mono fun _ _ ⟨B, k, l, h1, h2, h3⟩ => ⟨_, h1, h3, fresh_row, B, k, l, rfl, h2.out⟩
theorem rel_wpost {f : FuncId} {args : Array Value} {N v : Nat} {vals : List Value} {w : World} (hN : N ≤ w.heap.size) (h : Calls Tryz.prog f args w (WPost w v)) :
  Calls Tryz.prog f args w fun e w' => ∃ u, e = .returned u ∧ Ext w w' ∧ Fresh w u w' ∧ RWord N v vals u w' :=
 h.mono fun _ _ ⟨B, k, l, h1, h2, h3⟩ => ⟨_, h1, h3, fresh_row, B, k, l, rfl, h2.out.1, fun a ha => Nat.le_trans hN (h2.out.2 a ha)⟩
end D2
theorem denOf_ne (d : Nat) : denOf d ≠ 0 := by unfold denOf; split <;> omega
theorem den_len {w : World} {g : Nat} {z : Int} {A : Option Addr} {n c d : Nat} {D : Option Addr} {m e L : Nat} (h : RatIs w g z A n c d D m e) (hm : m ≤ L) (h1 : 1 ≤ L) : (lim (denOf d)).length ≤ L := by
 by_cases hd : d = 0
 ·subst hd
  have : (lim (denOf 0)).length = 1 := by kernel_rfl
  omega
 ·rw [show denOf d = d from if_neg hd, h.rd.len]; exact hm
theorem sgn_both (x y : Int) : sgn (!(decide (x < 0) == decide (y < 0))) (x.natAbs * y.natAbs : Nat) = x * y := by
 have hx := sgn_self x
 have hy := sgn_self y
 have k : ∀ (s t : Bool) (a b : Nat), sgn (!(s == t)) (a * b : Nat) = sgn s a * sgn t b := by
  intro s t a b; cases s <;> cases t <;> simp [sgn, Int.natCast_mul, Int.neg_mul, Int.mul_neg]
 rw [k, hx, hy]
theorem br_Mul (g bx b2 : Nat) (x y : Int) (p q : Nat) (hxp : Nat.gcd x.natAbs (denOf p) = 1) (hyq : Nat.gcd y.natAbs (denOf q) = 1) (A : Option Addr) (n c : Nat) (D : Option Addr) (m e : Nat) (B : Option Addr) (n2 c2 : Nat) (C : Option Addr) (m2 e2 : Nat)
  (hn : n ≤ 100000) (hm : m ≤ 100000) (hn2 : n2 ≤ 100000) (hm2 : m2 ≤ 100000) (w : World) (hT : Tz w) (hr : RatRoom w g) (hx : RatIs w bx x A n c p D m e) (hy : RatIs w b2 y B n2 c2 q C m2 e2) :
  Calls Tryz.prog 72 #[.pointer (some ⟨g, 0, none⟩), .pointer (some ⟨bx, 0, none⟩), .pointer (some ⟨b2, 0, none⟩)] w
   (FPost w g (canN (x * y) (denOf p * denOf q)) (canW (x * y) (denOf p * denOf q))) := by
 have HX := Lib.hid hx
 have HY := Lib.hid hy
 have HR := Lib.hid hr
 have HT := Lib.hid hT
 have lx := hx.int.room.lt
 have x0 := hx.int.neg
 have x1 := hx.int.words
 have ly := hy.int.room.lt
 have y0 := hy.int.neg
 have y1 := hy.int.words
 simp only [Nat.zero_add] at x1 y1
 have dl := den_len hx hm (by decide)
 have dl2 := den_len hy hm2 (by decide)
 have kX : ∀ w', Ext w w' → Calls Tryz.prog 90 #[.pointer (some ⟨bx, 0, none⟩)] w' fun e' w'' => ∃ (B : Option Addr) (k l : Nat), e' = .returned (.slice B k l) ∧ Hid (Rd w'' B k l (lim (denOf p))) ∧ Ext w' w'' := fun w' he => (br_below _ _ _ _ _ _ _ _ _ w' (HX.out.ext he)).mono fun _ _ ⟨B, k, l, h1, h2, h3⟩ => ⟨B, k, l, h1, h2.out.1, h3⟩
 have kY : ∀ w', Ext w w' → Calls Tryz.prog 90 #[.pointer (some ⟨b2, 0, none⟩)] w' fun e' w'' => ∃ (B : Option Addr) (k l : Nat), e' = .returned (.slice B k l) ∧ Hid (Rd w'' B k l (lim (denOf q))) ∧ Ext w' w'' := fun w' he => (br_below _ _ _ _ _ _ _ _ _ w' (HY.out.ext he)).mono fun _ _ ⟨B, k, l, h1, h2, h3⟩ => ⟨B, k, l, h1, h2.out.1, h3⟩
 have kT : ∀ w' P k l Q k2 l2, Ext w w' → Rd w' P k l (lim (denOf p)) → Rd w' Q k2 l2 (lim (denOf q)) → Calls Tryz.prog 116 #[.pointer (some ⟨g, 0, none⟩), .bool (!(decide (x < 0) == decide (y < 0))), .slice A n c, .slice P k l, .slice B n2 c2, .slice Q k2 l2] w' (FPost w g (canN (x * y) (denOf p * denOf q)) (canW (x * y) (denOf p * denOf q))) := fun w' P k l Q k2 l2 he h1 h2 => by
  have := br_timesX g (!(decide (x < 0) == decide (y < 0))) A P B Q n c k l n2 c2 k2 l2 _ _ _ _ (denOf_ne p) (denOf_ne q) hxp hyq hn (by rw [← h1.len]; exact dl) hn2 (by rw [← h2.len]; exact dl2) w' (HT.out.ext he) (HR.out.ext he) (HX.out.int.rd.ext he) h1 (HY.out.int.rd.ext he) h2
  rw [sgn_both] at this
  refine this.mono ?_
  rintro e w'' ⟨rfl, A', n', c', D', m', k', h3, h4⟩
  exact ⟨rfl, A', n', c', D', m', k', ⟨h3.out.1, h3.out.2.1.mono he, h3.out.2.2.mono he⟩, (Tch.of he).trans h4⟩
 clear hx hy hr hT
 go_enter Tryz.func72, Tryz.ntmps72
 go_wp2
 refine D2.wp_drawn_tail 26 (D2.tab [(18, D2.RRow (denOf p)), (25, D2.RRow (denOf q))]) (by kernel_rfl) (by kernel_rfl) (by kernel_rfl) (D2.tab_stays (by simp [D2.stays_row])) (fun hq hqf => ?_)
 simp only [List.take_succ_cons, List.take_zero, List.drop_succ_cons, List.drop_zero]
 have z0 := fun nq => (hq nq bx 0 lx).trans x0
 have z1 := fun nq => (hq nq bx 1 lx).trans x1
 have z2 := fun nq => (hq nq b2 0 ly).trans y0
 have z3 := fun nq => (hq nq b2 1 ly).trans y1
 iterate 18
  (refine D2.wpK_det rfl (fun K hK => ?_)
   go_simp
   first
    | (refine hK _ ?_; clear hK K)
    | (apply Exists.intro; refine ⟨fun x => ?_, hK _ ?_⟩; (first | exact z0 x | exact z1 x | exact z2 x | exact z3 x); clear hK K))
 refine D2.wpK_rel _ rfl rfl ?_ ?_
 ·rintro _ ⟨nn, rfl⟩ _
  unfold D2.Oper.relAt
  go_simp
  exact D2.rel_row (kX _ nn.use)
 rintro v ⟨_, ⟨nn, rfl⟩, hr⟩
 obtain ⟨A5, k5, c5, rfl, -⟩ := hr
 clear nn
 iterate 6
  (refine D2.wpK_det rfl (fun K hK => ?_)
   go_simp
   first
    | (refine hK _ ?_; clear hK K)
    | (apply Exists.intro; refine ⟨fun x => ?_, hK _ ?_⟩; (first | exact z0 x | exact z1 x | exact z2 x | exact z3 x); clear hK K))
 refine D2.wpK_rel _ rfl rfl ?_ ?_
 ·rintro _ ⟨nn, rfl⟩ _
  unfold D2.Oper.relAt
  go_simp
  exact D2.rel_row (kY _ nn.use)
 rintro v ⟨_, ⟨nn, rfl⟩, hr⟩
 obtain ⟨A6, k6, c6, rfl, -⟩ := hr
 clear nn
 refine D2.wpK_nil ?_
 intro nq hG
 have r5 : D2.RRow (denOf p) [] (.slice A5 k5 c5) nq.out := by have := hG.fact 18; simp [D2.Facts.put] at this; exact this
 have r6 : D2.RRow (denOf q) [] (.slice A6 k6 c6) nq.out := by have := hG.fact 25; simp [D2.Facts.put] at this; exact this
 have hR5 := Lib.hid (D2.row_at r5)
 have hR6 := Lib.hid (D2.row_at r6)
 have hE := Lib.hid nq.use
 clear r5 r6 hG
 go_wp2_with (first
  | (go_at_call 116; (with_reducible refine (kT _ A5 k5 c5 A6 k6 c6 hE.out hR5.out hR6.out).mono ?_); rintro e w9 ⟨rfl, A9, n9, c9, D9, m9, k9, hI9, xt9⟩)
  )
 refine bodyPost_ret (v := .pointer (some ⟨g, 0, none⟩)) ?h rfl ⟨rfl, A9, n9, c9, D9, m9, k9, hI9, xt9⟩
 case h => simp [results, Tryz.results72, go_sem]
end Go.Proofs.YtfdmhefjmnlllaaGreatDoor
end
section
/- Whole numbers of the library's: products, differences, quotients. -/
namespace Go.Proofs.YtfdmhefjmnlllaaGreatDoor
open Go.RowKit
attribute [local go_sem] sz2 sz3 sz4 sz5 sz6 sz7 sz8
set_option maxHeartbeats 4000000
set_option maxRecDepth 100000
attribute [local irreducible] Calls
attribute [local go_sem] D2.Oper.detAt D2.detUpon D2.relUpon
namespace D2
def RQuo (N q r : Nat) : List Value → Value → World → Prop := fun _ u w => ∃ (A : Option Addr) (k c : Nat) (B : Option Addr) (m d : Nat), u = .tuple #[.slice A k c, .slice B m d] ∧ (Rd w A k c (lim q) ∧ ∀ a, A = some a → N ≤ a.block) ∧ Rd w B m d (lim r) ∧ ∀ a, B = some a → N ≤ a.block
theorem stays_quo (N q r : Nat) : Stays (RQuo N q r) := fun _ _ _ _ ⟨A, k, c, B, m, d, h1, ⟨h2, h3⟩, h4, h5⟩ he => ⟨A, k, c, B, m, d, h1, ⟨h2.ext he, h3⟩, h4.ext he, h5⟩
theorem quo_at {N q r : Nat} {vals : List Value} {A : Option Addr} {k c : Nat} {B : Option Addr} {m d : Nat} {w : World} (h : RQuo N q r vals (.tuple #[.slice A k c, .slice B m d]) w) : (Rd w A k c (lim q) ∧ ∀ a, A = some a → N ≤ a.block) ∧ Rd w B m d (lim r) ∧ ∀ a, B = some a → N ≤ a.block := by
 obtain ⟨A', k', c', B', m', d', e, h1, h2⟩ := h
 cases e
 exact ⟨h1, h2⟩
theorem rel_quo {f : FuncId} {args : Array Value} {N q r : Nat} {vals : List Value} {w : World} (hN : N ≤ w.heap.size) (h : Calls Tryz.prog f args w (QPost w q r)) :
  Calls Tryz.prog f args w fun e w' => ∃ u, e = .returned u ∧ Ext w w' ∧ Fresh w u w' ∧ RQuo N q r vals u w' :=
 h.mono fun _ _ ⟨A, k, c, B, m, d, h1, h2, h3, h4⟩ => ⟨_, h1, h4, (fun b hb => by simp [blk] at hb), A, k, c, B, m, d, rfl, ⟨h2.out.1, fun a ha => Nat.le_trans hN (h2.out.2 a ha)⟩, h3.out.1, fun a ha => Nat.le_trans hN (h3.out.2 a ha)⟩
end D2
theorem sgn_turn (y : Int) : sgn (!decide (y < 0)) y.natAbs = -y := sgn_neg y
theorem bi_Sub (b o g p h q : Nat) (x y : Int) (A : Option Addr) (n c : Nat) (B : Option Addr) (m d : Nat) (hn : n ≤ 1000000) (hm : m ≤ 1000000) (w : World) (hr : Room w b o) (hx : IntIs w g p x A n c) (hy : IntIs w h q y B m d) :
  Calls Tryz.prog 128 #[.pointer (some ⟨b, o, none⟩), .pointer (some ⟨g, p, none⟩), .pointer (some ⟨h, q, none⟩)] w (IPost w b o (x - y)) := by
 have HX := Lib.hid hx
 have HY := Lib.hid hy
 have HR := Lib.hid hr
 have lx := hx.room.lt
 have x0 := hx.neg
 have x1 := hx.words
 have ly := hy.room.lt
 have y0 := hy.neg
 have y1 := hy.words
 have hbl := hr.lt
 clear hx hy hr
 go_enter Tryz.func128, Tryz.ntmps128
 go_wp2
 refine wp_aft_tail 18 (by kernel_rfl) (by kernel_rfl) (by kernel_rfl) (fun hq hqf => ?_)
 simp only [List.take_succ_cons, List.take_zero, List.drop_succ_cons, List.drop_zero]
 repeat (go_big_quiet_step (first | fail
  ))
 refine wpQuiet_nil ?_
 rintro _ ⟨nq, rfl⟩
 have xl := ext_lt nq.use
 have xz := ext_size nq.use
 try simp at xz
 have hE := Lib.hid nq.use
 go_wp2_with (first
  | (go_at_call 166; (with_reducible refine (bi_added b o A n c x.natAbs _ B m d y.natAbs _ hn hm _ (HR.out.ext hE.out) (HX.out.rd.ext hE.out) (HY.out.rd.ext hE.out)).mono ?_); rintro e w3 ⟨rfl, A3, n3, c3, hI3, xt3⟩)
  )
 refine bodyPost_ret (v := .pointer (some ⟨b, o, none⟩)) ?h rfl ⟨rfl, A3, n3, c3, ⟨by have := hI3.out.1; rwa [sgn_self, sgn_turn, ← Int.sub_eq_add_neg] at this, hI3.out.2.mono hE.out⟩, (Tch.of hE.out).trans xt3⟩
 case h => simp [results, Tryz.results128, go_sem]
theorem bi_Mul (b o g p h q : Nat) (x y : Int) (A : Option Addr) (n c : Nat) (B : Option Addr) (m d : Nat) (hn : n ≤ 100000) (hm : m ≤ 100000) (w : World) (hr : Room w b o) (hx : IntIs w g p x A n c) (hy : IntIs w h q y B m d) :
  Calls Tryz.prog 114 #[.pointer (some ⟨b, o, none⟩), .pointer (some ⟨g, p, none⟩), .pointer (some ⟨h, q, none⟩)] w (IPost w b o (x * y)) := by
 have HX := Lib.hid hx
 have HY := Lib.hid hy
 have HR := Lib.hid hr
 have lx := hx.room.lt
 have x0 := hx.neg
 have x1 := hx.words
 have ly := hy.room.lt
 have y0 := hy.neg
 have y1 := hy.words
 have hbl := hr.lt
 have kM : ∀ w', Ext w w' → Calls Tryz.prog 121 #[.slice A n c, .slice B m d] w' (WPost w' (x.natAbs * y.natAbs)) := fun w' he => bw_mul (n + m) A B n c m d _ _ rfl (by omega) w' (HX.out.rd.ext he) (HY.out.rd.ext he)
 clear hx hy hr
 go_enter Tryz.func114, Tryz.ntmps114
 go_wp2
 refine D2.wp_drawn_tail 19 (D2.tab [(18, RWord w.heap.size (x.natAbs * y.natAbs))]) (by kernel_rfl) (by kernel_rfl) (by kernel_rfl) (D2.tab_stays (by simp [D2.stays_word])) (fun hq hqf => ?_)
 simp only [List.take_succ_cons, List.take_zero, List.drop_succ_cons, List.drop_zero]
 have z0 := fun nq => (hq nq g p lx).trans x0
 have z1 := fun nq => (hq nq g (p + 1) lx).trans x1
 have z2 := fun nq => (hq nq h q ly).trans y0
 have z3 := fun nq => (hq nq h (q + 1) ly).trans y1
 iterate 18
  (refine D2.wpK_det rfl (fun K hK => ?_)
   go_simp
   first
    | (refine hK _ ?_; clear hK K)
    | (apply Exists.intro; refine ⟨fun x => ?_, hK _ ?_⟩; (first | exact z0 x | exact z1 x | exact z2 x | exact z3 x | (simp [z0, z1, z2, z3]; rfl)); clear hK K))
 refine D2.wpK_rel _ rfl rfl ?_ ?_
 ·rintro _ ⟨nn, rfl⟩ _
  unfold D2.Oper.relAt
  go_simp
  exact D2.rel_wpost (ext_size nn.use) (kM _ nn.use)
 rintro v ⟨_, ⟨nn, rfl⟩, hr⟩
 obtain ⟨A9, k9, c9, rfl, -, -⟩ := hr
 clear nn
 refine D2.wpK_nil ?_
 intro nq2 hG
 have r9 : RWord w.heap.size (x.natAbs * y.natAbs) [] (.slice A9 k9 c9) nq2.out := by have := hG.fact 18; simp [D2.Facts.put] at this; exact this
 have hR9 := Lib.hid (rword_at r9)
 have hF9 : Fr w A9 := hR9.out.2
 have hO9 := hF9.off HR.out.lt k9
 clear r9 hG
 go_wp2_with (first
  | (go_at_call 88; (with_reducible refine (bi_set b o _ A9 k9 c9 (x.natAbs * y.natAbs) _ (HR.out.ext nq2.use) hR9.out.1 hO9).mono ?_); rintro e w3 ⟨rfl, hI3, xt3⟩)
  )
 refine bodyPost_ret (v := .pointer (some ⟨b, o, none⟩)) ?h rfl ⟨rfl, A9, k9, c9, ⟨by have := hI3.out; rwa [sgn_both] at this, hF9⟩, (Tch.of nq2.use).trans xt3⟩
 case h => simp [results, Tryz.results114, go_sem]
abbrev QRPost (w : World) (b g : Nat) (q r : Int) : Ending → World → Prop := fun e w' => e = .returned (.tuple #[.pointer (some ⟨b, 0, none⟩), .pointer (some ⟨g, 0, none⟩)]) ∧ ∃ (A : Option Addr) (n c : Nat) (B : Option Addr) (m d : Nat) (w1 : World),
 Hid (IntIs w' b 0 q A n c ∧ Fr w A ∧ IntIs w' g 0 r B m d ∧ Fr w B) ∧ Tch g w w1 ∧ Tch b w1 w'
theorem bi_QuoRem (b g bx b2 : Nat) (x y : Int) (hy0 : y ≠ 0) (hbg : b ≠ g) (A : Option Addr) (n c : Nat) (B : Option Addr) (m d : Nat) (hn : n ≤ 400000) (w : World) (hr : Room w b 0) (hr2 : Room w g 0) (hx : IntIs w bx 0 x A n c) (hy : IntIs w b2 0 y B m d) :
  Calls Tryz.prog 127 #[.pointer (some ⟨b, 0, none⟩), .pointer (some ⟨bx, 0, none⟩), .pointer (some ⟨b2, 0, none⟩), .pointer (some ⟨g, 0, none⟩)] w
   (QRPost w b g (sgn (!(decide (x < 0) == decide (y < 0))) (x.natAbs / y.natAbs)) (sgn (decide (x < 0)) (x.natAbs % y.natAbs))) := by
 have HX := Lib.hid hx
 have HY := Lib.hid hy
 have HR := Lib.hid hr
 have HR2 := Lib.hid hr2
 have lx := hx.room.lt
 have x0 := hx.neg
 have x1 := hx.words
 have ly := hy.room.lt
 have y0 := hy.neg
 have y1 := hy.words
 simp only [Nat.zero_add] at x1 y1
 have kD : ∀ w', Ext w w' → Calls Tryz.prog 162 #[.slice A n c, .slice B m d] w' (QPost w' (x.natAbs / y.natAbs) (x.natAbs % y.natAbs)) := fun w' he => bw_div A B n c m d _ _ (by omega) hn w' (HX.out.rd.ext he) (HY.out.rd.ext he)
 clear hx hy hr hr2
 go_enter Tryz.func127, Tryz.ntmps127
 go_wp2
 refine wp_aft (by kernel_rfl) (by kernel_rfl) (fun hq hqf => ?_)
 repeat (go_big_quiet_step (first | fail
  ))
 refine wpQuiet_nil ?_
 rintro _ ⟨nq, rfl⟩
 have xl := ext_lt nq.use
 have xz := ext_size nq.use
 try simp at xz
 have hE := Lib.hid nq.use
 clear hq hqf
 have z0 := (Below.cell (p := ⟨bx, 0, none⟩) hE.out lx).trans x0
 have z1 := (Below.cell (p := ⟨bx, 1, none⟩) hE.out lx).trans x1
 have z2 := (Below.cell (p := ⟨b2, 0, none⟩) hE.out ly).trans y0
 have z3 := (Below.cell (p := ⟨b2, 1, none⟩) hE.out ly).trans y1
 have lx' := ext_lt hE.out _ lx
 have ly' := ext_lt hE.out _ ly
 generalize nq.out = W at *
 clear nq x0 x1 y0 y1
 go_upto_region 3 with (fail)
 refine D2.wp_drawn (D2.tab [(8, D2.RQuo W.heap.size (x.natAbs / y.natAbs) (x.natAbs % y.natAbs))]) (by kernel_rfl) (by kernel_rfl) (D2.tab_stays (by simp [D2.stays_quo])) (fun hq hqf => ?_)
 have u1 := fun nq => (hq nq bx 1 lx').trans z1
 have u3 := fun nq => (hq nq b2 1 ly').trans z3
 iterate 8
  (refine D2.wpK_det rfl (fun K hK => ?_)
   go_simp
   first
    | (refine hK _ ?_; clear hK K)
    | (apply Exists.intro; refine ⟨fun x => ?_, hK _ ?_⟩; (first | exact u1 x | exact u3 x | (simp [u1, u3]; rfl)); clear hK K))
 refine D2.wpK_rel _ rfl rfl ?_ ?_
 ·rintro _ ⟨nn, rfl⟩ _
  unfold D2.Oper.relAt
  go_simp
  exact D2.rel_quo (ext_size nn.use) (kD _ (jT hE.out nn.use))
 rintro v ⟨_, ⟨nn, rfl⟩, hr⟩
 obtain ⟨A5, k5, c5, B5, m5, d5, rfl, -⟩ := hr
 clear nn
 iterate 5
  (refine D2.wpK_det rfl (fun K hK => ?_)
   go_simp
   refine hK _ ?_; clear hK K)
 refine D2.wpK_nil ?_
 intro nq hG
 have r5 : D2.RQuo W.heap.size (x.natAbs / y.natAbs) (x.natAbs % y.natAbs) [] (.tuple #[.slice A5 k5 c5, .slice B5 m5 d5]) nq.out := by have := hG.fact 8; simp [D2.Facts.put] at this; exact this
 have hR5 := Lib.hid (D2.quo_at r5)
 have hE2 := Lib.hid (jT hE.out nq.use)
 have fA : Fr w A5 := fun a ha => Nat.le_trans hE.out.size (hR5.out.1.2 a ha)
 have fB : Fr w B5 := fun a ha => Nat.le_trans hE.out.size (hR5.out.2.2 a ha)
 have oAb := fA.off HR.out.lt k5
 have oAg := fA.off HR2.out.lt k5
 have oBb := fB.off HR.out.lt m5
 have oBg := fB.off HR2.out.lt m5
 clear r5 hG u1 u3 hq hqf kD
 generalize nq.out = W2 at *
 clear nq
 clear z0 z1 z2 z3
 have HG := Lib.hid hbg
 have HY0 := Lib.hid hy0
 clear hbg hy0
 go_upto_region 5 with (first
  | (go_at_call 88; (with_reducible refine (bi_set g 0 _ B5 m5 d5 (x.natAbs % y.natAbs) _ (HR2.out.ext hE2.out) hR5.out.2.1 oBg).mono ?_); rintro e w3 ⟨rfl, hI3, xt3⟩)
  )
 have HI3 := Lib.hid (hI3.out)
 have HT3 := Lib.hid xt3
 clear hI3 xt3
 go_wp2_with (first
  | (go_at_call 88; (with_reducible refine (bi_set b 0 _ A5 k5 c5 (x.natAbs / y.natAbs) _ ((HR.out.ext hE2.out).tch HT3.out HG.out) (hR5.out.1.1.tch HT3.out oAg) oAb).mono ?_); rintro e w4 ⟨rfl, hI4, xt4⟩)
  )
 refine bodyPost_ret (v := .tuple #[.pointer (some ⟨b, 0, none⟩), .pointer (some ⟨g, 0, none⟩)]) ?h rfl ⟨rfl, A5, k5, c5, B5, m5, d5, w3, ⟨hI4.out, fA, HI3.out.tch xt4 (Ne.symm HG.out) oBb, fB⟩, (Tch.of hE2.out).trans HT3.out, xt4⟩
 case h => simp [results, Tryz.results127, go_sem]
end Go.Proofs.YtfdmhefjmnlllaaGreatDoor
end
section
/- The order of two fractions, plainly. -/
namespace Go.Proofs.YtfdmhefjmnlllaaGreatDoor
theorem sign_pos_mul (x : Int) {q : Nat} (hq : q ≠ 0) : (x * (q : Int)).sign = x.sign := by
 rw [Int.sign_mul, Int.sign_eq_one_of_pos (show (0 : Int) < q by omega), Int.mul_one]
theorem sign_three (z : Int) : (z < 0 ∧ z.sign = -1) ∨ (z = 0 ∧ z.sign = 0) ∨ (0 < z ∧ z.sign = 1) := by
 rcases Int.lt_trichotomy z 0 with h | h | h
 ·exact .inl ⟨h, Int.sign_eq_neg_one_of_neg h⟩
 ·exact .inr (.inl ⟨h, by rw [h]; rfl⟩)
 ·exact .inr (.inr ⟨h, Int.sign_eq_one_of_pos h⟩)
theorem rcmp_far {x y : Int} {p q : Nat} (hp : p ≠ 0) (hq : q ≠ 0) (h : x.sign ≠ y.sign) : (x * (q : Int) - y * (p : Int)).sign = if x.sign < y.sign then -1 else 1 := by
 have a := sign_pos_mul x hq
 have b := sign_pos_mul y hp
 generalize x * (q : Int) = X at a ⊢
 generalize y * (p : Int) = Y at b ⊢
 rw [← a, ← b] at h ⊢
 rcases sign_three X with ⟨h1, h2⟩ | ⟨h1, h2⟩ | ⟨h1, h2⟩ <;> rcases sign_three Y with ⟨k1, k2⟩ | ⟨k1, k2⟩ | ⟨k1, k2⟩ <;> rw [h2, k2] at h ⊢ <;>
  first
   | exact absurd rfl h
   | (rw [if_pos (by decide)]; exact Int.sign_eq_neg_one_of_neg (by omega))
   | (rw [if_neg (by decide)]; exact Int.sign_eq_one_of_pos (by omega))
theorem rcmp_nil {x y : Int} {p q : Nat} (hx : x = 0) (hy : y = 0) : (x * (q : Int) - y * (p : Int)).sign = 0 := by
 rw [hx, hy]; simp
theorem rcmp_near {x y : Int} {p q : Nat} (h : x.sign = y.sign) (h0 : x ≠ 0) :
  (x * (q : Int) - y * (p : Int)).sign = if x < 0 then - cmpN (x.natAbs * q) (y.natAbs * p) else cmpN (x.natAbs * q) (y.natAbs * p) := by
 rw [cmpN_sign]
 rcases sign_three x with ⟨h1, h2⟩ | ⟨h1, h2⟩ | ⟨h1, h2⟩
 ·rcases sign_three y with ⟨k1, k2⟩ | ⟨k1, k2⟩ | ⟨k1, k2⟩
  ·rw [if_pos h1, ← Int.sign_neg]
   congr 1
   obtain ⟨a, rfl⟩ : ∃ a : Nat, x = -(a : Int) := ⟨x.natAbs, by omega⟩
   obtain ⟨b, rfl⟩ : ∃ b : Nat, y = -(b : Int) := ⟨y.natAbs, by omega⟩
   simp only [Int.natAbs_neg, Int.natAbs_natCast, Int.natCast_mul]
   grind
  ·rw [h2, k2] at h; exact absurd h (by decide)
  ·rw [h2, k2] at h; exact absurd h (by decide)
 ·exact absurd h1 h0
 ·rcases sign_three y with ⟨k1, k2⟩ | ⟨k1, k2⟩ | ⟨k1, k2⟩
  ·rw [h2, k2] at h; exact absurd h (by decide)
  ·rw [h2, k2] at h; exact absurd h (by decide)
  ·rw [if_neg (by omega)]
   congr 1
   obtain ⟨a, rfl⟩ : ∃ a : Nat, x = (a : Int) := ⟨x.natAbs, by omega⟩
   obtain ⟨b, rfl⟩ : ∃ b : Nat, y = (b : Int) := ⟨y.natAbs, by omega⟩
   simp only [Int.natAbs_natCast, Int.natCast_mul]
theorem wrap_neg_cmp (a b : Nat) : IntKind.i64.wrap (-(cmpN a b)) = -(cmpN a b) := by
 unfold cmpN
 split
 ·decide
 ·split <;> decide
end Go.Proofs.YtfdmhefjmnlllaaGreatDoor
end
