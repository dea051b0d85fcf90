/- Lemmas of this proof, laid together: RatD, RatE, IntG, IntH, IntI, LookQ, RatH, RatI, RatP, RatJ, IntJ, IntO, RndR, IntK, RatK0, RatK, RatL, RatM, RatN. -/
import Derived.Test.YtkhkoeibpkglkaaGreatDoorMg17
import Derived.Deep.DeepCutAuto
import Derived.Deep.RegionWith
import Derived.Deep.LoopGhost
import Derived.Test.YtkhkoeibpkglkaaGreatDoorMg08
import Derived.Test.YtkhkoeibpkglkaaGreatDoorMg03
import Derived.Test.YtkhkoeibpkglkaaGreatDoorMg13
set_option linter.unusedSimpArgs false
set_option linter.unusedVariables false
section
/- Fractions of the library's: the sign; told. -/
namespace Go.Proofs.YtkhkoeibpkglkaaGreatDoor
open Go.RowKit
attribute [local go_sem] sz2 sz3 sz4 sz5 sz6 sz7 sz8
set_option maxHeartbeats 4000000
set_option maxRecDepth 100000
attribute [local irreducible] Calls
theorem int_nil {w : World} {b o : Nat} {z : Int} {A : Option Addr} {n c : Nat} (h : IntIs w b o z A n c) : n = 0 ↔ z = 0 := by
  rw [← h.rd.len]
  constructor
  · intro e; have := lim_nil.1 (List.eq_nil_of_length_eq_zero e); omega
  · intro e; subst e; simp [lim_zero]
theorem bi_Sign (b o : Nat) (z : Int) (A : Option Addr) (n c : Nat) (w : World) (hx : IntIs w b o z A n c) :
    Calls Tryz.prog 63 #[.pointer (some ⟨b, o, none⟩)] w fun e w' => e = .returned (.int .i64 z.sign) ∧ Ext w w' := by
  have x0 := hx.neg
  have x1 := hx.words
  have hn := int_nil hx
  clear hx
  by_cases hz : z = 0
  · obtain rfl : n = 0 := hn.2 hz
    subst hz
    clear hn
    go_enter Tryz.func63, Tryz.ntmps63
    go_wp2
    refine bodyPost_ret (v := .int .i64 0) ?h rfl ⟨rfl, ext_refl _⟩
    case h => simp [results, Tryz.results63, go_sem]
  · have h1 : ((n : Int) == 0) = false := by rw [beq_eq_false_iff_ne]; omega
    clear hn
    by_cases hs : z < 0
    · have e1 : decide (z < 0) = true := decide_eq_true hs
      rw [e1] at x0
      have e2 : z.sign = -1 := Int.sign_eq_neg_one_of_neg hs
      clear hs e1 hz
      go_enter Tryz.func63, Tryz.ntmps63
      go_wp2
      refine bodyPost_ret (v := .int .i64 (-1)) ?h rfl ⟨by rw [e2], ext_refl _⟩
      case h => simp [results, Tryz.results63, go_sem]
    · have e1 : decide (z < 0) = false := decide_eq_false hs
      rw [e1] at x0
      have e2 : z.sign = 1 := Int.sign_eq_one_of_pos (by omega)
      clear hs e1 hz
      go_enter Tryz.func63, Tryz.ntmps63
      go_wp2
      refine bodyPost_ret (v := .int .i64 1) ?h rfl ⟨by rw [e2], ext_refl _⟩
      case h => simp [results, Tryz.results63, go_sem]
theorem br_Sign (g : Nat) (z : Int) (A : Option Addr) (n c : Nat) (w : World) (hx : IntIs w g 0 z A n c) :
    Calls Tryz.prog 124 #[.pointer (some ⟨g, 0, none⟩)] w fun e w' => e = .returned (.int .i64 z.sign) ∧ Ext w w' := by
  have HX := Lib.hid hx
  clear hx
  go_enter Tryz.func124, Tryz.ntmps124
  go_wp2_with (first
    | (go_at_call 63; (with_reducible refine (bi_Sign g 0 z A n c _ HX.out).mono ?_); rintro e w2 ⟨rfl, xb2⟩)
   )
  refine bodyPost_ret (v := .int .i64 z.sign) ?h rfl ⟨rfl, xb2⟩
  case h => simp [results, Tryz.results124, go_sem]
theorem bits_len (a : Nat) : 524288 < bitsOf a ↔ 16384 < (lim a).length := by
  by_cases h : a = 0
  · subst h; simp [bitsOf, lim_zero]
  · obtain ⟨h0, h1, h2⟩ := bitsOf_spec h
    obtain ⟨h3, h4⟩ := lim_len h
    have h5 := lim_lt a
    have e1 : ∀ k, Bs ^ k = 2 ^ (32 * k) := fun k => by rw [Nat.pow_mul]
    rw [e1] at h3 h5
    have h6 : 32 * ((lim a).length - 1) < bitsOf a := (Nat.pow_lt_pow_iff_right (a := 2) (by decide)).1 (Nat.lt_of_le_of_lt h3 h2)
    have h7 : bitsOf a - 1 < 32 * (lim a).length := (Nat.pow_lt_pow_iff_right (a := 2) (by decide)).1 (Nat.lt_of_le_of_lt h1 h5)
    omega
/-- A fraction of the program's. -/
abbrev ratV (neg : Bool) (A : Option Addr) (n c : Nat) (D : Option Addr) (m k : Nat) : Value := .agg #[.bool neg, .slice A n c, .slice D m k]
theorem res3 (w wx : World) (t : TypeId) (he : Ext (w.alloc (Obj.cells #[.bool false, .slice none 0 0, .slice none 0 0] t)) wx) :
    wx.cell? ⟨w.heap.size, 0, none⟩ = some (.bool false) ∧ wx.cell? ⟨w.heap.size, 1, none⟩ = some (.slice none 0 0) ∧ wx.cell? ⟨w.heap.size, 2, none⟩ = some (.slice none 0 0) ∧
    wx.frozen? ⟨w.heap.size, 0, none⟩ = false ∧ wx.frozen? ⟨w.heap.size, 1, none⟩ = false ∧ wx.frozen? ⟨w.heap.size, 2, none⟩ = false ∧ w.heap.size < wx.heap.size := by
  have hl : w.heap.size < (w.alloc (Obj.cells #[.bool false, .slice none 0 0, .slice none 0 0] t)).heap.size := by simp
  exact ⟨(Below.cell (p := ⟨w.heap.size, 0, none⟩) he hl).trans (by simp [go_sem]), (Below.cell (p := ⟨w.heap.size, 1, none⟩) he hl).trans (by simp [go_sem]), (Below.cell (p := ⟨w.heap.size, 2, none⟩) he hl).trans (by simp [go_sem]),
    (Below.frozen (p := ⟨w.heap.size, 0, none⟩) he hl).trans (by simp [go_sem]), (Below.frozen (p := ⟨w.heap.size, 1, none⟩) he hl).trans (by simp [go_sem]), (Below.frozen (p := ⟨w.heap.size, 2, none⟩) he hl).trans (by simp [go_sem]), ext_lt he _ hl⟩
theorem set3 {W : World} {b : Nat} {x0 x1 x2 : Value} (r0 : W.cell? ⟨b, 0, none⟩ = some x0) (r1 : W.cell? ⟨b, 1, none⟩ = some x1) (r2 : W.cell? ⟨b, 2, none⟩ = some x2) (v0 v1 v2 : Value) :
    (((W.setCell ⟨b, 0, none⟩ v0).setCell ⟨b, 1, none⟩ v1).setCell ⟨b, 2, none⟩ v2).cell? ⟨b, 0, none⟩ = some v0 ∧ (((W.setCell ⟨b, 0, none⟩ v0).setCell ⟨b, 1, none⟩ v1).setCell ⟨b, 2, none⟩ v2).cell? ⟨b, 1, none⟩ = some v1 ∧
    (((W.setCell ⟨b, 0, none⟩ v0).setCell ⟨b, 1, none⟩ v1).setCell ⟨b, 2, none⟩ v2).cell? ⟨b, 2, none⟩ = some v2 := by
  refine ⟨?_, ?_, ?_⟩
  · rw [World.cell?_setCell_other _ _ _ _ (by intro e; simp at e), World.cell?_setCell_other _ _ _ _ (by intro e; simp at e)]; exact World.cell?_setCell_same _ _ _ r0
  · rw [World.cell?_setCell_other _ _ _ _ (by intro e; simp at e)]
    refine World.cell?_setCell_same _ _ _ (u := x1) ?_
    rw [World.cell?_setCell_other _ _ _ _ (by intro e; simp at e)]; exact r1
  · refine World.cell?_setCell_same _ _ _ (u := x2) ?_
    rw [World.cell?_setCell_other _ _ _ _ (by intro e; simp at e), World.cell?_setCell_other _ _ _ _ (by intro e; simp at e)]; exact r2
theorem ext_set3 {w W : World} (h : Ext w W) {b : Nat} (hb : w.heap.size ≤ b) (v0 v1 v2 : Value) : Ext w (((W.setCell ⟨b, 0, none⟩ v0).setCell ⟨b, 1, none⟩ v1).setCell ⟨b, 2, none⟩ v2) :=
  ext_setCell (ext_setCell (ext_setCell h hb _) hb _) hb _
theorem Rd.set3 {w : World} {A : Option Addr} {n c : Nat} {xs : List Nat} (h : Rd w A n c xs) {b : Nat} (hne : ∀ a, A = some a → b < a.block) (v0 v1 v2 : Value) : Rd (((w.setCell ⟨b, 0, none⟩ v0).setCell ⟨b, 1, none⟩ v1).setCell ⟨b, 2, none⟩ v2) A n c xs :=
  ((h.set v0 hne).set v1 hne).set v2 hne
/-- A fraction that was told. -/
abbrev TPost (w : World) (z : Int) (d : Nat) : Ending → World → Prop := fun e w' => ∃ (A : Option Addr) (n c : Nat) (D : Option Addr) (m k : Nat), e = .returned (.tuple #[ratV (decide (z < 0)) A n c D m k, .int .i64 0]) ∧
  Hid (RdO w' A n c (lim z.natAbs) none ∧ Fr w A ∧ RdO w' D m k (lim d) A ∧ Fr w D) ∧ Ext w w'
theorem ra_told_ok (g : Nat) (z : Int) (A : Option Addr) (n c d : Nat) (D : Option Addr) (m e : Nat) (hn : n ≤ 16384) (hm : m ≤ 100000) (hl : (lim (denOf d)).length ≤ 16384) (w : World) (hx : RatIs w g z A n c d D m e) :
    Calls Tryz.prog 65 #[.pointer (some ⟨g, 0, none⟩)] w (TPost w z (denOf d)) := by
  have HX := Lib.hid hx
  have hbl : decide ((524288 : Int) < (bitsOf z.natAbs : Nat)) = false := decide_eq_false (by have := (bits_len z.natAbs).1; rw [hx.int.rd.len] at this; omega)
  have HBL := Lib.hid hbl
  have hbd : decide ((524288 : Int) < (bitsOf (denOf d) : Nat)) = false := decide_eq_false (by have := (bits_len (denOf d)).1; omega)
  have HBD := Lib.hid hbd
  have hxl := hx.int.rd.len
  have hsg : decide (z.sign < 0) = decide (z < 0) := by rw [decide_eq_decide]; exact Int.sign_neg_iff
  have HSG := Lib.hid hsg
  clear hx hbl hbd hsg
  go_enter Tryz.func65, Tryz.ntmps65
  go_wp2_with (first
    | (go_at_call 122; (with_reducible refine (br_Num g z A n c d D m e (by omega) _ (HX.out.ext (ext_alloc (ext_refl _) _))).mono ?_); rintro e w1 ⟨b1, B1, k1, l1, rfl, hI1, hb1, xb1⟩; have hk1 : k1 ≤ 1000000 := by (have := hI1.out.1.rd.len; omega))
    | (go_at_call 121; (with_reducible refine (ra_long b1 0 z B1 k1 l1 hk1 _ hI1.out.1).mono ?_); rintro e w2 ⟨rfl, xb2⟩; rw [HBL.out])
    | (go_at_call 123; (with_reducible refine (br_Denom g z A n c d D m e (by omega) _ (HX.out.ext (ext_trans (ext_alloc (ext_refl _) _) (ext_trans xb1 xb2)))).mono ?_); rintro e w3 ⟨b3, B3, k3, l3, rfl, hI3, hb3, xb3⟩; have hk3 : k3 ≤ 1000000 := by (have := hI3.out.1.rd.len; simp at this; omega))
    | (go_at_call 121; (with_reducible refine (ra_long b3 0 (denOf d : Nat) B3 k3 l3 hk3 _ hI3.out.1).mono ?_); rintro e w4 ⟨rfl, xb4⟩; rw [Int.natAbs_natCast, HBD.out]; have hE4 := Lib.hid (ext_trans (ext_alloc (ext_refl w) (Obj.cells #[.bool false, .slice none 0 0, .slice none 0 0] 33)) (ext_trans (ext_trans xb1 xb2) (ext_trans xb3 xb4))); have hF4 := Lib.hid (ext_trans (ext_trans xb1 xb2) (ext_trans xb3 xb4)))
    | (go_at_call 124; (with_reducible refine (br_Sign g z A n c _ (HX.out.ext hE4.out).int).mono ?_); rintro e w5 ⟨rfl, xb5⟩)
    | (go_at_call 122; (with_reducible refine (br_Num g z A n c d D m e (by omega) _ (HX.out.ext (ext_trans hE4.out xb5))).mono ?_); rintro e w6 ⟨b6, B6, k6, l6, rfl, hI6, hb6, xb6⟩; have hk6 : k6 ≤ 200000 := by (have := hI6.out.1.rd.len; omega))
    | (go_at_call 125; (with_reducible refine (ra_limbs b6 0 z B6 k6 l6 hk6 _ hI6.out.1).mono ?_); rintro e w7 ⟨A7, k7, c7, rfl, hR7, xb7⟩)
    | (go_at_call 123; (with_reducible refine (br_Denom g z A n c d D m e (by omega) _ (HX.out.ext (ext_trans hE4.out (ext_trans xb5 (ext_trans xb6 xb7))))).mono ?_); rintro e w8 ⟨b8, B8, k8, l8, rfl, hI8, hb8, xb8⟩; have hk8 : k8 ≤ 200000 := by (have := hI8.out.1.rd.len; simp at this; omega))
    | (go_at_call 125; (with_reducible refine (ra_limbs b8 0 (denOf d : Nat) B8 k8 l8 hk8 _ hI8.out.1).mono ?_); rintro e w9 ⟨A9, k9, c9, rfl, hR9, xb9⟩; obtain ⟨r0, r1, r2, f0, f1, f2, rl⟩ := res3 w w9 _ (ext_trans hF4.out (ext_trans xb5 (ext_trans xb6 (ext_trans xb7 (ext_trans xb8 xb9))))))
   )
  have hA7 : RdO w9 A7 k7 c7 (lim z.natAbs) none := hR7.out.1.ext (ext_trans xb8 xb9)
  have hA9 : RdO w9 A9 k9 c9 (lim (denOf d)) A7 := by
    have := hR9.out.1
    rw [Int.natAbs_natCast] at this
    refine this.weak fun a z ha hz => ?_
    have h1 := hR9.out.2 a ha
    have h2 := own_lt hR7.out.1.own hz
    have h3 := ext_size xb8
    omega
  have hs4 : w.heap.size + 1 ≤ w4.heap.size := by have := ext_size hF4.out; simpa using this
  have hF7 : Fr w4 A7 := hR7.out.2.mono (ext_trans xb5 xb6)
  have hF9 : Fr w4 A9 := hR9.out.2.mono (ext_trans (ext_trans xb5 xb6) (ext_trans xb7 xb8))
  have n7 : ∀ a, A7 = some a → w.heap.size < a.block := fun a ha => by have := hF7 a ha; omega
  have n9 : ∀ a, A9 = some a → w.heap.size < a.block := fun a ha => by have := hF9 a ha; omega
  have hE := Lib.hid (ext_trans hE4.out (ext_trans xb5 (ext_trans xb6 (ext_trans xb7 (ext_trans xb8 xb9)))))
  obtain ⟨q0, q1, q2⟩ := set3 r0 r1 r2 (.bool (decide (z < 0))) (.slice A7 k7 c7) (.slice A9 k9 c9)
  refine bodyPost_ret (v := .tuple #[ratV (decide (z < 0)) A7 k7 c7 A9 k9 c9, .int .i64 0]) ?h rfl ⟨A7, k7, c7, A9, k9, c9, rfl, ⟨hA7.set3 n7 _ _ _, fun a ha => Nat.le_of_lt (n7 a ha), hA9.set3 n9 _ _ _, fun a ha => Nat.le_of_lt (n9 a ha)⟩, ext_set3 hE.out (Nat.le_refl _) _ _ _⟩
  case h => simp [results, Tryz.results65, go_sem, q0, q1, q2, natV]
end Go.Proofs.YtkhkoeibpkglkaaGreatDoor
end
section
/- The program's fractions: made. -/
namespace Go.Proofs.YtkhkoeibpkglkaaGreatDoor
open Go.RowKit
attribute [local go_sem] sz2 sz3 sz4 sz5 sz6 sz7 sz8
set_option maxHeartbeats 4000000
set_option maxRecDepth 100000
attribute [local irreducible] Calls
abbrev mkW (w : World) (A : Option Addr) (n c : Nat) (D : Option Addr) (m k : Nat) : World :=
  (((w.alloc (Obj.cells #[.slice A n c] 31)).alloc (Obj.cells #[.slice D m k] 31)).alloc (Obj.cells #[.bool false, .slice none 0 0, .slice none 0 0] 33)).alloc (Obj.cells #[.slice A n c, .slice D m k] 31)
theorem mkW_facts (w : World) (A : Option Addr) (n c : Nat) (D : Option Addr) (m k : Nat) (wr : World) (he : Ext (mkW w A n c D m k) wr) :
    (wr.cell? ⟨w.heap.size, 0, none⟩ = some (.slice A n c) ∧ wr.cell? ⟨w.heap.size + 1, 0, none⟩ = some (.slice D m k) ∧ wr.cell? ⟨w.heap.size + 3, 0, none⟩ = some (.slice A n c) ∧ wr.cell? ⟨w.heap.size + 3, 1, none⟩ = some (.slice D m k)) ∧
    (wr.cell? ⟨w.heap.size + 2, 0, none⟩ = some (.bool false) ∧ wr.cell? ⟨w.heap.size + 2, 1, none⟩ = some (.slice none 0 0) ∧ wr.cell? ⟨w.heap.size + 2, 2, none⟩ = some (.slice none 0 0)) ∧
    (wr.frozen? ⟨w.heap.size + 2, 0, none⟩ = false ∧ wr.frozen? ⟨w.heap.size + 2, 1, none⟩ = false ∧ wr.frozen? ⟨w.heap.size + 2, 2, none⟩ = false) ∧ w.heap.size + 4 ≤ wr.heap.size := by
  have hs : (mkW w A n c D m k).heap.size = w.heap.size + 4 := by simp [mkW]
  have hz := ext_size he
  rw [hs] at hz
  have f : ∀ b o, b < w.heap.size + 4 → wr.cell? ⟨b, o, none⟩ = (mkW w A n c D m k).cell? ⟨b, o, none⟩ := fun b o hb => Below.cell (p := ⟨b, o, none⟩) he (by rw [hs]; exact hb)
  have fz : ∀ b o, b < w.heap.size + 4 → wr.frozen? ⟨b, o, none⟩ = (mkW w A n c D m k).frozen? ⟨b, o, none⟩ := fun b o hb => Below.frozen (p := ⟨b, o, none⟩) he (by rw [hs]; exact hb)
  refine ⟨⟨?_, ?_, ?_, ?_⟩, ⟨?_, ?_, ?_⟩, ⟨?_, ?_, ?_⟩, hz⟩
  all_goals first | (rw [f _ _ (by omega)]; simp [mkW, go_sem]) | (rw [fz _ _ (by omega)]; simp [mkW, go_sem])
theorem ext_mkW (w : World) (A : Option Addr) (n c : Nat) (D : Option Addr) (m k : Nat) : Ext w (mkW w A n c D m k) := ext_alloc (ext_alloc (ext_alloc (ext_alloc (ext_refl w) _) _) _) _
theorem br_SetFrac' (g bx b2 : Nat) (s : Bool) (a d : Nat) (hd : d ≠ 0) (A : Option Addr) (n c : Nat) (D : Option Addr) (m k : Nat) (hn : n ≤ 400000) (hm : m ≤ 400000) (w : World) (hT : Tz w) (hr : RatRoom w g) (hx : IntIs w bx 0 (sgn s a) A n c) (hyy : IntIs w b2 0 (d : Int) D m k) :
    Calls Tryz.prog 64 #[.pointer (some ⟨g, 0, none⟩), .pointer (some ⟨bx, 0, none⟩), .pointer (some ⟨b2, 0, none⟩)] w (FPost w g (sgn s (a / Nat.gcd a d : Nat)) (lowD a d)) := by
  have h := br_SetFrac g bx b2 (sgn s a) d (by omega) A n c D m k hn hm w hT hr hx hyy
  rw [sgn_abs, Int.natAbs_natCast] at h
  have e : sgn (qneg (sgn s a) d) (a / Nat.gcd a d : Nat) = sgn s (a / Nat.gcd a d : Nat) := by
    have h1 : qneg (sgn s a) d = (s && decide (0 < a)) := by
      unfold qneg
      rw [sgn_lt, decide_eq_false (show ¬ (d : Int) < 0 by omega)]
      cases (s && decide (0 < a)) <;> rfl
    rw [h1]
    by_cases h0 : a = 0
    · subst h0; rw [Nat.zero_div]; cases s <;> rfl
    · have : decide (0 < a) = true := decide_eq_true (by omega)
      rw [this, Bool.and_true]
  rw [e] at h
  exact h
theorem rat_room (w : World) : RatRoom (w.alloc (Obj.cells #[.bool false, .slice none 0 0, .slice none 0 0] 104)) w.heap.size :=
  ⟨⟨by simp, ⟨_, by simp [go_sem]; rfl⟩, ⟨_, by simp [go_sem]; rfl⟩, by simp [go_sem], by simp [go_sem]⟩, ⟨_, by simp [go_sem]; rfl⟩, by simp [go_sem]⟩
theorem lowD_len {a d : Nat} (hd : d ≠ 0) : (lim (denOf (lowD a d))).length ≤ (lim d).length ∧ (lim (lowD a d)).length ≤ (lim d).length ∧ (lim (a / Nat.gcd a d)).length ≤ (lim a).length := by
  have h1 : lowD a d ≤ d := by
    unfold lowD; split
    · omega
    · exact Nat.div_le_self _ _
  have h2 : denOf (lowD a d) ≤ d := by
    unfold denOf; split <;> omega
  exact ⟨lim_mono h2, lim_mono h1, lim_mono (Nat.div_le_self _ _)⟩
theorem IntIs.lenNat {w : World} {b o a : Nat} {B : Option Addr} {k l : Nat} (h : IntIs w b o ((a : Nat) : Int) B k l) : (lim a).length = k := by have := h.rd.len; rwa [Int.natAbs_natCast] at this
theorem IntIs.lenSgn {w : World} {b o a : Nat} {s : Bool} {B : Option Addr} {k l : Nat} (h : IntIs w b o (sgn s a) B k l) : (lim a).length = k := by have := h.rd.len; rwa [sgn_abs] at this
theorem ra_make (neg : Bool) (A : Option Addr) (n c a : Nat) (D : Option Addr) (m k d : Nat) (hd : d ≠ 0) (hn : n ≤ 16384) (hm : m ≤ 16384) (w : World) (hT : Tz w) (hA : Rd w A n c (lim a)) (hD : Rd w D m k (lim d)) :
    Calls Tryz.prog 54 #[.bool neg, natV A n c, natV D m k] w (TPost w (sgn neg (a / Nat.gcd a d : Nat)) (denOf (lowD a d))) := by
  have HA := Lib.hid hA
  have HD := Lib.hid hD
  have HT := Lib.hid hT
  have hm0 : ((m : Int) == 0) = false := by
    rw [beq_eq_false_iff_ne]
    have := hD.len; intro h; exact hd (lim_nil.1 (List.eq_nil_of_length_eq_zero (by omega)))
  have hla := hA.len
  have hld := hD.len
  have chA : ∀ w', Ext w w' → Calls Tryz.prog 105 #[natV A n c] w' fun e w'' => e = .returned (.int .i64 0) ∧ Ext w' w'' := fun w' he => by
    have := ncheck_any A n c (lim a) w' (HA.out.ext he); rwa [chk_lim (by omega)] at this
  have chD : ∀ w', Ext w w' → Calls Tryz.prog 105 #[natV D m k] w' fun e w'' => e = .returned (.int .i64 0) ∧ Ext w' w'' := fun w' he => by
    have := ncheck_any D m k (lim d) w' (HD.out.ext he); rwa [chk_lim (by omega)] at this
  clear hA hD hT
  go_enter Tryz.func54, Tryz.ntmps54
  go_wp2
  go_loopw [16] (fun vi wr => ∃ i : Nat, i ≤ 2 ∧ vi = .int .i64 (i : Int) ∧ Hid (Ext (mkW w A n c D m k) wr)) (fun vi _ => 2 - (intOf vi).toNat)
  case atStart => exact ⟨0, by omega, rfl, ext_refl _⟩
  case round =>
    obtain ⟨i, hi, rfl, hext⟩ := hrel
    obtain ⟨⟨c0, c1, c2, c3⟩, ⟨r0, r1, r2⟩, ⟨f0, f1, f2⟩, hsz⟩ := mkW_facts w A n c D m k wr hext.out
    have hE0 := Lib.hid (ext_trans (ext_mkW w A n c D m k) hext.out)
    by_cases h2 : i = 2
    · subst h2
      have hl3 := lowD_len (a := a) hd
      rw [hla, hld] at hl3
      have hTr := Lib.hid (HT.out.ext hE0.out)
      have hn400 : n ≤ 400000 := by omega
      have hn1000 : n ≤ 1000000 := by omega
      have hm100 : m ≤ 100000 := by omega
      have hdl := Nat.le_trans hl3.1 hm
      have hm400 : m ≤ 400000 := by omega
      cases neg with
      | false =>
        go_wp2_with (first
          | (go_at_call 106; (with_reducible refine (ra_whole A n c a (by omega) _ (HA.out.ext hE0.out)).mono ?_); rintro e w1 ⟨b1, B1, k1, l1, rfl, hI1, hb1, xb1⟩; have hI1s : IntIs w1 b1 0 (sgn false a) B1 k1 l1 := hI1.out.1; have hx1 := (Below.cell (p := ⟨w.heap.size + 1, 0, none⟩) xb1 (by show w.heap.size + 1 < _; omega)).trans c1; have hsz1 : w.heap.size + 1 < w1.heap.size := by (have := ext_size xb1; omega))
          | (go_at_call 106; (with_reducible refine (ra_whole D m k d (by omega) _ (HD.out.ext (ext_alloc (ext_trans hE0.out xb1) _))).mono ?_); rintro e w3 ⟨b3, B3, k3, l3, rfl, hI3, hb3, xb3⟩; have hk1 := Nat.le_trans (Nat.le_of_eq (hI1.out.1.lenNat.symm.trans hla)) hn400; have hk3 := Nat.le_trans (Nat.le_of_eq (hI3.out.1.lenNat.symm.trans hld)) hm400; have hE3 := Lib.hid (ext_trans (ext_alloc xb1 (Obj.cells #[.bool false, .slice none 0 0, .slice none 0 0] 104)) xb3))
          | (go_at_call 64; (with_reducible refine (br_SetFrac' _ b1 b3 false a d hd B1 k1 l1 B3 k3 l3 hk1 hk3 _ (hTr.out.ext hE3.out) ((rat_room w1).ext xb3) (hI1s.ext (ext_trans (ext_alloc (ext_refl _) _) xb3)) hI3.out.1).mono ?_); rintro e w4 ⟨rfl, A4, n4, c4, D4, m4, e4, hI4, xt4⟩; have hn4 := Nat.le_trans (Nat.le_trans (Nat.le_of_eq hI4.out.1.int.lenSgn.symm) hl3.2.2) hn; have hm4 := Nat.le_trans (Nat.le_trans (Nat.le_of_eq hI4.out.1.rd.len.symm) hl3.2.1) hm100)
          | (go_at_call 65; (with_reducible refine (ra_told_ok _ _ A4 n4 c4 _ D4 m4 e4 hn4 hm4 hdl _ hI4.out.1).mono ?_); rintro e w5 ⟨A5, n5, c5, D5, m5, e5, rfl, hI5, xb5⟩; have hE5 := Lib.hid (ext_trans (xt4.ext hE3.out (ext_size xb1)) xb5); obtain ⟨-, ⟨s0, s1, s2⟩, ⟨p0, p1, p2⟩, hs5⟩ := mkW_facts w A n c D m k w5 (ext_trans hext.out hE5.out))
         )
        have hs4 : w.heap.size + 4 ≤ w4.heap.size := by
          have h1 := (mkW_facts w A n c D m k w4 (ext_trans hext.out (xt4.ext hE3.out (ext_size xb1)))).2.2.2; exact h1
        have n5' : ∀ x, A5 = some x → w.heap.size + 1 + 1 < x.block := fun x hx => by have := hI5.out.2.1 x hx; omega
        have n6' : ∀ x, D5 = some x → w.heap.size + 1 + 1 < x.block := fun x hx => by have := hI5.out.2.2.2 x hx; omega
        obtain ⟨q0, q1, q2⟩ := set3 (b := w.heap.size + 1 + 1) s0 s1 s2 (.bool (decide (sgn false (a / a.gcd d : Nat) < 0))) (.slice A5 n5 c5) (.slice D5 m5 e5)
        have hEE := Lib.hid (ext_trans hE0.out hE5.out)
        refine bodyPost_ret (v := .tuple #[ratV (decide (sgn false ↑(a / a.gcd d) < 0)) A5 n5 c5 D5 m5 e5, .int .i64 0]) ?h rfl ⟨A5, n5, c5, D5, m5, e5, rfl, ⟨hI5.out.1.set3 n5' _ _ _, fun x hx => Nat.le_of_lt (by have := n5' x hx; omega), hI5.out.2.2.1.set3 n6' _ _ _, fun x hx => Nat.le_of_lt (by have := n6' x hx; omega)⟩, ext_set3 hEE.out (by omega) _ _ _⟩
        case h => simp [results, Tryz.results54, go_sem, q0, q1, q2]
      | true =>
        go_wp2_with (first
          | (go_at_call 106; (with_reducible refine (ra_whole A n c a (by omega) _ (HA.out.ext hE0.out)).mono ?_); rintro e w1 ⟨b1, B1, k1, l1, rfl, hI1, hb1, xb1⟩; have hk0 := Nat.le_trans (Nat.le_of_eq (hI1.out.1.lenNat.symm.trans hla)) hn1000)
          | (go_at_call 107; (with_reducible refine (bi_Neg b1 0 b1 0 B1 k1 l1 a hk0 _ hI1.out.1.room hI1.out.1).mono ?_); rintro e w2 ⟨rfl, B2, k2, l2, hI2, xt2⟩; have xb2 := xt2.ext xb1 hb1; have hI1s : IntIs w2 b1 0 (sgn true a) B2 k2 l2 := hI2.out.1; have hx1 := (Below.cell (p := ⟨w.heap.size + 1, 0, none⟩) xb2 (by show w.heap.size + 1 < _; omega)).trans c1; have hsz1 : w.heap.size + 1 < w2.heap.size := by (have := ext_size xb2; omega))
          | (go_at_call 106; (with_reducible refine (ra_whole D m k d (by omega) _ (HD.out.ext (ext_alloc (ext_trans hE0.out xb2) _))).mono ?_); rintro e w3 ⟨b3, B3, k3, l3, rfl, hI3, hb3, xb3⟩; have hk1 := Nat.le_trans (Nat.le_of_eq (hI1s.lenSgn.symm.trans hla)) hn400; have hk3 := Nat.le_trans (Nat.le_of_eq (hI3.out.1.lenNat.symm.trans hld)) hm400; have hE3 := Lib.hid (ext_trans (ext_alloc xb2 (Obj.cells #[.bool false, .slice none 0 0, .slice none 0 0] 104)) xb3))
          | (go_at_call 64; (with_reducible refine (br_SetFrac' _ b1 b3 true a d hd B2 k2 l2 B3 k3 l3 hk1 hk3 _ (hTr.out.ext hE3.out) ((rat_room w2).ext xb3) (hI1s.ext (ext_trans (ext_alloc (ext_refl _) _) xb3)) hI3.out.1).mono ?_); rintro e w4 ⟨rfl, A4, n4, c4, D4, m4, e4, hI4, xt4⟩; have hn4 := Nat.le_trans (Nat.le_trans (Nat.le_of_eq hI4.out.1.int.lenSgn.symm) hl3.2.2) hn; have hm4 := Nat.le_trans (Nat.le_trans (Nat.le_of_eq hI4.out.1.rd.len.symm) hl3.2.1) hm100)
          | (go_at_call 65; (with_reducible refine (ra_told_ok _ _ A4 n4 c4 _ D4 m4 e4 hn4 hm4 hdl _ hI4.out.1).mono ?_); rintro e w5 ⟨A5, n5, c5, D5, m5, e5, rfl, hI5, xb5⟩; have hE5 := Lib.hid (ext_trans (xt4.ext hE3.out (ext_size xb2)) xb5); obtain ⟨-, ⟨s0, s1, s2⟩, ⟨p0, p1, p2⟩, hs5⟩ := mkW_facts w A n c D m k w5 (ext_trans hext.out hE5.out))
         )
        have hs4 : w.heap.size + 4 ≤ w4.heap.size := by
          have h1 := (mkW_facts w A n c D m k w4 (ext_trans hext.out (xt4.ext hE3.out (ext_size xb2)))).2.2.2; exact h1
        have n5' : ∀ x, A5 = some x → w.heap.size + 1 + 1 < x.block := fun x hx => by have := hI5.out.2.1 x hx; omega
        have n6' : ∀ x, D5 = some x → w.heap.size + 1 + 1 < x.block := fun x hx => by have := hI5.out.2.2.2 x hx; omega
        obtain ⟨q0, q1, q2⟩ := set3 (b := w.heap.size + 1 + 1) s0 s1 s2 (.bool (decide (sgn true (a / a.gcd d : Nat) < 0))) (.slice A5 n5 c5) (.slice D5 m5 e5)
        have hEE := Lib.hid (ext_trans hE0.out hE5.out)
        refine bodyPost_ret (v := .tuple #[ratV (decide (sgn true ↑(a / a.gcd d) < 0)) A5 n5 c5 D5 m5 e5, .int .i64 0]) ?h rfl ⟨A5, n5, c5, D5, m5, e5, rfl, ⟨hI5.out.1.set3 n5' _ _ _, fun x hx => Nat.le_of_lt (by have := n5' x hx; omega), hI5.out.2.2.1.set3 n6' _ _ _, fun x hx => Nat.le_of_lt (by have := n6' x hx; omega)⟩, ext_set3 hEE.out (by omega) _ _ _⟩
        case h => simp [results, Tryz.results54, go_sem, q0, q1, q2]
    · by_cases h1 : i = 1
      · subst h1
        go_wp2_with (first
          | (go_at_call 105; (with_reducible refine (chD _ (ext_alloc hE0.out _)).mono ?_); rintro e w5 ⟨rfl, xb5⟩)
         )
        case roundEnd => exact ⟨⟨2, by omega, rfl, ext_trans (ext_alloc hext.out _) xb5⟩, by simp [intOf]⟩
      · obtain rfl : i = 0 := by omega
        go_wp2_with (first
          | (go_at_call 105; (with_reducible refine (chA _ (ext_alloc hE0.out _)).mono ?_); rintro e w5 ⟨rfl, xb5⟩)
         )
        case roundEnd => exact ⟨⟨1, by omega, rfl, ext_trans (ext_alloc hext.out _) xb5⟩, by simp [intOf]⟩
end Go.Proofs.YtkhkoeibpkglkaaGreatDoor
end
section
/- Whole numbers of the library's: order, sums. -/
namespace Go.Proofs.YtkhkoeibpkglkaaGreatDoor
open Go.RowKit
attribute [local go_sem] sz2 sz3 sz4 sz5 sz6 sz7 sz8
set_option maxHeartbeats 4000000
set_option maxRecDepth 100000
attribute [local irreducible] Calls
theorem cmpN_sign (a b : Nat) : cmpN a b = ((a : Int) - b).sign := by
  unfold cmpN
  split
  · rw [Int.sign_eq_neg_one_of_neg (by omega)]
  · split
    · rw [Int.sign_eq_one_of_pos (by omega)]
    · rw [show (a : Int) - b = 0 by omega]; rfl
theorem bi_Cmp (b o g p : Nat) (x y : Int) (A : Option Addr) (n c : Nat) (B : Option Addr) (m d : Nat) (w : World) (hx : IntIs w b o x A n c) (hy : IntIs w g p y B m d) :
    Calls Tryz.prog 196 #[.pointer (some ⟨b, o, none⟩), .pointer (some ⟨g, p, none⟩)] w fun e w' => e = .returned (.int .i64 (x - y).sign) ∧ Ext w w' := by
  have HX := Lib.hid hx
  have HY := Lib.hid hy
  have lx := hx.room.lt
  have x0 := hx.neg
  have x1 := hx.words
  have ly := hy.room.lt
  have y0 := hy.neg
  have y1 := hy.words
  have kc : ∀ w', Ext w w' → Calls Tryz.prog 239 #[.slice A n c, .slice B m d] w' fun e w'' => e = .returned (.int .i64 (cmpN x.natAbs y.natAbs)) ∧ Ext w' w'' := fun w' he => bw_cmp A B n c m d _ _ w' (HX.out.rd.ext he) (HY.out.rd.ext he)
  clear hx hy HX HY
  by_cases hs : x < 0
  · rw [decide_eq_true hs] at x0
    by_cases ht : y < 0
    · rw [decide_eq_true ht] at y0
      have e1 : -(cmpN x.natAbs y.natAbs) = (x - y).sign := by
        rw [cmpN_sign, ← Int.sign_neg]; congr 1; omega
      have e2 : IntKind.i64.wrap (-(cmpN x.natAbs y.natAbs)) = (x - y).sign := by
        rw [e1]
        have : (x - y).sign = -1 ∨ (x - y).sign = 0 ∨ (x - y).sign = 1 := by
          rcases Int.lt_trichotomy (x - y) 0 with h | h | h
          · exact .inl (Int.sign_eq_neg_one_of_neg h)
          · rw [h]; exact .inr (.inl rfl)
          · exact .inr (.inr (Int.sign_eq_one_of_pos h))
        rcases this with h | h | h <;> rw [h] <;> decide
      generalize cmpN x.natAbs y.natAbs = C at kc e1 e2
      generalize (x - y).sign = R at e1 e2 ⊢
      clear hs ht e1
      go_enter Tryz.func196, Tryz.ntmps196
      go_wp2
      refine wp_aft (by kernel_rfl) (by kernel_rfl) (fun hq hqf => ?_)
      repeat (go_big_quiet_step (first | fail
        ))
      refine wpQuiet_nil ?_
      rintro _ ⟨nq, rfl⟩
      have xl := ext_lt nq.use
      have xz := ext_size nq.use
      try simp at xz
      have hE1 := Lib.hid nq.use
      have z0 := (Below.cell (p := ⟨b, o, none⟩) nq.use lx).trans x0
      have z1 := (Below.cell (p := ⟨b, o + 1, none⟩) nq.use lx).trans x1
      have z2 := (Below.cell (p := ⟨g, p + 1, none⟩) nq.use ly).trans y1
      go_wp2
      have lx2 := xl b lx
      have ly2 := xl g ly
      refine wp_aft (by kernel_rfl) (by kernel_rfl) (fun hq hqf => ?_)
      repeat (go_big_quiet_step (first
        | (go_at_call 239; exact aft_of (kc _ (ext_trans hE1.out (Aft.use _))))
        ))
      refine wpQuiet_nil ?_
      rintro _ ⟨nq, rfl⟩
      have xl := ext_lt nq.use
      have xz := ext_size nq.use
      try simp at xz
      go_wp2
      refine bodyPost_ret (v := .int .i64 R) ?h rfl ⟨rfl, ext_trans hE1.out nq.use⟩
      case h => simp [results, Tryz.results196, go_sem]
    · rw [decide_eq_false ht] at y0
      have e1 : (x - y).sign = -1 := Int.sign_eq_neg_one_of_neg (by omega)
      rw [e1]
      clear hs ht e1 kc
      go_enter Tryz.func196, Tryz.ntmps196
      go_wp2
      refine wp_aft (by kernel_rfl) (by kernel_rfl) (fun hq hqf => ?_)
      repeat (go_big_quiet_step (first | fail
        ))
      refine wpQuiet_nil ?_
      rintro _ ⟨nq, rfl⟩
      have xl := ext_lt nq.use
      have xz := ext_size nq.use
      try simp at xz
      have hE1 := Lib.hid nq.use
      have z0 := (Below.cell (p := ⟨b, o, none⟩) nq.use lx).trans x0
      go_wp2
      refine bodyPost_ret (v := .int .i64 (-1)) ?h rfl ⟨rfl, hE1.out⟩
      case h => simp [results, Tryz.results196, go_sem]
  · rw [decide_eq_false hs] at x0
    by_cases ht : y < 0
    · rw [decide_eq_true ht] at y0
      have e1 : (x - y).sign = 1 := Int.sign_eq_one_of_pos (by omega)
      rw [e1]
      clear hs ht e1 kc
      go_enter Tryz.func196, Tryz.ntmps196
      go_wp2
      refine wp_aft (by kernel_rfl) (by kernel_rfl) (fun hq hqf => ?_)
      repeat (go_big_quiet_step (first | fail
        ))
      refine wpQuiet_nil ?_
      rintro _ ⟨nq, rfl⟩
      have xl := ext_lt nq.use
      have xz := ext_size nq.use
      try simp at xz
      have hE1 := Lib.hid nq.use
      have z0 := (Below.cell (p := ⟨b, o, none⟩) nq.use lx).trans x0
      go_wp2
      refine bodyPost_ret (v := .int .i64 1) ?h rfl ⟨rfl, hE1.out⟩
      case h => simp [results, Tryz.results196, go_sem]
    · rw [decide_eq_false ht] at y0
      have e1 : cmpN x.natAbs y.natAbs = (x - y).sign := by
        rw [cmpN_sign]; congr 1; omega
      generalize cmpN x.natAbs y.natAbs = C at kc e1
      generalize (x - y).sign = R at e1 ⊢
      subst e1
      clear hs ht
      go_enter Tryz.func196, Tryz.ntmps196
      go_wp2
      refine wp_aft (by kernel_rfl) (by kernel_rfl) (fun hq hqf => ?_)
      repeat (go_big_quiet_step (first | fail
        ))
      refine wpQuiet_nil ?_
      rintro _ ⟨nq, rfl⟩
      have xl := ext_lt nq.use
      have xz := ext_size nq.use
      try simp at xz
      have hE1 := Lib.hid nq.use
      have z0 := (Below.cell (p := ⟨b, o, none⟩) nq.use lx).trans x0
      have z1 := (Below.cell (p := ⟨b, o + 1, none⟩) nq.use lx).trans x1
      have z2 := (Below.cell (p := ⟨g, p + 1, none⟩) nq.use ly).trans y1
      go_wp2
      have lx2 := xl b lx
      have ly2 := xl g ly
      refine wp_aft (by kernel_rfl) (by kernel_rfl) (fun hq hqf => ?_)
      repeat (go_big_quiet_step (first
        | (go_at_call 239; exact aft_of (kc _ (ext_trans hE1.out (Aft.use _))))
        ))
      refine wpQuiet_nil ?_
      rintro _ ⟨nq, rfl⟩
      have xl := ext_lt nq.use
      have xz := ext_size nq.use
      try simp at xz
      go_wp2
      refine bodyPost_ret (v := .int .i64 C) ?h rfl ⟨rfl, ext_trans hE1.out nq.use⟩
      case h => simp [results, Tryz.results196, go_sem]
end Go.Proofs.YtkhkoeibpkglkaaGreatDoor
end
section
/- Whole numbers of the library's: sums. -/
namespace Go.Proofs.YtkhkoeibpkglkaaGreatDoor
open Go.RowKit
attribute [local go_sem] sz2 sz3 sz4 sz5 sz6 sz7 sz8
set_option maxHeartbeats 4000000
set_option maxRecDepth 100000
attribute [local irreducible] Calls
theorem sgn_add_same (s : Bool) (a b : Nat) : sgn s (a + b) = sgn s a + sgn s b := by cases s <;> simp [sgn]; omega
theorem sgn_add_ge (s t : Bool) (a b : Nat) (h : s ≠ t) (hab : b ≤ a) : sgn s (a - b) = sgn s a + sgn t b := by
  cases s <;> cases t <;> simp [sgn] at h ⊢ <;> omega
theorem sgn_add_lt (s t : Bool) (a b : Nat) (h : s ≠ t) (hab : a < b) : sgn t (b - a) = sgn s a + sgn t b := by
  cases s <;> cases t <;> simp [sgn] at h ⊢ <;> omega
theorem bi_added (b o : Nat) (A : Option Addr) (n c a : Nat) (s : Bool) (B : Option Addr) (m d x : Nat) (t : Bool) (hn : n ≤ 1000000) (hm : m ≤ 1000000) (w : World) (hr : Room w b o) (hA : Rd w A n c (lim a)) (hB : Rd w B m d (lim x)) :
    Calls Tryz.prog 273 #[.pointer (some ⟨b, o, none⟩), .slice A n c, .bool s, .slice B m d, .bool t] w (IPost w b o (sgn s a + sgn t x)) := by
  have HA := Lib.hid hA
  have HB := Lib.hid hB
  have HR := Lib.hid hr
  have hbl := hr.lt
  clear hA hB hr
  by_cases hst : s = t
  · subst hst
    have e := sgn_add_same s a x
    rw [← e]
    clear e
    go_enter Tryz.func273, Tryz.ntmps273
    go_wp2_with (first
      | (go_at_call 176; (with_reducible refine (bw_add A B n c m d a x hn hm _ HA.out HB.out).mono ?_); rintro e w2 ⟨A2, k2, c2, rfl, hR2, xb2⟩; have hF2 : Fr w A2 := hR2.out.2.1; have hO2 := hF2.off hbl k2)
      | (go_at_call 117; (with_reducible refine (bi_set b o s A2 k2 c2 (a + x) _ (HR.out.ext xb2) hR2.out.1 hO2).mono ?_); rintro e w3 ⟨rfl, hI3, xt3⟩)
     )
    refine bodyPost_ret (v := .pointer (some ⟨b, o, none⟩)) ?h rfl ⟨rfl, A2, k2, c2, ⟨hI3.out, hF2⟩, (Tch.of xb2).trans xt3⟩
    case h => simp [results, Tryz.results273, go_sem]
  · have hst' : (s == t) = false := by rw [beq_eq_false_iff_ne]; exact hst
    by_cases hax : x ≤ a
    · have e := sgn_add_ge s t a x hst hax
      rw [← e]
      have hc : (0 : Int) ≤ cmpN a x := by unfold cmpN; rw [if_neg (by omega)]; split <;> decide
      clear e hst
      go_enter Tryz.func273, Tryz.ntmps273
      go_wp2_with (first
        | (go_at_call 239; (with_reducible refine (bw_cmp A B n c m d a x _ HA.out HB.out).mono ?_); rintro e w1 ⟨rfl, xb1⟩)
        | (go_at_call 203; (with_reducible refine (bw_sub A B n c m d a x hax hn _ (HA.out.ext xb1) (HB.out.ext xb1)).mono ?_); rintro e w2 ⟨A2, k2, c2, rfl, hR2, xb2⟩; have hF2 : Fr w A2 := Fr.mono hR2.out.2 xb1; have hO2 := hF2.off hbl k2)
        | (go_at_call 117; (with_reducible refine (bi_set b o s A2 k2 c2 (a - x) _ ((HR.out.ext xb1).ext xb2) hR2.out.1 hO2).mono ?_); rintro e w3 ⟨rfl, hI3, xt3⟩)
       )
      refine bodyPost_ret (v := .pointer (some ⟨b, o, none⟩)) ?h rfl ⟨rfl, A2, k2, c2, ⟨hI3.out, hF2⟩, (Tch.of (ext_trans xb1 xb2)).trans xt3⟩
      case h => simp [results, Tryz.results273, go_sem]
    · have e := sgn_add_lt s t a x hst (by omega)
      rw [← e]
      have hc : ¬ (0 : Int) ≤ cmpN a x := by unfold cmpN; rw [if_pos (by omega)]; decide
      have hxa : a ≤ x := by omega
      clear e hst hax
      go_enter Tryz.func273, Tryz.ntmps273
      go_wp2_with (first
        | (go_at_call 239; (with_reducible refine (bw_cmp A B n c m d a x _ HA.out HB.out).mono ?_); rintro e w1 ⟨rfl, xb1⟩)
        | (go_at_call 203; (with_reducible refine (bw_sub B A m d n c x a hxa hm _ (HB.out.ext xb1) (HA.out.ext xb1)).mono ?_); rintro e w2 ⟨A2, k2, c2, rfl, hR2, xb2⟩; have hF2 : Fr w A2 := Fr.mono hR2.out.2 xb1; have hO2 := hF2.off hbl k2)
        | (go_at_call 117; (with_reducible refine (bi_set b o t A2 k2 c2 (x - a) _ ((HR.out.ext xb1).ext xb2) hR2.out.1 hO2).mono ?_); rintro e w3 ⟨rfl, hI3, xt3⟩)
       )
      refine bodyPost_ret (v := .pointer (some ⟨b, o, none⟩)) ?h rfl ⟨rfl, A2, k2, c2, ⟨hI3.out, hF2⟩, (Tch.of (ext_trans xb1 xb2)).trans xt3⟩
      case h => simp [results, Tryz.results273, go_sem]
theorem bi_Add (b o g p h q : Nat) (x y : Int) (A : Option Addr) (n c : Nat) (B : Option Addr) (m d : Nat) (hn : n ≤ 1000000) (hm : m ≤ 1000000) (w : World) (hr : Room w b o) (hx : IntIs w g p x A n c) (hy : IntIs w h q y B m d) :
    Calls Tryz.prog 251 #[.pointer (some ⟨b, o, none⟩), .pointer (some ⟨g, p, none⟩), .pointer (some ⟨h, q, none⟩)] w (IPost w b o (x + y)) := by
  have HX := Lib.hid hx
  have HY := Lib.hid hy
  have HR := Lib.hid hr
  have lx := hx.room.lt
  have x0 := hx.neg
  have x1 := hx.words
  have ly := hy.room.lt
  have y0 := hy.neg
  have y1 := hy.words
  have hbl := hr.lt
  clear hx hy hr
  go_enter Tryz.func251, Tryz.ntmps251
  go_wp2
  refine wp_aft_tail 17 (by kernel_rfl) (by kernel_rfl) (by kernel_rfl) (fun hq hqf => ?_)
  simp only [List.take_succ_cons, List.take_zero, List.drop_succ_cons, List.drop_zero]
  repeat (go_big_quiet_step (first | fail
    ))
  refine wpQuiet_nil ?_
  rintro _ ⟨nq, rfl⟩
  have xl := ext_lt nq.use
  have xz := ext_size nq.use
  try simp at xz
  have hE := Lib.hid nq.use
  go_wp2_with (first
    | (go_at_call 273; (with_reducible refine (bi_added b o A n c x.natAbs _ B m d y.natAbs _ hn hm _ (HR.out.ext hE.out) (HX.out.rd.ext hE.out) (HY.out.rd.ext hE.out)).mono ?_); rintro e w3 ⟨rfl, A3, n3, c3, hI3, xt3⟩)
   )
  refine bodyPost_ret (v := .pointer (some ⟨b, o, none⟩)) ?h rfl ⟨rfl, A3, n3, c3, ⟨by have := hI3.out.1; rwa [sgn_self, sgn_self] at this, hI3.out.2.mono hE.out⟩, (Tch.of hE.out).trans xt3⟩
  case h => simp [results, Tryz.results251, go_sem]
end Go.Proofs.YtkhkoeibpkglkaaGreatDoor
end
section
/- Whole numbers of the library's: out of machine numbers; without a sign; products, differences. -/
namespace Go.Proofs.YtkhkoeibpkglkaaGreatDoor
open Go.RowKit
attribute [local go_sem] sz2 sz3 sz4 sz5 sz6 sz7 sz8
set_option maxHeartbeats 4000000
set_option maxRecDepth 100000
attribute [local irreducible] Calls
attribute [local go_sem] Oper.detAt detUpon relUpon
theorem bi_SetInt64 (b o : Nat) (x : Int) (h1 : -9223372036854775808 ≤ x) (h2 : x ≤ 9223372036854775807) (w : World) (hr : Room w b o) :
    Calls Tryz.prog 137 #[.pointer (some ⟨b, o, none⟩), .int .i64 x] w (IPost w b o x) := by
  have HR := Lib.hid hr
  have hlt := hr.lt
  clear hr
  by_cases h0 : x < 0
  · obtain ⟨n, rfl⟩ : ∃ n : Nat, x = -(n : Int) := ⟨x.natAbs, by omega⟩
    have hn : n < 18446744073709551616 := by omega
    have h0' : -(n : Int) < 0 := h0
    have hF : ∀ w', Calls Tryz.prog 200 #[.int .u64 (IntKind.u64.wrap (-IntKind.u64.wrap (-(n : Int))))] w' fun e w'' => ∃ (A : Option Addr) (k c : Nat), e = .returned (.slice A k c) ∧ Hid (Rd w'' A k c (lim n) ∧ Fr w' A) ∧ Ext w' w'' := fun w' => by
      have e1 : IntKind.u64.wrap (-IntKind.u64.wrap (-(n : Int))) = (n : Int) := by rw [IntKind.wrap_u64, IntKind.wrap_u64]; omega
      rw [e1]
      exact bw_fromUint n hn w'
    have hsg : Hid (sgn true n = -(n : Int)) := Lib.hid rfl
    go_enter Tryz.func137, Tryz.ntmps137
    go_wp2_with (first
      | (go_at_call 200; (with_reducible refine (hF _).mono ?_); rintro e w1 ⟨A1, k1, c1, rfl, hR1, xb1⟩; obtain ⟨xc1, xf1, xl1, xz1⟩ := ext_use xb1; (try simp at xz1))
      | (go_at_call 117; (with_reducible refine (bi_set b o true A1 k1 c1 n _ (HR.out.ext xb1) hR1.out.1 (hR1.out.2.off hlt k1)).mono ?_); rintro e w3 ⟨rfl, hI3, xt3⟩)
     )
    refine bodyPost_ret (v := .pointer (some ⟨b, o, none⟩)) ?h rfl ⟨rfl, A1, k1, c1, ⟨by have := hI3.out; rwa [hsg.out] at this, hR1.out.2⟩, (Tch.of xb1).trans xt3⟩
    case h => simp [results, Tryz.results137, go_sem]
  · obtain ⟨n, rfl⟩ : ∃ n : Nat, x = (n : Int) := ⟨x.natAbs, by omega⟩
    have hF : ∀ w', Calls Tryz.prog 200 #[.int .u64 (n : Int)] w' fun e w'' => ∃ (A : Option Addr) (k c : Nat), e = .returned (.slice A k c) ∧ Hid (Rd w'' A k c (lim n) ∧ Fr w' A) ∧ Ext w' w'' := fun w' => bw_fromUint n (by omega) w'
    have hsg : Hid (sgn false n = (n : Int)) := Lib.hid rfl
    go_enter Tryz.func137, Tryz.ntmps137
    go_wp2_with (first
      | (go_at_call 200; (with_reducible refine (hF _).mono ?_); rintro e w1 ⟨A1, k1, c1, rfl, hR1, xb1⟩; obtain ⟨xc1, xf1, xl1, xz1⟩ := ext_use xb1; (try simp at xz1))
      | (go_at_call 117; (with_reducible refine (bi_set b o false A1 k1 c1 n _ (HR.out.ext xb1) hR1.out.1 (hR1.out.2.off hlt k1)).mono ?_); rintro e w3 ⟨rfl, hI3, xt3⟩)
     )
    refine bodyPost_ret (v := .pointer (some ⟨b, o, none⟩)) ?h rfl ⟨rfl, A1, k1, c1, ⟨by have := hI3.out; rwa [hsg.out] at this, hR1.out.2⟩, (Tch.of xb1).trans xt3⟩
    case h => simp [results, Tryz.results137, go_sem]
theorem bi_NewInt (x : Int) (h1 : -9223372036854775808 ≤ x) (h2 : x ≤ 9223372036854775807) (w : World) :
    Calls Tryz.prog 78 #[.int .i64 x] w (NPost w x) := by
  have hrm := Lib.hid (int_room w)
  go_enter Tryz.func78, Tryz.ntmps78
  go_wp2_with (first
    | (go_at_call 137; (with_reducible refine (bi_SetInt64 w.heap.size 0 x h1 h2 _ hrm.out).mono ?_); rintro e w3 ⟨rfl, A3, n3, c3, hI3, xt3⟩)
   )
  have hEE := Lib.hid (xt3.ext (ext_alloc (ext_refl w) _) (Nat.le_refl _))
  refine bodyPost_ret (v := .pointer (some ⟨w.heap.size, 0, none⟩)) ?h rfl ⟨_, A3, n3, c3, rfl, ⟨hI3.out.1, Fr.mono hI3.out.2 (ext_alloc (ext_refl w) _)⟩, Nat.le_refl _, hEE.out⟩
  case h => simp [results, Tryz.results78, go_sem]
end Go.Proofs.YtkhkoeibpkglkaaGreatDoor
end
section
/- What is seen of a fraction, compared with itself. -/
namespace Go.Proofs.YtkhkoeibpkglkaaGreatDoor
open Go.RowKit
theorem neq_look (b : Bool) (n m : Int) (w : World) : (binOp .neq 219 (.agg #[.bool b, .int .i64 n, .int .i64 m]) (.agg #[.bool b, .int .i64 n, .int .i64 m])).run Tryz.prog w = .ok (.bool false) w := by
  cases b <;> simp [go_sem]
end Go.Proofs.YtkhkoeibpkglkaaGreatDoor
end
section
/- The program's fractions: taken. -/
namespace Go.Proofs.YtkhkoeibpkglkaaGreatDoor
open Go.RowKit
attribute [local go_sem] sz2 sz3 sz4 sz5 sz6 sz7 sz8
set_option maxHeartbeats 4000000
set_option maxRecDepth 100000
attribute [local irreducible] Calls
attribute [local go_sem high] neq_look
/-- A fraction of the library's, in a block of its own, with words of its own. -/
abbrev KPost (w : World) (z : Int) (d : Nat) : Ending → World → Prop := fun e w' => ∃ (g : Nat) (A : Option Addr) (n c : Nat) (D : Option Addr) (m k : Nat), e = .returned (.tuple #[.pointer (some ⟨g, 0, none⟩), .int .i64 0]) ∧
  Hid (RatIs w' g z A n c d D m k ∧ Fr w A ∧ Fr w D) ∧ w.heap.size ≤ g ∧ Ext w w'
theorem ra_seen (neg : Bool) (A : Option Addr) (n c : Nat) (D : Option Addr) (m k : Nat) (w : World) : Calls Tryz.prog 195 #[ratV neg A n c D m k] w fun e w' => e = .returned (.agg #[.bool neg, .int .i64 (n : Int), .int .i64 (m : Int)]) ∧ Ext w w' := by
  go_enter Tryz.func195, Tryz.ntmps195
  go_wp2
  refine bodyPost_ret (v := .agg #[.bool neg, .int .i64 ↑n, .int .i64 ↑m]) ?h rfl ⟨rfl, ?_⟩
  case h => simp [results, Tryz.results195, go_sem]
  repeat (first | exact ext_refl _ | assumption | refine ext_setCell ?_ (by simp; try omega) _ | refine ext_alloc ?_ _ | refine ext_drew ?_ | refine ext_drewN ?_ _ | refine ext_trans ?_ (Aft.use _) | refine ext_trans ?_ (by assumption))
theorem ra_taken (neg : Bool) (A : Option Addr) (n c a : Nat) (D : Option Addr) (m k d : Nat) (hd : d ≠ 0) (hn : n ≤ 16384) (hm : m ≤ 16384) (hg : Nat.gcd a d = 1) (hng : neg = true → a ≠ 0) (w : World) (hT : Tz w) (hA : Rd w A n c (lim a)) (hD : Rd w D m k (lim d)) :
    Calls Tryz.prog 131 #[ratV neg A n c D m k] w (KPost w (sgn neg a) (lowD a d)) := by
  have HA := Lib.hid hA
  have HD := Lib.hid hD
  have HT := Lib.hid hT
  have hla := hA.len
  have hld := hD.len
  have hm0 : ((m : Int) == 0) = false := by
    rw [beq_eq_false_iff_ne]
    intro h; exact hd (lim_nil.1 (List.eq_nil_of_length_eq_zero (by omega)))
  have chA : ∀ w', Ext w w' → Calls Tryz.prog 105 #[natV A n c] w' fun e w'' => e = .returned (.int .i64 0) ∧ Ext w' w'' := fun w' he => by
    have := ncheck_any A n c (lim a) w' (HA.out.ext he); rwa [chk_lim (by omega)] at this
  have chD : ∀ w', Ext w w' → Calls Tryz.prog 105 #[natV D m k] w' fun e w'' => e = .returned (.int .i64 0) ∧ Ext w' w'' := fun w' he => by
    have := ncheck_any D m k (lim d) w' (HD.out.ext he); rwa [chk_lim (by omega)] at this
  have kA : ∀ w', Ext w w' → Calls Tryz.prog 106 #[natV A n c] w' (NPost w' a) := fun w' he => ra_whole A n c a (by omega) w' (HA.out.ext he)
  have kD : ∀ w', Ext w w' → Calls Tryz.prog 106 #[natV D m k] w' (NPost w' d) := fun w' he => ra_whole D m k d (by omega) w' (HD.out.ext he)
  clear hA hD hT
  go_enter Tryz.func131, Tryz.ntmps131
  go_upto_region 3 with (first
    | (go_at_call 105; (with_reducible refine (chA _ (by (repeat (first | exact ext_refl _ | assumption | refine ext_setCell ?_ (by simp; try omega) _ | refine ext_alloc ?_ _ | refine ext_drew ?_ | refine ext_drewN ?_ _ | refine ext_trans ?_ (Aft.use _) | refine ext_trans ?_ (by assumption))))).mono ?_); rintro e w1 ⟨rfl, xb1⟩; obtain ⟨xc1, xf1, xl1, xz1⟩ := ext_use xb1; (try simp at xz1); obtain ⟨l1_0, gc, gf⟩ := kp xb1 (w.heap.size) (by first | omega | (simp; try omega)); have r1_0 := gc 0; have f1_0 := gf 0; have r1_0_1 := gc 1; have f1_0_1 := gf 1; have r1_0_2 := gc 2; have f1_0_2 := gf 2; clear gc gf)
    | (go_at_call 105; (with_reducible refine (chD _ (by (repeat (first | exact ext_refl _ | assumption | refine ext_setCell ?_ (by simp; try omega) _ | refine ext_alloc ?_ _ | refine ext_drew ?_ | refine ext_drewN ?_ _ | refine ext_trans ?_ (Aft.use _) | refine ext_trans ?_ (by assumption))))).mono ?_); rintro e w2 ⟨rfl, xb2⟩; obtain ⟨xc2, xf2, xl2, xz2⟩ := ext_use xb2; (try simp at xz2); obtain ⟨l2_0, gc, gf⟩ := kp xb2 (w.heap.size) (by first | omega | (simp; try omega)); have r2_0 := gc 0; have f2_0 := gf 0; have r2_0_1 := gc 1; have f2_0_1 := gf 1; have r2_0_2 := gc 2; have f2_0_2 := gf 2; clear gc gf)
   )
  have z0 : w2.cell? ⟨w.heap.size, 0, none⟩ = some (.bool neg) := by simp [go_sem, *]
  have z1 : w2.cell? ⟨w.heap.size, 1, none⟩ = some (.slice A n c) := by simp [go_sem, *]
  have z2 : w2.cell? ⟨w.heap.size, 2, none⟩ = some (.slice D m k) := by simp [go_sem, *]
  have zl : w.heap.size < w2.heap.size := by assumption
  have hE2 : Hid (Ext w w2) := by show Ext w w2; (repeat (first | exact ext_refl _ | assumption | refine ext_setCell ?_ (by simp; try omega) _ | refine ext_alloc ?_ _ | refine ext_drew ?_ | refine ext_drewN ?_ _ | refine ext_trans ?_ (Aft.use _) | refine ext_trans ?_ (by assumption)))
  clear chA chD
  go_cut [4, 5] (fun p q wc => ∃ (b1 : Nat) (B1 : Option Addr) (k1 l1 b3 : Nat) (B3 : Option Addr) (k3 l3 : Nat), p = .pointer (some ⟨b1, 0, none⟩) ∧ q = .pointer (some ⟨b3, 0, none⟩) ∧ Hid (IntIs wc b1 0 a B1 k1 l1) ∧ Hid (IntIs wc b3 0 d B3 k3 l3) ∧ Hid (b3 ≠ b1 ∧ Off B3 k3 b1 ∧ w2.heap.size ≤ b1) ∧ Hid (Ext w2 wc))
  case first =>
    go_region_with (first
      | (go_at_call 106; (with_reducible refine (kA _ (ext_trans hE2.out (by (repeat (first | exact ext_refl _ | assumption | refine ext_setCell ?_ (by simp; try omega) _ | refine ext_alloc ?_ _ | refine ext_drew ?_ | refine ext_drewN ?_ _ | refine ext_trans ?_ (Aft.use _) | refine ext_trans ?_ (by assumption)))))).mono ?_); rintro e w5 ⟨b5, B5, k5, l5, rfl, hI5, hb5, xb5⟩; obtain ⟨xc5, xf5, xl5, xz5⟩ := ext_use xb5; (try simp at xz5); obtain ⟨l5_0, gc, gf⟩ := kp xb5 (w.heap.size) (by first | omega | (simp; try omega)); have r5_0 := gc 0; have f5_0 := gf 0; have r5_0_1 := gc 1; have f5_0_1 := gf 1; have r5_0_2 := gc 2; have f5_0_2 := gf 2; clear gc gf)
      | (go_at_call 106; (with_reducible refine (kD _ (ext_trans hE2.out (by (repeat (first | exact ext_refl _ | assumption | refine ext_setCell ?_ (by simp; try omega) _ | refine ext_alloc ?_ _ | refine ext_drew ?_ | refine ext_drewN ?_ _ | refine ext_trans ?_ (Aft.use _) | refine ext_trans ?_ (by assumption)))))).mono ?_); rintro e w6 ⟨b6, B6, k6, l6, rfl, hI6, hb6, xb6⟩; obtain ⟨xc6, xf6, xl6, xz6⟩ := ext_use xb6; (try simp at xz6); obtain ⟨l6_0, gc, gf⟩ := kp xb6 (w.heap.size) (by first | omega | (simp; try omega)); have r6_0 := gc 0; have f6_0 := gf 0; have r6_0_1 := gc 1; have f6_0_1 := gf 1; have r6_0_2 := gc 2; have f6_0_2 := gf 2; clear gc gf)
     )
    all_goals
      go_wp2_with fail
      go_meet
      case rel =>
        have q5 := hI5.out.1.room.lt
        have q6 := hI6.out.1.room.lt
        simp at hb5 hb6
        first
          | exact ⟨b5, B5, k5, l5, b6, B6, k6, l6, rfl, rfl, hI5.out.1.ext xb6, hI6.out.1, ⟨by omega, hI6.out.2.off q5 k6, by omega⟩, ext_trans (ext_drew (ext_refl w2)) (ext_trans xb5 xb6)⟩
          | exact ⟨b5, B5, k5, l5, b6, B6, k6, l6, rfl, rfl, hI5.out.1, hI6.out.1.ext xb5, ⟨by omega, hI6.out.1.rd.off hb5, by have := ext_size xb6; simp at this; omega⟩, ext_trans (ext_drew (ext_refl w2)) (ext_trans xb6 xb5)⟩
  case rest =>
    obtain ⟨b1, B1, k1, l1, b3, B3, k3, l3, rfl, rfl, hI1, hI3, hap, hEc⟩ := hcut
    have hk1 := Nat.le_trans (Nat.le_of_eq (hI1.out.lenNat.symm.trans hla)) hn
    have hk3 := Nat.le_trans (Nat.le_of_eq (hI3.out.lenNat.symm.trans hld)) hm
    have hk1b : k1 ≤ 1000000 := by omega
    have hk1c : k1 ≤ 400000 := by omega
    have hk3c : k3 ≤ 400000 := by omega
    clear xb1 xb2 kA kD
    have hl3 := lowD_len (a := a) hd
    rw [hla, hld] at hl3
    have hn' := Nat.le_trans hl3.2.2 hn
    have hm' := Nat.le_trans hl3.2.1 (Nat.le_trans hm (show 16384 ≤ 100000 by decide))
    have hdl := Nat.le_trans hl3.1 hm
    have hden : denOf (lowD a d) = d := by
      unfold denOf lowD
      by_cases h0 : a = 0
      · rw [if_pos h0, if_pos rfl]; subst h0; rw [Nat.gcd_zero_left] at hg; exact hg.symm
      · rw [if_neg h0, hg, Nat.div_one, if_neg hd]
    have y0 := (Below.cell (p := ⟨w.heap.size, 0, none⟩) hEc.out zl).trans z0
    go_upto_if 33 with (fail)
    go_cut [4] (fun p wn => ∃ (B2 : Option Addr) (k2 l2 : Nat), p = .pointer (some ⟨b1, 0, none⟩) ∧ k2 ≤ 400000 ∧ Hid (IntIs wn b1 0 (sgn neg a) B2 k2 l2) ∧ Hid (IntIs wn b3 0 d B3 k3 l3) ∧ Hid (Ext w2 wn))
    case first =>
      cases neg with
      | false =>
        go_wp2
        go_meet
        case rel => exact ⟨B1, k1, l1, rfl, hk1c, hI1.out, hI3, hEc⟩
      | true =>
        go_wp2_with (first
          | (go_at_call 107; (with_reducible refine (bi_Neg b1 0 b1 0 B1 k1 l1 a hk1b _ hI1.out.room hI1.out).mono ?_); rintro e w7 ⟨rfl, B2, k2, l2, hI2, xt2⟩)
         )
        go_meet
        case rel =>
          refine ⟨B2, k2, l2, rfl, ?_, hI2.out.1, hI3.out.tch xt2 hap.out.1 hap.out.2.1, xt2.ext hEc.out hap.out.2.2⟩
          have := hI2.out.1.rd.len; rw [Int.natAbs_neg, Int.natAbs_natCast, hla] at this; omega
    case rest =>
    obtain ⟨wq, rfl⟩ : ∃ wq, wq = wc := ⟨wc, rfl⟩
    obtain ⟨B2, k2, l2, rfl, hk2, hI2, hI3, hEc⟩ := hcut
    clear y0
    have y0 := (Below.cell (p := ⟨w.heap.size, 0, none⟩) hEc.out zl).trans z0
    have y1 := (Below.cell (p := ⟨w.heap.size, 1, none⟩) hEc.out zl).trans z1
    have y2 := (Below.cell (p := ⟨w.heap.size, 2, none⟩) hEc.out zl).trans z2
    have yl := ext_lt hEc.out _ zl
    have hE3 := Lib.hid (ext_trans hE2.out hEc.out)
    have hTr := Lib.hid (HT.out.ext hE3.out)
    go_upto_region 8 with (first
      | (go_at_call 64; (with_reducible refine (br_SetFrac' _ b1 b3 neg a d hd B2 k2 l2 B3 k3 l3 hk2 hk3c _ (hTr.out.ext (ext_alloc (ext_refl _) _)) (rat_room wq) (hI2.out.ext (ext_alloc (ext_refl _) _)) (hI3.out.ext (ext_alloc (ext_refl _) _))).mono ?_); rintro e w4 ⟨rfl, A4, n4, c4, D4, m4, e4, hI4, xt4⟩; have hn4 := Nat.le_trans (Nat.le_of_eq hI4.out.1.int.lenSgn.symm) hn'; have hm4 := Nat.le_trans (Nat.le_of_eq hI4.out.1.rd.len.symm) hm'; have hx4 := Lib.hid (xt4.ext (ext_alloc (ext_refl wq) _) (Nat.le_refl _)); have v0 := (Below.cell (p := ⟨w.heap.size, 0, none⟩) hx4.out yl).trans y0; have v1 := (Below.cell (p := ⟨w.heap.size, 1, none⟩) hx4.out yl).trans y1; have v2 := (Below.cell (p := ⟨w.heap.size, 2, none⟩) hx4.out yl).trans y2; have vl := ext_lt hx4.out _ yl)
      | (go_at_call 65; (with_reducible refine (ra_told_ok _ _ A4 n4 c4 _ D4 m4 e4 hn4 hm4 hdl _ hI4.out.1).mono ?_); rintro e w5 ⟨A5, n5, c5, D5, m5, e5, rfl, hI5, xb5⟩; obtain ⟨xc5, xf5, xl5, xz5⟩ := ext_use xb5; (try simp at xz5); obtain ⟨l5_0, gc, gf⟩ := kp xb5 (w.heap.size) (by first | omega | (simp; try omega)); have r5_0 := gc 0; have f5_0 := gf 0; have r5_0_1 := gc 1; have f5_0_1 := gf 1; have r5_0_2 := gc 2; have f5_0_2 := gf 2; clear gc gf)
     )
    have hds : decide (sgn neg a < 0) = neg := by rw [sgn_lt]; cases neg; rfl; exact decide_eq_true (Nat.pos_of_ne_zero (hng rfl))
    obtain rfl : n5 = n := by rw [← hI5.out.1.len, ← hla, sgn_abs, hg, Nat.div_one]
    obtain rfl : m5 = m := by rw [← hI5.out.2.2.1.len, hden, hld]
    have hE5 := Lib.hid (ext_trans hx4.out xb5)
    have hR5 := Lib.hid (hI4.out.1.ext xb5)
    have hN5 := Lib.hid (hI3.out.ext hE5.out)
    have kDen : ∀ wx, Ext w5 wx → Calls Tryz.prog 123 #[.pointer (some ⟨wq.heap.size, 0, none⟩)] wx (NPost wx d) := fun wx hx => by
      have := br_Denom _ _ _ _ _ _ _ _ _ (by omega) wx (hR5.out.ext hx); rwa [hden] at this
    have kCmp : ∀ b7 B7 k7 l7 wx, Ext w5 wx → IntIs wx b7 0 d B7 k7 l7 → Calls Tryz.prog 196 #[.pointer (some ⟨b7, 0, none⟩), .pointer (some ⟨b3, 0, none⟩)] wx fun e w' => e = .returned (.int .i64 0) ∧ Ext wx w' := fun b7 B7 k7 l7 wx hx h7 => by
      have := bi_Cmp b7 0 b3 0 d d B7 k7 l7 B3 k3 l3 wx h7 (hN5.out.ext hx); rwa [Int.sub_self, Int.sign_zero] at this
    clear hng
    generalize hdz : decide (sgn neg a < 0) = dz
    rw [hdz] at hds
    subst hds
    clear hdz
    have hcl : Hid (Ext w (w5.alloc (Obj.cells #[.bool false, .slice A5 n5 c5, .slice D5 m5 e5] 33))) := ext_alloc (ext_trans hE3.out hE5.out) _
    go_cut [61] (fun v wn => v = .bool false ∧ Hid (Ext w5 wn))
    case first =>
      go_region_with (first
        | (go_at_call 195; (with_reducible refine (ra_seen _ _ _ _ _ _ _ _).mono ?_); rintro e w6 ⟨rfl, xb6⟩; obtain ⟨xc6, xf6, xl6, xz6⟩ := ext_use xb6; (try simp at xz6); obtain ⟨l6_0, gc, gf⟩ := kp xb6 (w.heap.size) (by first | omega | (simp; try omega)); have r6_0 := gc 0; have f6_0 := gf 0; have r6_0_1 := gc 1; have f6_0_1 := gf 1; have r6_0_2 := gc 2; have f6_0_2 := gf 2; clear gc gf; obtain ⟨l6_1, gc, gf⟩ := kp xb6 (w5.heap.size) (by first | omega | (simp; try omega)); have r6_1 := gc 0; have f6_1 := gf 0; have r6_1_1 := gc 1; have f6_1_1 := gf 1; have r6_1_2 := gc 2; have f6_1_2 := gf 2; clear gc gf)
        | (go_at_call 123; (with_reducible refine (kDen _ (by (repeat (first | exact ext_refl _ | assumption | refine ext_setCell ?_ (by simp; try omega) _ | refine ext_alloc ?_ _ | refine ext_drew ?_ | refine ext_drewN ?_ _ | refine ext_trans ?_ (Aft.use _) | refine ext_trans ?_ (by assumption))))).mono ?_); rintro e w7 ⟨b7, B7, k7, l7, rfl, hI7, hb7, xb7⟩; obtain ⟨xc7, xf7, xl7, xz7⟩ := ext_use xb7; (try simp at xz7); obtain ⟨l7_0, gc, gf⟩ := kp xb7 (w.heap.size) (by first | omega | (simp; try omega)); have r7_0 := gc 0; have f7_0 := gf 0; have r7_0_1 := gc 1; have f7_0_1 := gf 1; have r7_0_2 := gc 2; have f7_0_2 := gf 2; clear gc gf; obtain ⟨l7_1, gc, gf⟩ := kp xb7 (w5.heap.size) (by first | omega | (simp; try omega)); have r7_1 := gc 0; have f7_1 := gf 0; have r7_1_1 := gc 1; have f7_1_1 := gf 1; have r7_1_2 := gc 2; have f7_1_2 := gf 2; clear gc gf)
        | (go_at_call 196; (with_reducible refine (kCmp b7 B7 k7 l7 _ (by (repeat (first | exact ext_refl _ | assumption | refine ext_setCell ?_ (by simp; try omega) _ | refine ext_alloc ?_ _ | refine ext_drew ?_ | refine ext_drewN ?_ _ | refine ext_trans ?_ (Aft.use _) | refine ext_trans ?_ (by assumption)))) hI7.out.1).mono ?_); rintro e w8 ⟨rfl, xb8⟩; obtain ⟨xc8, xf8, xl8, xz8⟩ := ext_use xb8; (try simp at xz8); obtain ⟨l8_0, gc, gf⟩ := kp xb8 (w.heap.size) (by first | omega | (simp; try omega)); have r8_0 := gc 0; have f8_0 := gf 0; have r8_0_1 := gc 1; have f8_0_1 := gf 1; have r8_0_2 := gc 2; have f8_0_2 := gf 2; clear gc gf; obtain ⟨l8_1, gc, gf⟩ := kp xb8 (w5.heap.size) (by first | omega | (simp; try omega)); have r8_1 := gc 0; have f8_1 := gf 0; have r8_1_1 := gc 1; have f8_1_1 := gf 1; have r8_1_2 := gc 2; have f8_1_2 := gf 2; clear gc gf)
       )
      all_goals
        go_wp2_with fail
        go_meet
        case rel => exact ⟨rfl, (show Ext _ _ by (repeat (first | exact ext_refl _ | assumption | refine ext_setCell ?_ (by simp; try omega) _ | refine ext_alloc ?_ _ | refine ext_drew ?_ | refine ext_drewN ?_ _ | refine ext_trans ?_ (Aft.use _) | refine ext_trans ?_ (by assumption))))⟩
    case rest =>
      obtain ⟨rfl, hEn⟩ := hcut
      go_wp2
      refine bodyPost_ret (v := .tuple #[.pointer (some ⟨wq.heap.size, 0, none⟩), .int .i64 0]) ?h rfl ⟨_, A4, n4, c4, D4, m4, e4, rfl, ⟨?_, hI4.out.2.1.mono (ext_alloc hE3.out _), hI4.out.2.2.mono (ext_alloc hE3.out _)⟩, ext_size hE3.out, ext_trans (ext_trans hE3.out hE5.out) hEn.out⟩
      case h => simp [results, Tryz.results131, go_sem]
      have := hR5.out.ext hEn.out
      rwa [hg, Nat.div_one] at this
end Go.Proofs.YtkhkoeibpkglkaaGreatDoor
end
section
/- Fractions of the library's: products. -/
namespace Go.Proofs.YtkhkoeibpkglkaaGreatDoor
open Go.RowKit
attribute [local go_sem] sz2 sz3 sz4 sz5 sz6 sz7 sz8
set_option maxHeartbeats 4000000
set_option maxRecDepth 100000
attribute [local irreducible] Calls
theorem bw_mulA (A B : Option Addr) (n c m d a b : Nat) (hs : n + m ≤ 200000) (w : World) (hA : Rd w A n c (lim a)) (hB : Rd w B m d (lim b)) : Calls Tryz.prog 138 #[.slice A n c, .slice B m d] w (WPost w (a * b)) := bw_mul (n + m) A B n c m d a b rfl hs w hA hB
end Go.Proofs.YtkhkoeibpkglkaaGreatDoor
end
section
/- Fractions in their lowest terms, plainly. -/
namespace Go.Proofs.YtkhkoeibpkglkaaGreatDoor
/-- Above the line and below it, in lowest terms. -/
def canN (z : Int) (d : Nat) : Int := sgn (decide (z < 0)) (z.natAbs / Nat.gcd z.natAbs d : Nat)
def canD (z : Int) (d : Nat) : Nat := d / Nat.gcd z.natAbs d
theorem canD_pos {z : Int} {d : Nat} (hd : d ≠ 0) : canD z d ≠ 0 := by
  unfold canD
  have := Nat.div_pos (Nat.le_of_dvd (Nat.pos_of_ne_zero hd) (Nat.gcd_dvd_right z.natAbs d)) (Nat.gcd_pos_of_pos_right z.natAbs (Nat.pos_of_ne_zero hd))
  omega
theorem can_gcd {z : Int} {d : Nat} (hd : d ≠ 0) : Nat.gcd (canN z d).natAbs (canD z d) = 1 := by
  unfold canN canD
  rw [sgn_abs]
  exact Nat.coprime_div_gcd_div_gcd (Nat.gcd_pos_of_pos_right z.natAbs (Nat.pos_of_ne_zero hd))
theorem canN_zero (d : Nat) : canN 0 d = 0 := by unfold canN; rw [Int.natAbs_zero, Nat.zero_div]; rfl
end Go.Proofs.YtkhkoeibpkglkaaGreatDoor
end
section
/- Fractions of the library's: a product in lowest terms. -/
namespace Go.Proofs.YtkhkoeibpkglkaaGreatDoor
open Go.RowKit
attribute [local go_sem] sz2 sz3 sz4 sz5 sz6 sz7 sz8
set_option maxHeartbeats 4000000
set_option maxRecDepth 100000
attribute [local irreducible] Calls
attribute [local go_sem] D2.Oper.detAt D2.detUpon D2.relUpon
namespace D2
theorem stays_word (N v : Nat) : Stays (RWord N v) := fun _ _ _ _ ⟨A, k, c, h1, h2, h3⟩ he => ⟨A, k, c, h1, h2.ext he, h3⟩
theorem fresh_row {w w' : World} {A : Option Addr} {k c : Nat} : Fresh w (.slice A k c) w' := fun b hb => by simp [blk] at hb
theorem rel_wpost {f : FuncId} {args : Array Value} {N v : Nat} {vals : List Value} {w : World} (hN : N ≤ w.heap.size) (h : Calls Tryz.prog f args w (WPost w v)) :
    Calls Tryz.prog f args w fun e w' => ∃ u, e = .returned u ∧ Ext w w' ∧ Fresh w u w' ∧ RWord N v vals u w' :=
  h.mono fun _ _ ⟨B, k, l, h1, h2, h3⟩ => ⟨_, h1, h3, fresh_row, B, k, l, rfl, h2.out.1, fun a ha => Nat.le_trans hN (h2.out.2 a ha)⟩
end D2
theorem sgn_both (x y : Int) : sgn (!(decide (x < 0) == decide (y < 0))) (x.natAbs * y.natAbs : Nat) = x * y := by
  have hx := sgn_self x
  have hy := sgn_self y
  have k : ∀ (s t : Bool) (a b : Nat), sgn (!(s == t)) (a * b : Nat) = sgn s a * sgn t b := by
    intro s t a b; cases s <;> cases t <;> simp [sgn, Int.natCast_mul, Int.neg_mul, Int.mul_neg]
  rw [k, hx, hy]
end Go.Proofs.YtkhkoeibpkglkaaGreatDoor
end
section
/- Whole numbers of the library's: products, differences, quotients. -/
namespace Go.Proofs.YtkhkoeibpkglkaaGreatDoor
open Go.RowKit
attribute [local go_sem] sz2 sz3 sz4 sz5 sz6 sz7 sz8
set_option maxHeartbeats 4000000
set_option maxRecDepth 100000
attribute [local irreducible] Calls
attribute [local go_sem] D2.Oper.detAt D2.detUpon D2.relUpon
namespace D2
/-- A quotient and what is left, both new. -/
def RQuo (N q r : Nat) : List Value → Value → World → Prop := fun _ u w => ∃ (A : Option Addr) (k c : Nat) (B : Option Addr) (m d : Nat), u = .tuple #[.slice A k c, .slice B m d] ∧ (Rd w A k c (lim q) ∧ ∀ a, A = some a → N ≤ a.block) ∧ Rd w B m d (lim r) ∧ ∀ a, B = some a → N ≤ a.block
theorem stays_quo (N q r : Nat) : Stays (RQuo N q r) := fun _ _ _ _ ⟨A, k, c, B, m, d, h1, ⟨h2, h3⟩, h4, h5⟩ he => ⟨A, k, c, B, m, d, h1, ⟨h2.ext he, h3⟩, h4.ext he, h5⟩
theorem quo_at {N q r : Nat} {vals : List Value} {A : Option Addr} {k c : Nat} {B : Option Addr} {m d : Nat} {w : World} (h : RQuo N q r vals (.tuple #[.slice A k c, .slice B m d]) w) : (Rd w A k c (lim q) ∧ ∀ a, A = some a → N ≤ a.block) ∧ Rd w B m d (lim r) ∧ ∀ a, B = some a → N ≤ a.block := by
  obtain ⟨A', k', c', B', m', d', e, h1, h2⟩ := h
  cases e
  exact ⟨h1, h2⟩
theorem rel_quo {f : FuncId} {args : Array Value} {N q r : Nat} {vals : List Value} {w : World} (hN : N ≤ w.heap.size) (h : Calls Tryz.prog f args w (QPost w q r)) :
    Calls Tryz.prog f args w fun e w' => ∃ u, e = .returned u ∧ Ext w w' ∧ Fresh w u w' ∧ RQuo N q r vals u w' :=
  h.mono fun _ _ ⟨A, k, c, B, m, d, h1, h2, h3, h4⟩ => ⟨_, h1, h4, (fun b hb => by simp [blk] at hb), A, k, c, B, m, d, rfl, ⟨h2.out.1, fun a ha => Nat.le_trans hN (h2.out.2 a ha)⟩, h3.out.1, fun a ha => Nat.le_trans hN (h3.out.2 a ha)⟩
end D2
theorem bi_Mul (b o g p h q : Nat) (x y : Int) (A : Option Addr) (n c : Nat) (B : Option Addr) (m d : Nat) (hn : n ≤ 100000) (hm : m ≤ 100000) (w : World) (hr : Room w b o) (hx : IntIs w g p x A n c) (hy : IntIs w h q y B m d) :
    Calls Tryz.prog 79 #[.pointer (some ⟨b, o, none⟩), .pointer (some ⟨g, p, none⟩), .pointer (some ⟨h, q, none⟩)] w (IPost w b o (x * y)) := by
  have HX := Lib.hid hx
  have HY := Lib.hid hy
  have HR := Lib.hid hr
  have lx := hx.room.lt
  have x0 := hx.neg
  have x1 := hx.words
  have ly := hy.room.lt
  have y0 := hy.neg
  have y1 := hy.words
  have hbl := hr.lt
  have kM : ∀ w', Ext w w' → Calls Tryz.prog 138 #[.slice A n c, .slice B m d] w' (WPost w' (x.natAbs * y.natAbs)) := fun w' he => bw_mul (n + m) A B n c m d _ _ rfl (by omega) w' (HX.out.rd.ext he) (HY.out.rd.ext he)
  clear hx hy hr
  go_enter Tryz.func79, Tryz.ntmps79
  go_wp2
  refine D2.wp_drawn_tail 19 (D2.tab [(18, RWord w.heap.size (x.natAbs * y.natAbs))]) (by kernel_rfl) (by kernel_rfl) (by kernel_rfl) (D2.tab_stays (by simp [D2.stays_word])) (fun hq hqf => ?_)
  simp only [List.take_succ_cons, List.take_zero, List.drop_succ_cons, List.drop_zero]
  have z0 := fun nq => (hq nq g p lx).trans x0
  have z1 := fun nq => (hq nq g (p + 1) lx).trans x1
  have z2 := fun nq => (hq nq h q ly).trans y0
  have z3 := fun nq => (hq nq h (q + 1) ly).trans y1
  iterate 18
    (refine D2.wpK_det rfl (fun K hK => ?_)
     go_simp
     first
       | (refine hK _ ?_; clear hK K)
       | (apply Exists.intro; refine ⟨fun x => ?_, hK _ ?_⟩; (first | exact z0 x | exact z1 x | exact z2 x | exact z3 x | (simp [z0, z1, z2, z3]; rfl)); clear hK K))
  refine D2.wpK_rel _ rfl rfl ?_ ?_
  · rintro _ ⟨nn, rfl⟩ _
    unfold D2.Oper.relAt
    go_simp
    exact D2.rel_wpost (ext_size nn.use) (kM _ nn.use)
  rintro v ⟨_, ⟨nn, rfl⟩, hr⟩
  obtain ⟨A9, k9, c9, rfl, -, -⟩ := hr
  clear nn
  refine D2.wpK_nil ?_
  intro nq2 hG
  have r9 : RWord w.heap.size (x.natAbs * y.natAbs) [] (.slice A9 k9 c9) nq2.out := by have := hG.fact 18; simp [D2.Facts.put] at this; exact this
  have hR9 := Lib.hid (rword_at r9)
  have hF9 : Fr w A9 := hR9.out.2
  have hO9 := hF9.off HR.out.lt k9
  clear r9 hG
  go_wp2_with (first
    | (go_at_call 117; (with_reducible refine (bi_set b o _ A9 k9 c9 (x.natAbs * y.natAbs) _ (HR.out.ext nq2.use) hR9.out.1 hO9).mono ?_); rintro e w3 ⟨rfl, hI3, xt3⟩)
   )
  refine bodyPost_ret (v := .pointer (some ⟨b, o, none⟩)) ?h rfl ⟨rfl, A9, k9, c9, ⟨by have := hI3.out; rwa [sgn_both] at this, hF9⟩, (Tch.of nq2.use).trans xt3⟩
  case h => simp [results, Tryz.results79, go_sem]
/-- Two blocks, one behind the other, may have turned. -/
abbrev QRPost (w : World) (b g : Nat) (q r : Int) : Ending → World → Prop := fun e w' => e = .returned (.tuple #[.pointer (some ⟨b, 0, none⟩), .pointer (some ⟨g, 0, none⟩)]) ∧ ∃ (A : Option Addr) (n c : Nat) (B : Option Addr) (m d : Nat) (w1 : World),
  Hid (IntIs w' b 0 q A n c ∧ Fr w A ∧ IntIs w' g 0 r B m d ∧ Fr w B) ∧ Tch g w w1 ∧ Tch b w1 w'
theorem bi_QuoRem (b g bx b2 : Nat) (x y : Int) (hy0 : y ≠ 0) (hbg : b ≠ g) (A : Option Addr) (n c : Nat) (B : Option Addr) (m d : Nat) (hn : n ≤ 400000) (w : World) (hr : Room w b 0) (hr2 : Room w g 0) (hx : IntIs w bx 0 x A n c) (hy : IntIs w b2 0 y B m d) :
    Calls Tryz.prog 250 #[.pointer (some ⟨b, 0, none⟩), .pointer (some ⟨bx, 0, none⟩), .pointer (some ⟨b2, 0, none⟩), .pointer (some ⟨g, 0, none⟩)] w
      (QRPost w b g (sgn (!(decide (x < 0) == decide (y < 0))) (x.natAbs / y.natAbs)) (sgn (decide (x < 0)) (x.natAbs % y.natAbs))) := by
  have HX := Lib.hid hx
  have HY := Lib.hid hy
  have HR := Lib.hid hr
  have HR2 := Lib.hid hr2
  have lx := hx.room.lt
  have x0 := hx.neg
  have x1 := hx.words
  have ly := hy.room.lt
  have y0 := hy.neg
  have y1 := hy.words
  simp only [Nat.zero_add] at x1 y1
  have kD : ∀ w', Ext w w' → Calls Tryz.prog 242 #[.slice A n c, .slice B m d] w' (QPost w' (x.natAbs / y.natAbs) (x.natAbs % y.natAbs)) := fun w' he => bw_div A B n c m d _ _ (by omega) hn w' (HX.out.rd.ext he) (HY.out.rd.ext he)
  clear hx hy hr hr2
  go_enter Tryz.func250, Tryz.ntmps250
  go_wp2
  refine wp_aft (by kernel_rfl) (by kernel_rfl) (fun hq hqf => ?_)
  repeat (go_big_quiet_step (first | fail
    ))
  refine wpQuiet_nil ?_
  rintro _ ⟨nq, rfl⟩
  have xl := ext_lt nq.use
  have xz := ext_size nq.use
  try simp at xz
  have hE := Lib.hid nq.use
  clear hq hqf
  have z0 := (Below.cell (p := ⟨bx, 0, none⟩) hE.out lx).trans x0
  have z1 := (Below.cell (p := ⟨bx, 1, none⟩) hE.out lx).trans x1
  have z2 := (Below.cell (p := ⟨b2, 0, none⟩) hE.out ly).trans y0
  have z3 := (Below.cell (p := ⟨b2, 1, none⟩) hE.out ly).trans y1
  have lx' := ext_lt hE.out _ lx
  have ly' := ext_lt hE.out _ ly
  generalize nq.out = W at *
  clear nq x0 x1 y0 y1
  go_upto_region 3 with (fail)
  refine D2.wp_drawn (D2.tab [(8, D2.RQuo W.heap.size (x.natAbs / y.natAbs) (x.natAbs % y.natAbs))]) (by kernel_rfl) (by kernel_rfl) (D2.tab_stays (by simp [D2.stays_quo])) (fun hq hqf => ?_)
  have u1 := fun nq => (hq nq bx 1 lx').trans z1
  have u3 := fun nq => (hq nq b2 1 ly').trans z3
  iterate 8
    (refine D2.wpK_det rfl (fun K hK => ?_)
     go_simp
     first
       | (refine hK _ ?_; clear hK K)
       | (apply Exists.intro; refine ⟨fun x => ?_, hK _ ?_⟩; (first | exact u1 x | exact u3 x | (simp [u1, u3]; rfl)); clear hK K))
  refine D2.wpK_rel _ rfl rfl ?_ ?_
  · rintro _ ⟨nn, rfl⟩ _
    unfold D2.Oper.relAt
    go_simp
    exact D2.rel_quo (ext_size nn.use) (kD _ (ext_trans hE.out nn.use))
  rintro v ⟨_, ⟨nn, rfl⟩, hr⟩
  obtain ⟨A5, k5, c5, B5, m5, d5, rfl, -⟩ := hr
  clear nn
  iterate 5
    (refine D2.wpK_det rfl (fun K hK => ?_)
     go_simp
     refine hK _ ?_; clear hK K)
  refine D2.wpK_nil ?_
  intro nq hG
  have r5 : D2.RQuo W.heap.size (x.natAbs / y.natAbs) (x.natAbs % y.natAbs) [] (.tuple #[.slice A5 k5 c5, .slice B5 m5 d5]) nq.out := by have := hG.fact 8; simp [D2.Facts.put] at this; exact this
  have hR5 := Lib.hid (D2.quo_at r5)
  have hE2 := Lib.hid (ext_trans hE.out nq.use)
  have fA : Fr w A5 := fun a ha => Nat.le_trans hE.out.size (hR5.out.1.2 a ha)
  have fB : Fr w B5 := fun a ha => Nat.le_trans hE.out.size (hR5.out.2.2 a ha)
  have oAb := fA.off HR.out.lt k5
  have oAg := fA.off HR2.out.lt k5
  have oBb := fB.off HR.out.lt m5
  have oBg := fB.off HR2.out.lt m5
  clear r5 hG u1 u3 hq hqf kD
  generalize nq.out = W2 at *
  clear nq
  clear z0 z1 z2 z3
  have HG := Lib.hid hbg
  have HY0 := Lib.hid hy0
  clear hbg hy0
  go_upto_region 5 with (first
    | (go_at_call 117; (with_reducible refine (bi_set g 0 _ B5 m5 d5 (x.natAbs % y.natAbs) _ (HR2.out.ext hE2.out) hR5.out.2.1 oBg).mono ?_); rintro e w3 ⟨rfl, hI3, xt3⟩)
   )
  have HI3 := Lib.hid (hI3.out)
  have HT3 := Lib.hid xt3
  clear hI3 xt3
  go_wp2_with (first
    | (go_at_call 117; (with_reducible refine (bi_set b 0 _ A5 k5 c5 (x.natAbs / y.natAbs) _ ((HR.out.ext hE2.out).tch HT3.out HG.out) (hR5.out.1.1.tch HT3.out oAg) oAb).mono ?_); rintro e w4 ⟨rfl, hI4, xt4⟩)
   )
  refine bodyPost_ret (v := .tuple #[.pointer (some ⟨b, 0, none⟩), .pointer (some ⟨g, 0, none⟩)]) ?h rfl ⟨rfl, A5, k5, c5, B5, m5, d5, w3, ⟨hI4.out, fA, HI3.out.tch xt4 (Ne.symm HG.out) oBb, fB⟩, (Tch.of hE2.out).trans HT3.out, xt4⟩
  case h => simp [results, Tryz.results250, go_sem]
end Go.Proofs.YtkhkoeibpkglkaaGreatDoor
end
section
/- Whole numbers of the library's: shifted up; as a machine number; the lowest bit; with a limb put below. -/
namespace Go.Proofs.YtkhkoeibpkglkaaGreatDoor
open Go.RowKit
attribute [local go_sem] sz2 sz3 sz4 sz5 sz6 sz7 sz8
set_option maxHeartbeats 4000000
set_option maxRecDepth 100000
attribute [local irreducible] Calls
attribute [local go_sem] D2.Oper.detAt D2.detUpon D2.relUpon
theorem sgn_shl (x : Int) (z : Nat) : sgn (decide (x < 0)) (x.natAbs * 2 ^ z) = x * 2 ^ z := by
  unfold sgn
  have hp : (0 : Int) < 2 ^ z := Int.pow_pos (by decide)
  by_cases h : x < 0
  · rw [decide_eq_true h, if_pos rfl]
    have : (x.natAbs : Int) = -x := by omega
    push_cast
    rw [this, Int.neg_mul, Int.neg_neg]
  · rw [decide_eq_false h, if_neg (by simp)]
    have : (x.natAbs : Int) = x := by omega
    push_cast
    rw [this]
theorem bi_Lsh (b o g p : Nat) (x : Int) (z : Nat) (A : Option Addr) (n c : Nat) (hn : n ≤ 500000) (hz : z ≤ 16000000) (w : World) (hr : Room w b o) (hx : IntIs w g p x A n c) :
    Calls Tryz.prog 132 #[.pointer (some ⟨b, o, none⟩), .pointer (some ⟨g, p, none⟩), .int .u64 (z : Int)] w (IPost w b o (x * 2 ^ z)) := by
  have HX := Lib.hid hx
  have HR := Lib.hid hr
  have lx := hx.room.lt
  have x0 := hx.neg
  have x1 := hx.words
  have hbl := hr.lt
  have hz2 : (z : Int) ≤ 16000000 := by omega
  have kM : ∀ w', Ext w w' → Calls Tryz.prog 197 #[.slice A n c, .int .i64 (IntKind.i64.wrap (z : Int))] w' (WPost w' (x.natAbs * 2 ^ z)) := fun w' he => by
    have e : IntKind.i64.wrap (z : Int) = (z : Int) := by rw [IntKind.wrap_i64]; omega
    rw [e]
    exact bw_up A n c _ z hn hz w' (HX.out.rd.ext he)
  clear hx hr
  go_enter Tryz.func132, Tryz.ntmps132
  go_wp2
  refine D2.wp_drawn_tail 12 (D2.tab [(11, RWord w.heap.size (x.natAbs * 2 ^ z))]) (by kernel_rfl) (by kernel_rfl) (by kernel_rfl) (D2.tab_stays (by simp [D2.stays_word])) (fun hq hqf => ?_)
  simp only [List.take_succ_cons, List.take_zero, List.drop_succ_cons, List.drop_zero]
  have z0 := fun nq => (hq nq g p lx).trans x0
  have z1 := fun nq => (hq nq g (p + 1) lx).trans x1
  iterate 11
    (refine D2.wpK_det rfl (fun K hK => ?_)
     go_simp
     first
       | (refine hK _ ?_; clear hK K)
       | (apply Exists.intro; refine ⟨fun x => ?_, hK _ ?_⟩; (first | exact z0 x | exact z1 x | (simp [z0, z1]; rfl)); clear hK K))
  refine D2.wpK_rel _ rfl rfl ?_ ?_
  · rintro _ ⟨nn, rfl⟩ _
    unfold D2.Oper.relAt
    go_simp
    exact D2.rel_wpost (ext_size nn.use) (kM _ nn.use)
  rintro v ⟨_, ⟨nn, rfl⟩, hr⟩
  obtain ⟨A9, k9, c9, rfl, -, -⟩ := hr
  clear nn
  refine D2.wpK_nil ?_
  intro nq2 hG
  have r9 : RWord w.heap.size (x.natAbs * 2 ^ z) [] (.slice A9 k9 c9) nq2.out := by have := hG.fact 11; simp [D2.Facts.put] at this; exact this
  have hR9 := Lib.hid (rword_at r9)
  have hF9 : Fr w A9 := hR9.out.2
  have hO9 := hF9.off HR.out.lt k9
  clear r9 hG
  go_wp2_with (first
    | (go_at_call 117; (with_reducible refine (bi_set b o _ A9 k9 c9 (x.natAbs * 2 ^ z) _ (HR.out.ext nq2.use) hR9.out.1 hO9).mono ?_); rintro e w3 ⟨rfl, hI3, xt3⟩)
   )
  refine bodyPost_ret (v := .pointer (some ⟨b, o, none⟩)) ?h rfl ⟨rfl, A9, k9, c9, ⟨by have := hI3.out; rwa [sgn_shl] at this, hF9⟩, (Tch.of nq2.use).trans xt3⟩
  case h => simp [results, Tryz.results132, go_sem]
theorem lim_two {v : Nat} (h : v < 18446744073709551616) : (lim v).length ≤ 2 := by
  rcases Nat.lt_or_ge (lim v).length 3 with h1 | h1
  · omega
  · exfalso
    have h0 : v ≠ 0 := by
      intro e
      subst e
      rw [lim_zero] at h1
      simp at h1
    have h2 := (lim_len h0).1
    have h3 : Bs ^ 2 ≤ Bs ^ ((lim v).length - 1) := Nat.pow_le_pow_right (by decide) (by omega)
    have h4 : Bs ^ 2 = 18446744073709551616 := by decide
    omega
theorem bi_Uint64 (b o v : Nat) (A : Option Addr) (n c : Nat) (hv : v < 18446744073709551616) (w : World) (hx : IntIs w b o (v : Int) A n c) :
    Calls Tryz.prog 207 #[.pointer (some ⟨b, o, none⟩)] w fun e w' => e = .returned (.int .u64 (v : Int)) ∧ Ext w w' := by
  have x1 := hx.words
  have hR := hx.rd
  rw [Int.natAbs_natCast] at hR
  have kU := Lib.hid (bw_toUint A n c v (lim_two hv) w hR)
  clear hx hR
  go_enter Tryz.func207, Tryz.ntmps207
  go_wp2_with (first
    | (go_at_call 244; (with_reducible refine (kU.out).mono ?_); rintro e w2 ⟨rfl, rfl⟩)
   )
  refine bodyPost_ret (v := .int .u64 ↑v) ?h rfl ⟨rfl, ext_refl _⟩
  case h => simp [results, Tryz.results207, go_sem]
theorem and_one32b (x : Nat) (hx : x < 4294967296) : bits BinOp.and IntKind.u32 (x : Int) 1 = ((x % 2 : Nat) : Int) := by
  have h := bits_and32 x 1 hx (by decide)
  rw [Nat.and_one_is_mod] at h
  exact h
theorem bi_Bit0 (b o v : Nat) (A : Option Addr) (n c : Nat) (w : World) (hx : IntIs w b o (v : Int) A n c) :
    Calls Tryz.prog 253 #[.pointer (some ⟨b, o, none⟩), .int .i64 0] w fun e w' => e = .returned (.int .u64 ((v % 2 : Nat) : Int)) ∧ Ext w w' := by
  have x1 := hx.words
  have hn := int_nil hx
  have hR := hx.rd
  rw [Int.natAbs_natCast] at hR
  by_cases hz : v = 0
  · obtain rfl : n = 0 := hn.2 (by omega)
    subst hz
    clear hn hR hx
    go_enter Tryz.func253, Tryz.ntmps253
    go_wp2
    refine bodyPost_ret (v := .int .u64 0) ?h rfl ⟨rfl, ext_refl _⟩
    case h => simp [results, Tryz.results253, go_sem]
  · have hn0 : n ≠ 0 := fun e => by have := hn.1 e; omega
    have hn1 : (0 : Int) < (n : Int) := by omega
    have hn2 : ¬ (n : Int) ≤ 0 := by omega
    have hn3 : decide ((n : Int) ≤ 0) = false := decide_eq_false hn2
    have hn4 : decide (n = 0) = false := decide_eq_false hn0
    rcases hR.shape with ⟨_, h, _⟩ | ⟨bx, ox, rfl⟩
    · omega
    · obtain ⟨hb, hc⟩ := hR.cells bx ox rfl 0 (by have := hR.len; omega)
      have e1 : (lim v)[0]'(by have := hR.len; omega) = v % Bs := by
        have := limb_at v 0
        rw [Nat.pow_zero, Nat.div_one, List.getD_eq_getElem?_getD, List.getElem?_eq_getElem (by have := hR.len; omega)] at this
        exact this
      rw [e1, Nat.add_zero] at hc
      obtain ⟨y, hy⟩ : ∃ y, v % Bs = y := ⟨_, rfl⟩
      rw [hy] at hc
      have hyb : y < 4294967296 := by rw [← hy]; exact Nat.mod_lt _ (by decide)
      have hm : y % 2 = v % 2 := by rw [← hy]; show v % 4294967296 % 2 = v % 2; omega
      have hyi : (y : Int) < 4294967296 := by omega
      obtain ⟨r, hr⟩ : ∃ r, y % 2 = r := ⟨_, rfl⟩
      have hA := and_one32b y hyb
      rw [← hm, hr]
      rw [hr] at hA
      have hw2 : IntKind.u64.wrap (r : Int) = (r : Int) := by rw [IntKind.wrap_u64]; omega
      have HA := Lib.hid hA
      clear hn hR hx hy hm e1 hz hn0 hA hr
      go_enter Tryz.func253, Tryz.ntmps253
      go_wp2
      rw [HA.out, hw2]
      refine bodyPost_ret (v := .int .u64 ↑r) ?h rfl ⟨rfl, ext_refl _⟩
      case h => simp [results, Tryz.results253, go_sem]
end Go.Proofs.YtkhkoeibpkglkaaGreatDoor
end
section
/- Rounding a fraction to a float: bounds of the whole number; reading what was written; products and quotients of floats. -/
namespace Go.Proofs.YtkhkoeibpkglkaaGreatDoor
open Go.RowKit
set_option maxRecDepth 100000
theorem man_ge {a d F : Nat} {low : Int} (hd : 0 < d) (h : leP a d low) : 2 ^ F ≤ tA a (F - low) / tD d (F - low) := by
  unfold tA tD
  rw [Nat.le_div_iff_mul_le (Nat.mul_pos hd (Nat.two_pow_pos _)), Nat.mul_comm]
  rw [leP_at ((F - low).toNat) (by omega)] at h
  rw [Nat.mul_assoc, ← Nat.pow_add]
  have e1 : (-((F : Int) - low)).toNat + F = (low + (((F : Int) - low).toNat : Nat)).toNat := by omega
  rw [e1]; exact h
theorem man_lt {a d F : Nat} {low : Int} (hd : 0 < d) (h : ¬ leP a d (low + 1)) : tA a (F - low) / tD d (F - low) < 2 ^ (F + 1) := by
  unfold tA tD
  rw [Nat.div_lt_iff_lt_mul (Nat.mul_pos hd (Nat.two_pow_pos _)), Nat.mul_comm (2 ^ (F + 1))]
  rw [leP_at ((F - low).toNat) (by omega)] at h
  rw [Nat.mul_assoc, ← Nat.pow_add]
  have e1 : (-((F : Int) - low)).toNat + (F + 1) = (low + 1 + (((F : Int) - low).toNat : Nat)).toNat := by omega
  rw [e1]; omega
theorem bias_two (E : Nat) (hE : 2 ≤ E) : 2 * biasF E + 2 = ((2 ^ E : Nat) : Int) ∧ 1 ≤ biasF E := by
  obtain ⟨k, rfl⟩ : ∃ k, E = k + 2 := ⟨E - 2, by omega⟩
  have h1 : biasF (k + 2) = (2 : Int) ^ (k + 1) - 1 := rfl
  have h2 : (2 ^ (k + 2) : Nat) = 2 * 2 ^ (k + 1) := by rw [Nat.pow_succ 2 (k + 1)]; omega
  have h3 : ((2 : Int) ^ (k + 1)) = ((2 ^ (k + 1) : Nat) : Int) := by simp
  have h4 : 0 < 2 ^ k := Nat.two_pow_pos k
  have h5 : 2 ^ (k + 1) = 2 * 2 ^ k := by rw [Nat.pow_succ]; omega
  rw [h1, h2, h3]
  omega
theorem low_spec {E a d : Nat} (ha : 0 < a) (hd : 0 < d) : ¬ leP a d (lowQ E a d + 1) ∧ (lowQ E a d = lgQ a d ∨ (lowQ E a d = 1 - biasF E ∧ lgQ a d < lowQ E a d)) := by
  obtain ⟨k1, k2⟩ := lgQ_spec ha hd
  have : lowQ E a d = max (lgQ a d) (1 - biasF E) := rfl
  refine ⟨fun q => k2 (leP_mono q (by omega)), by omega⟩
theorem over_rung {E F mode : Nat} {neg : Bool} {a d : Nat} (hE : 2 ≤ E) (ha : 0 < a) (hd : 0 < d) (h : overQ E F mode neg a d = true) : infQ E F ≤ rungQ E F mode neg a d := by
  unfold overQ at h
  simp only [Bool.or_eq_true, decide_eq_true_eq] at h
  rcases h with h | h
  · obtain ⟨b1, b2⟩ := bias_two E hE
    obtain ⟨-, k3⟩ := low_spec (E := E) ha hd
    have hlg : lowQ E a d = lgQ a d := by omega
    have hm : 2 ^ F ≤ manQ E F mode neg a d := by
      unfold manQ
      exact Nat.le_trans (man_ge hd (by rw [hlg]; exact (lgQ_spec ha hd).1)) (rdQ_le _ _ _ _).1
    have ht : 2 ^ E - 2 ≤ (lowQ E a d + biasF E - 1).toNat := by omega
    have hmul := Nat.mul_le_mul_right (2 ^ F) ht
    unfold rungQ infQ
    have h2 : 2 ^ (E + F) = 2 ^ E * 2 ^ F := Nat.pow_add ..
    have h3 : (2 ^ E - 2) * 2 ^ F = 2 ^ E * 2 ^ F - 2 * 2 ^ F := Nat.sub_mul ..
    omega
  · exact h
theorem bits_even {E F : Nat} {neg : Bool} {a d : Nat} (hE : 2 ≤ E) (ha : 0 < a) (hd : 0 < d) : bitsQ E F 0 neg a d = evenQ E F a d := by
  have hr : rungQ E F 0 neg a d = rungQ E F 0 false a d := rfl
  unfold bitsQ evenQ
  by_cases h : overQ E F 0 neg a d = true
  · have := over_rung hE ha hd h
    rw [if_pos h, if_neg (by omega), ← hr, Nat.min_eq_right this]
  · rw [if_neg h, ← hr]
    unfold overQ at h
    simp only [Bool.or_eq_true, decide_eq_true_eq, not_or] at h
    rw [Nat.min_eq_left (by omega)]
theorem inf_lt (E F : Nat) : infQ E F < 2 ^ (E + F) := by
  unfold infQ
  have := Nat.two_pow_pos F
  have := Nat.two_pow_pos (E + F)
  omega
theorem word_div {E F : Nat} (neg : Bool) {r : Nat} (h : r < 2 ^ (E + F)) : ((fmt E F).word neg r / 2 ^ (E + F) % 2 == 1) = neg ∧ (fmt E F).word neg r % 2 ^ (E + F) = r := by
  have hp := Nat.two_pow_pos (E + F)
  unfold Ieee.Format.word Ieee.Format.signWeight
  cases neg with
  | false =>
    simp only [Bool.false_eq_true, if_false]
    rw [Nat.div_eq_of_lt h, Nat.mod_eq_of_lt h]
    exact ⟨rfl, rfl⟩
  | true =>
    simp only [if_true]
    rw [Nat.add_div_left _ hp, Nat.div_eq_of_lt h, Nat.add_mod_left, Nat.mod_eq_of_lt h]
    exact ⟨rfl, rfl⟩
/-- A float's number is read as it was written. -/
theorem read_exact {E F : Nat} (hE : 2 ≤ E) (neg : Bool) {m : Nat} (hm : 0 < m) (p : Int) (hlg : m.log2 ≤ F) (h1 : 1 - biasF E ≤ p + m.log2) (h2 : p + m.log2 ≤ biasF E) :
    (fmt E F).read ((fmt E F).nearest neg m p) = .number neg (m * 2 ^ (F - m.log2)) (p - (F - m.log2 : Nat)) := by
  obtain ⟨b1, b2⟩ := bias_two E hE
  have hlow : lowQ E (tA m p) (tD 1 p) = p + m.log2 := by unfold lowQ; rw [lgQ_bin hm]; omega
  have hman : manQ E F 0 false (tA m p) (tD 1 p) = m * 2 ^ (F - m.log2) := by
    unfold manQ
    have e0 := rdQ_bin 0 false m p (p + m.log2 - F)
    rw [Int.neg_sub] at e0
    rw [hlow, ← e0]
    have e1 : (p - (p + (m.log2 : Nat) - (F : Nat))).toNat = F - m.log2 := by omega
    have e2 : (p + (m.log2 : Nat) - (F : Nat) - p).toNat = 0 := by omega
    rw [e1, e2]
    unfold rdQ
    rw [Nat.pow_zero, Nat.mod_one, if_pos rfl, Nat.div_one]
  obtain ⟨M, hM⟩ : ∃ M, m * 2 ^ (F - m.log2) = M := ⟨_, rfl⟩
  have hM1 : 2 ^ F ≤ M := by
    rw [← hM]
    calc 2 ^ F = 2 ^ m.log2 * 2 ^ (F - m.log2) := by rw [← Nat.pow_add]; congr 1; omega
      _ ≤ m * 2 ^ (F - m.log2) := Nat.mul_le_mul_right _ (Nat.log2_self_le (by omega))
  have hM2 : M < 2 * 2 ^ F := by
    rw [← hM]
    calc m * 2 ^ (F - m.log2) < 2 ^ (m.log2 + 1) * 2 ^ (F - m.log2) := Nat.mul_lt_mul_of_pos_right Nat.lt_log2_self (Nat.two_pow_pos _)
      _ = 2 ^ (F + 1) := by rw [← Nat.pow_add]; congr 1; omega
      _ = 2 * 2 ^ F := by rw [Nat.pow_succ]; omega
  obtain ⟨t, ht⟩ : ∃ t : Nat, p + (m.log2 : Nat) + biasF E - 1 = t := ⟨(p + (m.log2 : Nat) + biasF E - 1).toNat, by omega⟩
  have htE : t + 2 ≤ 2 ^ E - 1 := by omega
  have hinf : infQ E F = (2 ^ E - 1) * 2 ^ F := by unfold infQ; rw [Nat.pow_add, Nat.sub_mul, Nat.one_mul]
  have hr : rungQ E F 0 false (tA m p) (tD 1 p) = M + t * 2 ^ F := by
    unfold rungQ
    rw [hman, hM, hlow, ht]; rfl
  have hlt : M + t * 2 ^ F < infQ E F := by
    have := Nat.mul_le_mul_right (2 ^ F) htE
    rw [Nat.add_mul] at this
    omega
  have hev : evenQ E F (tA m p) (tD 1 p) = M + t * 2 ^ F := by unfold evenQ; rw [hr, Nat.min_eq_left (by omega)]
  have hbias : (fmt E F).leastPlace = 1 - biasF E - F := by
    unfold Ieee.Format.leastPlace biasF
    simp only
    omega
  have hinf2 : (fmt E F).infRung = infQ E F := by
    unfold Ieee.Format.infRung Ieee.Format.binade
    simp only
    rw [hinf]
  have hbin : (fmt E F).binade = 2 ^ F := rfl
  have hsw : (fmt E F).signWeight = 2 ^ (E + F) := rfl
  obtain ⟨w1, w2⟩ := word_div (E := E) (F := F) neg (r := M + t * 2 ^ F) (Nat.lt_trans hlt (inf_lt E F))
  have hp := Nat.two_pow_pos F
  rw [near_even E F hE neg m hm p, hev, hM]
  unfold Ieee.Format.read
  simp only
  rw [hsw, w1, w2, hbin, hinf2, hbias, if_neg (by omega), if_pos hlt]
  have q1 : (M + t * 2 ^ F) / 2 ^ F = t + 1 := by
    rw [Nat.add_mul_div_right _ _ hp, Nat.div_eq_of_lt_le (by omega : 1 * 2 ^ F ≤ M) (by omega)]; omega
  have q2 : (M + t * 2 ^ F) % 2 ^ F = M - 2 ^ F := by
    rw [Nat.add_mul_mod_self_right, Nat.mod_eq_sub_mod hM1, Nat.mod_eq_of_lt (by omega)]
  rw [q1, q2]
  congr 1
  · omega
  · omega
theorem near_eq {E F : Nat} (hE : 2 ≤ E) (neg : Bool) {m1 m2 : Nat} (h1 : 0 < m1) (h2 : 0 < m2) {p1 p2 : Int} (h : tA m1 p1 * tD 1 p2 = tA m2 p2 * tD 1 p1) : (fmt E F).nearest neg m1 p1 = (fmt E F).nearest neg m2 p2 := by
  have a1 : 0 < tA m1 p1 := Nat.mul_pos h1 (Nat.two_pow_pos _)
  have a2 : 0 < tA m2 p2 := Nat.mul_pos h2 (Nat.two_pow_pos _)
  have d1 : 0 < tD 1 p1 := Nat.mul_pos (by decide) (Nat.two_pow_pos _)
  have d2 : 0 < tD 1 p2 := Nat.mul_pos (by decide) (Nat.two_pow_pos _)
  rw [near_even E F hE neg m1 h1, near_even E F hE neg m2 h2, ← bits_even (neg := false) hE a1 d1, ← bits_even (neg := false) hE a2 d2, bitsQ_eq a1 d1 a2 d2 h]
end Go.Proofs.YtkhkoeibpkglkaaGreatDoor
end
section
/- The program's fractions: sums, products, order. -/
namespace Go.Proofs.YtkhkoeibpkglkaaGreatDoor
open Go.RowKit
attribute [local go_sem] sz2 sz3 sz4 sz5 sz6 sz7 sz8
set_option maxHeartbeats 4000000
set_option maxRecDepth 100000
attribute [local irreducible] Calls
theorem run_makeFunc'' (P : Program) (fn : Fn) (first cap : Array Value) (w : World) : (Instr.makeFunc fn first cap).run P w = .ok (.func fn first cap) w := rfl
attribute [local go_sem] run_makeFunc''
end Go.Proofs.YtkhkoeibpkglkaaGreatDoor
end
