/- Lemmas of this proof, laid together: LwS, LwT2, MarksTakesW. -/
import Derived.Test.YtgedpfbokkambaaGreatDoorMg20
import Derived.Test.YtgedpfbokkambaaGreatDoorMg18
import Derived.Test.YtgedpfbokkambaaGreatDoorMg21
set_option linter.unusedSimpArgs false
set_option linter.unusedVariables false
section
/- Marks: the laws' own helpers: short; the document's Put, whole; a fault's box. -/
namespace Go.Proofs.YtgedpfbokkambaaGreatDoor
open Go.RowKit
attribute [local irreducible] Calls
set_option maxHeartbeats 4000000
set_option maxRecDepth 100000
attribute [local go_sem] bs_size bs_extract bs_get bs_append bs_toList const_get
theorem lw_short (l : List UInt8) (w : World) : Calls Tryz.prog 7 #[.string (bs l)] w fun e w' => e = .returned (.bool (decide (l.length ≤ 3000 ∨ 65536 < l.length))) ∧ Ext w w' := by
  by_cases h1 : l.length ≤ 3000
  · have h1' : (l.length : Int) ≤ 3000 := by omega
    rw [decide_eq_true (Or.inl h1)]
    go_enter Tryz.func7, Tryz.ntmps7
    go_wp2
    refine bodyPost_ret (v := .bool true) ?h rfl ⟨rfl, ?_⟩
    case h => simp [results, Tryz.results7, go_sem]
    repeat (first | exact ext_refl _ | assumption | refine ext_setCell ?_ (by simp; try omega) _ | refine ext_alloc ?_ _ | refine ext_drew ?_ | refine ext_drewN ?_ _ | refine ext_trans ?_ (Aft.use _) | refine ext_trans ?_ (by assumption))
  · have h1' : ¬ (l.length : Int) ≤ 3000 := by omega
    by_cases h2 : 65536 < l.length
    · have h2' : (65536 : Int) < (l.length : Int) := by omega
      rw [decide_eq_true (Or.inr h2)]
      go_enter Tryz.func7, Tryz.ntmps7
      go_wp2
      refine bodyPost_ret (v := .bool true) ?h rfl ⟨rfl, ?_⟩
      case h => simp [results, Tryz.results7, go_sem]
      repeat (first | exact ext_refl _ | assumption | refine ext_setCell ?_ (by simp; try omega) _ | refine ext_alloc ?_ _ | refine ext_drew ?_ | refine ext_drewN ?_ _ | refine ext_trans ?_ (Aft.use _) | refine ext_trans ?_ (by assumption))
    · have h2' : ¬ (65536 : Int) < (l.length : Int) := by omega
      rw [decide_eq_false (by omega)]
      go_enter Tryz.func7, Tryz.ntmps7
      go_wp2
      refine bodyPost_ret (v := .bool false) ?h rfl ⟨rfl, ?_⟩
      case h => simp [results, Tryz.results7, go_sem]
      repeat (first | exact ext_refl _ | assumption | refine ext_setCell ?_ (by simp; try omega) _ | refine ext_alloc ?_ _ | refine ext_drew ?_ | refine ext_drewN ?_ _ | refine ext_trans ?_ (Aft.use _) | refine ext_trans ?_ (by assumption))
theorem fa_new0 (w : World) (a b : Value) (t : TypeId) : (w.alloc (.cells #[a, b] t)).cell? ⟨w.heap.size, 0, none⟩ = some a := by simp [go_sem]
theorem fa_new1 (w : World) (a b : Value) (t : TypeId) : (w.alloc (.cells #[a, b] t)).cell? ⟨w.heap.size, 1, none⟩ = some b := by simp [go_sem]
theorem fa_lt {w w' : World} {o : Obj} (h : Ext (w.alloc o) w') : w.heap.size < w'.heap.size := Nat.lt_of_lt_of_le (by simp) (ext_size h)
theorem put_zero (P G M N : Int) (xs : List Int) (l : List UInt8) : (putV P G M N xs l).2.1 = 0 → (putV P G M N xs l).2.2 = 0 := by
  unfold putV
  split
  · intro _; rfl
  · split
    · intro h; simp at h
    · split
      · intro _; rfl
      · intro _; rfl
theorem rdI_lent {w : World} {g n c : Nat} {xs : List Int} {A : Option Addr} {d : Nat} {w0 : World} (h : LentI w g n c xs) (hA : RdI w0 A n d xs) : RdI w (some ⟨g, 0, none⟩) n c xs := by
  have hc := own_cap h
  have hm := own_mx h
  refine ⟨hA.len, by omega, hm, hA.lb, (fun e => by cases e), (fun a e => by cases e; rfl), fun b off e i hi => ?_⟩
  cases e
  have hl := hA.len
  refine ⟨own_lt h rfl, ?_⟩
  have := h.cell (ext_refl w) i (by omega)
  rw [getD_left xs n i hl (by omega), List.getD_eq_getElem?_getD, List.getElem?_eq_getElem hi] at this
  rw [Nat.zero_add]; exact this
end Go.Proofs.YtgedpfbokkambaaGreatDoor
end
section
/- Marks: the document's Take, whole, in the program's terms. -/
namespace Go.Proofs.YtgedpfbokkambaaGreatDoor
open Go.RowKit
attribute [local irreducible] Calls
theorem md_Take (P G M N : Int) (A : Option Addr) (k c : Nat) (xs : List Int) (l : List UInt8) (w : World) (hT : LwT w) (hA : RdI w A k c xs) (hNb : -2147483648 ≤ N ∧ N ≤ 2147483647) :
    Calls Tryz.prog 11 #[mkV P G M N A k c, .string (bs l)] w fun e w' => e = .returned (.tuple #[.string (bs (takeV P G M N xs l).1), .agg #[.int .i64 (takeV P G M N xs l).2.1, .int .i64 (takeV P G M N xs l).2.2]]) ∧ Ext w w' := by
  rw [take_same]
  by_cases h : rdy P G M N xs l.length = 0
  · exact md_Take_main P G M N A k c xs l w hT hA hNb h
  · exact md_Take_early P G M N A k c xs l w hA hNb h
end Go.Proofs.YtgedpfbokkambaaGreatDoor
end
section
/- Marks: Take answers as the document says: the walk. -/
namespace Go.Proofs.YtgedpfbokkambaaGreatDoor
open Go.RowKit
attribute [local go_sem] bs_size bs_extract bs_get bs_append bs_toList const_get
attribute [local irreducible] Calls
set_option maxHeartbeats 4000000
set_option maxRecDepth 100000
theorem ta_few (x0 : Int) (x1 : Int) (x2 : Int) (x3 : Int) (x4A : Option Addr) (x4l x4c : Nat) (x4 : List Int) (l : List UInt8) (w : World) (hx3 : -2147483648 ≤ x3 ∧ x3 ≤ 2147483647) (hx4 : RdI w x4A x4l x4c x4) (hwx4 : x4c * 8 ≤ 140737488351232) (hL : LwT w) (hf : decide (l.length ≤ 3000 ∨ 65536 < l.length) = true) :
    Calls Tryz.prog 3 #[mkV x0 x1 x2 x3 x4A x4l x4c, .string (bs l)] w fun e w' => e = .returned (.bool true) ∧ Ext w w' := by
  have e0 : Hid (Ext w (w.alloc (BoxM x0 x1 x2 x3 x4A x4l x4c))) := ext_alloc (ext_refl w) _
  have b1 := Lib.hid (MkAt.made w x0 x1 x2 x3 x4A x4l x4c)
  have ka := Lib.hid (fun w' (h : Ext w w') => av_alive w' (hL.ext h))
  have ks := Lib.hid (fun w' => lw_short l w')
  rw [hf] at ks
  have kl := Lib.hid (fun w' (h : Ext w w') => lw_lent x0 x1 x2 x3 x4A x4l x4c x4 w' (hx4.ext h) hwx4)
  have kp := Lib.hid (fun g d w' (h : LentI w' g x4l d x4) (he : Ext w w') => lw_Take x0 x1 x2 x3 (some ⟨g, 0, none⟩) x4l d x4 l w' (hL.ext he) (rdI_lent h hx4))
  have kk := Lib.hid (fun g d w' (h : LentI w' g x4l d x4) (he : Ext w w') => lw_kept x0 x1 x2 x3 g x4l d x4A x4c x4 w' h (hx4.ext he))
  have kd := Lib.hid (fun w' (h : Ext w w') => md_Take x0 x1 x2 x3 x4A x4l x4c x4 l w' (hL.ext h) (hx4.ext h) hx3)
  have hz := take_zero x0 x1 x2 x3 x4 l
  obtain ⟨tt, cc, zz, hp⟩ : ∃ tt cc zz, takeV x0 x1 x2 x3 x4 l = (tt, cc, zz) := ⟨_, _, _, rfl⟩
  rw [hp] at kp kd hz
  simp only at kp kd hz
  have HL := Lib.hid hL
  have HZ := Lib.hid hz
  clear hp hx4 hx3 hf hL hz
  go_enter Tryz.func3, Tryz.ntmps3
  go_wp2_with (first
    | (go_at_call 6; (with_reducible refine (ka.out _ (by (repeat (first | exact ext_refl _ | assumption | refine ext_setCell ?_ (by simp; try omega) _ | refine ext_alloc ?_ _ | refine ext_drew ?_ | refine ext_drewN ?_ _ | refine ext_trans ?_ (Aft.use _) | refine ext_trans ?_ (by assumption))))).mono ?_); rintro e w1 ⟨rfl, hE1⟩; have hX1 := hE1; obtain ⟨p0, p1, p2, p3, p4, pl⟩ := b1.out.ext hX1)
    | (go_at_call 7; (with_reducible refine (ks.out _).mono ?_); rintro e w2 ⟨rfl, hE2⟩; have hX2 := ext_trans hX1 hE2; obtain ⟨p0, p1, p2, p3, p4, pl⟩ := b1.out.ext hX2)
    | (go_at_call 8; (with_reducible refine (kl.out _ (by (repeat (first | exact ext_refl _ | assumption | refine ext_setCell ?_ (by simp; try omega) _ | refine ext_alloc ?_ _ | refine ext_drew ?_ | refine ext_drewN ?_ _ | refine ext_trans ?_ (Aft.use _) | refine ext_trans ?_ (by assumption))))).mono ?_); rintro e w3 ⟨g, d, rfl, hE3, _, hl3⟩; have hX3 := ext_trans hX2 hE3; obtain ⟨p0, p1, p2, p3, p4, pl⟩ := b1.out.ext hX3; have b2 := MkAt.made w3 x0 x1 x2 x3 (some ⟨g, 0, none⟩) x4l d)
    | (go_at_call 9; (with_reducible refine (kp.out _ _ _ (own_ext hl3.out (by (repeat (first | exact ext_refl _ | assumption | refine ext_setCell ?_ (by simp; try omega) _ | refine ext_alloc ?_ _ | refine ext_drew ?_ | refine ext_drewN ?_ _ | refine ext_trans ?_ (Aft.use _) | refine ext_trans ?_ (by assumption))))) (by (repeat (first | exact ext_refl _ | assumption | refine ext_setCell ?_ (by simp; try omega) _ | refine ext_alloc ?_ _ | refine ext_drew ?_ | refine ext_drewN ?_ _ | refine ext_trans ?_ (Aft.use _) | refine ext_trans ?_ (by assumption))))).mono ?_); rintro e w4 ⟨v4, rfl, hE4, hV4⟩; have hY4 := hE4; have hZ4 := ext_trans (ext_alloc (ext_refl w3) _) hE4; have hX4 := ext_trans hX3 hZ4; have hW4 := ext_trans e0.out hX4; obtain ⟨p0, p1, p2, p3, p4, pl⟩ := b1.out.ext hX4; obtain ⟨q0, q1, q2, q3, q4, ql⟩ := b2.ext hY4)
    | (go_at_call 10; (with_reducible refine (fa_fault _ cc zz _ (HL.out.ext hW4) hV4.out HZ.out).mono ?_); rintro e w5 ⟨rfl, hE5⟩; have hX5 := ext_trans hX4 hE5; have hY5 := ext_trans hY4 hE5; have hZ5 := ext_trans hZ4 hE5; obtain ⟨p0, p1, p2, p3, p4, pl⟩ := b1.out.ext hX5; obtain ⟨q0, q1, q2, q3, q4, ql⟩ := b2.ext hY5)
    | (go_at_call 11; (with_reducible refine (kd.out _ (by (repeat (first | exact ext_refl _ | assumption | refine ext_setCell ?_ (by simp; try omega) _ | refine ext_alloc ?_ _ | refine ext_drew ?_ | refine ext_drewN ?_ _ | refine ext_trans ?_ (Aft.use _) | refine ext_trans ?_ (by assumption))))).mono ?_); rintro e w6 ⟨rfl, hE6⟩; have hU6 := ext_trans (ext_alloc (ext_refl w5) _) hE6; have hX6 := ext_trans hX5 hU6; have hY6 := ext_trans hY5 hU6; have hZ6 := ext_trans hZ5 hU6; have hW6 := ext_trans e0.out hX6; have d0 := (Below.cell (p := ⟨w5.heap.size, 0, none⟩) hE6 (by simp)).trans (fa_new0 w5 _ _ _); have d1 := (Below.cell (p := ⟨w5.heap.size, 1, none⟩) hE6 (by simp)).trans (fa_new1 w5 _ _ _); have l5 := fa_lt hE6; obtain ⟨p0, p1, p2, p3, p4, pl⟩ := b1.out.ext hX6; obtain ⟨q0, q1, q2, q3, q4, ql⟩ := b2.ext hY6)
    | (go_at_call 12; (with_reducible refine (kk.out _ _ _ (own_ext hl3.out (ext_trans hZ6 (ext_alloc (ext_refl w6) _))) (ext_trans hW6 (ext_alloc (ext_refl w6) _))).mono ?_); rintro e w7 ⟨rfl, hE7⟩; have hU7 := ext_trans (ext_alloc (ext_refl w6) _) hE7; have hX7 := ext_trans hX6 hU7; have d2 := (Below.cell (p := ⟨w5.heap.size, 0, none⟩) hU7 l5).trans d0; have d3 := (Below.cell (p := ⟨w5.heap.size, 1, none⟩) hU7 l5).trans d1; have d4 := (Below.cell (p := ⟨w6.heap.size, 0, none⟩) hE7 (by simp)).trans (fa_new0 w6 _ _ _); have d5 := (Below.cell (p := ⟨w6.heap.size, 1, none⟩) hE7 (by simp)).trans (fa_new1 w6 _ _ _); have l6 := fa_lt hE7))
  refine bodyPost_ret (v := .bool true) ?h rfl ⟨rfl, ext_trans e0.out hX7⟩
  case h => simp [results, Tryz.results3, go_sem]
theorem walk_MarksTakes (x0 : Int) (x1 : Int) (x2 : Int) (x3 : Int) (x4A : Option Addr) (x4l x4c : Nat) (x4 : List Int) (x5 : ByteArray) (w : World) (_hx0 : -2147483648 ≤ x0 ∧ x0 ≤ 2147483647) (_hx1 : -2147483648 ≤ x1 ∧ x1 ≤ 2147483647) (_hx2 : -2147483648 ≤ x2 ∧ x2 ≤ 2147483647) (hx3 : -2147483648 ≤ x3 ∧ x3 ≤ 2147483647) (hx4 : RdI w x4A x4l x4c x4) (hwx4 : x4c * 8 ≤ 140737488351232) (_hx5 : x5.size ≤ maxLen) (hL : LwT w) :
    Calls Tryz.prog 3 #[.agg #[.int .i32 x0, .int .i32 x1, .int .i32 x2, .int .i32 x3, .slice x4A x4l x4c], .string x5] w fun e w' => e = .returned (.bool true) ∧ Ext w w' := by
  obtain ⟨l, rfl⟩ := bs_of x5
  by_cases hf : l.length ≤ 3000 ∨ 65536 < l.length
  · exact ta_few x0 x1 x2 x3 x4A x4l x4c x4 l w hx3 hx4 hwx4 hL (decide_eq_true hf)
  · have e0 : Hid (Ext w (w.alloc (BoxM x0 x1 x2 x3 x4A x4l x4c))) := ext_alloc (ext_refl w) _
    have ka := Lib.hid (fun w' (h : Ext w w') => av_alive w' (hL.ext h))
    have ks := Lib.hid (fun w' => lw_short l w')
    rw [decide_eq_false hf] at ks
    clear hf hL hx4 hx3
    go_enter Tryz.func3, Tryz.ntmps3
    go_wp2_with (first
      | (go_at_call 6; (with_reducible refine (ka.out _ (by (repeat (first | exact ext_refl _ | assumption | refine ext_setCell ?_ (by simp; try omega) _ | refine ext_alloc ?_ _ | refine ext_drew ?_ | refine ext_drewN ?_ _ | refine ext_trans ?_ (Aft.use _) | refine ext_trans ?_ (by assumption))))).mono ?_); rintro e w1 ⟨rfl, hE1⟩)
      | (go_at_call 7; (with_reducible refine (ks.out _).mono ?_); rintro e w2 ⟨rfl, hE2⟩))
    refine bodyPost_ret (v := .bool true) ?h rfl ⟨rfl, ?_⟩
    case h => simp [results, Tryz.results3, go_sem]
    repeat (first | exact ext_refl _ | assumption | refine ext_setCell ?_ (by simp; try omega) _ | refine ext_alloc ?_ _ | refine ext_drew ?_ | refine ext_drewN ?_ _ | refine ext_trans ?_ (Aft.use _) | refine ext_trans ?_ (by assumption))
end Go.Proofs.YtgedpfbokkambaaGreatDoor
end
