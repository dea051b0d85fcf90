/- Lemmas of this proof, laid together: MarksBackW. -/
import Derived.Test.YtebgmicpecekgaaDoorMg19
import Derived.Test.YtebgmicpecekgaaDoorMg24
set_option linter.unusedSimpArgs false
set_option linter.unusedVariables false
section
/- Marks: what is put is taken back: the walk. -/
namespace Go.Proofs.YtebgmicpecekgaaDoor
open Go.RowKit
attribute [local go_sem] bs_size bs_extract bs_get bs_append bs_toList const_get
attribute [local irreducible] Calls
set_option maxHeartbeats 4000000
set_option maxRecDepth 100000
theorem av_plain (w : World) : Calls Tryd.prog 15 #[] w fun e w' => e = .returned (mkV 46 0 45 48 none 0 0) ∧ Ext w w' := by
  go_enter Tryd.func15, Tryd.ntmps15
  go_wp2
  refine bodyPost_ret (v := mkV 46 0 45 48 none 0 0) ?h rfl ⟨rfl, ?_⟩
  case h => simp [results, Tryd.results15, go_sem]
  repeat (first | exact ext_refl _ | assumption | refine ext_setCell ?_ (by simp; try omega) _ | refine ext_alloc ?_ _ | refine ext_drew ?_ | refine ext_drewN ?_ _ | refine ext_trans ?_ (Aft.use _) | refine ext_trans ?_ (by assumption))
theorem bk_out (P G M N : Int) (A : Option Addr) (k c : Nat) (xs : List Int) (l : List UInt8) (w : World) (hL : LwT w) (hA : RdI w A k c xs) (h : 3000 < l.length) :
    Calls Tryd.prog 6 #[mkV P G M N A k c, .string (bs l)] w fun e w' => e = .returned (.bool true) ∧ Ext w w' := by
  have ka := Lib.hid (fun w' (h : Ext w w') => av_alive w' (hL.ext h))
  have e0 : Hid (Ext w (w.alloc (BoxM P G M N A k c))) := ext_alloc (ext_refl w) _
  have b1 := Lib.hid (MkAt.made w P G M N A k c)
  have hl2 : (3000 : Int) < (l.length : Int) := by omega
  go_enter Tryd.func6, Tryd.ntmps6
  go_wp2_with (first
    | (go_at_call 7; (with_reducible refine (ka.out _ (by (repeat (first | exact ext_refl _ | assumption | refine ext_setCell ?_ (by simp; try omega) _ | refine ext_alloc ?_ _ | refine ext_drew ?_ | refine ext_drewN ?_ _ | refine ext_trans ?_ (Aft.use _) | refine ext_trans ?_ (by assumption))))).mono ?_); rintro e w1 ⟨rfl, hE1⟩; have hX1 := hE1; obtain ⟨p0, p1, p2, p3, p4, pl⟩ := b1.out.ext hX1))
  all_goals
    refine bodyPost_ret (v := .bool true) ?h rfl ⟨rfl, ?_⟩
    case h => simp [results, Tryd.results6, go_sem]
    have e0' := e0.out
    repeat (first | exact ext_refl _ | assumption | refine ext_setCell ?_ (by simp; try omega) _ | refine ext_alloc ?_ _ | refine ext_drew ?_ | refine ext_drewN ?_ _ | refine ext_trans ?_ (Aft.use _) | refine ext_trans ?_ (by assumption))
theorem bk_err_no (P G M N : Int) (A : Option Addr) (k c : Nat) (xs : List Int) (l : List UInt8) (w : World) (hL : LwT w) (hA : RdI w A k c xs) (hl : l.length ≤ 3000) (t u : List UInt8) (z y : Int) (ce : Int) (c0 : ce ≠ 0) (hp : putV P G M N xs l = (t, ce, z)) (d : Int) (c1 : d ≠ 0) (hv : takeV P G M N xs l = (u, d, y)) :
    Calls Tryd.prog 6 #[mkV P G M N A k c, .string (bs l)] w fun e w' => e = .returned (.bool true) ∧ Ext w w' := by
  have ka := Lib.hid (fun w' (h : Ext w w') => av_alive w' (hL.ext h))
  have e0 : Hid (Ext w (w.alloc (BoxM P G M N A k c))) := ext_alloc (ext_refl w) _
  have b1 := Lib.hid (MkAt.made w P G M N A k c)
  have hl2 : ¬ (3000 : Int) < (l.length : Int) := by omega
  have kp := Lib.hid (fun w' (h : Ext w w') => mk_Put P G M N A k c xs l w' (hA.ext h))
  rw [hp] at kp
  simp only at kp
  have kv := Lib.hid (fun w' (h : Ext w w') => lw_Take P G M N A k c xs l w' (hL.ext h) (hA.ext h))
  rw [hv] at kv
  simp only at kv
  go_enter Tryd.func6, Tryd.ntmps6
  go_wp2_with (first
    | (go_at_call 7; (with_reducible refine (ka.out _ (by (repeat (first | exact ext_refl _ | assumption | refine ext_setCell ?_ (by simp; try omega) _ | refine ext_alloc ?_ _ | refine ext_drew ?_ | refine ext_drewN ?_ _ | refine ext_trans ?_ (Aft.use _) | refine ext_trans ?_ (by assumption))))).mono ?_); rintro e w1 ⟨rfl, hE1⟩; have hX1 := hE1; obtain ⟨p0, p1, p2, p3, p4, pl⟩ := b1.out.ext hX1)
    | (go_at_call 12; (with_reducible refine (kp.out _ (by (repeat (first | exact ext_refl _ | assumption | refine ext_setCell ?_ (by simp; try omega) _ | refine ext_alloc ?_ _ | refine ext_drew ?_ | refine ext_drewN ?_ _ | refine ext_trans ?_ (Aft.use _) | refine ext_trans ?_ (by assumption))))).mono ?_); rintro e w2 ⟨v2, rfl, hE2, hV2⟩; have hX2 := ext_trans hX1 hE2; obtain ⟨p0, p1, p2, p3, p4, pl⟩ := b1.out.ext hX2; obtain ⟨b2, rfl, _⟩ := errV_of hV2.out c0)
    | (go_at_call 14; (with_reducible refine (kv.out _ (by (repeat (first | exact ext_refl _ | assumption | refine ext_setCell ?_ (by simp; try omega) _ | refine ext_alloc ?_ _ | refine ext_drew ?_ | refine ext_drewN ?_ _ | refine ext_trans ?_ (Aft.use _) | refine ext_trans ?_ (by assumption))))).mono ?_); rintro e w3 ⟨v3, rfl, hE3, hV3⟩; have hX3 := ext_trans hX2 hE3; obtain ⟨p0, p1, p2, p3, p4, pl⟩ := b1.out.ext hX3; obtain ⟨b3, rfl, _⟩ := errV_of hV3.out c1))
  all_goals
    refine bodyPost_ret (v := .bool true) ?h rfl ⟨rfl, ?_⟩
    case h => simp [results, Tryd.results6, go_sem]
    have e0' := e0.out
    repeat (first | exact ext_refl _ | assumption | refine ext_setCell ?_ (by simp; try omega) _ | refine ext_alloc ?_ _ | refine ext_drew ?_ | refine ext_drewN ?_ _ | refine ext_trans ?_ (Aft.use _) | refine ext_trans ?_ (by assumption))
theorem bk_err_bad (P G M N : Int) (A : Option Addr) (k c : Nat) (xs : List Int) (l : List UInt8) (w : World) (hL : LwT w) (hA : RdI w A k c xs) (hl : l.length ≤ 3000) (t u : List UInt8) (z y : Int) (ce : Int) (c0 : ce ≠ 0) (hp : putV P G M N xs l = (t, ce, z)) (a b : List UInt8) (q r z1 z2 : Int) (c2 : q ≠ 0) (hv : takeV P G M N xs l = (u, 0, y)) (hr : putV P G M N xs u = (a, q, z1)) (hs : putV P 0 M N [] u = (b, r, z2)) :
    Calls Tryd.prog 6 #[mkV P G M N A k c, .string (bs l)] w fun e w' => e = .returned (.bool true) ∧ Ext w w' := by
  have ka := Lib.hid (fun w' (h : Ext w w') => av_alive w' (hL.ext h))
  have e0 : Hid (Ext w (w.alloc (BoxM P G M N A k c))) := ext_alloc (ext_refl w) _
  have b1 := Lib.hid (MkAt.made w P G M N A k c)
  have hl2 : ¬ (3000 : Int) < (l.length : Int) := by omega
  have kp := Lib.hid (fun w' (h : Ext w w') => mk_Put P G M N A k c xs l w' (hA.ext h))
  rw [hp] at kp
  simp only at kp
  have kv := Lib.hid (fun w' (h : Ext w w') => lw_Take P G M N A k c xs l w' (hL.ext h) (hA.ext h))
  rw [hv] at kv
  simp only at kv
  have kr := Lib.hid (fun w' (h : Ext w w') => mk_Put P G M N A k c xs u w' (hA.ext h))
  have ks := Lib.hid (fun w' (h : Ext w w') => mk_Put P 0 M N none 0 0 [] u w' (RdI.nil w'))
  rw [hr] at kr
  rw [hs] at ks
  simp only at kr ks
  go_enter Tryd.func6, Tryd.ntmps6
  go_wp2_with (first
    | (go_at_call 7; (with_reducible refine (ka.out _ (by (repeat (first | exact ext_refl _ | assumption | refine ext_setCell ?_ (by simp; try omega) _ | refine ext_alloc ?_ _ | refine ext_drew ?_ | refine ext_drewN ?_ _ | refine ext_trans ?_ (Aft.use _) | refine ext_trans ?_ (by assumption))))).mono ?_); rintro e w1 ⟨rfl, hE1⟩; have hX1 := hE1; obtain ⟨p0, p1, p2, p3, p4, pl⟩ := b1.out.ext hX1)
    | (go_at_call 12; (with_reducible refine (kp.out _ (by (repeat (first | exact ext_refl _ | assumption | refine ext_setCell ?_ (by simp; try omega) _ | refine ext_alloc ?_ _ | refine ext_drew ?_ | refine ext_drewN ?_ _ | refine ext_trans ?_ (Aft.use _) | refine ext_trans ?_ (by assumption))))).mono ?_); rintro e w2 ⟨v2, rfl, hE2, hV2⟩; have hX2 := ext_trans hX1 hE2; obtain ⟨p0, p1, p2, p3, p4, pl⟩ := b1.out.ext hX2; obtain ⟨b2, rfl, _⟩ := errV_of hV2.out c0)
    | (go_at_call 14; (with_reducible refine (kv.out _ (by (repeat (first | exact ext_refl _ | assumption | refine ext_setCell ?_ (by simp; try omega) _ | refine ext_alloc ?_ _ | refine ext_drew ?_ | refine ext_drewN ?_ _ | refine ext_trans ?_ (Aft.use _) | refine ext_trans ?_ (by assumption))))).mono ?_); rintro e w3 ⟨v3, rfl, hE3, hV3⟩; have hX3 := ext_trans hX2 hE3; obtain ⟨p0, p1, p2, p3, p4, pl⟩ := b1.out.ext hX3; obtain rfl := errV_no hV3.out)
    | (go_at_call 12; (with_reducible refine (kr.out _ (by (repeat (first | exact ext_refl _ | assumption | refine ext_setCell ?_ (by simp; try omega) _ | refine ext_alloc ?_ _ | refine ext_drew ?_ | refine ext_drewN ?_ _ | refine ext_trans ?_ (Aft.use _) | refine ext_trans ?_ (by assumption))))).mono ?_); rintro e w4 ⟨v4, rfl, hE4, hV4⟩; have hX4 := ext_trans hX3 hE4; obtain ⟨p0, p1, p2, p3, p4, pl⟩ := b1.out.ext hX4; obtain ⟨b4, rfl, _⟩ := errV_of hV4.out c2)
    | (go_at_call 12; (with_reducible refine (ks.out _ (by (repeat (first | exact ext_refl _ | assumption | refine ext_setCell ?_ (by simp; try omega) _ | refine ext_alloc ?_ _ | refine ext_drew ?_ | refine ext_drewN ?_ _ | refine ext_trans ?_ (Aft.use _) | refine ext_trans ?_ (by assumption))))).mono ?_); rintro e w5 ⟨v5, rfl, hE5, hV5⟩; rcases hV5.out with ⟨_, rfl⟩ | ⟨_, b5, rfl, _⟩))
  all_goals
    refine bodyPost_ret (v := .bool true) ?h rfl ⟨rfl, ?_⟩
    case h => simp [results, Tryd.results6, go_sem]
    have e0' := e0.out
    repeat (first | exact ext_refl _ | assumption | refine ext_setCell ?_ (by simp; try omega) _ | refine ext_alloc ?_ _ | refine ext_drew ?_ | refine ext_drewN ?_ _ | refine ext_trans ?_ (Aft.use _) | refine ext_trans ?_ (by assumption))
theorem bk_err_ill (P G M N : Int) (A : Option Addr) (k c : Nat) (xs : List Int) (l : List UInt8) (w : World) (hL : LwT w) (hA : RdI w A k c xs) (hl : l.length ≤ 3000) (t u : List UInt8) (z y : Int) (ce : Int) (c0 : ce ≠ 0) (hp : putV P G M N xs l = (t, ce, z)) (a b : List UInt8) (r z1 z2 : Int) (c3 : r ≠ 0) (hv : takeV P G M N xs l = (u, 0, y)) (hr : putV P G M N xs u = (a, 0, z1)) (hs : putV P 0 M N [] u = (b, r, z2)) :
    Calls Tryd.prog 6 #[mkV P G M N A k c, .string (bs l)] w fun e w' => e = .returned (.bool true) ∧ Ext w w' := by
  have ka := Lib.hid (fun w' (h : Ext w w') => av_alive w' (hL.ext h))
  have e0 : Hid (Ext w (w.alloc (BoxM P G M N A k c))) := ext_alloc (ext_refl w) _
  have b1 := Lib.hid (MkAt.made w P G M N A k c)
  have hl2 : ¬ (3000 : Int) < (l.length : Int) := by omega
  have kp := Lib.hid (fun w' (h : Ext w w') => mk_Put P G M N A k c xs l w' (hA.ext h))
  rw [hp] at kp
  simp only at kp
  have kv := Lib.hid (fun w' (h : Ext w w') => lw_Take P G M N A k c xs l w' (hL.ext h) (hA.ext h))
  rw [hv] at kv
  simp only at kv
  have kr := Lib.hid (fun w' (h : Ext w w') => mk_Put P G M N A k c xs u w' (hA.ext h))
  have ks := Lib.hid (fun w' (h : Ext w w') => mk_Put P 0 M N none 0 0 [] u w' (RdI.nil w'))
  rw [hr] at kr
  rw [hs] at ks
  simp only at kr ks
  go_enter Tryd.func6, Tryd.ntmps6
  go_wp2_with (first
    | (go_at_call 7; (with_reducible refine (ka.out _ (by (repeat (first | exact ext_refl _ | assumption | refine ext_setCell ?_ (by simp; try omega) _ | refine ext_alloc ?_ _ | refine ext_drew ?_ | refine ext_drewN ?_ _ | refine ext_trans ?_ (Aft.use _) | refine ext_trans ?_ (by assumption))))).mono ?_); rintro e w1 ⟨rfl, hE1⟩; have hX1 := hE1; obtain ⟨p0, p1, p2, p3, p4, pl⟩ := b1.out.ext hX1)
    | (go_at_call 12; (with_reducible refine (kp.out _ (by (repeat (first | exact ext_refl _ | assumption | refine ext_setCell ?_ (by simp; try omega) _ | refine ext_alloc ?_ _ | refine ext_drew ?_ | refine ext_drewN ?_ _ | refine ext_trans ?_ (Aft.use _) | refine ext_trans ?_ (by assumption))))).mono ?_); rintro e w2 ⟨v2, rfl, hE2, hV2⟩; have hX2 := ext_trans hX1 hE2; obtain ⟨p0, p1, p2, p3, p4, pl⟩ := b1.out.ext hX2; obtain ⟨b2, rfl, _⟩ := errV_of hV2.out c0)
    | (go_at_call 14; (with_reducible refine (kv.out _ (by (repeat (first | exact ext_refl _ | assumption | refine ext_setCell ?_ (by simp; try omega) _ | refine ext_alloc ?_ _ | refine ext_drew ?_ | refine ext_drewN ?_ _ | refine ext_trans ?_ (Aft.use _) | refine ext_trans ?_ (by assumption))))).mono ?_); rintro e w3 ⟨v3, rfl, hE3, hV3⟩; have hX3 := ext_trans hX2 hE3; obtain ⟨p0, p1, p2, p3, p4, pl⟩ := b1.out.ext hX3; obtain rfl := errV_no hV3.out)
    | (go_at_call 12; (with_reducible refine (kr.out _ (by (repeat (first | exact ext_refl _ | assumption | refine ext_setCell ?_ (by simp; try omega) _ | refine ext_alloc ?_ _ | refine ext_drew ?_ | refine ext_drewN ?_ _ | refine ext_trans ?_ (Aft.use _) | refine ext_trans ?_ (by assumption))))).mono ?_); rintro e w4 ⟨v4, rfl, hE4, hV4⟩; have hX4 := ext_trans hX3 hE4; obtain ⟨p0, p1, p2, p3, p4, pl⟩ := b1.out.ext hX4; obtain rfl := errV_no hV4.out)
    | (go_at_call 12; (with_reducible refine (ks.out _ (by (repeat (first | exact ext_refl _ | assumption | refine ext_setCell ?_ (by simp; try omega) _ | refine ext_alloc ?_ _ | refine ext_drew ?_ | refine ext_drewN ?_ _ | refine ext_trans ?_ (Aft.use _) | refine ext_trans ?_ (by assumption))))).mono ?_); rintro e w5 ⟨v5, rfl, hE5, hV5⟩; obtain ⟨b5, rfl, _⟩ := errV_of hV5.out c3))
  all_goals
    refine bodyPost_ret (v := .bool true) ?h rfl ⟨rfl, ?_⟩
    case h => simp [results, Tryd.results6, go_sem]
    have e0' := e0.out
    repeat (first | exact ext_refl _ | assumption | refine ext_setCell ?_ (by simp; try omega) _ | refine ext_alloc ?_ _ | refine ext_drew ?_ | refine ext_drewN ?_ _ | refine ext_trans ?_ (Aft.use _) | refine ext_trans ?_ (by assumption))
theorem bk_err_botha (P G M N : Int) (A : Option Addr) (k c : Nat) (xs : List Int) (l : List UInt8) (w : World) (hL : LwT w) (hA : RdI w A k c xs) (hl : l.length ≤ 3000) (t u : List UInt8) (z y : Int) (ce : Int) (c0 : ce ≠ 0) (hp : putV P G M N xs l = (t, ce, z)) (a b : List UInt8) (z1 z2 : Int) (hv : takeV P G M N xs l = (u, 0, y)) (hr : putV P G M N xs u = (a, 0, z1)) (hs : putV P 0 M N [] u = (b, 0, z2)) (hab : a = l) :
    Calls Tryd.prog 6 #[mkV P G M N A k c, .string (bs l)] w fun e w' => e = .returned (.bool true) ∧ Ext w w' := by
  have ka := Lib.hid (fun w' (h : Ext w w') => av_alive w' (hL.ext h))
  have e0 : Hid (Ext w (w.alloc (BoxM P G M N A k c))) := ext_alloc (ext_refl w) _
  have b1 := Lib.hid (MkAt.made w P G M N A k c)
  have hl2 : ¬ (3000 : Int) < (l.length : Int) := by omega
  have kp := Lib.hid (fun w' (h : Ext w w') => mk_Put P G M N A k c xs l w' (hA.ext h))
  rw [hp] at kp
  simp only at kp
  have kv := Lib.hid (fun w' (h : Ext w w') => lw_Take P G M N A k c xs l w' (hL.ext h) (hA.ext h))
  rw [hv] at kv
  simp only at kv
  have kr := Lib.hid (fun w' (h : Ext w w') => mk_Put P G M N A k c xs u w' (hA.ext h))
  have ks := Lib.hid (fun w' (h : Ext w w') => mk_Put P 0 M N none 0 0 [] u w' (RdI.nil w'))
  rw [hr] at kr
  rw [hs] at ks
  simp only at kr ks
  subst hab
  go_enter Tryd.func6, Tryd.ntmps6
  go_wp2_with (first
    | (go_at_call 7; (with_reducible refine (ka.out _ (by (repeat (first | exact ext_refl _ | assumption | refine ext_setCell ?_ (by simp; try omega) _ | refine ext_alloc ?_ _ | refine ext_drew ?_ | refine ext_drewN ?_ _ | refine ext_trans ?_ (Aft.use _) | refine ext_trans ?_ (by assumption))))).mono ?_); rintro e w1 ⟨rfl, hE1⟩; have hX1 := hE1; obtain ⟨p0, p1, p2, p3, p4, pl⟩ := b1.out.ext hX1)
    | (go_at_call 12; (with_reducible refine (kp.out _ (by (repeat (first | exact ext_refl _ | assumption | refine ext_setCell ?_ (by simp; try omega) _ | refine ext_alloc ?_ _ | refine ext_drew ?_ | refine ext_drewN ?_ _ | refine ext_trans ?_ (Aft.use _) | refine ext_trans ?_ (by assumption))))).mono ?_); rintro e w2 ⟨v2, rfl, hE2, hV2⟩; have hX2 := ext_trans hX1 hE2; obtain ⟨p0, p1, p2, p3, p4, pl⟩ := b1.out.ext hX2; obtain ⟨b2, rfl, _⟩ := errV_of hV2.out c0)
    | (go_at_call 14; (with_reducible refine (kv.out _ (by (repeat (first | exact ext_refl _ | assumption | refine ext_setCell ?_ (by simp; try omega) _ | refine ext_alloc ?_ _ | refine ext_drew ?_ | refine ext_drewN ?_ _ | refine ext_trans ?_ (Aft.use _) | refine ext_trans ?_ (by assumption))))).mono ?_); rintro e w3 ⟨v3, rfl, hE3, hV3⟩; have hX3 := ext_trans hX2 hE3; obtain ⟨p0, p1, p2, p3, p4, pl⟩ := b1.out.ext hX3; obtain rfl := errV_no hV3.out)
    | (go_at_call 12; (with_reducible refine (kr.out _ (by (repeat (first | exact ext_refl _ | assumption | refine ext_setCell ?_ (by simp; try omega) _ | refine ext_alloc ?_ _ | refine ext_drew ?_ | refine ext_drewN ?_ _ | refine ext_trans ?_ (Aft.use _) | refine ext_trans ?_ (by assumption))))).mono ?_); rintro e w4 ⟨v4, rfl, hE4, hV4⟩; have hX4 := ext_trans hX3 hE4; obtain ⟨p0, p1, p2, p3, p4, pl⟩ := b1.out.ext hX4; obtain rfl := errV_no hV4.out)
    | (go_at_call 12; (with_reducible refine (ks.out _ (by (repeat (first | exact ext_refl _ | assumption | refine ext_setCell ?_ (by simp; try omega) _ | refine ext_alloc ?_ _ | refine ext_drew ?_ | refine ext_drewN ?_ _ | refine ext_trans ?_ (Aft.use _) | refine ext_trans ?_ (by assumption))))).mono ?_); rintro e w5 ⟨v5, rfl, hE5, hV5⟩; obtain rfl := errV_no hV5.out))
  all_goals
    refine bodyPost_ret (v := .bool true) ?h rfl ⟨rfl, ?_⟩
    case h => simp [results, Tryd.results6, go_sem]
    have e0' := e0.out
    repeat (first | exact ext_refl _ | assumption | refine ext_setCell ?_ (by simp; try omega) _ | refine ext_alloc ?_ _ | refine ext_drew ?_ | refine ext_drewN ?_ _ | refine ext_trans ?_ (Aft.use _) | refine ext_trans ?_ (by assumption))
theorem bk_err_bothb (P G M N : Int) (A : Option Addr) (k c : Nat) (xs : List Int) (l : List UInt8) (w : World) (hL : LwT w) (hA : RdI w A k c xs) (hl : l.length ≤ 3000) (t u : List UInt8) (z y : Int) (ce : Int) (c0 : ce ≠ 0) (hp : putV P G M N xs l = (t, ce, z)) (a b : List UInt8) (z1 z2 : Int) (hv : takeV P G M N xs l = (u, 0, y)) (hr : putV P G M N xs u = (a, 0, z1)) (hs : putV P 0 M N [] u = (b, 0, z2)) (hab : b = l) :
    Calls Tryd.prog 6 #[mkV P G M N A k c, .string (bs l)] w fun e w' => e = .returned (.bool true) ∧ Ext w w' := by
  have ka := Lib.hid (fun w' (h : Ext w w') => av_alive w' (hL.ext h))
  have e0 : Hid (Ext w (w.alloc (BoxM P G M N A k c))) := ext_alloc (ext_refl w) _
  have b1 := Lib.hid (MkAt.made w P G M N A k c)
  have hl2 : ¬ (3000 : Int) < (l.length : Int) := by omega
  have kp := Lib.hid (fun w' (h : Ext w w') => mk_Put P G M N A k c xs l w' (hA.ext h))
  rw [hp] at kp
  simp only at kp
  have kv := Lib.hid (fun w' (h : Ext w w') => lw_Take P G M N A k c xs l w' (hL.ext h) (hA.ext h))
  rw [hv] at kv
  simp only at kv
  have kr := Lib.hid (fun w' (h : Ext w w') => mk_Put P G M N A k c xs u w' (hA.ext h))
  have ks := Lib.hid (fun w' (h : Ext w w') => mk_Put P 0 M N none 0 0 [] u w' (RdI.nil w'))
  rw [hr] at kr
  rw [hs] at ks
  simp only at kr ks
  subst hab
  go_enter Tryd.func6, Tryd.ntmps6
  go_wp2_with (first
    | (go_at_call 7; (with_reducible refine (ka.out _ (by (repeat (first | exact ext_refl _ | assumption | refine ext_setCell ?_ (by simp; try omega) _ | refine ext_alloc ?_ _ | refine ext_drew ?_ | refine ext_drewN ?_ _ | refine ext_trans ?_ (Aft.use _) | refine ext_trans ?_ (by assumption))))).mono ?_); rintro e w1 ⟨rfl, hE1⟩; have hX1 := hE1; obtain ⟨p0, p1, p2, p3, p4, pl⟩ := b1.out.ext hX1)
    | (go_at_call 12; (with_reducible refine (kp.out _ (by (repeat (first | exact ext_refl _ | assumption | refine ext_setCell ?_ (by simp; try omega) _ | refine ext_alloc ?_ _ | refine ext_drew ?_ | refine ext_drewN ?_ _ | refine ext_trans ?_ (Aft.use _) | refine ext_trans ?_ (by assumption))))).mono ?_); rintro e w2 ⟨v2, rfl, hE2, hV2⟩; have hX2 := ext_trans hX1 hE2; obtain ⟨p0, p1, p2, p3, p4, pl⟩ := b1.out.ext hX2; obtain ⟨b2, rfl, _⟩ := errV_of hV2.out c0)
    | (go_at_call 14; (with_reducible refine (kv.out _ (by (repeat (first | exact ext_refl _ | assumption | refine ext_setCell ?_ (by simp; try omega) _ | refine ext_alloc ?_ _ | refine ext_drew ?_ | refine ext_drewN ?_ _ | refine ext_trans ?_ (Aft.use _) | refine ext_trans ?_ (by assumption))))).mono ?_); rintro e w3 ⟨v3, rfl, hE3, hV3⟩; have hX3 := ext_trans hX2 hE3; obtain ⟨p0, p1, p2, p3, p4, pl⟩ := b1.out.ext hX3; obtain rfl := errV_no hV3.out)
    | (go_at_call 12; (with_reducible refine (kr.out _ (by (repeat (first | exact ext_refl _ | assumption | refine ext_setCell ?_ (by simp; try omega) _ | refine ext_alloc ?_ _ | refine ext_drew ?_ | refine ext_drewN ?_ _ | refine ext_trans ?_ (Aft.use _) | refine ext_trans ?_ (by assumption))))).mono ?_); rintro e w4 ⟨v4, rfl, hE4, hV4⟩; have hX4 := ext_trans hX3 hE4; obtain ⟨p0, p1, p2, p3, p4, pl⟩ := b1.out.ext hX4; obtain rfl := errV_no hV4.out)
    | (go_at_call 12; (with_reducible refine (ks.out _ (by (repeat (first | exact ext_refl _ | assumption | refine ext_setCell ?_ (by simp; try omega) _ | refine ext_alloc ?_ _ | refine ext_drew ?_ | refine ext_drewN ?_ _ | refine ext_trans ?_ (Aft.use _) | refine ext_trans ?_ (by assumption))))).mono ?_); rintro e w5 ⟨v5, rfl, hE5, hV5⟩; obtain rfl := errV_no hV5.out))
  all_goals
    refine bodyPost_ret (v := .bool true) ?h rfl ⟨rfl, ?_⟩
    case h => simp [results, Tryd.results6, go_sem]
    have e0' := e0.out
    repeat (first | exact ext_refl _ | assumption | refine ext_setCell ?_ (by simp; try omega) _ | refine ext_alloc ?_ _ | refine ext_drew ?_ | refine ext_drewN ?_ _ | refine ext_trans ?_ (Aft.use _) | refine ext_trans ?_ (by assumption))
theorem bk_good_no (P G M N : Int) (A : Option Addr) (k c : Nat) (xs : List Int) (l : List UInt8) (w : World) (hL : LwT w) (hA : RdI w A k c xs) (hl : l.length ≤ 3000) (t u : List UInt8) (z y : Int) (hp : putV P G M N xs l = (t, 0, z)) (d : Int) (c1 : d ≠ 0) (hv : takeV P G M N xs l = (u, d, y)) :
    Calls Tryd.prog 6 #[mkV P G M N A k c, .string (bs l)] w fun e w' => e = .returned (.bool true) ∧ Ext w w' := by
  have ka := Lib.hid (fun w' (h : Ext w w') => av_alive w' (hL.ext h))
  have e0 : Hid (Ext w (w.alloc (BoxM P G M N A k c))) := ext_alloc (ext_refl w) _
  have b1 := Lib.hid (MkAt.made w P G M N A k c)
  have hl2 : ¬ (3000 : Int) < (l.length : Int) := by omega
  have kp := Lib.hid (fun w' (h : Ext w w') => mk_Put P G M N A k c xs l w' (hA.ext h))
  rw [hp] at kp
  simp only at kp
  have kt := Lib.hid (fun w' (h : Ext w w') => lw_Take P G M N A k c xs t w' (hL.ext h) (hA.ext h))
  rw [take_put hp] at kt
  have kq := Lib.hid (fun w' (h : Ext w w') => mk_Put 46 0 45 48 none 0 0 [] l w' (RdI.nil w'))
  rw [put_plain hp] at kq
  have ku := Lib.hid (fun w' (h : Ext w w') => lw_Take 46 0 45 48 none 0 0 [] l w' (hL.ext h) (RdI.nil w'))
  rw [take_plain hp] at ku
  have kz := Lib.hid (fun w' (h : Ext w w') => av_plain w')
  simp only at kt kq ku
  have kv := Lib.hid (fun w' (h : Ext w w') => lw_Take P G M N A k c xs l w' (hL.ext h) (hA.ext h))
  rw [hv] at kv
  simp only at kv
  go_enter Tryd.func6, Tryd.ntmps6
  go_wp2_with (first
    | (go_at_call 7; (with_reducible refine (ka.out _ (by (repeat (first | exact ext_refl _ | assumption | refine ext_setCell ?_ (by simp; try omega) _ | refine ext_alloc ?_ _ | refine ext_drew ?_ | refine ext_drewN ?_ _ | refine ext_trans ?_ (Aft.use _) | refine ext_trans ?_ (by assumption))))).mono ?_); rintro e w1 ⟨rfl, hE1⟩; have hX1 := hE1; obtain ⟨p0, p1, p2, p3, p4, pl⟩ := b1.out.ext hX1)
    | (go_at_call 12; (with_reducible refine (kp.out _ (by (repeat (first | exact ext_refl _ | assumption | refine ext_setCell ?_ (by simp; try omega) _ | refine ext_alloc ?_ _ | refine ext_drew ?_ | refine ext_drewN ?_ _ | refine ext_trans ?_ (Aft.use _) | refine ext_trans ?_ (by assumption))))).mono ?_); rintro e w2 ⟨v2, rfl, hE2, hV2⟩; have hX2 := ext_trans hX1 hE2; obtain ⟨p0, p1, p2, p3, p4, pl⟩ := b1.out.ext hX2; obtain rfl := errV_no hV2.out)
    | (go_at_call 14; (with_reducible refine (kt.out _ (by (repeat (first | exact ext_refl _ | assumption | refine ext_setCell ?_ (by simp; try omega) _ | refine ext_alloc ?_ _ | refine ext_drew ?_ | refine ext_drewN ?_ _ | refine ext_trans ?_ (Aft.use _) | refine ext_trans ?_ (by assumption))))).mono ?_); rintro e w3 ⟨v3, rfl, hE3, hV3⟩; have hX3 := ext_trans hX2 hE3; obtain ⟨p0, p1, p2, p3, p4, pl⟩ := b1.out.ext hX3; obtain rfl := errV_no hV3.out)
    | (go_at_call 15; (with_reducible refine (kz.out _ (by (repeat (first | exact ext_refl _ | assumption | refine ext_setCell ?_ (by simp; try omega) _ | refine ext_alloc ?_ _ | refine ext_drew ?_ | refine ext_drewN ?_ _ | refine ext_trans ?_ (Aft.use _) | refine ext_trans ?_ (by assumption))))).mono ?_); rintro e w4 ⟨rfl, hE4⟩; have hX4 := ext_trans hX3 hE4; obtain ⟨p0, p1, p2, p3, p4, pl⟩ := b1.out.ext hX4)
    | (go_at_call 12; (with_reducible refine (kq.out _ (by (repeat (first | exact ext_refl _ | assumption | refine ext_setCell ?_ (by simp; try omega) _ | refine ext_alloc ?_ _ | refine ext_drew ?_ | refine ext_drewN ?_ _ | refine ext_trans ?_ (Aft.use _) | refine ext_trans ?_ (by assumption))))).mono ?_); rintro e w5 ⟨v5, rfl, hE5, hV5⟩; have hX5 := ext_trans hX4 hE5; obtain ⟨p0, p1, p2, p3, p4, pl⟩ := b1.out.ext hX5; obtain rfl := errV_no hV5.out)
    | (go_at_call 15; (with_reducible refine (kz.out _ (by (repeat (first | exact ext_refl _ | assumption | refine ext_setCell ?_ (by simp; try omega) _ | refine ext_alloc ?_ _ | refine ext_drew ?_ | refine ext_drewN ?_ _ | refine ext_trans ?_ (Aft.use _) | refine ext_trans ?_ (by assumption))))).mono ?_); rintro e w6 ⟨rfl, hE6⟩; have hX6 := ext_trans hX5 hE6; obtain ⟨p0, p1, p2, p3, p4, pl⟩ := b1.out.ext hX6)
    | (go_at_call 14; (with_reducible refine (ku.out _ (by (repeat (first | exact ext_refl _ | assumption | refine ext_setCell ?_ (by simp; try omega) _ | refine ext_alloc ?_ _ | refine ext_drew ?_ | refine ext_drewN ?_ _ | refine ext_trans ?_ (Aft.use _) | refine ext_trans ?_ (by assumption))))).mono ?_); rintro e w7 ⟨v7, rfl, hE7, hV7⟩; have hX7 := ext_trans hX6 hE7; obtain ⟨p0, p1, p2, p3, p4, pl⟩ := b1.out.ext hX7; obtain rfl := errV_no hV7.out)
    | (go_at_call 14; (with_reducible refine (kv.out _ (by (repeat (first | exact ext_refl _ | assumption | refine ext_setCell ?_ (by simp; try omega) _ | refine ext_alloc ?_ _ | refine ext_drew ?_ | refine ext_drewN ?_ _ | refine ext_trans ?_ (Aft.use _) | refine ext_trans ?_ (by assumption))))).mono ?_); rintro e w8 ⟨v8, rfl, hE8, hV8⟩; have hX8 := ext_trans hX7 hE8; obtain ⟨p0, p1, p2, p3, p4, pl⟩ := b1.out.ext hX8; obtain ⟨b8, rfl, _⟩ := errV_of hV8.out c1))
  all_goals
    refine bodyPost_ret (v := .bool true) ?h rfl ⟨rfl, ?_⟩
    case h => simp [results, Tryd.results6, go_sem]
    have e0' := e0.out
    repeat (first | exact ext_refl _ | assumption | refine ext_setCell ?_ (by simp; try omega) _ | refine ext_alloc ?_ _ | refine ext_drew ?_ | refine ext_drewN ?_ _ | refine ext_trans ?_ (Aft.use _) | refine ext_trans ?_ (by assumption))
theorem bk_good_bad (P G M N : Int) (A : Option Addr) (k c : Nat) (xs : List Int) (l : List UInt8) (w : World) (hL : LwT w) (hA : RdI w A k c xs) (hl : l.length ≤ 3000) (t u : List UInt8) (z y : Int) (hp : putV P G M N xs l = (t, 0, z)) (a b : List UInt8) (q r z1 z2 : Int) (c2 : q ≠ 0) (hv : takeV P G M N xs l = (u, 0, y)) (hr : putV P G M N xs u = (a, q, z1)) (hs : putV P 0 M N [] u = (b, r, z2)) :
    Calls Tryd.prog 6 #[mkV P G M N A k c, .string (bs l)] w fun e w' => e = .returned (.bool true) ∧ Ext w w' := by
  have ka := Lib.hid (fun w' (h : Ext w w') => av_alive w' (hL.ext h))
  have e0 : Hid (Ext w (w.alloc (BoxM P G M N A k c))) := ext_alloc (ext_refl w) _
  have b1 := Lib.hid (MkAt.made w P G M N A k c)
  have hl2 : ¬ (3000 : Int) < (l.length : Int) := by omega
  have kp := Lib.hid (fun w' (h : Ext w w') => mk_Put P G M N A k c xs l w' (hA.ext h))
  rw [hp] at kp
  simp only at kp
  have kt := Lib.hid (fun w' (h : Ext w w') => lw_Take P G M N A k c xs t w' (hL.ext h) (hA.ext h))
  rw [take_put hp] at kt
  have kq := Lib.hid (fun w' (h : Ext w w') => mk_Put 46 0 45 48 none 0 0 [] l w' (RdI.nil w'))
  rw [put_plain hp] at kq
  have ku := Lib.hid (fun w' (h : Ext w w') => lw_Take 46 0 45 48 none 0 0 [] l w' (hL.ext h) (RdI.nil w'))
  rw [take_plain hp] at ku
  have kz := Lib.hid (fun w' (h : Ext w w') => av_plain w')
  simp only at kt kq ku
  have kv := Lib.hid (fun w' (h : Ext w w') => lw_Take P G M N A k c xs l w' (hL.ext h) (hA.ext h))
  rw [hv] at kv
  simp only at kv
  have kr := Lib.hid (fun w' (h : Ext w w') => mk_Put P G M N A k c xs u w' (hA.ext h))
  have ks := Lib.hid (fun w' (h : Ext w w') => mk_Put P 0 M N none 0 0 [] u w' (RdI.nil w'))
  rw [hr] at kr
  rw [hs] at ks
  simp only at kr ks
  go_enter Tryd.func6, Tryd.ntmps6
  go_wp2_with (first
    | (go_at_call 7; (with_reducible refine (ka.out _ (by (repeat (first | exact ext_refl _ | assumption | refine ext_setCell ?_ (by simp; try omega) _ | refine ext_alloc ?_ _ | refine ext_drew ?_ | refine ext_drewN ?_ _ | refine ext_trans ?_ (Aft.use _) | refine ext_trans ?_ (by assumption))))).mono ?_); rintro e w1 ⟨rfl, hE1⟩; have hX1 := hE1; obtain ⟨p0, p1, p2, p3, p4, pl⟩ := b1.out.ext hX1)
    | (go_at_call 12; (with_reducible refine (kp.out _ (by (repeat (first | exact ext_refl _ | assumption | refine ext_setCell ?_ (by simp; try omega) _ | refine ext_alloc ?_ _ | refine ext_drew ?_ | refine ext_drewN ?_ _ | refine ext_trans ?_ (Aft.use _) | refine ext_trans ?_ (by assumption))))).mono ?_); rintro e w2 ⟨v2, rfl, hE2, hV2⟩; have hX2 := ext_trans hX1 hE2; obtain ⟨p0, p1, p2, p3, p4, pl⟩ := b1.out.ext hX2; obtain rfl := errV_no hV2.out)
    | (go_at_call 14; (with_reducible refine (kt.out _ (by (repeat (first | exact ext_refl _ | assumption | refine ext_setCell ?_ (by simp; try omega) _ | refine ext_alloc ?_ _ | refine ext_drew ?_ | refine ext_drewN ?_ _ | refine ext_trans ?_ (Aft.use _) | refine ext_trans ?_ (by assumption))))).mono ?_); rintro e w3 ⟨v3, rfl, hE3, hV3⟩; have hX3 := ext_trans hX2 hE3; obtain ⟨p0, p1, p2, p3, p4, pl⟩ := b1.out.ext hX3; obtain rfl := errV_no hV3.out)
    | (go_at_call 15; (with_reducible refine (kz.out _ (by (repeat (first | exact ext_refl _ | assumption | refine ext_setCell ?_ (by simp; try omega) _ | refine ext_alloc ?_ _ | refine ext_drew ?_ | refine ext_drewN ?_ _ | refine ext_trans ?_ (Aft.use _) | refine ext_trans ?_ (by assumption))))).mono ?_); rintro e w4 ⟨rfl, hE4⟩; have hX4 := ext_trans hX3 hE4; obtain ⟨p0, p1, p2, p3, p4, pl⟩ := b1.out.ext hX4)
    | (go_at_call 12; (with_reducible refine (kq.out _ (by (repeat (first | exact ext_refl _ | assumption | refine ext_setCell ?_ (by simp; try omega) _ | refine ext_alloc ?_ _ | refine ext_drew ?_ | refine ext_drewN ?_ _ | refine ext_trans ?_ (Aft.use _) | refine ext_trans ?_ (by assumption))))).mono ?_); rintro e w5 ⟨v5, rfl, hE5, hV5⟩; have hX5 := ext_trans hX4 hE5; obtain ⟨p0, p1, p2, p3, p4, pl⟩ := b1.out.ext hX5; obtain rfl := errV_no hV5.out)
    | (go_at_call 15; (with_reducible refine (kz.out _ (by (repeat (first | exact ext_refl _ | assumption | refine ext_setCell ?_ (by simp; try omega) _ | refine ext_alloc ?_ _ | refine ext_drew ?_ | refine ext_drewN ?_ _ | refine ext_trans ?_ (Aft.use _) | refine ext_trans ?_ (by assumption))))).mono ?_); rintro e w6 ⟨rfl, hE6⟩; have hX6 := ext_trans hX5 hE6; obtain ⟨p0, p1, p2, p3, p4, pl⟩ := b1.out.ext hX6)
    | (go_at_call 14; (with_reducible refine (ku.out _ (by (repeat (first | exact ext_refl _ | assumption | refine ext_setCell ?_ (by simp; try omega) _ | refine ext_alloc ?_ _ | refine ext_drew ?_ | refine ext_drewN ?_ _ | refine ext_trans ?_ (Aft.use _) | refine ext_trans ?_ (by assumption))))).mono ?_); rintro e w7 ⟨v7, rfl, hE7, hV7⟩; have hX7 := ext_trans hX6 hE7; obtain ⟨p0, p1, p2, p3, p4, pl⟩ := b1.out.ext hX7; obtain rfl := errV_no hV7.out)
    | (go_at_call 14; (with_reducible refine (kv.out _ (by (repeat (first | exact ext_refl _ | assumption | refine ext_setCell ?_ (by simp; try omega) _ | refine ext_alloc ?_ _ | refine ext_drew ?_ | refine ext_drewN ?_ _ | refine ext_trans ?_ (Aft.use _) | refine ext_trans ?_ (by assumption))))).mono ?_); rintro e w8 ⟨v8, rfl, hE8, hV8⟩; have hX8 := ext_trans hX7 hE8; obtain ⟨p0, p1, p2, p3, p4, pl⟩ := b1.out.ext hX8; obtain rfl := errV_no hV8.out)
    | (go_at_call 12; (with_reducible refine (kr.out _ (by (repeat (first | exact ext_refl _ | assumption | refine ext_setCell ?_ (by simp; try omega) _ | refine ext_alloc ?_ _ | refine ext_drew ?_ | refine ext_drewN ?_ _ | refine ext_trans ?_ (Aft.use _) | refine ext_trans ?_ (by assumption))))).mono ?_); rintro e w9 ⟨v9, rfl, hE9, hV9⟩; have hX9 := ext_trans hX8 hE9; obtain ⟨p0, p1, p2, p3, p4, pl⟩ := b1.out.ext hX9; obtain ⟨b9, rfl, _⟩ := errV_of hV9.out c2)
    | (go_at_call 12; (with_reducible refine (ks.out _ (by (repeat (first | exact ext_refl _ | assumption | refine ext_setCell ?_ (by simp; try omega) _ | refine ext_alloc ?_ _ | refine ext_drew ?_ | refine ext_drewN ?_ _ | refine ext_trans ?_ (Aft.use _) | refine ext_trans ?_ (by assumption))))).mono ?_); rintro e w10 ⟨v10, rfl, hE10, hV10⟩; rcases hV10.out with ⟨_, rfl⟩ | ⟨_, b10, rfl, _⟩))
  all_goals
    refine bodyPost_ret (v := .bool true) ?h rfl ⟨rfl, ?_⟩
    case h => simp [results, Tryd.results6, go_sem]
    have e0' := e0.out
    repeat (first | exact ext_refl _ | assumption | refine ext_setCell ?_ (by simp; try omega) _ | refine ext_alloc ?_ _ | refine ext_drew ?_ | refine ext_drewN ?_ _ | refine ext_trans ?_ (Aft.use _) | refine ext_trans ?_ (by assumption))
theorem bk_good_ill (P G M N : Int) (A : Option Addr) (k c : Nat) (xs : List Int) (l : List UInt8) (w : World) (hL : LwT w) (hA : RdI w A k c xs) (hl : l.length ≤ 3000) (t u : List UInt8) (z y : Int) (hp : putV P G M N xs l = (t, 0, z)) (a b : List UInt8) (r z1 z2 : Int) (c3 : r ≠ 0) (hv : takeV P G M N xs l = (u, 0, y)) (hr : putV P G M N xs u = (a, 0, z1)) (hs : putV P 0 M N [] u = (b, r, z2)) :
    Calls Tryd.prog 6 #[mkV P G M N A k c, .string (bs l)] w fun e w' => e = .returned (.bool true) ∧ Ext w w' := by
  have ka := Lib.hid (fun w' (h : Ext w w') => av_alive w' (hL.ext h))
  have e0 : Hid (Ext w (w.alloc (BoxM P G M N A k c))) := ext_alloc (ext_refl w) _
  have b1 := Lib.hid (MkAt.made w P G M N A k c)
  have hl2 : ¬ (3000 : Int) < (l.length : Int) := by omega
  have kp := Lib.hid (fun w' (h : Ext w w') => mk_Put P G M N A k c xs l w' (hA.ext h))
  rw [hp] at kp
  simp only at kp
  have kt := Lib.hid (fun w' (h : Ext w w') => lw_Take P G M N A k c xs t w' (hL.ext h) (hA.ext h))
  rw [take_put hp] at kt
  have kq := Lib.hid (fun w' (h : Ext w w') => mk_Put 46 0 45 48 none 0 0 [] l w' (RdI.nil w'))
  rw [put_plain hp] at kq
  have ku := Lib.hid (fun w' (h : Ext w w') => lw_Take 46 0 45 48 none 0 0 [] l w' (hL.ext h) (RdI.nil w'))
  rw [take_plain hp] at ku
  have kz := Lib.hid (fun w' (h : Ext w w') => av_plain w')
  simp only at kt kq ku
  have kv := Lib.hid (fun w' (h : Ext w w') => lw_Take P G M N A k c xs l w' (hL.ext h) (hA.ext h))
  rw [hv] at kv
  simp only at kv
  have kr := Lib.hid (fun w' (h : Ext w w') => mk_Put P G M N A k c xs u w' (hA.ext h))
  have ks := Lib.hid (fun w' (h : Ext w w') => mk_Put P 0 M N none 0 0 [] u w' (RdI.nil w'))
  rw [hr] at kr
  rw [hs] at ks
  simp only at kr ks
  go_enter Tryd.func6, Tryd.ntmps6
  go_wp2_with (first
    | (go_at_call 7; (with_reducible refine (ka.out _ (by (repeat (first | exact ext_refl _ | assumption | refine ext_setCell ?_ (by simp; try omega) _ | refine ext_alloc ?_ _ | refine ext_drew ?_ | refine ext_drewN ?_ _ | refine ext_trans ?_ (Aft.use _) | refine ext_trans ?_ (by assumption))))).mono ?_); rintro e w1 ⟨rfl, hE1⟩; have hX1 := hE1; obtain ⟨p0, p1, p2, p3, p4, pl⟩ := b1.out.ext hX1)
    | (go_at_call 12; (with_reducible refine (kp.out _ (by (repeat (first | exact ext_refl _ | assumption | refine ext_setCell ?_ (by simp; try omega) _ | refine ext_alloc ?_ _ | refine ext_drew ?_ | refine ext_drewN ?_ _ | refine ext_trans ?_ (Aft.use _) | refine ext_trans ?_ (by assumption))))).mono ?_); rintro e w2 ⟨v2, rfl, hE2, hV2⟩; have hX2 := ext_trans hX1 hE2; obtain ⟨p0, p1, p2, p3, p4, pl⟩ := b1.out.ext hX2; obtain rfl := errV_no hV2.out)
    | (go_at_call 14; (with_reducible refine (kt.out _ (by (repeat (first | exact ext_refl _ | assumption | refine ext_setCell ?_ (by simp; try omega) _ | refine ext_alloc ?_ _ | refine ext_drew ?_ | refine ext_drewN ?_ _ | refine ext_trans ?_ (Aft.use _) | refine ext_trans ?_ (by assumption))))).mono ?_); rintro e w3 ⟨v3, rfl, hE3, hV3⟩; have hX3 := ext_trans hX2 hE3; obtain ⟨p0, p1, p2, p3, p4, pl⟩ := b1.out.ext hX3; obtain rfl := errV_no hV3.out)
    | (go_at_call 15; (with_reducible refine (kz.out _ (by (repeat (first | exact ext_refl _ | assumption | refine ext_setCell ?_ (by simp; try omega) _ | refine ext_alloc ?_ _ | refine ext_drew ?_ | refine ext_drewN ?_ _ | refine ext_trans ?_ (Aft.use _) | refine ext_trans ?_ (by assumption))))).mono ?_); rintro e w4 ⟨rfl, hE4⟩; have hX4 := ext_trans hX3 hE4; obtain ⟨p0, p1, p2, p3, p4, pl⟩ := b1.out.ext hX4)
    | (go_at_call 12; (with_reducible refine (kq.out _ (by (repeat (first | exact ext_refl _ | assumption | refine ext_setCell ?_ (by simp; try omega) _ | refine ext_alloc ?_ _ | refine ext_drew ?_ | refine ext_drewN ?_ _ | refine ext_trans ?_ (Aft.use _) | refine ext_trans ?_ (by assumption))))).mono ?_); rintro e w5 ⟨v5, rfl, hE5, hV5⟩; have hX5 := ext_trans hX4 hE5; obtain ⟨p0, p1, p2, p3, p4, pl⟩ := b1.out.ext hX5; obtain rfl := errV_no hV5.out)
    | (go_at_call 15; (with_reducible refine (kz.out _ (by (repeat (first | exact ext_refl _ | assumption | refine ext_setCell ?_ (by simp; try omega) _ | refine ext_alloc ?_ _ | refine ext_drew ?_ | refine ext_drewN ?_ _ | refine ext_trans ?_ (Aft.use _) | refine ext_trans ?_ (by assumption))))).mono ?_); rintro e w6 ⟨rfl, hE6⟩; have hX6 := ext_trans hX5 hE6; obtain ⟨p0, p1, p2, p3, p4, pl⟩ := b1.out.ext hX6)
    | (go_at_call 14; (with_reducible refine (ku.out _ (by (repeat (first | exact ext_refl _ | assumption | refine ext_setCell ?_ (by simp; try omega) _ | refine ext_alloc ?_ _ | refine ext_drew ?_ | refine ext_drewN ?_ _ | refine ext_trans ?_ (Aft.use _) | refine ext_trans ?_ (by assumption))))).mono ?_); rintro e w7 ⟨v7, rfl, hE7, hV7⟩; have hX7 := ext_trans hX6 hE7; obtain ⟨p0, p1, p2, p3, p4, pl⟩ := b1.out.ext hX7; obtain rfl := errV_no hV7.out)
    | (go_at_call 14; (with_reducible refine (kv.out _ (by (repeat (first | exact ext_refl _ | assumption | refine ext_setCell ?_ (by simp; try omega) _ | refine ext_alloc ?_ _ | refine ext_drew ?_ | refine ext_drewN ?_ _ | refine ext_trans ?_ (Aft.use _) | refine ext_trans ?_ (by assumption))))).mono ?_); rintro e w8 ⟨v8, rfl, hE8, hV8⟩; have hX8 := ext_trans hX7 hE8; obtain ⟨p0, p1, p2, p3, p4, pl⟩ := b1.out.ext hX8; obtain rfl := errV_no hV8.out)
    | (go_at_call 12; (with_reducible refine (kr.out _ (by (repeat (first | exact ext_refl _ | assumption | refine ext_setCell ?_ (by simp; try omega) _ | refine ext_alloc ?_ _ | refine ext_drew ?_ | refine ext_drewN ?_ _ | refine ext_trans ?_ (Aft.use _) | refine ext_trans ?_ (by assumption))))).mono ?_); rintro e w9 ⟨v9, rfl, hE9, hV9⟩; have hX9 := ext_trans hX8 hE9; obtain ⟨p0, p1, p2, p3, p4, pl⟩ := b1.out.ext hX9; obtain rfl := errV_no hV9.out)
    | (go_at_call 12; (with_reducible refine (ks.out _ (by (repeat (first | exact ext_refl _ | assumption | refine ext_setCell ?_ (by simp; try omega) _ | refine ext_alloc ?_ _ | refine ext_drew ?_ | refine ext_drewN ?_ _ | refine ext_trans ?_ (Aft.use _) | refine ext_trans ?_ (by assumption))))).mono ?_); rintro e w10 ⟨v10, rfl, hE10, hV10⟩; obtain ⟨b10, rfl, _⟩ := errV_of hV10.out c3))
  all_goals
    refine bodyPost_ret (v := .bool true) ?h rfl ⟨rfl, ?_⟩
    case h => simp [results, Tryd.results6, go_sem]
    have e0' := e0.out
    repeat (first | exact ext_refl _ | assumption | refine ext_setCell ?_ (by simp; try omega) _ | refine ext_alloc ?_ _ | refine ext_drew ?_ | refine ext_drewN ?_ _ | refine ext_trans ?_ (Aft.use _) | refine ext_trans ?_ (by assumption))
theorem bk_good_botha (P G M N : Int) (A : Option Addr) (k c : Nat) (xs : List Int) (l : List UInt8) (w : World) (hL : LwT w) (hA : RdI w A k c xs) (hl : l.length ≤ 3000) (t u : List UInt8) (z y : Int) (hp : putV P G M N xs l = (t, 0, z)) (a b : List UInt8) (z1 z2 : Int) (hv : takeV P G M N xs l = (u, 0, y)) (hr : putV P G M N xs u = (a, 0, z1)) (hs : putV P 0 M N [] u = (b, 0, z2)) (hab : a = l) :
    Calls Tryd.prog 6 #[mkV P G M N A k c, .string (bs l)] w fun e w' => e = .returned (.bool true) ∧ Ext w w' := by
  have ka := Lib.hid (fun w' (h : Ext w w') => av_alive w' (hL.ext h))
  have e0 : Hid (Ext w (w.alloc (BoxM P G M N A k c))) := ext_alloc (ext_refl w) _
  have b1 := Lib.hid (MkAt.made w P G M N A k c)
  have hl2 : ¬ (3000 : Int) < (l.length : Int) := by omega
  have kp := Lib.hid (fun w' (h : Ext w w') => mk_Put P G M N A k c xs l w' (hA.ext h))
  rw [hp] at kp
  simp only at kp
  have kt := Lib.hid (fun w' (h : Ext w w') => lw_Take P G M N A k c xs t w' (hL.ext h) (hA.ext h))
  rw [take_put hp] at kt
  have kq := Lib.hid (fun w' (h : Ext w w') => mk_Put 46 0 45 48 none 0 0 [] l w' (RdI.nil w'))
  rw [put_plain hp] at kq
  have ku := Lib.hid (fun w' (h : Ext w w') => lw_Take 46 0 45 48 none 0 0 [] l w' (hL.ext h) (RdI.nil w'))
  rw [take_plain hp] at ku
  have kz := Lib.hid (fun w' (h : Ext w w') => av_plain w')
  simp only at kt kq ku
  have kv := Lib.hid (fun w' (h : Ext w w') => lw_Take P G M N A k c xs l w' (hL.ext h) (hA.ext h))
  rw [hv] at kv
  simp only at kv
  have kr := Lib.hid (fun w' (h : Ext w w') => mk_Put P G M N A k c xs u w' (hA.ext h))
  have ks := Lib.hid (fun w' (h : Ext w w') => mk_Put P 0 M N none 0 0 [] u w' (RdI.nil w'))
  rw [hr] at kr
  rw [hs] at ks
  simp only at kr ks
  subst hab
  go_enter Tryd.func6, Tryd.ntmps6
  go_wp2_with (first
    | (go_at_call 7; (with_reducible refine (ka.out _ (by (repeat (first | exact ext_refl _ | assumption | refine ext_setCell ?_ (by simp; try omega) _ | refine ext_alloc ?_ _ | refine ext_drew ?_ | refine ext_drewN ?_ _ | refine ext_trans ?_ (Aft.use _) | refine ext_trans ?_ (by assumption))))).mono ?_); rintro e w1 ⟨rfl, hE1⟩; have hX1 := hE1; obtain ⟨p0, p1, p2, p3, p4, pl⟩ := b1.out.ext hX1)
    | (go_at_call 12; (with_reducible refine (kp.out _ (by (repeat (first | exact ext_refl _ | assumption | refine ext_setCell ?_ (by simp; try omega) _ | refine ext_alloc ?_ _ | refine ext_drew ?_ | refine ext_drewN ?_ _ | refine ext_trans ?_ (Aft.use _) | refine ext_trans ?_ (by assumption))))).mono ?_); rintro e w2 ⟨v2, rfl, hE2, hV2⟩; have hX2 := ext_trans hX1 hE2; obtain ⟨p0, p1, p2, p3, p4, pl⟩ := b1.out.ext hX2; obtain rfl := errV_no hV2.out)
    | (go_at_call 14; (with_reducible refine (kt.out _ (by (repeat (first | exact ext_refl _ | assumption | refine ext_setCell ?_ (by simp; try omega) _ | refine ext_alloc ?_ _ | refine ext_drew ?_ | refine ext_drewN ?_ _ | refine ext_trans ?_ (Aft.use _) | refine ext_trans ?_ (by assumption))))).mono ?_); rintro e w3 ⟨v3, rfl, hE3, hV3⟩; have hX3 := ext_trans hX2 hE3; obtain ⟨p0, p1, p2, p3, p4, pl⟩ := b1.out.ext hX3; obtain rfl := errV_no hV3.out)
    | (go_at_call 15; (with_reducible refine (kz.out _ (by (repeat (first | exact ext_refl _ | assumption | refine ext_setCell ?_ (by simp; try omega) _ | refine ext_alloc ?_ _ | refine ext_drew ?_ | refine ext_drewN ?_ _ | refine ext_trans ?_ (Aft.use _) | refine ext_trans ?_ (by assumption))))).mono ?_); rintro e w4 ⟨rfl, hE4⟩; have hX4 := ext_trans hX3 hE4; obtain ⟨p0, p1, p2, p3, p4, pl⟩ := b1.out.ext hX4)
    | (go_at_call 12; (with_reducible refine (kq.out _ (by (repeat (first | exact ext_refl _ | assumption | refine ext_setCell ?_ (by simp; try omega) _ | refine ext_alloc ?_ _ | refine ext_drew ?_ | refine ext_drewN ?_ _ | refine ext_trans ?_ (Aft.use _) | refine ext_trans ?_ (by assumption))))).mono ?_); rintro e w5 ⟨v5, rfl, hE5, hV5⟩; have hX5 := ext_trans hX4 hE5; obtain ⟨p0, p1, p2, p3, p4, pl⟩ := b1.out.ext hX5; obtain rfl := errV_no hV5.out)
    | (go_at_call 15; (with_reducible refine (kz.out _ (by (repeat (first | exact ext_refl _ | assumption | refine ext_setCell ?_ (by simp; try omega) _ | refine ext_alloc ?_ _ | refine ext_drew ?_ | refine ext_drewN ?_ _ | refine ext_trans ?_ (Aft.use _) | refine ext_trans ?_ (by assumption))))).mono ?_); rintro e w6 ⟨rfl, hE6⟩; have hX6 := ext_trans hX5 hE6; obtain ⟨p0, p1, p2, p3, p4, pl⟩ := b1.out.ext hX6)
    | (go_at_call 14; (with_reducible refine (ku.out _ (by (repeat (first | exact ext_refl _ | assumption | refine ext_setCell ?_ (by simp; try omega) _ | refine ext_alloc ?_ _ | refine ext_drew ?_ | refine ext_drewN ?_ _ | refine ext_trans ?_ (Aft.use _) | refine ext_trans ?_ (by assumption))))).mono ?_); rintro e w7 ⟨v7, rfl, hE7, hV7⟩; have hX7 := ext_trans hX6 hE7; obtain ⟨p0, p1, p2, p3, p4, pl⟩ := b1.out.ext hX7; obtain rfl := errV_no hV7.out)
    | (go_at_call 14; (with_reducible refine (kv.out _ (by (repeat (first | exact ext_refl _ | assumption | refine ext_setCell ?_ (by simp; try omega) _ | refine ext_alloc ?_ _ | refine ext_drew ?_ | refine ext_drewN ?_ _ | refine ext_trans ?_ (Aft.use _) | refine ext_trans ?_ (by assumption))))).mono ?_); rintro e w8 ⟨v8, rfl, hE8, hV8⟩; have hX8 := ext_trans hX7 hE8; obtain ⟨p0, p1, p2, p3, p4, pl⟩ := b1.out.ext hX8; obtain rfl := errV_no hV8.out)
    | (go_at_call 12; (with_reducible refine (kr.out _ (by (repeat (first | exact ext_refl _ | assumption | refine ext_setCell ?_ (by simp; try omega) _ | refine ext_alloc ?_ _ | refine ext_drew ?_ | refine ext_drewN ?_ _ | refine ext_trans ?_ (Aft.use _) | refine ext_trans ?_ (by assumption))))).mono ?_); rintro e w9 ⟨v9, rfl, hE9, hV9⟩; have hX9 := ext_trans hX8 hE9; obtain ⟨p0, p1, p2, p3, p4, pl⟩ := b1.out.ext hX9; obtain rfl := errV_no hV9.out)
    | (go_at_call 12; (with_reducible refine (ks.out _ (by (repeat (first | exact ext_refl _ | assumption | refine ext_setCell ?_ (by simp; try omega) _ | refine ext_alloc ?_ _ | refine ext_drew ?_ | refine ext_drewN ?_ _ | refine ext_trans ?_ (Aft.use _) | refine ext_trans ?_ (by assumption))))).mono ?_); rintro e w10 ⟨v10, rfl, hE10, hV10⟩; obtain rfl := errV_no hV10.out))
  all_goals
    refine bodyPost_ret (v := .bool true) ?h rfl ⟨rfl, ?_⟩
    case h => simp [results, Tryd.results6, go_sem]
    have e0' := e0.out
    repeat (first | exact ext_refl _ | assumption | refine ext_setCell ?_ (by simp; try omega) _ | refine ext_alloc ?_ _ | refine ext_drew ?_ | refine ext_drewN ?_ _ | refine ext_trans ?_ (Aft.use _) | refine ext_trans ?_ (by assumption))
theorem bk_good_bothb (P G M N : Int) (A : Option Addr) (k c : Nat) (xs : List Int) (l : List UInt8) (w : World) (hL : LwT w) (hA : RdI w A k c xs) (hl : l.length ≤ 3000) (t u : List UInt8) (z y : Int) (hp : putV P G M N xs l = (t, 0, z)) (a b : List UInt8) (z1 z2 : Int) (hv : takeV P G M N xs l = (u, 0, y)) (hr : putV P G M N xs u = (a, 0, z1)) (hs : putV P 0 M N [] u = (b, 0, z2)) (hab : b = l) :
    Calls Tryd.prog 6 #[mkV P G M N A k c, .string (bs l)] w fun e w' => e = .returned (.bool true) ∧ Ext w w' := by
  have ka := Lib.hid (fun w' (h : Ext w w') => av_alive w' (hL.ext h))
  have e0 : Hid (Ext w (w.alloc (BoxM P G M N A k c))) := ext_alloc (ext_refl w) _
  have b1 := Lib.hid (MkAt.made w P G M N A k c)
  have hl2 : ¬ (3000 : Int) < (l.length : Int) := by omega
  have kp := Lib.hid (fun w' (h : Ext w w') => mk_Put P G M N A k c xs l w' (hA.ext h))
  rw [hp] at kp
  simp only at kp
  have kt := Lib.hid (fun w' (h : Ext w w') => lw_Take P G M N A k c xs t w' (hL.ext h) (hA.ext h))
  rw [take_put hp] at kt
  have kq := Lib.hid (fun w' (h : Ext w w') => mk_Put 46 0 45 48 none 0 0 [] l w' (RdI.nil w'))
  rw [put_plain hp] at kq
  have ku := Lib.hid (fun w' (h : Ext w w') => lw_Take 46 0 45 48 none 0 0 [] l w' (hL.ext h) (RdI.nil w'))
  rw [take_plain hp] at ku
  have kz := Lib.hid (fun w' (h : Ext w w') => av_plain w')
  simp only at kt kq ku
  have kv := Lib.hid (fun w' (h : Ext w w') => lw_Take P G M N A k c xs l w' (hL.ext h) (hA.ext h))
  rw [hv] at kv
  simp only at kv
  have kr := Lib.hid (fun w' (h : Ext w w') => mk_Put P G M N A k c xs u w' (hA.ext h))
  have ks := Lib.hid (fun w' (h : Ext w w') => mk_Put P 0 M N none 0 0 [] u w' (RdI.nil w'))
  rw [hr] at kr
  rw [hs] at ks
  simp only at kr ks
  subst hab
  go_enter Tryd.func6, Tryd.ntmps6
  go_wp2_with (first
    | (go_at_call 7; (with_reducible refine (ka.out _ (by (repeat (first | exact ext_refl _ | assumption | refine ext_setCell ?_ (by simp; try omega) _ | refine ext_alloc ?_ _ | refine ext_drew ?_ | refine ext_drewN ?_ _ | refine ext_trans ?_ (Aft.use _) | refine ext_trans ?_ (by assumption))))).mono ?_); rintro e w1 ⟨rfl, hE1⟩; have hX1 := hE1; obtain ⟨p0, p1, p2, p3, p4, pl⟩ := b1.out.ext hX1)
    | (go_at_call 12; (with_reducible refine (kp.out _ (by (repeat (first | exact ext_refl _ | assumption | refine ext_setCell ?_ (by simp; try omega) _ | refine ext_alloc ?_ _ | refine ext_drew ?_ | refine ext_drewN ?_ _ | refine ext_trans ?_ (Aft.use _) | refine ext_trans ?_ (by assumption))))).mono ?_); rintro e w2 ⟨v2, rfl, hE2, hV2⟩; have hX2 := ext_trans hX1 hE2; obtain ⟨p0, p1, p2, p3, p4, pl⟩ := b1.out.ext hX2; obtain rfl := errV_no hV2.out)
    | (go_at_call 14; (with_reducible refine (kt.out _ (by (repeat (first | exact ext_refl _ | assumption | refine ext_setCell ?_ (by simp; try omega) _ | refine ext_alloc ?_ _ | refine ext_drew ?_ | refine ext_drewN ?_ _ | refine ext_trans ?_ (Aft.use _) | refine ext_trans ?_ (by assumption))))).mono ?_); rintro e w3 ⟨v3, rfl, hE3, hV3⟩; have hX3 := ext_trans hX2 hE3; obtain ⟨p0, p1, p2, p3, p4, pl⟩ := b1.out.ext hX3; obtain rfl := errV_no hV3.out)
    | (go_at_call 15; (with_reducible refine (kz.out _ (by (repeat (first | exact ext_refl _ | assumption | refine ext_setCell ?_ (by simp; try omega) _ | refine ext_alloc ?_ _ | refine ext_drew ?_ | refine ext_drewN ?_ _ | refine ext_trans ?_ (Aft.use _) | refine ext_trans ?_ (by assumption))))).mono ?_); rintro e w4 ⟨rfl, hE4⟩; have hX4 := ext_trans hX3 hE4; obtain ⟨p0, p1, p2, p3, p4, pl⟩ := b1.out.ext hX4)
    | (go_at_call 12; (with_reducible refine (kq.out _ (by (repeat (first | exact ext_refl _ | assumption | refine ext_setCell ?_ (by simp; try omega) _ | refine ext_alloc ?_ _ | refine ext_drew ?_ | refine ext_drewN ?_ _ | refine ext_trans ?_ (Aft.use _) | refine ext_trans ?_ (by assumption))))).mono ?_); rintro e w5 ⟨v5, rfl, hE5, hV5⟩; have hX5 := ext_trans hX4 hE5; obtain ⟨p0, p1, p2, p3, p4, pl⟩ := b1.out.ext hX5; obtain rfl := errV_no hV5.out)
    | (go_at_call 15; (with_reducible refine (kz.out _ (by (repeat (first | exact ext_refl _ | assumption | refine ext_setCell ?_ (by simp; try omega) _ | refine ext_alloc ?_ _ | refine ext_drew ?_ | refine ext_drewN ?_ _ | refine ext_trans ?_ (Aft.use _) | refine ext_trans ?_ (by assumption))))).mono ?_); rintro e w6 ⟨rfl, hE6⟩; have hX6 := ext_trans hX5 hE6; obtain ⟨p0, p1, p2, p3, p4, pl⟩ := b1.out.ext hX6)
    | (go_at_call 14; (with_reducible refine (ku.out _ (by (repeat (first | exact ext_refl _ | assumption | refine ext_setCell ?_ (by simp; try omega) _ | refine ext_alloc ?_ _ | refine ext_drew ?_ | refine ext_drewN ?_ _ | refine ext_trans ?_ (Aft.use _) | refine ext_trans ?_ (by assumption))))).mono ?_); rintro e w7 ⟨v7, rfl, hE7, hV7⟩; have hX7 := ext_trans hX6 hE7; obtain ⟨p0, p1, p2, p3, p4, pl⟩ := b1.out.ext hX7; obtain rfl := errV_no hV7.out)
    | (go_at_call 14; (with_reducible refine (kv.out _ (by (repeat (first | exact ext_refl _ | assumption | refine ext_setCell ?_ (by simp; try omega) _ | refine ext_alloc ?_ _ | refine ext_drew ?_ | refine ext_drewN ?_ _ | refine ext_trans ?_ (Aft.use _) | refine ext_trans ?_ (by assumption))))).mono ?_); rintro e w8 ⟨v8, rfl, hE8, hV8⟩; have hX8 := ext_trans hX7 hE8; obtain ⟨p0, p1, p2, p3, p4, pl⟩ := b1.out.ext hX8; obtain rfl := errV_no hV8.out)
    | (go_at_call 12; (with_reducible refine (kr.out _ (by (repeat (first | exact ext_refl _ | assumption | refine ext_setCell ?_ (by simp; try omega) _ | refine ext_alloc ?_ _ | refine ext_drew ?_ | refine ext_drewN ?_ _ | refine ext_trans ?_ (Aft.use _) | refine ext_trans ?_ (by assumption))))).mono ?_); rintro e w9 ⟨v9, rfl, hE9, hV9⟩; have hX9 := ext_trans hX8 hE9; obtain ⟨p0, p1, p2, p3, p4, pl⟩ := b1.out.ext hX9; obtain rfl := errV_no hV9.out)
    | (go_at_call 12; (with_reducible refine (ks.out _ (by (repeat (first | exact ext_refl _ | assumption | refine ext_setCell ?_ (by simp; try omega) _ | refine ext_alloc ?_ _ | refine ext_drew ?_ | refine ext_drewN ?_ _ | refine ext_trans ?_ (Aft.use _) | refine ext_trans ?_ (by assumption))))).mono ?_); rintro e w10 ⟨v10, rfl, hE10, hV10⟩; obtain rfl := errV_no hV10.out))
  all_goals
    refine bodyPost_ret (v := .bool true) ?h rfl ⟨rfl, ?_⟩
    case h => simp [results, Tryd.results6, go_sem]
    have e0' := e0.out
    repeat (first | exact ext_refl _ | assumption | refine ext_setCell ?_ (by simp; try omega) _ | refine ext_alloc ?_ _ | refine ext_drew ?_ | refine ext_drewN ?_ _ | refine ext_trans ?_ (Aft.use _) | refine ext_trans ?_ (by assumption))
theorem bk_second (P G M N : Int) (A : Option Addr) (k c : Nat) (xs : List Int) (l : List UInt8) (w : World) (hL : LwT w) (hA : RdI w A k c xs) (hl : l.length ≤ 3000) (t : List UInt8) (ce z : Int) (hp : putV P G M N xs l = (t, ce, z)) :
    Calls Tryd.prog 6 #[mkV P G M N A k c, .string (bs l)] w fun e w' => e = .returned (.bool true) ∧ Ext w w' := by
  obtain ⟨u, d, y, hv⟩ : ∃ u d y, takeV P G M N xs l = (u, d, y) := ⟨_, _, _, rfl⟩
  obtain ⟨a, q, z1, hr⟩ : ∃ a q z1, putV P G M N xs u = (a, q, z1) := ⟨_, _, _, rfl⟩
  obtain ⟨b, r, z2, hs⟩ : ∃ b r z2, putV P 0 M N [] u = (b, r, z2) := ⟨_, _, _, rfl⟩
  by_cases c0 : ce = 0
  · subst c0
    by_cases c1 : d = 0
    · subst c1
      by_cases c2 : q = 0
      · subst c2
        by_cases c3 : r = 0
        · subst c3
          rcases again_or hv hr hs with e | e
          · exact bk_good_botha P G M N A k c xs l w hL hA hl t u z y hp a b z1 z2 hv hr hs e
          · exact bk_good_bothb P G M N A k c xs l w hL hA hl t u z y hp a b z1 z2 hv hr hs e
        · exact bk_good_ill P G M N A k c xs l w hL hA hl t u z y hp a b r z1 z2 c3 hv hr hs
      · exact bk_good_bad P G M N A k c xs l w hL hA hl t u z y hp a b q r z1 z2 c2 hv hr hs
    · exact bk_good_no P G M N A k c xs l w hL hA hl t u z y hp d c1 hv
  · by_cases c1 : d = 0
    · subst c1
      by_cases c2 : q = 0
      · subst c2
        by_cases c3 : r = 0
        · subst c3
          rcases again_or hv hr hs with e | e
          · exact bk_err_botha P G M N A k c xs l w hL hA hl t u z y ce c0 hp a b z1 z2 hv hr hs e
          · exact bk_err_bothb P G M N A k c xs l w hL hA hl t u z y ce c0 hp a b z1 z2 hv hr hs e
        · exact bk_err_ill P G M N A k c xs l w hL hA hl t u z y ce c0 hp a b r z1 z2 c3 hv hr hs
      · exact bk_err_bad P G M N A k c xs l w hL hA hl t u z y ce c0 hp a b q r z1 z2 c2 hv hr hs
    · exact bk_err_no P G M N A k c xs l w hL hA hl t u z y ce c0 hp d c1 hv
theorem walk_MarksBack (x0 : Int) (x1 : Int) (x2 : Int) (x3 : Int) (x4A : Option Addr) (x4l x4c : Nat) (x4 : List Int) (x5 : ByteArray) (w : World) (_hx0 : -2147483648 ≤ x0 ∧ x0 ≤ 2147483647) (_hx1 : -2147483648 ≤ x1 ∧ x1 ≤ 2147483647) (_hx2 : -2147483648 ≤ x2 ∧ x2 ≤ 2147483647) (_hx3 : -2147483648 ≤ x3 ∧ x3 ≤ 2147483647) (hx4 : RdI w x4A x4l x4c x4) (_hx5 : x5.size ≤ maxLen) (hL : LwT w) :
    Calls Tryd.prog 6 #[.agg #[.int .i32 x0, .int .i32 x1, .int .i32 x2, .int .i32 x3, .slice x4A x4l x4c], .string x5] w fun e w' => e = .returned (.bool true) ∧ Ext w w' := by
  obtain ⟨l, rfl⟩ := bs_of x5
  by_cases h : 3000 < l.length
  · exact bk_out x0 x1 x2 x3 x4A x4l x4c x4 l w hL hx4 h
  · obtain ⟨t, ce, z, hp⟩ : ∃ t ce z, putV x0 x1 x2 x3 x4 l = (t, ce, z) := ⟨_, _, _, rfl⟩
    exact bk_second x0 x1 x2 x3 x4A x4l x4c x4 l w hL hx4 (by omega) t ce z hp
end Go.Proofs.YtebgmicpecekgaaDoor
end
