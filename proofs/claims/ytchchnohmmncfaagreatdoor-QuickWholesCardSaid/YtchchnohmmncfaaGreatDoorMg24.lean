/- Lemmas of this proof, laid together: QkA, QkB. -/
import Derived.Test.YtchchnohmmncfaaGreatDoorMg22
import Derived.Test.YtchchnohmmncfaaGreatDoorMg18
import Derived.Deep.DeepCutAuto
import Derived.Deep.RegionWith
set_option linter.unusedSimpArgs false
set_option linter.unusedVariables false
section
/- Exact numbers: which may be; the exact number of a whole one. The known forms. -/
namespace Go.Proofs.YtchchnohmmncfaaGreatDoor
open Go.RowKit
attribute [local go_sem] sz2 sz3 sz4 sz5 sz6 sz7 sz8
set_option maxHeartbeats 8000000
set_option maxRecDepth 100000
attribute [local irreducible] Calls
abbrev dyV (neg : Bool) (A : Option Addr) (n c : Nat) (x : Int) : Value := .agg #[.bool neg, .slice A n c, .int .i64 x]
theorem fm_Double (w : World) : Calls Tryz.prog 60 #[] w fun e w' => e = .returned (fmV (11 : Nat) (52 : Nat)) ∧ Ext w w' := by
  go_enter Tryz.func60, Tryz.ntmps60
  go_wp2
  refine bodyPost_ret (v := .agg #[.int .i64 11, .int .i64 52]) ?h rfl ⟨rfl, ?_⟩
  case h => simp [results, Tryz.results60, go_sem]
  repeat (first | exact ext_refl _ | assumption | refine ext_setCell ?_ (by simp; try omega) _ | refine ext_alloc ?_ _ | refine ext_drew ?_ | refine ext_drewN ?_ _ | refine ext_trans ?_ (Aft.use _) | refine ext_trans ?_ (by assumption))
theorem ex_Check0 (A : Option Addr) (n c : Nat) (w : World) (hA : Rd w A n c (lim 0)) : Calls Tryz.prog 98 #[dyV false A n c 0] w fun e w' => e = .returned (.int .i64 0) ∧ Ext w w' := by
  have chA := Lib.hid (fun w' (he : Ext w w') => show Calls Tryz.prog 91 #[natV A n c] w' fun e w'' => e = .returned (.int .i64 0) ∧ Ext w' w'' by
    have := ncheck_any A n c (lim 0) w' (hA.ext he); rwa [chk_lim (by rw [lim_zero]; decide)] at this)
  have kn := Lib.hid (fun w' (he : Ext w w') => show Calls Tryz.prog 92 #[natV A n c] w' fun e w'' => e = .returned (.bool true) ∧ Ext w' w'' from ex_none A n c 0 w' (hA.ext he))
  clear hA
  go_enter Tryz.func98, Tryz.ntmps98
  go_wp2_with (first
    | (go_at_call 91; (with_reducible refine (chA.out _ (by (repeat (first | exact ext_refl _ | assumption | refine ext_setCell ?_ (by simp; try omega) _ | refine ext_alloc ?_ _ | refine ext_drew ?_ | refine ext_drewN ?_ _ | refine ext_trans ?_ (Aft.use _) | refine ext_trans ?_ (by assumption))))).mono ?_); rintro e w1 ⟨rfl, xb1⟩; obtain ⟨xc1, xf1, xl1, xz1⟩ := ext_use xb1; (try simp at xz1); obtain ⟨l1_0, gc, gf⟩ := kp xb1 (w.heap.size) (by first | omega | (simp; try omega)); have r1_0 := gc 0; have f1_0 := gf 0; have r1_0_1 := gc 1; have f1_0_1 := gf 1; have r1_0_2 := gc 2; have f1_0_2 := gf 2; clear gc gf)
    | (go_at_call 92; (with_reducible refine (kn.out _ (by (repeat (first | exact ext_refl _ | assumption | refine ext_setCell ?_ (by simp; try omega) _ | refine ext_alloc ?_ _ | refine ext_drew ?_ | refine ext_drewN ?_ _ | refine ext_trans ?_ (Aft.use _) | refine ext_trans ?_ (by assumption))))).mono ?_); rintro e w1 ⟨rfl, xb1⟩; obtain ⟨xc1, xf1, xl1, xz1⟩ := ext_use xb1; (try simp at xz1); obtain ⟨l1_0, gc, gf⟩ := kp xb1 (w.heap.size) (by first | omega | (simp; try omega)); have r1_0 := gc 0; have f1_0 := gf 0; have r1_0_1 := gc 1; have f1_0_1 := gf 1; have r1_0_2 := gc 2; have f1_0_2 := gf 2; clear gc gf)
   )
  refine bodyPost_ret (v := .int .i64 0) ?h rfl ⟨rfl, ?_⟩
  case h => simp [results, Tryz.results98, go_sem]
  repeat (first | exact ext_refl _ | assumption | refine ext_setCell ?_ (by simp; try omega) _ | refine ext_alloc ?_ _ | refine ext_drew ?_ | refine ext_drewN ?_ _ | refine ext_trans ?_ (Aft.use _) | refine ext_trans ?_ (by assumption))
theorem ex_Check (neg : Bool) (A : Option Addr) (n c a : Nat) (x : Int) (hn : n ≤ 16384) (hx : -1073741824 ≤ x ∧ x ≤ 1073741824) (ha : a % 2 = 1) (w : World) (hA : Rd w A n c (lim a)) : Calls Tryz.prog 98 #[dyV neg A n c x] w fun e w' => e = .returned (.int .i64 0) ∧ Ext w w' := by
  have hlen := hA.len
  have hcx := hA.cap
  have chA := Lib.hid (fun w' (he : Ext w w') => show Calls Tryz.prog 91 #[natV A n c] w' fun e w'' => e = .returned (.int .i64 0) ∧ Ext w' w'' by
    have := ncheck_any A n c (lim a) w' (hA.ext he); rwa [chk_lim (by omega)] at this)
  have kn := Lib.hid (fun w' (he : Ext w w') => show Calls Tryz.prog 92 #[natV A n c] w' fun e w'' => e = .returned (.bool false) ∧ Ext w' w'' by
    have := ex_none A n c a w' (hA.ext he); rwa [decide_eq_false (by omega)] at this)
  have kf := Lib.hid (fun w' => ex_far x hx w')
  have hn0 : 0 < n := by
    rcases Nat.eq_zero_or_pos n with h | h
    · exfalso
      have := lim_nil.1 (List.eq_nil_of_length_eq_zero (by omega : (lim a).length = 0))
      omega
    · exact h
  obtain ⟨bv, ov, rfl⟩ : ∃ b off, A = some ⟨b, off, none⟩ := by
    rcases hA.shape with ⟨_, h, _⟩ | h
    · omega
    · exact h
  obtain ⟨l, hl⟩ : ∃ l, (lim a).getD 0 0 = l := ⟨_, rfl⟩
  have hlb : l < 4294967296 := by rw [← hl]; exact lim_getD_lt a 0
  have hodd : l % 2 = 1 := by
    rw [← hl, limb_at, Nat.pow_zero, Nat.div_one]
    have e : Bs = 4294967296 := rfl
    rw [e]; omega
  have hand : bits BinOp.and IntKind.u32 (l : Int) 1 = 1 := by rw [and_one32 l hlb, hodd]; rfl
  have hcell : Hid (∀ u, Ext w u → u.cell? ⟨bv, ov, none⟩ = some (.int .u32 (l : Int))) := Lib.hid fun u hu => by
    obtain ⟨h1, h2⟩ := (hA.ext hu).cells bv ov rfl 0 (by omega)
    rw [Nat.add_zero] at h2
    rw [h2, ← hl, List.getD_eq_getElem?_getD, List.getElem?_eq_getElem (by omega)]
    rfl
  have hnI : (0 : Int) < (n : Int) := by omega
  clear hl hodd hlb hA hlen
  go_enter Tryz.func98, Tryz.ntmps98
  go_wp2_with (first
    | (go_at_call 91; (with_reducible refine (chA.out _ (by (repeat (first | exact ext_refl _ | assumption | refine ext_setCell ?_ (by simp; try omega) _ | refine ext_alloc ?_ _ | refine ext_drew ?_ | refine ext_drewN ?_ _ | refine ext_trans ?_ (Aft.use _) | refine ext_trans ?_ (by assumption))))).mono ?_); rintro e w1 ⟨rfl, xb1⟩; obtain ⟨xc1, xf1, xl1, xz1⟩ := ext_use xb1; (try simp at xz1); have hC := hcell.out w1 (by (repeat (first | exact ext_refl _ | assumption | refine ext_setCell ?_ (by simp; try omega) _ | refine ext_alloc ?_ _ | refine ext_drew ?_ | refine ext_drewN ?_ _ | refine ext_trans ?_ (Aft.use _) | refine ext_trans ?_ (by assumption)))); obtain ⟨l1_0, gc, gf⟩ := kp xb1 (w.heap.size) (by first | omega | (simp; try omega)); have r1_0 := gc 0; have f1_0 := gf 0; have r1_1 := gc 1; have f1_1 := gf 1; have r1_2 := gc 2; have f1_2 := gf 2; clear gc gf)
    | (go_at_call 92; (with_reducible refine (kn.out _ (by (repeat (first | exact ext_refl _ | assumption | refine ext_setCell ?_ (by simp; try omega) _ | refine ext_alloc ?_ _ | refine ext_drew ?_ | refine ext_drewN ?_ _ | refine ext_trans ?_ (Aft.use _) | refine ext_trans ?_ (by assumption))))).mono ?_); rintro e w1 ⟨rfl, xb1⟩; obtain ⟨xc1, xf1, xl1, xz1⟩ := ext_use xb1; (try simp at xz1); have hC := hcell.out w1 (by (repeat (first | exact ext_refl _ | assumption | refine ext_setCell ?_ (by simp; try omega) _ | refine ext_alloc ?_ _ | refine ext_drew ?_ | refine ext_drewN ?_ _ | refine ext_trans ?_ (Aft.use _) | refine ext_trans ?_ (by assumption)))); obtain ⟨l1_0, gc, gf⟩ := kp xb1 (w.heap.size) (by first | omega | (simp; try omega)); have r1_0 := gc 0; have f1_0 := gf 0; have r1_1 := gc 1; have f1_1 := gf 1; have r1_2 := gc 2; have f1_2 := gf 2; clear gc gf)
    | (go_at_call 94; (with_reducible refine (kf.out _).mono ?_); rintro e w1 ⟨rfl, xb1⟩))
  refine bodyPost_ret (v := .int .i64 0) ?h rfl ⟨rfl, ?_⟩
  case h => simp [results, Tryz.results98, go_sem]
  repeat (first | exact ext_refl _ | assumption | refine ext_setCell ?_ (by simp; try omega) _ | refine ext_alloc ?_ _ | refine ext_drew ?_ | refine ext_drewN ?_ _ | refine ext_trans ?_ (Aft.use _) | refine ext_trans ?_ (by assumption))
end Go.Proofs.YtchchnohmmncfaaGreatDoor
end
section
/- Exact numbers: made of a whole one. -/
namespace Go.Proofs.YtchchnohmmncfaaGreatDoor
open Go.RowKit
attribute [local go_sem] sz2 sz3 sz4 sz5 sz6 sz7 sz8
set_option maxHeartbeats 8000000
set_option maxRecDepth 100000
attribute [local irreducible] Calls
abbrev DyPost (w : World) (a : Nat) (x : Int) : Ending → World → Prop := fun e w' => ∃ (B : Option Addr) (k : Nat), e = .returned (.tuple #[dyV false B k k x, .int .i64 0]) ∧ Hid (Rd w' B k k (lim a) ∧ Fr w B) ∧ Ext w w'
theorem ex_Make0 (A : Option Addr) (n c : Nat) (w : World) (hA : Rd w A n c (lim 0)) : Calls Tryz.prog 55 #[.bool false, natV A n c, .int .i64 0] w (DyPost w 0 0) := by
  have chA := Lib.hid (fun w' (he : Ext w w') => show Calls Tryz.prog 91 #[natV A n c] w' fun e w'' => e = .returned (.int .i64 0) ∧ Ext w' w'' by
    have := ncheck_any A n c (lim 0) w' (hA.ext he); rwa [chk_lim (by rw [lim_zero]; decide)] at this)
  have kn := Lib.hid (fun w' (he : Ext w w') => show Calls Tryz.prog 92 #[natV A n c] w' fun e w'' => e = .returned (.bool true) ∧ Ext w' w'' from ex_none A n c 0 w' (hA.ext he))
  clear hA
  go_enter Tryz.func55, Tryz.ntmps55
  go_wp2_with (first
    | (go_at_call 91; (with_reducible refine (chA.out _ (by (repeat (first | exact ext_refl _ | assumption | refine ext_setCell ?_ (by simp; try omega) _ | refine ext_alloc ?_ _ | refine ext_drew ?_ | refine ext_drewN ?_ _ | refine ext_trans ?_ (Aft.use _) | refine ext_trans ?_ (by assumption))))).mono ?_); rintro e w1 ⟨rfl, xb1⟩; obtain ⟨xc1, xf1, xl1, xz1⟩ := ext_use xb1; (try simp at xz1); obtain ⟨l1_0, gc, gf⟩ := kp xb1 (w.heap.size) (by first | omega | (simp; try omega)); have r1_0 := gc 0; have f1_0 := gf 0; clear gc gf; obtain ⟨l1_1, gc, gf⟩ := kp xb1 (w.heap.size + 1) (by first | omega | (simp; try omega)); have r1_1 := gc 0; have f1_1 := gf 0; have r1_1_1 := gc 1; have f1_1_1 := gf 1; have r1_1_2 := gc 2; have f1_1_2 := gf 2; clear gc gf)
    | (go_at_call 92; (with_reducible refine (kn.out _ (by (repeat (first | exact ext_refl _ | assumption | refine ext_setCell ?_ (by simp; try omega) _ | refine ext_alloc ?_ _ | refine ext_drew ?_ | refine ext_drewN ?_ _ | refine ext_trans ?_ (Aft.use _) | refine ext_trans ?_ (by assumption))))).mono ?_); rintro e w1 ⟨rfl, xb1⟩; obtain ⟨xc1, xf1, xl1, xz1⟩ := ext_use xb1; (try simp at xz1); obtain ⟨l1_0, gc, gf⟩ := kp xb1 (w.heap.size) (by first | omega | (simp; try omega)); have r1_0 := gc 0; have f1_0 := gf 0; clear gc gf; obtain ⟨l1_1, gc, gf⟩ := kp xb1 (w.heap.size + 1) (by first | omega | (simp; try omega)); have r1_1 := gc 0; have f1_1 := gf 0; have r1_1_1 := gc 1; have f1_1_1 := gf 1; have r1_1_2 := gc 2; have f1_1_2 := gf 2; clear gc gf)
   )
  refine bodyPost_ret (v := .tuple #[dyV false none 0 0 0, .int .i64 0]) ?h rfl ⟨none, 0, rfl, ⟨by rw [lim_zero]; exact Rd.nil _, fun x h => by cases h⟩, ?_⟩
  case h => simp [results, Tryz.results55, go_sem, *]
  repeat (first | exact ext_refl _ | assumption | refine ext_setCell ?_ (by simp; try omega) _ | refine ext_alloc ?_ _ | refine ext_drew ?_ | refine ext_drewN ?_ _ | refine ext_trans ?_ (Aft.use _) | refine ext_trans ?_ (by assumption))
theorem zz_odd (a : Nat) (ha : a ≠ 0) : 2 ^ zz a ≤ a ∧ a / 2 ^ zz a % 2 = 1 ∧ a / 2 ^ zz a * 2 ^ zz a = a := by
  obtain ⟨m, hm⟩ := zz_spec ha
  generalize zz a = z at hm ⊢
  subst hm
  have hp := Nat.two_pow_pos z
  rw [Nat.mul_div_cancel_left _ hp]
  refine ⟨Nat.le_mul_of_pos_right _ (by omega), by omega, Nat.mul_comm _ _⟩
theorem ex_Make1 (A : Option Addr) (n c a : Nat) (ha : a ≠ 0) (hn : n ≤ 16384) (w : World) (hT : Tz w) (hA : Rd w A n c (lim a)) : Calls Tryz.prog 55 #[.bool false, natV A n c, .int .i64 0] w (DyPost w (a / 2 ^ zz a) (zz a : Nat)) := by
  have hlen := hA.len
  obtain ⟨hz1, hz2, hz3⟩ := zz_odd a ha
  have hzb : zz a ≤ 1000000 := by
    have h1 : zz a < bitsOf a := by
      have := Nat.lt_of_le_of_lt hz1 (lt_bits a)
      exact (Nat.pow_lt_pow_iff_right (by decide)).1 this
    have h2 := (lim_bytes a).1
    omega
  have chA := Lib.hid (fun w' (he : Ext w w') => show Calls Tryz.prog 91 #[natV A n c] w' fun e w'' => e = .returned (.int .i64 0) ∧ Ext w' w'' by
    have := ncheck_any A n c (lim a) w' (hA.ext he); rwa [chk_lim (by omega)] at this)
  have kn := Lib.hid (fun w' (he : Ext w w') => show Calls Tryz.prog 92 #[natV A n c] w' fun e w'' => e = .returned (.bool false) ∧ Ext w' w'' by
    have := ex_none A n c a w' (hA.ext he); rwa [decide_eq_false ha] at this)
  have ke := Lib.hid (fun w' (he : Ext w w') => ex_even A n c a ha (by omega) w' (hT.ext he) (hA.ext he))
  have kd := Lib.hid (fun w' (he : Ext w w') => ndown_any A n c a (zz a) hzb hn (by intro h; rw [h] at hz2; omega) w' (hA.ext he))
  obtain ⟨z, hz⟩ : ∃ z, zz a = z := ⟨_, rfl⟩
  rw [hz] at ke kd hzb ⊢
  have kf := Lib.hid (fun w' => ex_far (z : Int) (by omega) w')
  have hzi : (z : Int) ≤ 1000000 := by omega
  clear hA hT hz hz1 hz2 hz3 hlen
  go_enter Tryz.func55, Tryz.ntmps55
  go_wp2_with (first
    | (go_at_call 91; (with_reducible refine (chA.out _ (by (repeat (first | exact ext_refl _ | assumption | refine ext_setCell ?_ (by simp; try omega) _ | refine ext_alloc ?_ _ | refine ext_drew ?_ | refine ext_drewN ?_ _ | refine ext_trans ?_ (Aft.use _) | refine ext_trans ?_ (by assumption))))).mono ?_); rintro e w1 ⟨rfl, xb1⟩; obtain ⟨xc1, xf1, xl1, xz1⟩ := ext_use xb1; (try simp at xz1); obtain ⟨l1_0, gc, gf⟩ := kp xb1 (w.heap.size) (by first | omega | (simp; try omega)); have r1_0 := gc 0; have f1_0 := gf 0; clear gc gf; obtain ⟨l1_1, gc, gf⟩ := kp xb1 (w.heap.size + 1) (by first | omega | (simp; try omega)); have r1_1 := gc 0; have f1_1 := gf 0; have r1_1_1 := gc 1; have f1_1_1 := gf 1; have r1_1_2 := gc 2; have f1_1_2 := gf 2; clear gc gf)
    | (go_at_call 92; (with_reducible refine (kn.out _ (by (repeat (first | exact ext_refl _ | assumption | refine ext_setCell ?_ (by simp; try omega) _ | refine ext_alloc ?_ _ | refine ext_drew ?_ | refine ext_drewN ?_ _ | refine ext_trans ?_ (Aft.use _) | refine ext_trans ?_ (by assumption))))).mono ?_); rintro e w1 ⟨rfl, xb1⟩; obtain ⟨xc1, xf1, xl1, xz1⟩ := ext_use xb1; (try simp at xz1); obtain ⟨l1_0, gc, gf⟩ := kp xb1 (w.heap.size) (by first | omega | (simp; try omega)); have r1_0 := gc 0; have f1_0 := gf 0; clear gc gf; obtain ⟨l1_1, gc, gf⟩ := kp xb1 (w.heap.size + 1) (by first | omega | (simp; try omega)); have r1_1 := gc 0; have f1_1 := gf 0; have r1_1_1 := gc 1; have f1_1_1 := gf 1; have r1_1_2 := gc 2; have f1_1_2 := gf 2; clear gc gf)
    | (go_at_call 93; (with_reducible refine (ke.out _ (by (repeat (first | exact ext_refl _ | assumption | refine ext_setCell ?_ (by simp; try omega) _ | refine ext_alloc ?_ _ | refine ext_drew ?_ | refine ext_drewN ?_ _ | refine ext_trans ?_ (Aft.use _) | refine ext_trans ?_ (by assumption))))).mono ?_); rintro e w1 ⟨rfl, xb1⟩; obtain ⟨xc1, xf1, xl1, xz1⟩ := ext_use xb1; (try simp at xz1); obtain ⟨l1_0, gc, gf⟩ := kp xb1 (w.heap.size) (by first | omega | (simp; try omega)); have r1_0 := gc 0; have f1_0 := gf 0; clear gc gf; obtain ⟨l1_1, gc, gf⟩ := kp xb1 (w.heap.size + 1) (by first | omega | (simp; try omega)); have r1_1 := gc 0; have f1_1 := gf 0; have r1_1_1 := gc 1; have f1_1_1 := gf 1; have r1_1_2 := gc 2; have f1_1_2 := gf 2; clear gc gf)
    | (go_at_call 94; (with_reducible refine (kf.out _).mono ?_); rintro e w1 ⟨rfl, xb1⟩; obtain ⟨xc1, xf1, xl1, xz1⟩ := ext_use xb1; (try simp at xz1); obtain ⟨l1_0, gc, gf⟩ := kp xb1 (w.heap.size) (by first | omega | (simp; try omega)); have r1_0 := gc 0; have f1_0 := gf 0; clear gc gf; obtain ⟨l1_1, gc, gf⟩ := kp xb1 (w.heap.size + 1) (by first | omega | (simp; try omega)); have r1_1 := gc 0; have f1_1 := gf 0; have r1_1_1 := gc 1; have f1_1_1 := gf 1; have r1_1_2 := gc 2; have f1_1_2 := gf 2; clear gc gf)
    | (go_at_call 95; (with_reducible refine (kd.out _ (by (repeat (first | exact ext_refl _ | assumption | refine ext_setCell ?_ (by simp; try omega) _ | refine ext_alloc ?_ _ | refine ext_drew ?_ | refine ext_drewN ?_ _ | refine ext_trans ?_ (Aft.use _) | refine ext_trans ?_ (by assumption))))).mono ?_); rintro e w2 ⟨B, k, rfl, hB, xb2⟩; obtain ⟨xc2, xf2, xl2, xz2⟩ := ext_use xb2; (try simp at xz2); obtain ⟨l2_0, gc, gf⟩ := kp xb2 (w.heap.size) (by first | omega | (simp; try omega)); have r2_0 := gc 0; have f2_0 := gf 0; clear gc gf; obtain ⟨l2_1, gc, gf⟩ := kp xb2 (w.heap.size + 1) (by first | omega | (simp; try omega)); have r2_1 := gc 0; have f2_1 := gf 0; have r2_1_1 := gc 1; have f2_1_1 := gf 1; have r2_1_2 := gc 2; have f2_1_2 := gf 2; clear gc gf)
   )
  refine bodyPost_ret (v := .tuple #[dyV false B k k z, .int .i64 0]) ?h rfl ⟨B, k, rfl, ⟨?_, fun x h => ?_⟩, ?_⟩
  case h => simp [results, Tryz.results55, go_sem, *]
  · refine Rd.ext (w := ((w2.setCell _ _).setCell _ _).setCell _ _) ?_ (ext_alloc (ext_refl _) _)
    exact hB.out.1.tch ((((Tch.refl _ _).set _ _).set _ _).set _ _) (hB.out.2.off (by first | assumption | omega) _)
  · have := hB.out.2 x h
    omega
  · skip
    repeat (first | exact ext_refl _ | assumption | refine ext_setCell ?_ (by simp; try omega) _ | refine ext_alloc ?_ _ | refine ext_drew ?_ | refine ext_drewN ?_ _ | refine ext_trans ?_ (Aft.use _) | refine ext_trans ?_ (by assumption))
end Go.Proofs.YtchchnohmmncfaaGreatDoor
end
