/- Lemmas of this proof, laid together: QkA, QkB, QkC. -/
import Derived.Test.YtkhkoeibpkglkaaGreatDoorMg19
import Derived.Test.YtkhkoeibpkglkaaGreatDoorMg17
import Derived.Deep.DeepCutAuto
import Derived.Deep.RegionWith
import Derived.Test.YtkhkoeibpkglkaaGreatDoorMg18
set_option linter.unusedSimpArgs false
set_option linter.unusedVariables false
section
/- Exact numbers: which may be; the exact number of a whole one. The known forms. -/
namespace Go.Proofs.YtkhkoeibpkglkaaGreatDoor
open Go.RowKit
attribute [local go_sem] sz2 sz3 sz4 sz5 sz6 sz7 sz8
set_option maxHeartbeats 8000000
set_option maxRecDepth 100000
attribute [local irreducible] Calls
abbrev dyV (neg : Bool) (A : Option Addr) (n c : Nat) (x : Int) : Value := .agg #[.bool neg, .slice A n c, .int .i64 x]
theorem fm_Double (w : World) : Calls Tryz.prog 172 #[] w fun e w' => e = .returned (fmV (11 : Nat) (52 : Nat)) ∧ Ext w w' := by
  go_enter Tryz.func172, Tryz.ntmps172
  go_wp2
  refine bodyPost_ret (v := .agg #[.int .i64 11, .int .i64 52]) ?h rfl ⟨rfl, ?_⟩
  case h => simp [results, Tryz.results172, go_sem]
  repeat (first | exact ext_refl _ | assumption | refine ext_setCell ?_ (by simp; try omega) _ | refine ext_alloc ?_ _ | refine ext_drew ?_ | refine ext_drewN ?_ _ | refine ext_trans ?_ (Aft.use _) | refine ext_trans ?_ (by assumption))
theorem ex_Check0 (A : Option Addr) (n c : Nat) (w : World) (hA : Rd w A n c (lim 0)) : Calls Tryz.prog 238 #[dyV false A n c 0] w fun e w' => e = .returned (.int .i64 0) ∧ Ext w w' := by
  have chA := Lib.hid (fun w' (he : Ext w w') => show Calls Tryz.prog 105 #[natV A n c] w' fun e w'' => e = .returned (.int .i64 0) ∧ Ext w' w'' by
    have := ncheck_any A n c (lim 0) w' (hA.ext he); rwa [chk_lim (by rw [lim_zero]; decide)] at this)
  have kn := Lib.hid (fun w' (he : Ext w w') => show Calls Tryz.prog 234 #[natV A n c] w' fun e w'' => e = .returned (.bool true) ∧ Ext w' w'' from ex_none A n c 0 w' (hA.ext he))
  clear hA
  go_enter Tryz.func238, Tryz.ntmps238
  go_wp2_with (first
    | (go_at_call 105; (with_reducible refine (chA.out _ (by (repeat (first | exact ext_refl _ | assumption | refine ext_setCell ?_ (by simp; try omega) _ | refine ext_alloc ?_ _ | refine ext_drew ?_ | refine ext_drewN ?_ _ | refine ext_trans ?_ (Aft.use _) | refine ext_trans ?_ (by assumption))))).mono ?_); rintro e w1 ⟨rfl, xb1⟩; obtain ⟨xc1, xf1, xl1, xz1⟩ := ext_use xb1; (try simp at xz1); obtain ⟨l1_0, gc, gf⟩ := kp xb1 (w.heap.size) (by first | omega | (simp; try omega)); have r1_0 := gc 0; have f1_0 := gf 0; have r1_0_1 := gc 1; have f1_0_1 := gf 1; have r1_0_2 := gc 2; have f1_0_2 := gf 2; clear gc gf)
    | (go_at_call 234; (with_reducible refine (kn.out _ (by (repeat (first | exact ext_refl _ | assumption | refine ext_setCell ?_ (by simp; try omega) _ | refine ext_alloc ?_ _ | refine ext_drew ?_ | refine ext_drewN ?_ _ | refine ext_trans ?_ (Aft.use _) | refine ext_trans ?_ (by assumption))))).mono ?_); rintro e w1 ⟨rfl, xb1⟩; obtain ⟨xc1, xf1, xl1, xz1⟩ := ext_use xb1; (try simp at xz1); obtain ⟨l1_0, gc, gf⟩ := kp xb1 (w.heap.size) (by first | omega | (simp; try omega)); have r1_0 := gc 0; have f1_0 := gf 0; have r1_0_1 := gc 1; have f1_0_1 := gf 1; have r1_0_2 := gc 2; have f1_0_2 := gf 2; clear gc gf)
   )
  refine bodyPost_ret (v := .int .i64 0) ?h rfl ⟨rfl, ?_⟩
  case h => simp [results, Tryz.results238, go_sem]
  repeat (first | exact ext_refl _ | assumption | refine ext_setCell ?_ (by simp; try omega) _ | refine ext_alloc ?_ _ | refine ext_drew ?_ | refine ext_drewN ?_ _ | refine ext_trans ?_ (Aft.use _) | refine ext_trans ?_ (by assumption))
theorem ex_Check (neg : Bool) (A : Option Addr) (n c a : Nat) (x : Int) (hn : n ≤ 16384) (hx : -1073741824 ≤ x ∧ x ≤ 1073741824) (ha : a % 2 = 1) (w : World) (hA : Rd w A n c (lim a)) : Calls Tryz.prog 238 #[dyV neg A n c x] w fun e w' => e = .returned (.int .i64 0) ∧ Ext w w' := by
  have hlen := hA.len
  have hcx := hA.cap
  have chA := Lib.hid (fun w' (he : Ext w w') => show Calls Tryz.prog 105 #[natV A n c] w' fun e w'' => e = .returned (.int .i64 0) ∧ Ext w' w'' by
    have := ncheck_any A n c (lim a) w' (hA.ext he); rwa [chk_lim (by omega)] at this)
  have kn := Lib.hid (fun w' (he : Ext w w') => show Calls Tryz.prog 234 #[natV A n c] w' fun e w'' => e = .returned (.bool false) ∧ Ext w' w'' by
    have := ex_none A n c a w' (hA.ext he); rwa [decide_eq_false (by omega)] at this)
  have kf := Lib.hid (fun w' => ex_far x hx w')
  have hn0 : 0 < n := by
    rcases Nat.eq_zero_or_pos n with h | h
    · exfalso
      have := lim_nil.1 (List.eq_nil_of_length_eq_zero (by omega : (lim a).length = 0))
      omega
    · exact h
  obtain ⟨bv, ov, rfl⟩ : ∃ b off, A = some ⟨b, off, none⟩ := by
    rcases hA.shape with ⟨_, h, _⟩ | h
    · omega
    · exact h
  obtain ⟨l, hl⟩ : ∃ l, (lim a).getD 0 0 = l := ⟨_, rfl⟩
  have hlb : l < 4294967296 := by rw [← hl]; exact lim_getD_lt a 0
  have hodd : l % 2 = 1 := by
    rw [← hl, limb_at, Nat.pow_zero, Nat.div_one]
    have e : Bs = 4294967296 := rfl
    rw [e]; omega
  have hand : bits BinOp.and IntKind.u32 (l : Int) 1 = 1 := by rw [and_one32 l hlb, hodd]; rfl
  have hcell : Hid (∀ u, Ext w u → u.cell? ⟨bv, ov, none⟩ = some (.int .u32 (l : Int))) := Lib.hid fun u hu => by
    obtain ⟨h1, h2⟩ := (hA.ext hu).cells bv ov rfl 0 (by omega)
    rw [Nat.add_zero] at h2
    rw [h2, ← hl, List.getD_eq_getElem?_getD, List.getElem?_eq_getElem (by omega)]
    rfl
  have hnI : (0 : Int) < (n : Int) := by omega
  clear hl hodd hlb hA hlen
  go_enter Tryz.func238, Tryz.ntmps238
  go_wp2_with (first
    | (go_at_call 105; (with_reducible refine (chA.out _ (by (repeat (first | exact ext_refl _ | assumption | refine ext_setCell ?_ (by simp; try omega) _ | refine ext_alloc ?_ _ | refine ext_drew ?_ | refine ext_drewN ?_ _ | refine ext_trans ?_ (Aft.use _) | refine ext_trans ?_ (by assumption))))).mono ?_); rintro e w1 ⟨rfl, xb1⟩; obtain ⟨xc1, xf1, xl1, xz1⟩ := ext_use xb1; (try simp at xz1); have hC := hcell.out w1 (by (repeat (first | exact ext_refl _ | assumption | refine ext_setCell ?_ (by simp; try omega) _ | refine ext_alloc ?_ _ | refine ext_drew ?_ | refine ext_drewN ?_ _ | refine ext_trans ?_ (Aft.use _) | refine ext_trans ?_ (by assumption)))); obtain ⟨l1_0, gc, gf⟩ := kp xb1 (w.heap.size) (by first | omega | (simp; try omega)); have r1_0 := gc 0; have f1_0 := gf 0; have r1_1 := gc 1; have f1_1 := gf 1; have r1_2 := gc 2; have f1_2 := gf 2; clear gc gf)
    | (go_at_call 234; (with_reducible refine (kn.out _ (by (repeat (first | exact ext_refl _ | assumption | refine ext_setCell ?_ (by simp; try omega) _ | refine ext_alloc ?_ _ | refine ext_drew ?_ | refine ext_drewN ?_ _ | refine ext_trans ?_ (Aft.use _) | refine ext_trans ?_ (by assumption))))).mono ?_); rintro e w1 ⟨rfl, xb1⟩; obtain ⟨xc1, xf1, xl1, xz1⟩ := ext_use xb1; (try simp at xz1); have hC := hcell.out w1 (by (repeat (first | exact ext_refl _ | assumption | refine ext_setCell ?_ (by simp; try omega) _ | refine ext_alloc ?_ _ | refine ext_drew ?_ | refine ext_drewN ?_ _ | refine ext_trans ?_ (Aft.use _) | refine ext_trans ?_ (by assumption)))); obtain ⟨l1_0, gc, gf⟩ := kp xb1 (w.heap.size) (by first | omega | (simp; try omega)); have r1_0 := gc 0; have f1_0 := gf 0; have r1_1 := gc 1; have f1_1 := gf 1; have r1_2 := gc 2; have f1_2 := gf 2; clear gc gf)
    | (go_at_call 236; (with_reducible refine (kf.out _).mono ?_); rintro e w1 ⟨rfl, xb1⟩))
  refine bodyPost_ret (v := .int .i64 0) ?h rfl ⟨rfl, ?_⟩
  case h => simp [results, Tryz.results238, go_sem]
  repeat (first | exact ext_refl _ | assumption | refine ext_setCell ?_ (by simp; try omega) _ | refine ext_alloc ?_ _ | refine ext_drew ?_ | refine ext_drewN ?_ _ | refine ext_trans ?_ (Aft.use _) | refine ext_trans ?_ (by assumption))
end Go.Proofs.YtkhkoeibpkglkaaGreatDoor
end
section
/- Exact numbers: made of a whole one. -/
namespace Go.Proofs.YtkhkoeibpkglkaaGreatDoor
open Go.RowKit
attribute [local go_sem] sz2 sz3 sz4 sz5 sz6 sz7 sz8
set_option maxHeartbeats 8000000
set_option maxRecDepth 100000
attribute [local irreducible] Calls
abbrev DyPost (w : World) (a : Nat) (x : Int) : Ending → World → Prop := fun e w' => ∃ (B : Option Addr) (k : Nat), e = .returned (.tuple #[dyV false B k k x, .int .i64 0]) ∧ Hid (Rd w' B k k (lim a) ∧ Fr w B) ∧ Ext w w'
theorem ex_Make0 (A : Option Addr) (n c : Nat) (w : World) (hA : Rd w A n c (lim 0)) : Calls Tryz.prog 168 #[.bool false, natV A n c, .int .i64 0] w (DyPost w 0 0) := by
  have chA := Lib.hid (fun w' (he : Ext w w') => show Calls Tryz.prog 105 #[natV A n c] w' fun e w'' => e = .returned (.int .i64 0) ∧ Ext w' w'' by
    have := ncheck_any A n c (lim 0) w' (hA.ext he); rwa [chk_lim (by rw [lim_zero]; decide)] at this)
  have kn := Lib.hid (fun w' (he : Ext w w') => show Calls Tryz.prog 234 #[natV A n c] w' fun e w'' => e = .returned (.bool true) ∧ Ext w' w'' from ex_none A n c 0 w' (hA.ext he))
  clear hA
  go_enter Tryz.func168, Tryz.ntmps168
  go_wp2_with (first
    | (go_at_call 105; (with_reducible refine (chA.out _ (by (repeat (first | exact ext_refl _ | assumption | refine ext_setCell ?_ (by simp; try omega) _ | refine ext_alloc ?_ _ | refine ext_drew ?_ | refine ext_drewN ?_ _ | refine ext_trans ?_ (Aft.use _) | refine ext_trans ?_ (by assumption))))).mono ?_); rintro e w1 ⟨rfl, xb1⟩; obtain ⟨xc1, xf1, xl1, xz1⟩ := ext_use xb1; (try simp at xz1); obtain ⟨l1_0, gc, gf⟩ := kp xb1 (w.heap.size) (by first | omega | (simp; try omega)); have r1_0 := gc 0; have f1_0 := gf 0; clear gc gf; obtain ⟨l1_1, gc, gf⟩ := kp xb1 (w.heap.size + 1) (by first | omega | (simp; try omega)); have r1_1 := gc 0; have f1_1 := gf 0; have r1_1_1 := gc 1; have f1_1_1 := gf 1; have r1_1_2 := gc 2; have f1_1_2 := gf 2; clear gc gf)
    | (go_at_call 234; (with_reducible refine (kn.out _ (by (repeat (first | exact ext_refl _ | assumption | refine ext_setCell ?_ (by simp; try omega) _ | refine ext_alloc ?_ _ | refine ext_drew ?_ | refine ext_drewN ?_ _ | refine ext_trans ?_ (Aft.use _) | refine ext_trans ?_ (by assumption))))).mono ?_); rintro e w1 ⟨rfl, xb1⟩; obtain ⟨xc1, xf1, xl1, xz1⟩ := ext_use xb1; (try simp at xz1); obtain ⟨l1_0, gc, gf⟩ := kp xb1 (w.heap.size) (by first | omega | (simp; try omega)); have r1_0 := gc 0; have f1_0 := gf 0; clear gc gf; obtain ⟨l1_1, gc, gf⟩ := kp xb1 (w.heap.size + 1) (by first | omega | (simp; try omega)); have r1_1 := gc 0; have f1_1 := gf 0; have r1_1_1 := gc 1; have f1_1_1 := gf 1; have r1_1_2 := gc 2; have f1_1_2 := gf 2; clear gc gf)
   )
  refine bodyPost_ret (v := .tuple #[dyV false none 0 0 0, .int .i64 0]) ?h rfl ⟨none, 0, rfl, ⟨by rw [lim_zero]; exact Rd.nil _, fun x h => by cases h⟩, ?_⟩
  case h => simp [results, Tryz.results168, go_sem, *]
  repeat (first | exact ext_refl _ | assumption | refine ext_setCell ?_ (by simp; try omega) _ | refine ext_alloc ?_ _ | refine ext_drew ?_ | refine ext_drewN ?_ _ | refine ext_trans ?_ (Aft.use _) | refine ext_trans ?_ (by assumption))
theorem zz_odd (a : Nat) (ha : a ≠ 0) : 2 ^ zz a ≤ a ∧ a / 2 ^ zz a % 2 = 1 ∧ a / 2 ^ zz a * 2 ^ zz a = a := by
  obtain ⟨m, hm⟩ := zz_spec ha
  generalize zz a = z at hm ⊢
  subst hm
  have hp := Nat.two_pow_pos z
  rw [Nat.mul_div_cancel_left _ hp]
  refine ⟨Nat.le_mul_of_pos_right _ (by omega), by omega, Nat.mul_comm _ _⟩
theorem ex_Make1 (A : Option Addr) (n c a : Nat) (ha : a ≠ 0) (hn : n ≤ 16384) (w : World) (hT : Tz w) (hA : Rd w A n c (lim a)) : Calls Tryz.prog 168 #[.bool false, natV A n c, .int .i64 0] w (DyPost w (a / 2 ^ zz a) (zz a : Nat)) := by
  have hlen := hA.len
  obtain ⟨hz1, hz2, hz3⟩ := zz_odd a ha
  have hzb : zz a ≤ 1000000 := by
    have h1 : zz a < bitsOf a := by
      have := Nat.lt_of_le_of_lt hz1 (lt_bits a)
      exact (Nat.pow_lt_pow_iff_right (by decide)).1 this
    have h2 := (lim_bytes a).1
    omega
  have chA := Lib.hid (fun w' (he : Ext w w') => show Calls Tryz.prog 105 #[natV A n c] w' fun e w'' => e = .returned (.int .i64 0) ∧ Ext w' w'' by
    have := ncheck_any A n c (lim a) w' (hA.ext he); rwa [chk_lim (by omega)] at this)
  have kn := Lib.hid (fun w' (he : Ext w w') => show Calls Tryz.prog 234 #[natV A n c] w' fun e w'' => e = .returned (.bool false) ∧ Ext w' w'' by
    have := ex_none A n c a w' (hA.ext he); rwa [decide_eq_false ha] at this)
  have ke := Lib.hid (fun w' (he : Ext w w') => ex_even A n c a ha (by omega) w' (hT.ext he) (hA.ext he))
  have kd := Lib.hid (fun w' (he : Ext w w') => ndown_any A n c a (zz a) hzb hn (by intro h; rw [h] at hz2; omega) w' (hA.ext he))
  obtain ⟨z, hz⟩ : ∃ z, zz a = z := ⟨_, rfl⟩
  rw [hz] at ke kd hzb ⊢
  have kf := Lib.hid (fun w' => ex_far (z : Int) (by omega) w')
  have hzi : (z : Int) ≤ 1000000 := by omega
  clear hA hT hz hz1 hz2 hz3 hlen
  go_enter Tryz.func168, Tryz.ntmps168
  go_wp2_with (first
    | (go_at_call 105; (with_reducible refine (chA.out _ (by (repeat (first | exact ext_refl _ | assumption | refine ext_setCell ?_ (by simp; try omega) _ | refine ext_alloc ?_ _ | refine ext_drew ?_ | refine ext_drewN ?_ _ | refine ext_trans ?_ (Aft.use _) | refine ext_trans ?_ (by assumption))))).mono ?_); rintro e w1 ⟨rfl, xb1⟩; obtain ⟨xc1, xf1, xl1, xz1⟩ := ext_use xb1; (try simp at xz1); obtain ⟨l1_0, gc, gf⟩ := kp xb1 (w.heap.size) (by first | omega | (simp; try omega)); have r1_0 := gc 0; have f1_0 := gf 0; clear gc gf; obtain ⟨l1_1, gc, gf⟩ := kp xb1 (w.heap.size + 1) (by first | omega | (simp; try omega)); have r1_1 := gc 0; have f1_1 := gf 0; have r1_1_1 := gc 1; have f1_1_1 := gf 1; have r1_1_2 := gc 2; have f1_1_2 := gf 2; clear gc gf)
    | (go_at_call 234; (with_reducible refine (kn.out _ (by (repeat (first | exact ext_refl _ | assumption | refine ext_setCell ?_ (by simp; try omega) _ | refine ext_alloc ?_ _ | refine ext_drew ?_ | refine ext_drewN ?_ _ | refine ext_trans ?_ (Aft.use _) | refine ext_trans ?_ (by assumption))))).mono ?_); rintro e w1 ⟨rfl, xb1⟩; obtain ⟨xc1, xf1, xl1, xz1⟩ := ext_use xb1; (try simp at xz1); obtain ⟨l1_0, gc, gf⟩ := kp xb1 (w.heap.size) (by first | omega | (simp; try omega)); have r1_0 := gc 0; have f1_0 := gf 0; clear gc gf; obtain ⟨l1_1, gc, gf⟩ := kp xb1 (w.heap.size + 1) (by first | omega | (simp; try omega)); have r1_1 := gc 0; have f1_1 := gf 0; have r1_1_1 := gc 1; have f1_1_1 := gf 1; have r1_1_2 := gc 2; have f1_1_2 := gf 2; clear gc gf)
    | (go_at_call 235; (with_reducible refine (ke.out _ (by (repeat (first | exact ext_refl _ | assumption | refine ext_setCell ?_ (by simp; try omega) _ | refine ext_alloc ?_ _ | refine ext_drew ?_ | refine ext_drewN ?_ _ | refine ext_trans ?_ (Aft.use _) | refine ext_trans ?_ (by assumption))))).mono ?_); rintro e w1 ⟨rfl, xb1⟩; obtain ⟨xc1, xf1, xl1, xz1⟩ := ext_use xb1; (try simp at xz1); obtain ⟨l1_0, gc, gf⟩ := kp xb1 (w.heap.size) (by first | omega | (simp; try omega)); have r1_0 := gc 0; have f1_0 := gf 0; clear gc gf; obtain ⟨l1_1, gc, gf⟩ := kp xb1 (w.heap.size + 1) (by first | omega | (simp; try omega)); have r1_1 := gc 0; have f1_1 := gf 0; have r1_1_1 := gc 1; have f1_1_1 := gf 1; have r1_1_2 := gc 2; have f1_1_2 := gf 2; clear gc gf)
    | (go_at_call 236; (with_reducible refine (kf.out _).mono ?_); rintro e w1 ⟨rfl, xb1⟩; obtain ⟨xc1, xf1, xl1, xz1⟩ := ext_use xb1; (try simp at xz1); obtain ⟨l1_0, gc, gf⟩ := kp xb1 (w.heap.size) (by first | omega | (simp; try omega)); have r1_0 := gc 0; have f1_0 := gf 0; clear gc gf; obtain ⟨l1_1, gc, gf⟩ := kp xb1 (w.heap.size + 1) (by first | omega | (simp; try omega)); have r1_1 := gc 0; have f1_1 := gf 0; have r1_1_1 := gc 1; have f1_1_1 := gf 1; have r1_1_2 := gc 2; have f1_1_2 := gf 2; clear gc gf)
    | (go_at_call 237; (with_reducible refine (kd.out _ (by (repeat (first | exact ext_refl _ | assumption | refine ext_setCell ?_ (by simp; try omega) _ | refine ext_alloc ?_ _ | refine ext_drew ?_ | refine ext_drewN ?_ _ | refine ext_trans ?_ (Aft.use _) | refine ext_trans ?_ (by assumption))))).mono ?_); rintro e w2 ⟨B, k, rfl, hB, xb2⟩; obtain ⟨xc2, xf2, xl2, xz2⟩ := ext_use xb2; (try simp at xz2); obtain ⟨l2_0, gc, gf⟩ := kp xb2 (w.heap.size) (by first | omega | (simp; try omega)); have r2_0 := gc 0; have f2_0 := gf 0; clear gc gf; obtain ⟨l2_1, gc, gf⟩ := kp xb2 (w.heap.size + 1) (by first | omega | (simp; try omega)); have r2_1 := gc 0; have f2_1 := gf 0; have r2_1_1 := gc 1; have f2_1_1 := gf 1; have r2_1_2 := gc 2; have f2_1_2 := gf 2; clear gc gf)
   )
  refine bodyPost_ret (v := .tuple #[dyV false B k k z, .int .i64 0]) ?h rfl ⟨B, k, rfl, ⟨?_, fun x h => ?_⟩, ?_⟩
  case h => simp [results, Tryz.results168, go_sem, *]
  · refine Rd.ext (w := ((w2.setCell _ _).setCell _ _).setCell _ _) ?_ (ext_alloc (ext_refl _) _)
    exact hB.out.1.tch ((((Tch.refl _ _).set _ _).set _ _).set _ _) (hB.out.2.off (by first | assumption | omega) _)
  · have := hB.out.2 x h
    omega
  · skip
    repeat (first | exact ext_refl _ | assumption | refine ext_setCell ?_ (by simp; try omega) _ | refine ext_alloc ?_ _ | refine ext_drew ?_ | refine ext_drewN ?_ _ | refine ext_trans ?_ (Aft.use _) | refine ext_trans ?_ (by assumption))
end Go.Proofs.YtkhkoeibpkglkaaGreatDoor
end
section
/- Exact numbers rounded. -/
namespace Go.Proofs.YtkhkoeibpkglkaaGreatDoor
open Go.RowKit
attribute [local go_sem] sz2 sz3 sz4 sz5 sz6 sz7 sz8
set_option maxHeartbeats 8000000
set_option maxRecDepth 100000
attribute [local irreducible] Calls
theorem len_tA (a : Nat) (x : Int) (hx : x ≤ 1200) : (lim (tA a x)).length ≤ (lim a).length + 38 := by
  unfold tA
  refine lim_bits ?_
  have h1 := bits_shl a x.toNat
  have h2 := (lim_bytes a).1
  omega
theorem len_tD (x : Int) (hx : -1200 ≤ x) : (lim (tD 1 x)).length ≤ 39 := by
  unfold tD
  refine lim_bits ?_
  have h1 := bits_shl 1 (-x).toNat
  have h2 : bitsOf 1 ≤ 1 := bits_lt (by decide)
  omega
/-- A pair of pointers in a block of its own. -/
structure PairAt (w : World) (x : Nat) : Prop where
  c0 : ∃ t, w.cell? ⟨x, 0, none⟩ = some (.pointer t)
  c1 : ∃ t, w.cell? ⟨x, 1, none⟩ = some (.pointer t)
  no : ∀ o, 2 ≤ o → w.cell? ⟨x, o, none⟩ = none
  lt : x < w.heap.size
theorem PairAt.ext {w w' : World} {x : Nat} (h : PairAt w x) (he : Ext w w') : PairAt w' x := by
  obtain ⟨⟨t, h0⟩, ⟨u, h1⟩, h2, h3⟩ := h
  exact ⟨⟨t, (Below.cell (p := ⟨x, 0, none⟩) he h3).trans h0⟩, ⟨u, (Below.cell (p := ⟨x, 1, none⟩) he h3).trans h1⟩, fun o ho => (Below.cell (p := ⟨x, o, none⟩) he h3).trans (h2 o ho), ext_lt he _ h3⟩
theorem pair_off {w : World} {x b : Nat} {z : Int} {A : Option Addr} {n c : Nat} (h : PairAt w x) (hi : IntIs w b 0 z A n c) : b ≠ x ∧ Off A n x := by
  obtain ⟨⟨t, h0⟩, ⟨u, h1⟩, h2, h3⟩ := h
  constructor
  · intro e
    subst e
    have := hi.neg
    rw [h0] at this
    cases this
  · rintro ⟨g, off, s⟩ hA hn e
    have hs := hi.rd.at_ _ hA
    simp only at hs e
    subst hs e
    have hl := hi.rd.len
    obtain ⟨-, k⟩ := hi.rd.cells g off hA 0 (by omega)
    rw [Nat.add_zero] at k
    rcases Nat.lt_or_ge off 2 with q | q
    · rcases (by omega : off = 0 ∨ off = 1) with rfl | rfl
      · rw [h0] at k; cases k
      · rw [h1] at k; cases k
    · rw [h2 off q] at k; cases k
theorem NbIs.pair {w w' : World} {p q a d x : Nat} (h : NbIs w p q a d) (hp : PairAt w x) (ht : Tch x w w') : NbIs w' p q a d := by
  obtain ⟨⟨A, n, c, h1⟩, ⟨B, m, k, h2⟩⟩ := h
  exact ⟨⟨A, n, c, h1.tch ht (pair_off hp h1).1 (pair_off hp h1).2⟩, ⟨B, m, k, h2.tch ht (pair_off hp h2).1 (pair_off hp h2).2⟩⟩
theorem ro_Dyadic (E F mode : Nat) (neg below : Bool) (A : Option Addr) (n c a : Nat) (x : Int) (hE : 2 ≤ E ∧ E ≤ 11) (hF : 1 ≤ F ∧ F ≤ 52) (hm : mode ≤ 4) (hn : n ≤ 16384) (hx : -1200 ≤ x ∧ x ≤ 1200) (hok : (a = 0 ∧ below = false ∧ x = 0) ∨ a % 2 = 1) (w : World) (hA : Rd w A n c (lim a)) :
    Calls Tryz.prog 169 #[fmV E F, dyV below A n c x, .bool neg, .int .u8 (mode : Int)] w fun e w' => e = .returned (.tuple #[.int .u64 (bitsS E F mode below neg (tA a x) (tD 1 x) : Nat), .int .u8 (flagS E F mode below (tA a x) (tD 1 x) : Nat), .int .i64 0]) ∧ Ext w w' := by
  have la := hA.len
  have KF := Lib.hid (fun w' => fm_Check E F hE hF w')
  have KX := Lib.hid (fun w' (he : Ext w w') => show Calls Tryz.prog 238 #[dyV below A n c x] w' fun e w'' => e = .returned (.int .i64 0) ∧ Ext w' w'' by
    rcases hok with ⟨rfl, rfl, rfl⟩ | h
    · exact ex_Check0 A n c w' (hA.ext he)
    · exact ex_Check below A n c a x hn (by omega) h w' (hA.ext he))
  have KA := Lib.hid (fun w' (he : Ext w w') => ro_large a A n c (by omega) w' (hA.ext he))
  have K1 := Lib.hid (fun w' => bi_NewInt 1 (by decide) (by decide) w')
  obtain ⟨X, hX⟩ : ∃ X, bitsS E F mode below neg (tA a x) (tD 1 x) = X := ⟨_, rfl⟩
  obtain ⟨Y, hY⟩ : ∃ Y, flagS E F mode below (tA a x) (tD 1 x) = Y := ⟨_, rfl⟩
  have h1A := len_tA a x hx.2
  have h1D := len_tD x hx.1
  have KS := Lib.hid (fun p q w' (h : NbIs w' p q (tA a x) (tD 1 x)) => ro_signed p q (tA a x) (tD 1 x) E F mode below neg hE hF hm (Nat.mul_pos (by decide) (Nat.two_pow_pos _)) (by omega) (by omega) w' h)
  rw [hX, hY] at KS
  rw [hX, hY]
  have hl1 : (lim 1).length ≤ 500000 := by have e : (lim 1).length = 1 := by kernel_rfl
                                           omega
  have KT := Lib.hid (fun p q w' (h : NbIs w' p q a 1) => nb_times p q a 1 x (by omega) hl1 (by omega) w' h)
  have hba : bitsOf a ≤ 16384 * 32 := by have := (lim_bytes a).1; omega
  have KB := Lib.hid (fun b B nn cc u (h : IntIs u b 0 (a : Int) B nn cc) => show Calls Tryz.prog 76 #[.pointer (some ⟨b, 0, none⟩)] u fun e u' => e = .returned (.int .i64 (bitsOf a : Nat)) ∧ Ext u u' by
    have := bi_BitLen b 0 (a : Int) B nn cc (by have := h.rd.len; rw [Int.natAbs_natCast] at this; omega) u h
    rwa [Int.natAbs_natCast] at this)
  obtain ⟨ba, hbe⟩ : ∃ y, bitsOf a = y := ⟨_, rfl⟩
  rw [hbe] at KB hba
  have KN := Lib.hid (fun u => ro_near x ba hx (by omega) u)
  have hmi : ¬ (4 : Int) < (mode : Int) := by omega
  have hmd : decide ((4 : Int) < (mode : Int)) = false := decide_eq_false hmi
  have hbi : (ba : Int) ≤ 16384 * 32 := by omega
  clear hX hY hA hbe hok h1A h1D hl1 hE hF hba
  go_enter Tryz.func169, Tryz.ntmps169
  go_upto_region 1 with fail
  obtain ⟨W, hW⟩ : ∃ W, W = (w.alloc (.cells #[.int .i64 (E : Int), .int .i64 (F : Int)] 28)).alloc (.cells #[.bool below, .slice A n c, .int .i64 x] 79) := ⟨_, rfl⟩
  obtain ⟨B0, hB0⟩ : ∃ B0, w.heap.size = B0 := ⟨_, rfl⟩
  have xW : Hid (Ext w W) := by show Ext w W; rw [hW]; exact ext_alloc (ext_alloc (ext_refl _) _) _
  have bx : Hid (∀ u, Ext W u → u.cell? ⟨B0, 0, none⟩ = some (.int .i64 (E : Int)) ∧ u.cell? ⟨B0, 1, none⟩ = some (.int .i64 (F : Int)) ∧ u.cell? ⟨B0 + 1, 0, none⟩ = some (.bool below) ∧ u.cell? ⟨B0 + 1, 1, none⟩ = some (.slice A n c) ∧ u.cell? ⟨B0 + 1, 2, none⟩ = some (.int .i64 x) ∧ B0 + 1 < u.heap.size) := Lib.hid fun u hu => by
    have l1 : B0 + 1 < W.heap.size := by rw [hW, ← hB0]; simp
    have l0 : B0 < W.heap.size := by omega
    refine ⟨(Below.cell (p := ⟨B0, 0, none⟩) hu l0).trans ?_, (Below.cell (p := ⟨B0, 1, none⟩) hu l0).trans ?_, (Below.cell (p := ⟨B0 + 1, 0, none⟩) hu l1).trans ?_, (Below.cell (p := ⟨B0 + 1, 1, none⟩) hu l1).trans ?_, (Below.cell (p := ⟨B0 + 1, 2, none⟩) hu l1).trans ?_, Nat.lt_of_lt_of_le l1 (ext_size hu)⟩
    all_goals (rw [hW, ← hB0]; simp [go_sem])
  obtain ⟨c0, c1, c2, c3, c4, cl⟩ := bx.out W (ext_refl _)
  rw [← hW, hB0]
  clear hW hB0
  go_wp2_with (first
    | (go_at_call 72; (with_reducible refine (KF.out _).mono ?_); rintro e w1 ⟨rfl, hX1⟩; obtain ⟨c0, c1, c2, c3, c4, cl⟩ := bx.out _ hX1)
    | (go_at_call 238; (with_reducible refine (KX.out _ (ext_trans xW.out hX1)).mono ?_); rintro e w2 ⟨rfl, hE2⟩; have hX2 := ext_trans hX1 hE2; obtain ⟨c0, c1, c2, c3, c4, cl⟩ := bx.out _ hX2)
    | (go_at_call 74; (with_reducible refine (KA.out _ (ext_trans xW.out hX2)).mono ?_); rintro e w3 ⟨b5, B5, k5, l5, rfl, hI5, hb5, xb5, hf5⟩; have hX3 := ext_trans hX2 xb5; obtain ⟨c0, c1, c2, c3, c4, cl⟩ := bx.out _ hX3)
    | (go_at_call 78; (with_reducible refine (K1.out _).mono ?_); rintro e w4 ⟨b6, B6, k6, l6, rfl, hI6, hb6, xb6⟩; have hX4 := ext_trans hX3 xb6; obtain ⟨c0, c1, c2, c3, c4, cl⟩ := bx.out _ hX4))
  have cl4 := cl
  obtain ⟨xN, hxN⟩ : ∃ y, w4.heap.size = y := ⟨_, rfl⟩
  obtain ⟨W4, hW4⟩ : ∃ u, u = w4.alloc (.cells #[.pointer (some ⟨b5, 0, none⟩), .pointer (some ⟨b6, 0, none⟩)] 121) := ⟨_, rfl⟩
  have hX5 : Ext W W4 := by rw [hW4]; exact ext_alloc hX4 _
  have hE45 : Ext w4 W4 := by rw [hW4]; exact ext_alloc (ext_refl _) _
  have hN4 : NbIs W4 b5 b6 a 1 := ⟨⟨_, _, _, (hI5.out.ext xb6).ext hE45⟩, ⟨_, _, _, hI6.out.1.ext hE45⟩⟩
  have hP4 : PairAt W4 xN := by
    rw [hW4, ← hxN]
    refine ⟨⟨_, World.cell?_alloc_new _ _ _ _⟩, ⟨_, World.cell?_alloc_new _ _ _ _⟩, fun o ho => ?_, by simp⟩
    rw [World.cell?_alloc_new]
    exact Array.getElem?_eq_none (by simpa using ho)
  have n0 : W4.cell? ⟨xN, 0, none⟩ = some (.pointer (some ⟨b5, 0, none⟩)) := by rw [hW4, ← hxN, World.cell?_alloc_new]; rfl
  have n1 : W4.cell? ⟨xN, 1, none⟩ = some (.pointer (some ⟨b6, 0, none⟩)) := by rw [hW4, ← hxN, World.cell?_alloc_new]; rfl
  have nf0 : W4.frozen? ⟨xN, 0, none⟩ = false := by rw [hW4, ← hxN]; exact World.frozen?_alloc_new _ _ _ _
  have nf1 : W4.frozen? ⟨xN, 1, none⟩ = false := by rw [hW4, ← hxN]; exact World.frozen?_alloc_new _ _ _ _
  have hBx : B0 + 1 < xN := by omega
  have hlx := hP4.lt
  have bxx : Hid (∀ u, Ext W4 u → (u.cell? ⟨B0, 0, none⟩ = some (.int .i64 (E : Int)) ∧ u.cell? ⟨B0, 1, none⟩ = some (.int .i64 (F : Int)) ∧ u.cell? ⟨B0 + 1, 0, none⟩ = some (.bool below) ∧ u.cell? ⟨B0 + 1, 1, none⟩ = some (.slice A n c) ∧ u.cell? ⟨B0 + 1, 2, none⟩ = some (.int .i64 x) ∧ B0 + 1 < u.heap.size) ∧ u.cell? ⟨xN, 0, none⟩ = some (.pointer (some ⟨b5, 0, none⟩)) ∧ u.cell? ⟨xN, 1, none⟩ = some (.pointer (some ⟨b6, 0, none⟩)) ∧ u.frozen? ⟨xN, 0, none⟩ = false ∧ u.frozen? ⟨xN, 1, none⟩ = false ∧ xN < u.heap.size) := Lib.hid fun u hu =>
    ⟨bx.out u (ext_trans hX5 hu), (Below.cell (p := ⟨xN, 0, none⟩) hu hlx).trans n0, (Below.cell (p := ⟨xN, 1, none⟩) hu hlx).trans n1, (Below.frozen (p := ⟨xN, 0, none⟩) hu hlx).trans nf0, (Below.frozen (p := ⟨xN, 1, none⟩) hu hlx).trans nf1, ext_lt hu _ hlx⟩
  have KB2 := Lib.hid (fun u (he : Ext W4 u) => KB.out b5 B5 k5 l5 u (((hI5.out.ext xb6).ext hE45).ext he))
  have KT2 := Lib.hid (fun u (he : Ext W4 u) => KT.out b5 b6 u (hN4.ext he))
  have HP := Lib.hid hP4
  have HXW := Lib.hid (ext_trans xW.out hX5)
  have HWX : Hid (w.heap.size ≤ xN) := by have h1 := ext_size xW.out; have h2 := ext_size hX4; show _ ≤ _; omega
  have e0 : ¬ B0 = xN := by omega
  have e1 : ¬ B0 + 1 = xN := by omega
  rw [← hW4, hxN]
  obtain ⟨⟨c0, c1, c2, c3, c4, cl⟩, n0, n1, nf0, nf1, hlx⟩ := bxx.out W4 (ext_refl _)
  clear hW4 hxN hX5 hX4 hX3 hX2 hX1 hE2 xb5 xb6 hI5 hI6 hb5 hb6 hf5 hE45 hN4 hP4 bx xW KB KT KF KX KA K1 cl4
  go_region_with (first
    | (go_at_call 76; (with_reducible refine (KB2.out _ (by (repeat (first | exact ext_refl _ | assumption | refine ext_setCell ?_ (by simp; try omega) _ | refine ext_alloc ?_ _ | refine ext_drew ?_ | refine ext_drewN ?_ _ | refine ext_trans ?_ (Aft.use _) | refine ext_trans ?_ (by assumption))))).mono ?_); rintro e w5 ⟨rfl, xb5⟩; obtain ⟨⟨c0, c1, c2, c3, c4, cl⟩, n0, n1, nf0, nf1, hlx⟩ := bxx.out w5 (by (repeat (first | exact ext_refl _ | assumption | refine ext_setCell ?_ (by simp; try omega) _ | refine ext_alloc ?_ _ | refine ext_drew ?_ | refine ext_drewN ?_ _ | refine ext_trans ?_ (Aft.use _) | refine ext_trans ?_ (by assumption)))))
    | (go_at_call 75; (with_reducible refine (KN.out _).mono ?_); rintro e w6 ⟨rfl, xb6⟩; obtain ⟨⟨c0, c1, c2, c3, c4, cl⟩, n0, n1, nf0, nf1, hlx⟩ := bxx.out w6 (by (repeat (first | exact ext_refl _ | assumption | refine ext_setCell ?_ (by simp; try omega) _ | refine ext_alloc ?_ _ | refine ext_drew ?_ | refine ext_drewN ?_ _ | refine ext_trans ?_ (Aft.use _) | refine ext_trans ?_ (by assumption)))))
    | (go_at_call 205; (with_reducible refine (KT2.out _ (by (repeat (first | exact ext_refl _ | assumption | refine ext_setCell ?_ (by simp; try omega) _ | refine ext_alloc ?_ _ | refine ext_drew ?_ | refine ext_drewN ?_ _ | refine ext_trans ?_ (Aft.use _) | refine ext_trans ?_ (by assumption))))).mono ?_); rintro e w7 ⟨p, q, rfl, hN7, xb7⟩; obtain ⟨⟨c0, c1, c2, c3, c4, cl⟩, n0, n1, nf0, nf1, hlx⟩ := bxx.out w7 (by (repeat (first | exact ext_refl _ | assumption | refine ext_setCell ?_ (by simp; try omega) _ | refine ext_alloc ?_ _ | refine ext_drew ?_ | refine ext_drewN ?_ _ | refine ext_trans ?_ (Aft.use _) | refine ext_trans ?_ (by assumption))))))
  all_goals
    go_wp2_with (first
      | (go_at_call 80; (with_reducible refine (KS.out p q _ (hN7.out.pair (HP.out.ext (by (repeat (first | exact ext_refl _ | assumption | refine ext_setCell ?_ (by simp; try omega) _ | refine ext_alloc ?_ _ | refine ext_drew ?_ | refine ext_drewN ?_ _ | refine ext_trans ?_ (Aft.use _) | refine ext_trans ?_ (by assumption))))) (((Tch.refl _ _).set _ _).set _ _))).mono ?_); rintro e w8 ⟨rfl, xb8⟩))
    refine bodyPost_ret (v := .tuple #[.int .u64 ↑X, .int .u8 ↑Y, .int .i64 0]) ?h rfl ⟨rfl, ext_trans (Tch.ext ((Tch.of (show Ext W4 w7 by (repeat (first | exact ext_refl _ | assumption | refine ext_setCell ?_ (by simp; try omega) _ | refine ext_alloc ?_ _ | refine ext_drew ?_ | refine ext_drewN ?_ _ | refine ext_trans ?_ (Aft.use _) | refine ext_trans ?_ (by assumption))))).trans (((Tch.refl _ _).set _ _).set _ _)) HXW.out HWX.out) xb8⟩
    case h => simp [results, Tryz.results169, go_sem]
end Go.Proofs.YtkhkoeibpkglkaaGreatDoor
end
