import Derived.Test.YthmfmfggihejoaaSpan
namespace Go.Proofs.Ythmfmfggihejoaa
open Go.RowKit
attribute [local go_sem high] run_feq run_fne run_flt run_fle run_fgt run_fge run_fmax run_fmin
attribute [local go_sem] unary_neg_float fbits fromb run_store_float sz2 sz3 sz4 sz5 sz6 sz7 sz8
def ck2 (a b c d : Nat) : Int := if ckV a b = 0 then ckV c d else ckV a b
set_option maxHeartbeats 1000000 in
theorem checks_any (a b c d : Nat) (ha : a < 2 ^ 64) (hb : b < 2 ^ 64) (hc : c < 2 ^ 64) (hd : d < 2 ^ 64) (B : Nat) (w : World) (g0 : w.cell? ⟨B, 0, none⟩ = some (.float .f64 a)) (g1 : w.cell? ⟨B, 1, none⟩ = some (.float .f64 b))
    (g2 : w.cell? ⟨B, 2, none⟩ = some (.float .f64 c)) (g3 : w.cell? ⟨B, 3, none⟩ = some (.float .f64 d)) :
    Calls Try.prog 25 #[.slice (some ⟨B, 0, none⟩) 2 2] w fun e w' => e = .returned (.int .i64 (ck2 a b c d)) ∧ Ext w w' := by
  have hB : B < w.heap.size := World.block_lt_of_cell? w _ g0
  go_enter Try.func25, Try.ntmps25
  go_wp2
  go_loopw [8] (fun v wr => Ext w wr ∧ (v = .int .i64 0 ∨ (v = .int .i64 1 ∧ ckV a b = 0) ∨ (v = .int .i64 2 ∧ ckV a b = 0 ∧ ckV c d = 0))) (fun v _ => 2 - (intOf v).toNat)
  case atStart => exact ⟨ext_refl _, .inl rfl⟩
  case round =>
    obtain ⟨hE, hrel⟩ := hrel
    obtain ⟨yc, yf, yl, yz⟩ := ext_use hE
    have G0 := (yc B 0 hB).trans g0
    have G1 := (yc B 1 hB).trans g1
    have G2 := (yc B 2 hB).trans g2
    have G3 := (yc B 3 hB).trans g3
    clear yc yf g0 g1 g2 g3
    rcases hrel with rfl | ⟨rfl, H0⟩ | ⟨rfl, H0, H1⟩
    · by_cases e0 : ckV a b = 0
      · have e1 : (ckV a b != 0) = false := by simp [e0]
        have E0 := Lib.hid e0
        clear e0
        go_wp2_with (first
          | (go_at_call 9; (with_reducible refine (check_any _ _ ha hb _).mono ?_); rintro e w' ⟨rfl, xb⟩; obtain ⟨xc, xf, xl, xz⟩ := ext_use xb; try simp at xz)
         )
        go_roundw
        case rel => exact ⟨by (repeat (first | exact ext_refl _ | assumption | refine ext_setCell ?_ (by simp; try omega) _ | refine ext_alloc ?_ _ | refine ext_drew ?_ | refine ext_drewN ?_ _ | refine ext_trans ?_ (Aft.use _) | refine ext_trans ?_ (by assumption))), .inr (.inl ⟨rfl, E0.out⟩)⟩
        case measure => decide
      · have e1 : (ckV a b != 0) = true := by simp [e0]
        have E0 := Lib.hid e0
        clear e0
        go_wp2_with (first
          | (go_at_call 9; (with_reducible refine (check_any _ _ ha hb _).mono ?_); rintro e w' ⟨rfl, xb⟩; obtain ⟨xc, xf, xl, xz⟩ := ext_use xb; try simp at xz)
         )
        go_ret
        exact ⟨by unfold ck2; rw [if_neg E0.out]; rfl, by (repeat (first | exact ext_refl _ | assumption | refine ext_setCell ?_ (by simp; try omega) _ | refine ext_alloc ?_ _ | refine ext_drew ?_ | refine ext_drewN ?_ _ | refine ext_trans ?_ (Aft.use _) | refine ext_trans ?_ (by assumption)))⟩
    · have E0 := Lib.hid H0
      clear H0
      by_cases e0 : ckV c d = 0
      · have e1 : (ckV c d != 0) = false := by simp [e0]
        have E1 := Lib.hid e0
        clear e0
        go_wp2_with (first
          | (go_at_call 9; (with_reducible refine (check_any _ _ hc hd _).mono ?_); rintro e w' ⟨rfl, xb⟩; obtain ⟨xc, xf, xl, xz⟩ := ext_use xb; try simp at xz)
         )
        go_roundw
        case rel => exact ⟨by (repeat (first | exact ext_refl _ | assumption | refine ext_setCell ?_ (by simp; try omega) _ | refine ext_alloc ?_ _ | refine ext_drew ?_ | refine ext_drewN ?_ _ | refine ext_trans ?_ (Aft.use _) | refine ext_trans ?_ (by assumption))), .inr (.inr ⟨rfl, E0.out, E1.out⟩)⟩
        case measure => decide
      · have e1 : (ckV c d != 0) = true := by simp [e0]
        have E1 := Lib.hid e0
        clear e0
        go_wp2_with (first
          | (go_at_call 9; (with_reducible refine (check_any _ _ hc hd _).mono ?_); rintro e w' ⟨rfl, xb⟩; obtain ⟨xc, xf, xl, xz⟩ := ext_use xb; try simp at xz)
         )
        go_ret
        exact ⟨by unfold ck2; rw [if_pos E0.out]; rfl, by (repeat (first | exact ext_refl _ | assumption | refine ext_setCell ?_ (by simp; try omega) _ | refine ext_alloc ?_ _ | refine ext_drew ?_ | refine ext_drewN ?_ _ | refine ext_trans ?_ (Aft.use _) | refine ext_trans ?_ (by assumption)))⟩
    · have E0 := Lib.hid H0
      have E1 := Lib.hid H1
      clear H0 H1
      go_wp2
      go_ret
      exact ⟨by unfold ck2; rw [if_pos E0.out, E1.out]; rfl, by (repeat (first | exact ext_refl _ | assumption | refine ext_setCell ?_ (by simp; try omega) _ | refine ext_alloc ?_ _ | refine ext_drew ?_ | refine ext_drewN ?_ _ | refine ext_trans ?_ (Aft.use _) | refine ext_trans ?_ (by assumption)))⟩
theorem two_any (a b c d : Nat) (ha : a < 2 ^ 64) (hb : b < 2 ^ 64) (hc : c < 2 ^ 64) (hd : d < 2 ^ 64) (w : World) :
    Calls Try.prog 26 #[.agg #[.float .f64 a, .float .f64 b], .agg #[.float .f64 c, .float .f64 d]] w fun e w' => e = .returned (.int .i64 (ck2 a b c d)) ∧ Ext w w' := by
  rcases ck_two a b with e0 | e0 <;> rcases ck_two c d with e1 | e1
  all_goals
    have f0 : ck2 a b c d = if ckV a b = 0 ∧ ckV c d = 0 then 0 else 280 := by simp [ck2, e0, e1]
    have F0 := Lib.hid f0
    have E0 := Lib.hid e0
    have E1 := Lib.hid e1
    clear f0
    first
      | have q0 : (ckV a b != 0) = false := by rw [e0]; rfl
      | have q0 : (ckV a b != 0) = true := by rw [e0]; rfl
    first
      | have q1 : (ckV c d != 0) = false := by rw [e1]; rfl
      | have q1 : (ckV c d != 0) = true := by rw [e1]; rfl
    clear e0 e1
    go_enter Try.func26, Try.ntmps26
    go_wp2_with (first
      | (go_at_call 10; (with_reducible refine (rcheck_any _ _ (by assumption) (by assumption) _).mono ?_); rintro e w' ⟨rfl, xb⟩; obtain ⟨xc, xf, xl, xz⟩ := ext_use xb; try simp at xz)
     )
    go_ret
    exact ⟨by rw [F0.out, E0.out, E1.out]; rfl, by (repeat (first | exact ext_refl _ | assumption | refine ext_setCell ?_ (by simp; try omega) _ | refine ext_alloc ?_ _ | refine ext_drew ?_ | refine ext_drewN ?_ _ | refine ext_trans ?_ (Aft.use _) | refine ext_trans ?_ (by assumption)))⟩
theorem ok_of {a b : Nat} (h : ckV a b = 0) : okA a b = true := by
  unfold ckV at h; split at h <;> simp_all
theorem nan_of {a b : Nat} (h : ckV a b = 0) : feq a a = true ∧ feq b b = true := by
  have := ok_of h
  unfold okA at this
  have h1 := fle_law a b
  cases ha : feq a a <;> cases hb : feq b b <;> simp_all
def hasB (a b v : Nat) : Bool := if ckV a b = 0 then fle a v && (fle v b && !inf0B v) else false
theorem has_any (a b v : Nat) (ha : a < 2 ^ 64) (hb : b < 2 ^ 64) (w : World) : Calls Try.prog 11 #[.agg #[.float .f64 a, .float .f64 b], .float .f64 v] w fun e w' => e = .returned (.tuple #[.bool (hasB a b v), .int .i64 (ckV a b)]) ∧ Ext w w' := by
  rcases ck_two a b with e0 | e0
  · have q0 : (ckV a b != 0) = false := by rw [e0]; rfl
    have E0 := Lib.hid e0
    clear e0
    go_enter Try.func11, Try.ntmps11
    go_wp2_with (first
      | (go_at_call 9; (with_reducible refine (check_any _ _ ha hb _).mono ?_); rintro e w' ⟨rfl, xb⟩; obtain ⟨xc, xf, xl, xz⟩ := ext_use xb; try simp at xz)
      | (go_at_call 24; (with_reducible refine (isinf0_any _ _).mono ?_); rintro e w' ⟨rfl, rfl⟩)
     )
    all_goals
      go_ret2
      exact ⟨by simp_all [hasB, E0.out], by (repeat (first | exact ext_refl _ | assumption | refine ext_setCell ?_ (by simp; try omega) _ | refine ext_alloc ?_ _ | refine ext_drew ?_ | refine ext_drewN ?_ _ | refine ext_trans ?_ (Aft.use _) | refine ext_trans ?_ (by assumption)))⟩
  · have q0 : (ckV a b != 0) = true := by rw [e0]; rfl
    have E0 := Lib.hid e0
    clear e0
    go_enter Try.func11, Try.ntmps11
    go_wp2_with (first
      | (go_at_call 9; (with_reducible refine (check_any _ _ ha hb _).mono ?_); rintro e w' ⟨rfl, xb⟩; obtain ⟨xc, xf, xl, xz⟩ := ext_use xb; try simp at xz)
     )
    go_ret2
    exact ⟨by simp [hasB, E0.out], by (repeat (first | exact ext_refl _ | assumption | refine ext_setCell ?_ (by simp; try omega) _ | refine ext_alloc ?_ _ | refine ext_drew ?_ | refine ext_drewN ?_ _ | refine ext_trans ?_ (Aft.use _) | refine ext_trans ?_ (by assumption)))⟩
theorem rhas_any (a b v : Nat) (ha : a < 2 ^ 64) (hb : b < 2 ^ 64) (w : World) : Calls Try.prog 13 #[.agg #[.float .f64 a, .float .f64 b], .float .f64 v] w fun e w' => e = .returned (.tuple #[.bool (hasB a b v), .int .i64 (ckV a b)]) ∧ Ext w w' := by
  rcases ck_two a b with e0 | e0
  · have q0 : (ckV a b != 0) = false := by rw [e0]; rfl
    have E0 := Lib.hid e0
    clear e0
    go_enter Try.func13, Try.ntmps13
    go_wp2_with (first
      | (go_at_call 10; (with_reducible refine (rcheck_any _ _ ha hb _).mono ?_); rintro e w' ⟨rfl, xb⟩; obtain ⟨xc, xf, xl, xz⟩ := ext_use xb; try simp at xz)
      | (go_at_call 24; (with_reducible refine (isinf0_any _ _).mono ?_); rintro e w' ⟨rfl, rfl⟩)
     )
    all_goals
      go_ret2
      exact ⟨by have := fge_swap v a; simp_all [hasB, E0.out], by (repeat (first | exact ext_refl _ | assumption | refine ext_setCell ?_ (by simp; try omega) _ | refine ext_alloc ?_ _ | refine ext_drew ?_ | refine ext_drewN ?_ _ | refine ext_trans ?_ (Aft.use _) | refine ext_trans ?_ (by assumption)))⟩
  · have q0 : (ckV a b != 0) = true := by rw [e0]; rfl
    have E0 := Lib.hid e0
    clear e0
    go_enter Try.func13, Try.ntmps13
    go_wp2_with (first
      | (go_at_call 10; (with_reducible refine (rcheck_any _ _ ha hb _).mono ?_); rintro e w' ⟨rfl, xb⟩; obtain ⟨xc, xf, xl, xz⟩ := ext_use xb; try simp at xz)
     )
    go_ret2
    exact ⟨by simp [hasB, E0.out], by (repeat (first | exact ext_refl _ | assumption | refine ext_setCell ?_ (by simp; try omega) _ | refine ext_alloc ?_ _ | refine ext_drew ?_ | refine ext_drewN ?_ _ | refine ext_trans ?_ (Aft.use _) | refine ext_trans ?_ (by assumption)))⟩
end Go.Proofs.Ythmfmfggihejoaa
