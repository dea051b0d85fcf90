import Derived.Test.YthmfmfggihejoaaMath
namespace Go.Proofs.Ythmfmfggihejoaa
open Go.RowKit
attribute [local go_sem high] run_feq run_fne run_flt run_fle run_fgt run_fge
attribute [local go_sem] unary_neg_float fbits fromb run_store_float sz2 sz3 sz4 sz5 sz6 sz7 sz8
def okA (a b : Nat) : Bool := !((!fle a b) || infB a 1 || infB b (-1) || (feq a 0 && sgB a || feq b 0 && sgB b))
def ckV (a b : Nat) : Int := if okA a b then 0 else 280
def okB (a b : Nat) : Bool := !((!feq a a) || (!feq b b) || fgt a b || infB a 1 || infB b (-1) || (feq a 0 && sgB a) || (feq b 0 && sgB b))
def ckR (a b : Nat) : Int := if okB a b then 0 else 280
theorem ok_eq (a b : Nat) : ckR a b = ckV a b := by
  have h : okB a b = okA a b := by
    unfold okB okA
    rw [fle_law]
    cases feq a a <;> cases feq b b <;> cases fgt a b <;> simp [Bool.or_assoc]
  unfold ckR ckV; rw [h]
theorem check_any (a b : Nat) (ha : a < 2 ^ 64) (hb : b < 2 ^ 64) (w : World) : Calls Try.prog 9 #[.agg #[.float .f64 a, .float .f64 b]] w fun e w' => e = .returned (.int .i64 (ckV a b)) ∧ Ext w w' := by
  go_enter Try.func9, Try.ntmps9
  go_wp2_with (first
    | (go_at_call 23; (with_reducible refine (signbit_any _ (by assumption) _).mono ?_); rintro e w' ⟨rfl, rfl⟩)
    | (go_at_call 24; (with_reducible refine (isinf_any _ _ (by decide) _).mono ?_); rintro e w' ⟨rfl, rfl⟩)
   )
  all_goals
    go_ret
    exact ⟨by simp_all [ckV, okA], ext_alloc (ext_refl _) _⟩
theorem rcheck_any (a b : Nat) (ha : a < 2 ^ 64) (hb : b < 2 ^ 64) (w : World) : Calls Try.prog 10 #[.agg #[.float .f64 a, .float .f64 b]] w fun e w' => e = .returned (.int .i64 (ckV a b)) ∧ Ext w w' := by
  rw [← ok_eq]
  go_enter Try.func10, Try.ntmps10
  go_wp2
  go_quiet (fail)
  go_wp2_with (first
    | (go_at_call 23; (with_reducible refine (signbit_any _ (by assumption) _).mono ?_); rintro e w' ⟨rfl, rfl⟩)
    | (go_at_call 24; (with_reducible refine (isinf_any _ _ (by decide) _).mono ?_); rintro e w' ⟨rfl, rfl⟩)
   )
  all_goals
    go_ret
    exact ⟨by simp_all [ckR, okB], ext_drewN (ext_alloc (ext_refl _) _) _⟩
theorem plus_any (b : Nat) (w : World) : Calls Try.prog 21 #[.float .f64 b] w fun e w' => e = .returned (.float .f64 (plusB b)) ∧ w = w' := by
  go_enter Try.func21, Try.ntmps21
  go_wp2
  all_goals
    go_ret
    simp_all [plusB]
theorem rplus_any (b : Nat) (w : World) : Calls Try.prog 22 #[.float .f64 b] w fun e w' => e = .returned (.float .f64 (plusB b)) ∧ w = w' := by
  go_enter Try.func22, Try.ntmps22
  go_wp2
  all_goals
    go_ret
    simp_all [plusB]
def mkA (a b : Nat) : Nat := if ckV (plusB a) (plusB b) = 0 then plusB a else 0
def mkB (a b : Nat) : Nat := if ckV (plusB a) (plusB b) = 0 then plusB b else 0
theorem ck_two (a b : Nat) : ckV a b = 0 ∨ ckV a b = 280 := by unfold ckV; split <;> simp
theorem make_any (a b : Nat) (ha : a < 2 ^ 64) (hb : b < 2 ^ 64) (w : World) : Calls Try.prog 7 #[.float .f64 a, .float .f64 b] w fun e w' => e = .returned (.tuple #[.agg #[.float .f64 (mkA a b), .float .f64 (mkB a b)], .int .i64 (ckV (plusB a) (plusB b))]) ∧ Ext w w' := by
  go_enter Try.func7, Try.ntmps7
  go_wp2_with (first
    | (go_at_call 21; (with_reducible refine (plus_any _ _).mono ?_); rintro e w' ⟨rfl, rfl⟩)
    | (go_at_call 9; (with_reducible refine (check_any _ _ (plus_lt ha) (plus_lt hb) _).mono ?_); rintro e w' ⟨rfl, xb⟩; obtain ⟨xc, xf, xl, xz⟩ := ext_use xb; try simp at xz)
   )
  · have h0 : ckV (plusB a) (plusB b) ≠ 0 := by simpa using ‹(ckV (plusB a) (plusB b) != 0) = true›
    refine bodyPost_ret (v := _) ?h rfl ⟨rfl, ?_⟩
    case h => simp [results, Try.results7, go_sem, mkA, mkB, h0, xc, xf]
    repeat (first | exact ext_refl _ | assumption | refine ext_setCell ?_ (by simp; try omega) _ | refine ext_alloc ?_ _ | refine ext_drew ?_ | refine ext_drewN ?_ _ | refine ext_trans ?_ (Aft.use _) | refine ext_trans ?_ (by assumption))
  · have h0 : ckV (plusB a) (plusB b) = 0 := by simpa using ‹(ckV (plusB a) (plusB b) != 0) = false›
    refine bodyPost_ret (v := _) ?h rfl ⟨rfl, ?_⟩
    case h => simp [results, Try.results7, go_sem, mkA, mkB, h0, xc, xf]
    repeat (first | exact ext_refl _ | assumption | refine ext_setCell ?_ (by simp; try omega) _ | refine ext_alloc ?_ _ | refine ext_drew ?_ | refine ext_drewN ?_ _ | refine ext_trans ?_ (Aft.use _) | refine ext_trans ?_ (by assumption))
theorem rmake_any (a b : Nat) (ha : a < 2 ^ 64) (hb : b < 2 ^ 64) (w : World) : Calls Try.prog 8 #[.float .f64 a, .float .f64 b] w fun e w' => e = .returned (.tuple #[.agg #[.float .f64 (mkA a b), .float .f64 (mkB a b)], .int .i64 (ckV (plusB a) (plusB b))]) ∧ Ext w w' := by
  go_enter Try.func8, Try.ntmps8
  go_wp2_with (first
    | (go_at_call 22; (with_reducible refine (rplus_any _ _).mono ?_); rintro e w' ⟨rfl, rfl⟩)
    | (go_at_call 10; (with_reducible refine (rcheck_any _ _ (plus_lt ha) (plus_lt hb) _).mono ?_); rintro e w' ⟨rfl, xb⟩; obtain ⟨xc, xf, xl, xz⟩ := ext_use xb; try simp at xz)
   )
  · have h0 : ckV (plusB a) (plusB b) = 280 := (ck_two _ _).resolve_left (by simpa using ‹(ckV (plusB a) (plusB b) != 0) = true›)
    refine bodyPost_ret (v := _) ?h rfl ⟨rfl, ?_⟩
    case h => simp [results, Try.results8, go_sem, mkA, mkB, h0, xc, xf]
    repeat (first | exact ext_refl _ | assumption | refine ext_setCell ?_ (by simp; try omega) _ | refine ext_alloc ?_ _ | refine ext_drew ?_ | refine ext_drewN ?_ _ | refine ext_trans ?_ (Aft.use _) | refine ext_trans ?_ (by assumption))
  · have h0 : ckV (plusB a) (plusB b) = 0 := by simpa using ‹(ckV (plusB a) (plusB b) != 0) = false›
    refine bodyPost_ret (v := _) ?h rfl ⟨rfl, ?_⟩
    case h => simp [results, Try.results8, go_sem, mkA, mkB, h0, xc, xf]
    repeat (first | exact ext_refl _ | assumption | refine ext_setCell ?_ (by simp; try omega) _ | refine ext_alloc ?_ _ | refine ext_drew ?_ | refine ext_drewN ?_ _ | refine ext_trans ?_ (Aft.use _) | refine ext_trans ?_ (by assumption))
end Go.Proofs.Ythmfmfggihejoaa
