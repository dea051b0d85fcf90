import Derived.Test.YthmfmfggihejoaaSpan0
namespace Go.Proofs.Ythmfmfggihejoaa
open Go.RowKit
attribute [local go_sem high] run_feq run_fne run_flt run_fle run_fgt run_fge
attribute [local go_sem] unary_neg_float fbits fromb run_store_float sz2 sz3 sz4 sz5 sz6 sz7 sz8
theorem ends_span (a b : Nat) (w : World) : Calls Try.prog 5 #[.agg #[.int .u64 a, .int .u64 b]] w fun e w' => e = .returned (.agg #[.float .f64 a, .float .f64 b]) ∧ Ext w w' := by
  go_enter Try.func5, Try.ntmps5
  go_wp2
  refine wp_aft_tail 7 (by kernel_rfl) (by kernel_rfl) (by kernel_rfl) (fun hq hqf => ?_)
  simp only [List.take_succ_cons, List.take_zero, List.drop_succ_cons, List.drop_zero]
  repeat (go_big_quiet_step (fail
    ))
  refine wpQuiet_nil ?_
  rintro _ ⟨nq, rfl⟩
  have xl := ext_lt nq.use
  have xz := ext_size nq.use
  try simp at xz
  go_wp2
  refine bodyPost_ret (v := _) ?h rfl ⟨rfl, ?_⟩
  case h => simp [results, Try.results5, go_sem, hq, hqf]
  repeat (first | exact ext_refl _ | assumption | refine ext_setCell ?_ (by simp; try omega) _ | refine ext_alloc ?_ _ | refine ext_drew ?_ | refine ext_drewN ?_ _ | refine ext_trans ?_ (Aft.use _) | refine ext_trans ?_ (by assumption))
theorem of_any (a b : Nat) (n : Int) (w : World) : Calls Try.prog 6 #[.agg #[.float .f64 a, .float .f64 b], .int .i64 n] w fun e w' => e = .returned (.agg #[.int .u64 a, .int .u64 b, .int .i64 n]) ∧ Ext w w' := by
  go_enter Try.func6, Try.ntmps6
  go_wp2
  refine wp_aft_tail 9 (by kernel_rfl) (by kernel_rfl) (by kernel_rfl) (fun hq hqf => ?_)
  simp only [List.take_succ_cons, List.take_zero, List.drop_succ_cons, List.drop_zero]
  repeat (go_big_quiet_step (fail
    ))
  refine wpQuiet_nil ?_
  rintro _ ⟨nq, rfl⟩
  have xl := ext_lt nq.use
  have xz := ext_size nq.use
  try simp at xz
  go_wp2
  refine bodyPost_ret (v := _) ?h rfl ⟨rfl, ?_⟩
  case h => simp [results, Try.results6, go_sem, hq, hqf]
  repeat (first | exact ext_refl _ | assumption | refine ext_setCell ?_ (by simp; try omega) _ | refine ext_alloc ?_ _ | refine ext_drew ?_ | refine ext_drewN ?_ _ | refine ext_trans ?_ (Aft.use _) | refine ext_trans ?_ (by assumption))
end Go.Proofs.Ythmfmfggihejoaa
