import Derived.Test.YthmfmfggihejoaaSpan
namespace Go.Proofs.Ythmfmfggihejoaa
open Go.RowKit
attribute [local go_sem high] run_feq run_fne run_flt run_fle run_fgt
attribute [local go_sem] unary_neg_float fbits fromb run_store_float sz2 sz3 sz4 sz5 sz6 sz7 sz8
theorem walk_SpanMakes (x0 : Nat) (x1 : Nat) (w : World) (hx0 : x0 < 2 ^ 64) (hx1 : x1 < 2 ^ 64) :
    Calls Try.prog 3 #[.agg #[.int .u64 x0, .int .u64 x1]] w fun e w' => e = .returned (.bool true) ∧ Ext w w' := by
  go_enter Try.func3, Try.ntmps3
  go_wp2_with (first
    | (go_at_call 5; (with_reducible refine (ends_span _ _ _).mono ?_); rintro e w' ⟨rfl, xb⟩; obtain ⟨xc, xf, xz⟩ := ext_use xb; simp at xz)
   )
  refine wp_aft (by kernel_rfl) (by kernel_rfl) (fun hq hqf => ?_)
  repeat (go_big_quiet_step (first
    | (go_at_call 7; exact aft_of (make_any _ _ hx0 hx1 _))
    | (go_at_call 8; exact aft_of (rmake_any _ _ hx0 hx1 _))
    | (go_at_call 6; exact aft_of (of_any _ _ _ _))
    | (go_at_call 9; exact aft_of (check_any _ _ hx0 hx1 _))
    | (go_at_call 10; exact aft_of (rcheck_any _ _ hx0 hx1 _))
    ))
  refine wpQuiet_nil ?_
  rintro _ ⟨nq, rfl⟩
  have xz := ext_size nq.use
  simp at xz
  go_wp2
  go_ret
  refine ⟨rfl, ?_⟩
  repeat (first | exact ext_refl _ | assumption | refine ext_setCell ?_ (by simp; try omega) _ | refine ext_alloc ?_ _ | refine ext_drew ?_ | refine ext_drewN ?_ _ | refine ext_trans ?_ (Aft.use _) | refine ext_trans ?_ (by assumption))
end Go.Proofs.Ythmfmfggihejoaa
