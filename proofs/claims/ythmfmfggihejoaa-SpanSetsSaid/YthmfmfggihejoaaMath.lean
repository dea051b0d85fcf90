import Derived.Test.YthmfmfggihejoaaRows
import Derived.Test.YthmfmfggihejoaaK
namespace Go.Proofs.Ythmfmfggihejoaa
open Go.RowKit
attribute [local go_sem high] run_feq run_fne run_flt run_fle run_fgt run_fge
attribute [local go_sem] unary_neg_float run_store_float sz2 sz3 sz4 sz5 sz6 sz7 sz8
theorem fbits (b : Nat) (w : World) : (callFunc 20 #[.float .f64 b]).run Try.prog w = .ok (.value (.int .u64 b)) w := by
  rw [run_callFunc_extern Try.func20 (by kernel_rfl) (by kernel_rfl) (by kernel_rfl) (e := Extern.MathFloatBits.float64bits) (by kernel_rfl)]; rfl
theorem fromb (b : Int) (w : World) : (callFunc 12 #[.int .u64 b]).run Try.prog w = .ok (.value (.float .f64 b.toNat)) w := by
  rw [run_callFunc_extern Try.func12 (by kernel_rfl) (by kernel_rfl) (by kernel_rfl) (e := Extern.MathFloatBits.float64frombits) (by kernel_rfl)]; rfl
attribute [local go_sem] fbits fromb

theorem signbit_any (b : Nat) (hb : b < 2 ^ 64) (w : World) : Calls Try.prog 23 #[.float .f64 b] w fun e w' => e = .returned (.bool (sgB b)) ∧ w = w' := by
  go_enter Try.func23, Try.ntmps23
  go_wp2
  go_ret
  exact ⟨by simp [sg_eq b hb], rfl⟩
theorem abs_any (b : Nat) (w : World) : Calls Try.prog 27 #[.float .f64 b] w fun e w' => e = .returned (.float .f64 (absB b)) ∧ w = w' := by
  unfold absB
  go_enter Try.func27, Try.ntmps27
  go_wp2
  go_ret
  exact ⟨rfl, rfl⟩
theorem isinf0_any (b : Nat) (w : World) : Calls Try.prog 24 #[.float .f64 b, .int .i64 0] w fun e w' => e = .returned (.bool (inf0B b)) ∧ w = w' := by
  unfold inf0B maxF
  go_enter Try.func24, Try.ntmps24
  go_wp2_with (first
    | (go_at_call 27; (with_reducible refine (abs_any _ _).mono ?_); rintro e w' ⟨rfl, rfl⟩)
   )
  go_ret
  exact ⟨by simp, rfl⟩
theorem isinf_any (b : Nat) (s : Int) (hs : s = 1 ∨ s = -1) (w : World) : Calls Try.prog 24 #[.float .f64 b, .int .i64 s] w fun e w' => e = .returned (.bool (infB b s)) ∧ w = w' := by
  unfold infB maxF
  rcases hs with rfl | rfl
  all_goals
    go_enter Try.func24, Try.ntmps24
    go_wp2
    go_ret
    exact ⟨by simp, rfl⟩
end Go.Proofs.Ythmfmfggihejoaa
