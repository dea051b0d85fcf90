/- Lemmas of this proof, laid together: Math. -/
import Derived.Test.YtchchnohmmncfaaGreatDoorRows
import Derived.Test.YtchchnohmmncfaaGreatDoorMg03
set_option linter.unusedSimpArgs false
set_option linter.unusedVariables false
section
namespace Go.Proofs.YtchchnohmmncfaaGreatDoor
open Go.RowKit
attribute [local go_sem high] run_feq run_fne run_flt run_fle run_fgt run_fge
attribute [local go_sem] unary_neg_float run_store_float sz2 sz3 sz4 sz5 sz6 sz7 sz8
theorem fbits (b : Nat) (w : World) : (callFunc 8 #[.float .f64 b]).run Tryz.prog w = .ok (.value (.int .u64 b)) w := by
  rw [run_callFunc_extern Tryz.func8 (by kernel_rfl) (by kernel_rfl) (by kernel_rfl) (e := Extern.MathFloatBits.float64bits) (by kernel_rfl)]; rfl
theorem fromb (b : Int) (w : World) : (callFunc 62 #[.int .u64 b]).run Tryz.prog w = .ok (.value (.float .f64 b.toNat)) w := by
  rw [run_callFunc_extern Tryz.func62 (by kernel_rfl) (by kernel_rfl) (by kernel_rfl) (e := Extern.MathFloatBits.float64frombits) (by kernel_rfl)]; rfl
attribute [local go_sem] fbits fromb

end Go.Proofs.YtchchnohmmncfaaGreatDoor
end
