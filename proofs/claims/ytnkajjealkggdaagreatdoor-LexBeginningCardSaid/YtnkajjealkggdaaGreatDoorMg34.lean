/- Lemmas of this proof, laid together: QkL. -/
import Derived.Test.YtnkajjealkggdaaGreatDoorMg23
import Derived.Test.YtnkajjealkggdaaGreatDoorMg12
import Derived.Test.YtnkajjealkggdaaGreatDoorMg20
import Derived.Stop.LaidErr
set_option linter.unusedSimpArgs false
set_option linter.unusedVariables false
section
/- What the rows of layer 14 say of a world. -/
namespace Go.Proofs.YtnkajjealkggdaaGreatDoor
open Go.RowKit Go.ChangeShapes
set_option maxRecDepth 100000
theorem star_es : "*" ++ "errors.errorString" = "*errors.errorString" := by decide
theorem row_es (u : TypeId) (h : Tryz.prog.typeName? 3 u = some "*errors.errorString") : u = 228 :=
  typeName_ptr_named (nm := "errors.errorString") (by rw [star_es]; kernel_rfl) (by kernel_rfl) (by decide) u (by rw [star_es]; exact h)
theorem er_met {r : List (String × DataW Unit)} {w : World} (h : laidMet Tryz.prog (("strconv.ErrRange", Rows.laid_strconv_ErrRange) :: r) w) : Er w := by
  obtain ⟨a, s, hv, -⟩ := laid_sentinel (te := 230) (ts := 9) (tp := 228) h (g := 6) (by kernel_rfl) (ti := 35) (by kernel_rfl) Tryz.underlying35 row_es (by kernel_rfl) Tryz.underlying230 rfl rfl (by kernel_rfl) (by kernel_rfl) (by kernel_rfl)
  exact ⟨_, _, World.var?_cell (g := 6) (by kernel_rfl) hv 0⟩
structure Qw (w : World) : Prop where
  tz : Tz w
  pw : Pw w
  er : Er w
theorem Qw.ext {w w' : World} (h : Qw w) (he : Ext w w') : Qw w' := ⟨h.tz.ext he, pw_ext h.pw he, h.er.ext he⟩
end Go.Proofs.YtnkajjealkggdaaGreatDoor
end
