/- Lemmas of this proof, laid together: QkL. -/
import Derived.Test.YtchchnohmmncfaaGreatDoorMg31
import Derived.Test.YtchchnohmmncfaaGreatDoorMg14
import Derived.Test.YtchchnohmmncfaaGreatDoorMg19
import Derived.Stop.LaidErr
set_option linter.unusedSimpArgs false
set_option linter.unusedVariables false
section
/- What the rows of layer 14 say of a world. -/
namespace Go.Proofs.YtchchnohmmncfaaGreatDoor
open Go.RowKit Go.ChangeShapes
set_option maxRecDepth 100000
theorem star_es : "*" ++ "errors.errorString" = "*errors.errorString" := by decide
theorem row_es (u : TypeId) (h : Tryz.prog.typeName? 3 u = some "*errors.errorString") : u = 158 :=
  typeName_ptr_named (nm := "errors.errorString") (by rw [star_es]; kernel_rfl) (by kernel_rfl) (by decide) u (by rw [star_es]; exact h)
theorem er_met {r : List (String × DataW Unit)} {w : World} (h : laidMet Tryz.prog (("strconv.ErrRange", Rows.laid_strconv_ErrRange) :: r) w) : Er w := by
  obtain ⟨a, s, hv, -⟩ := laid_sentinel (te := 160) (ts := 9) (tp := 158) h (g := 2) (by kernel_rfl) (ti := 64) (by kernel_rfl) Tryz.underlying64 row_es (by kernel_rfl) Tryz.underlying160 rfl rfl (by kernel_rfl) (by kernel_rfl) (by kernel_rfl)
  exact ⟨_, _, World.var?_cell (g := 2) (by kernel_rfl) hv 0⟩
structure Qw (w : World) : Prop where
  tz : Tz w
  pw : Pw w
  er : Er w
theorem Qw.ext {w w' : World} (h : Qw w) (he : Ext w w') : Qw w' := ⟨h.tz.ext he, pw_ext h.pw he, h.er.ext he⟩
theorem qw_short (L : List (String × DataW Unit)) (hL : L = ("math/bits.deBruijn32tab", Lib.tabData .u8 tzTab) :: ("math/bits.deBruijn64tab", Rows.laid_math_bits_deBruijn64tab) :: ("internal/strconv.uint64pow10", Lib.tabData .u64 Lib.pow10Tab) :: ("strconv.ErrRange", Rows.laid_strconv_ErrRange) :: ("strconv.ErrSyntax", Rows.laid_strconv_ErrSyntax) :: []) (w : World) (h : laidMet Tryz.prog L w) : Qw w := by
  subst hL
  exact ⟨tz_met _ w h, tab_third' (g := 4) (t := 190) (e := 26) (n := 20) (by kernel_rfl) (by kernel_rfl) (by kernel_rfl) (by kernel_rfl) (by kernel_rfl) (by kernel_rfl) h, er_met h.tail.tail.tail⟩
end Go.Proofs.YtchchnohmmncfaaGreatDoor
end
