/- Lemmas of this proof, laid together: Law10, TabT. -/
import Derived.Test.YtnkajjealkggdaaGreatDoorMg20
import Derived.Lib.LaidTab
import Derived.LaidMore
set_option linter.unusedSimpArgs false
set_option linter.unusedVariables false
section
/- What the rows say of the library's tables. -/
namespace Go.Proofs.YtnkajjealkggdaaGreatDoor
open Go.RowKit
set_option maxRecDepth 100000
/-- What the row says of a table that stands first on its list. -/
theorem tab_first {P : Program} {W : World} {name : String} {k : IntKind} {zs : List Int} {rest : List (String × DataW Unit)} {g : Nat} {t e : TypeId} {n : Nat}
    (hg : P.globalNamed name = some g) (hty : (P.globals[g]?).map (·.type) = some t) (ht : P.underlying t = some (.array n e)) (he : P.underlying e = some (.int k)) (hce : P.cellsOf e = 1) (hct : P.cellsOf t = n)
    (h : laidMet P ((name, Lib.tabData k zs) :: rest) W) : Lib.TabIs P W name k zs := by
  obtain ⟨ps, ⟨g', t', cs, fuel, p, q, hg', ht', hvar, hd, _, _⟩, _⟩ := h
  obtain rfl := Option.some.inj (hg.symm.trans hg')
  obtain rfl := Option.some.inj (hty.symm.trans ht')
  unfold Lib.TabIs
  rw [hvar, ← Lib.cells_of_tab ht he hce hct hd]
def tzTab : List Int := Lib.deBruijn32tab.map fun (n : Nat) => (n : Int)
theorem tz_met (rest : List (String × DataW Unit)) (w : World) (h : laidMet Tryz.prog (("math/bits.deBruijn32tab", Lib.tabData .u8 tzTab) :: rest) w) : Tz w := by
  have h1 := tab_first (g := 4) (t := 219) (e := 5) (n := 32) (by kernel_rfl) (by kernel_rfl) (by kernel_rfl) (by kernel_rfl) (by kernel_rfl) (by kernel_rfl) h
  intro j hj
  have h2 := h1.cell (g := 4) (by kernel_rfl) j (by simpa [tzTab] using hj)
  rw [h2]
  simp [tzTab, List.getD_eq_getElem?_getD, hj]
end Go.Proofs.YtnkajjealkggdaaGreatDoor
end
section
/- What the rows say of the library's tables: the third one. -/
namespace Go.Proofs.YtnkajjealkggdaaGreatDoor
open Go.RowKit
set_option maxRecDepth 100000
/-- What the row says of the table, told to the library's contract: it stands third on the list. -/
theorem tab_third' {P : Program} {W : World} {n1 n2 : String} {d1 d2 : DataW Unit} {name : String} {k : IntKind} {zs : List Int} {rest : List (String × DataW Unit)} {g : Nat} {t e : TypeId} {n : Nat}
    (hg : P.globalNamed name = some g) (hty : (P.globals[g]?).map (·.type) = some t) (ht : P.underlying t = some (.array n e)) (he : P.underlying e = some (.int k)) (hce : P.cellsOf e = 1) (hct : P.cellsOf t = n)
    (h : laidMet P ((n1, d1) :: (n2, d2) :: (name, Lib.tabData k zs) :: rest) W) : Lib.TabIs P W name k zs := by
  obtain ⟨ps, ⟨_, _, _, _, _, _, _, _, _, _, ⟨_, _, _, _, _, _, _, _, _, _, ⟨g', t', cs, fuel, p, q, hg', ht', hvar, hd, _, _⟩, _⟩, _⟩, _⟩ := h
  obtain rfl := Option.some.inj (hg.symm.trans hg')
  obtain rfl := Option.some.inj (hty.symm.trans ht')
  unfold Lib.TabIs
  rw [hvar, ← Lib.cells_of_tab ht he hce hct hd]
end Go.Proofs.YtnkajjealkggdaaGreatDoor
end
