/- Lemmas of this proof, laid together: MkY. -/
import Derived.Test.YtgedpfbokkambaaGreatDoorMg05
import Derived.Test.YtgedpfbokkambaaGreatDoorShelf
import Derived.Test.YtgedpfbokkambaaGreatDoorRows
import Derived.Lib.LaidU8
import Derived.PinnedBridge
import Derived.LaidHandle
import Derived.LaidLaws
set_option linter.unusedSimpArgs false
set_option linter.unusedVariables false
section
/- Marks: what the rows say of the library's variables. -/
namespace Go.Proofs.YtgedpfbokkambaaGreatDoor
open Go.RowKit
set_option maxRecDepth 100000
/-- What the walks ask of a world. -/
structure LwT (w : World) : Prop where
  tabs : Lib.Utf8Tabs 1 2 w
  et : w.cell? ⟨0, 0, none⟩ = some (.iface 110 (rtyV 29))
theorem cell_lt {w : World} {p : Addr} {v : Value} (h : w.cell? p = some v) : p.block < w.heap.size := by
  rcases Nat.lt_or_ge p.block w.heap.size with h1 | h1
  · exact h1
  · simp [World.cell?, Array.getElem?_eq_none h1] at h
theorem LwT.sz {w : World} (h : LwT w) : 2 < w.heap.size := cell_lt (p := ⟨2, 2 * 0, none⟩) (h.tabs.2 0 (by decide)).1
theorem LwT.ext {w w' : World} (h : LwT w) (hE : Ext w w') : LwT w' := by
  obtain ⟨⟨a, b⟩, e⟩ := h
  refine ⟨⟨fun c hc => (Below.cell (p := ⟨1, c, none⟩) hE (cell_lt (a c hc))).trans (a c hc), fun i hi => ⟨(Below.cell (p := ⟨2, 2 * i, none⟩) hE (cell_lt (b i hi).1)).trans (b i hi).1, (Below.cell (p := ⟨2, 2 * i + 1, none⟩) hE (cell_lt (b i hi).2)).trans (b i hi).2⟩⟩, ?_⟩
  exact (Below.cell (p := ⟨0, 0, none⟩) hE (cell_lt e)).trans e
theorem et_global : Tryz.prog.globalNamed "errors.errorType" = some 0 := by kernel_rfl
theorem rt_cut : (Tryz.prog.cutTypes.find? (·.1 == "internal/reflectlite.rtype")).map (·.2) = some 110 := by kernel_rfl
theorem one_row : ((List.range Tryz.prog.types.size).filter fun t => Tryz.prog.rowNamed t [101, 114, 114, 111, 114]) = [29] := by kernel_rfl
theorem accept_eq : (Rows.laid_unicode_utf8_acceptRanges : DataW Unit) = Lib.acceptData := by kernel_rfl
theorem first_eq : Rows.laid_unicode_utf8_first = Lib.firstData := Pinned.utf8First_eq
theorem lw_met {w : World} (h : laidMetH Tryz.prog [("unicode/utf8.acceptRanges", Rows.laid_unicode_utf8_acceptRanges), ("errors.errorType", Rows.laid_errors_errorType), ("unicode/utf8.first", Rows.laid_unicode_utf8_first)] w) : LwT w := by
  have h' : laidMet Tryz.prog [("unicode/utf8.acceptRanges", Rows.laid_unicode_utf8_acceptRanges), ("unicode/utf8.first", Rows.laid_unicode_utf8_first)] w ∧ handlesMet Tryz.prog [("errors.errorType", Rows.laid_errors_errorType)] w := h
  obtain ⟨h1, h2⟩ := h'
  refine ⟨?_, ?_⟩
  · rw [accept_eq, first_eq] at h1
    exact utf8Tabs_of_reads Tryz.lays260 ⟨by kernel_rfl, by kernel_rfl, by kernel_rfl, by kernel_rfl, by kernel_rfl, by kernel_rfl, by kernel_rfl⟩ (Lib.laidMet.reads h1 (by simp)) (Lib.laidMet.reads h1 (by simp))
  · obtain ⟨name, u, ty, e1, e2, e3, e4, e5⟩ := h2 _ (List.mem_singleton.2 rfl)
    have en : name = [101, 114, 114, 111, 114] := (Option.some.inj e1).symm
    subst en
    obtain rfl := Option.some.inj (rt_cut.symm.trans e2)
    have hm : ty ∈ (List.range Tryz.prog.types.size).filter fun t => Tryz.prog.rowNamed t [101, 114, 114, 111, 114] := List.mem_filter.2 ⟨List.mem_range.2 e3, e4⟩
    rw [one_row] at hm
    obtain rfl := List.mem_singleton.1 hm
    have hh : typeHandle Tryz.prog 29 = .pointer (some ⟨4, 29, none⟩) := by kernel_rfl
    rw [hh] at e5
    simpa using World.var?_cell et_global e5 0
end Go.Proofs.YtgedpfbokkambaaGreatDoor
end
