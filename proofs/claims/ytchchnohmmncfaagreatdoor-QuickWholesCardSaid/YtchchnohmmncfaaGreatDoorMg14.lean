/- Lemmas of this proof, laid together: DecRp, DecT, DecU, DecV, DecX. -/
import Derived.Test.YtchchnohmmncfaaGreatDoorMg12
import Derived.Test.YtchchnohmmncfaaGreatDoorShelf
import Derived.Lib.ItoaNum
import Derived.Lib.LaidTab
import Derived.Sort.Grow
set_option linter.unusedSimpArgs false
set_option linter.unusedVariables false
section
/- Noughts of the library. -/
namespace Go.Proofs.YtchchnohmmncfaaGreatDoor
open Go.RowKit
attribute [local go_sem] bs_size bs_extract bs_get bs_append bs_toList const_get
attribute [local go_sem] sz2 sz3 sz4 sz5 sz6 sz7 sz8
set_option maxHeartbeats 4000000
set_option maxRecDepth 100000
attribute [local irreducible] Calls
theorem bs_app_lit (a : List UInt8) (b : Array UInt8) : bs a ++ (⟨b⟩ : ByteArray) = bs (a ++ b.toList) := by
  rw [← bs_append]; rfl
theorem lit_app_bs (a : Array UInt8) (b : List UInt8) : (⟨a⟩ : ByteArray) ++ bs b = bs (a.toList ++ b) := by
  rw [← bs_append]; rfl
attribute [local go_sem] bs_app_lit lit_app_bs
end Go.Proofs.YtchchnohmmncfaaGreatDoor
end
section
/- Scientific texts, shifts. -/
namespace Go.Proofs.YtchchnohmmncfaaGreatDoor
open Go.RowKit
attribute [local go_sem] bs_size bs_extract bs_get bs_append bs_toList const_get
attribute [local go_sem] sz2 sz3 sz4 sz5 sz6 sz7 sz8
set_option maxHeartbeats 4000000
set_option maxRecDepth 100000
attribute [local irreducible] Calls
attribute [local go_sem] bs_app_lit lit_app_bs
/-- The library's table of powers stands in memory. -/
abbrev Pw (w : World) : Prop := Lib.TabIs Tryz.prog w "internal/strconv.uint64pow10" .u64 Lib.pow10Tab
theorem pw_ext {w w' : World} (h : Pw w) (he : Ext w w') : Pw w' := by
  unfold Pw Lib.TabIs World.var? at *
  cases hg : Program.globalNamed Tryz.prog "internal/strconv.uint64pow10" with
  | none => rw [hg] at h; cases h
  | some g =>
    rw [hg] at h
    simp only [Option.bind_some] at h ⊢
    have hlt : g < w.heap.size := by
      rcases Nat.lt_or_ge g w.heap.size with h1 | h1
      · exact h1
      · rw [Array.getElem?_eq_none h1] at h; cases h
    rw [he.block g hlt]
    exact h
end Go.Proofs.YtchchnohmmncfaaGreatDoor
end
