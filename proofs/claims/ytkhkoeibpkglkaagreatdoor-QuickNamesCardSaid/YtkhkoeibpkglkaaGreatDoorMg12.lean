/- Lemmas of this proof, laid together: BigD. -/
import Derived.Test.YtkhkoeibpkglkaaGreatDoorMg11
import Derived.Test.YtkhkoeibpkglkaaGreatDoorMg09
import Derived.Maps.AppendAt
set_option linter.unusedSimpArgs false
set_option linter.unusedVariables false
section
/- Words of the library's: a number is added to a row, from a word on. -/
namespace Go.Proofs.YtkhkoeibpkglkaaGreatDoor
open Go.RowKit
attribute [local go_sem] sz2 sz3 sz4 sz5 sz6 sz7 sz8
set_option maxHeartbeats 4000000
set_option maxRecDepth 100000
attribute [local irreducible] Calls
theorem only_refl (w : World) (r : Option Nat) : w.grownBy w r := ⟨rfl, rfl, rfl, Nat.le_refl _, fun _ _ _ => rfl⟩
theorem only_set (w : World) (g i : Nat) (u : Value) : w.grownBy (w.setCell ⟨g, i, none⟩ u) (some g) :=
  ⟨rfl, rfl, rfl, by simp, fun k _ hk => Go.Deep.blk_setCell_other w ⟨g, i, none⟩ u k (fun e => hk (by rw [e]))⟩
theorem only_ext {W w w' : World} {g : Nat} (h : Ext W w) (hg : w.grownBy w' (some g)) (hW : W.heap.size ≤ g) : Ext W w' :=
  ⟨hg.os.trans h.os, hg.tape.trans h.tape, hg.output.trans h.output, Nat.le_trans h.size hg.size, fun i hi =>
    (hg.block i (Nat.lt_of_lt_of_le hi h.size) (by intro e; simp at e; omega)).trans (h.block i hi)⟩
end Go.Proofs.YtkhkoeibpkglkaaGreatDoor
end
