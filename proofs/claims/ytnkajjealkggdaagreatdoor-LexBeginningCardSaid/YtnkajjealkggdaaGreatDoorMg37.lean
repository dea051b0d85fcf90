/- Lemmas of this proof, laid together: Law. -/
import Derived.Test.YtnkajjealkggdaaGreatDoorRows
import Derived.Test.YtnkajjealkggdaaGreatDoorMg04
import Derived.OpenShut
import Derived.ShutString
set_option linter.unusedSimpArgs false
set_option linter.unusedVariables false
section
namespace Go.Proofs.YtnkajjealkggdaaGreatDoor
open Go.ChangeShapes Go.WideShapes Go.ChangeAt Go.RowKit
theorem ownKnobNone : ownKnob Tryz.prog.godebug = none := by kernel_rfl
theorem laidOutP : laidOutB Tryz.prog = true := by kernel_rfl
section
variable {H : Type} {enc : TypeId × Value → H} {P : Program}
/-- Some cells read as data of the type t. -/
def Rdc (H : Type) (enc : TypeId × Value → H) (P : Program) (W : World) (t : TypeId) (cs : List Value) : Prop := ∃ n x, DataW.trod enc P W 0 (fun _ => true) true n t cs = some x
theorem rdc_of {W : World} {t : TypeId} {v : Value} {d : DataW H} {ps : List MemPlace} (h : DataW.Trod enc P W 0 (fun _ => true) true t v d ps) : Rdc H enc P W t v.cells.toList := by
  obtain ⟨n, hn⟩ := h; exact ⟨n, _, hn⟩
theorem rdc_string {W : World} {t : TypeId} {c : Value} (ht : P.underlying t = some .string) (h : Rdc H enc P W t [c]) : ∃ s : ByteArray, c = .string s ∧ s.size ≤ maxLen := by
  obtain ⟨n, x, h⟩ := h
  obtain ⟨m, e, _, hs⟩ := DataW.trod_string ht h
  simp at e
  exact ⟨m, e, hs⟩
/-- What a walk asks of a world in which an argument's reading is known. -/
theorem all_stay {params : List TypeId} (hl : laidOutB P = true) (hr : ∀ t ∈ params, P.readableRec t = true ∧ t < P.types.size) {W W' : World} (hb : Ext W W') : ∀ {args : List Value} {ds : List (DataW H)} {p : List MemPlace},
    DataW.TrodAll enc P W 0 (fun _ => true) true params args ds p → (∀ x ∈ p, x.block < W.heap.size) → DataW.TrodAll enc P W' 0 (fun b => decide (b < W.heap.size)) true params args ds p := by
  induction params with
  | nil =>
    intro args ds p h _
    cases args <;> cases ds <;> first | exact h | exact h.elim
  | cons t ts ih =>
    intro args ds p h hlt
    cases args with
    | nil => cases ds <;> exact h.elim
    | cons v vs =>
      cases ds with
      | nil => exact h.elim
      | cons d ds =>
        obtain ⟨a, b, h1, h2, rfl⟩ := h
        have ht := hr t (by simp)
        exact ⟨a, b, Below.trod hl ht.1 ht.2 h1 hb (fun x hx => hlt x (by simp [hx])), ih (fun t h => hr t (by simp [h])) h2 (fun x hx => hlt x (by simp [hx])), rfl⟩
theorem all_lt {params : List TypeId} {W : World} : ∀ {args : List Value} {ds : List (DataW H)} {p : List MemPlace},
    DataW.TrodAll enc P W 0 (fun _ => true) true params args ds p → ∀ x ∈ p, x.block < W.heap.size := by
  induction params with
  | nil =>
    intro args ds p h
    cases args <;> cases ds <;> first | exact h.elim | (have : p = [] := h; subst this; intro x hx; cases hx)
  | cons t ts ih =>
    intro args ds p h
    cases args with
    | nil => cases ds <;> exact h.elim
    | cons v vs =>
      cases ds with
      | nil => exact h.elim
      | cons d ds =>
        obtain ⟨a, b, ⟨m, hm⟩, h2, rfl⟩ := h
        intro x hx
        rcases List.mem_append.1 hx with hx | hx
        · exact DataW.trod_lt m _ _ _ hm x hx
        · exact ih h2 x hx
end
end Go.Proofs.YtnkajjealkggdaaGreatDoor
end
