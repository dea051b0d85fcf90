/- Lemmas of this proof, laid together: LawS. -/
import Derived.Test.YtgedpfbokkambaaGreatDoorMg23
import Derived.Test.YtgedpfbokkambaaGreatDoorMg06
import Derived.ChangeSlices
set_option linter.unusedSimpArgs false
set_option linter.unusedVariables false
section
/- A row's slices of words, opened. -/
namespace Go.Proofs.YtgedpfbokkambaaGreatDoor
open Go.ChangeShapes Go.WideShapes Go.ChangeAt Go.RowKit
section
variable {H : Type} {enc : TypeId × Value → H} {P : Program}
theorem cell_spot {w : World} {r : Reach} {base : Nat} {u : TypeId} {a : Addr} {n c : Nat} (h : Cell.okWide P w r base u (.slice (some a) n c)) : a.spot = none ∧ a.block < w.heap.size := by
  have h1 : Cell.ok P w r base u (.slice (some a) n c) := by
    unfold Cell.okWide at h
    split at h <;> first | exact h | simp_all
  unfold Cell.ok at h1
  split at h1
  all_goals first
    | exact h1.elim
    | (rename_i hv
       injection hv with e1 e2 e3
       injection e1 with e1
       subst e1
       obtain ⟨_, _, _, hs, row, k, hsh, _⟩ := h1
       refine ⟨hs, ?_⟩
       unfold World.shape? at hsh
       split at hsh
       · rename_i hb
         exact (Array.getElem?_eq_some_iff.1 hb).1
       · cases hsh)
    | (rename_i hv _; cases hv)
    | (rename_i hv; cases hv)
theorem okWide_cells {w : World} {r : Reach} {base : Nat} {t : TypeId} {fs : Array Field} {cs : Array Value} (ht : P.underlying t = some (.struct fs)) (h : Value.okWide P w r base t (.agg cs)) :
    ∀ (i : Nat) (v : Value), cs[i]? = some v → ∃ u, Cell.okWide P w r base u v := by
  unfold Value.okWide at h
  rw [ht] at h
  obtain ⟨cs', e, _, ts, _, _, hc⟩ := h
  cases e
  intro i v hv
  obtain ⟨u, _, hu⟩ := hc i v hv
  exact ⟨u, hu⟩
theorem okWide_slice_cell {w : World} {r : Reach} {base : Nat} {t e : TypeId} {v : Value} (ht : P.underlying t = some (.slice e)) (h : Value.okWide P w r base t v) : ∃ u, Cell.okWide P w r base u v := by
  unfold Value.okWide at h
  rw [ht] at h
  exact ⟨t, h⟩
theorem rdc_u32s {W : World} {r : Reach} {base : Nat} {t e : TypeId} {c : Value} (ht : P.underlying t = some (.slice e)) (he : P.underlying e = some (.int .u32)) (hc : P.cellsOf e = 1) (h : Rdc H enc P W t [c]) (hok : ∃ u, Cell.okWide P W r base u c) :
    ∃ (A : Option Addr) (n k : Nat) (xs : List Nat), c = .slice A n k ∧ Rd W A n k xs := by
  obtain ⟨m, x, h⟩ := h
  obtain ⟨u, hok⟩ := hok
  rcases open_ints ht he hc h with ⟨h1, _⟩ | ⟨a, len, cap, zs, h1, _, hl, hm, hz, _, hcell, hw⟩
  · simp at h1
    subst h1
    exact ⟨none, 0, 0, [], rfl, Rd.nil W⟩
  · simp at h1
    subst h1
    obtain ⟨hs, hb⟩ := cell_spot hok
    obtain ⟨b, off, sp⟩ := a
    simp only at hs hb
    subst hs
    have hzc : zs.length = cap := by simpa using hz
    clear hz
    refine ⟨some ⟨b, off, none⟩, len, cap, (zs.take len).map Int.toNat, rfl, ?_, hl, ?_, ?_, (fun e => by cases e), (fun a e => by cases e; rfl), ?_⟩
    · rw [List.length_map, List.length_take, hzc]; omega
    · exact Nat.le_trans hm (by unfold maxLen; decide)
    · intro y hy
      obtain ⟨z, hz1, rfl⟩ := List.mem_map.1 hy
      have := hw z (List.mem_of_mem_take hz1)
      simp [Lit.wf, IntKind.min, IntKind.max, IntKind.signed, IntKind.bits] at this
      show z.toNat < 4294967296
      omega
    · intro b' off' e i hi
      cases e
      refine ⟨hb, ?_⟩
      have hi' : i < zs.length ∧ i < len := by
        rw [List.length_map, List.length_take] at hi; omega
      have h2 := hcell i hi'.1
      have e1 : Addr.add ⟨b, off, none⟩ i = ⟨b, off + i, none⟩ := by unfold Addr.add; split <;> simp_all
      rw [e1] at h2
      rw [h2]
      have h3 := hw (zs[i]'hi'.1) (List.getElem_mem _)
      simp [Lit.wf, IntKind.min, IntKind.max, IntKind.signed, IntKind.bits] at h3
      have e2 : zs.getD i 0 = zs[i]'hi'.1 := by rw [List.getD_eq_getElem?_getD, List.getElem?_eq_getElem hi'.1]; rfl
      rw [e2]
      simp [u32V, List.getElem_take]
      omega
end
end Go.Proofs.YtgedpfbokkambaaGreatDoor
end
