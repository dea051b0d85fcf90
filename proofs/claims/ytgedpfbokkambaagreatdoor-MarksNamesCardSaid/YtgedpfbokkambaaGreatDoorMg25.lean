/- Lemmas of this proof, laid together: LawI. -/
import Derived.Test.YtgedpfbokkambaaGreatDoorMg24
import Derived.Test.YtgedpfbokkambaaGreatDoorMg11
import Derived.ChangeSlices
import Derived.SizedLaws
set_option linter.unusedSimpArgs false
set_option linter.unusedVariables false
section
/- A row's slices of ints, opened. -/
namespace Go.Proofs.YtgedpfbokkambaaGreatDoor
open Go.ChangeShapes Go.WideShapes Go.ChangeAt Go.RowKit
section
variable {H : Type} {enc : TypeId × Value → H} {P : Program}
theorem rdc_i64s {W : World} {r : Reach} {base : Nat} {t e : TypeId} {c : Value} (ht : P.underlying t = some (.slice e)) (he : P.underlying e = some (.int .i64)) (hc : P.cellsOf e = 1) (h : Rdc H enc P W t [c]) (hok : ∃ u, Cell.okWide P W r base u c) :
    ∃ (A : Option Addr) (n k : Nat) (xs : List Int), c = .slice A n k ∧ RdI W A n k xs := by
  obtain ⟨m, x, h⟩ := h
  obtain ⟨u, hok⟩ := hok
  rcases open_ints ht he hc h with ⟨h1, _⟩ | ⟨a, len, cap, zs, h1, _, hl, hm, hz, _, hcell, hw⟩
  · simp at h1
    subst h1
    exact ⟨none, 0, 0, [], rfl, RdI.nil W⟩
  · simp at h1
    subst h1
    obtain ⟨hs, hb⟩ := cell_spot hok
    obtain ⟨b, off, sp⟩ := a
    simp only at hs hb
    subst hs
    have hzc : zs.length = cap := by simpa using hz
    clear hz
    refine ⟨some ⟨b, off, none⟩, len, cap, zs.take len, rfl, ?_, hl, ?_, ?_, (fun e => by cases e), (fun a e => by cases e; rfl), ?_⟩
    · rw [List.length_take, hzc]; omega
    · exact Nat.le_trans hm (by unfold maxLen; decide)
    · intro z hz1
      have := hw z (List.mem_of_mem_take hz1)
      simp [Lit.wf, IntKind.min, IntKind.max, IntKind.signed, IntKind.bits] at this
      omega
    · intro b' off' e i hi
      cases e
      refine ⟨hb, ?_⟩
      have hi' : i < zs.length ∧ i < len := by
        rw [List.length_take] at hi; omega
      have h2 := hcell i hi'.1
      have e1 : Addr.add ⟨b, off, none⟩ i = ⟨b, off + i, none⟩ := by unfold Addr.add; split <;> simp_all
      rw [e1] at h2
      rw [h2]
      have e2 : zs.getD i 0 = zs[i]'hi'.1 := by rw [List.getD_eq_getElem?_getD, List.getElem?_eq_getElem hi'.1]; rfl
      rw [e2, List.getElem_take]
theorem weight_field {W : World} {ts : List TypeId} {ds : List (DataW H)} (hz : (DataW.weightsEach P ts ds).all (· ≤ reachBytes) = true) {j : Nat} {t : TypeId} {d : DataW H} (hj : ts[j]? = some t) (hd : ds[j]? = some d) {v : Value} {ps : List MemPlace}
    (htr : DataW.Trod enc P W 0 (fun _ => true) true t v d ps) {fs : Array Field} (ht : P.underlying t = some (.struct fs)) (i : Nat) (f : Field) (hf : fs[i]? = some f) (off : Nat) (ho : f.offset = off) (hc : P.cellsOf f.type = 1) {e : TypeId} (he : P.underlying f.type = some (.slice e)) {A : Option Addr} {n c : Nat}
    (hv : (v.cells.toList.drop off).take 1 = [.slice A n c]) : c * P.bytesOf e ≤ reachBytes := by
  obtain ⟨m, h⟩ := htr
  obtain ⟨xs, k, _, hx, _, hl, hi⟩ := DataW.trod_struct ht h
  have h1 := hi i f hf
  rw [ho, hc, hv] at h1
  have hlt : i < xs.length := by rw [hl]; exact (Array.getElem?_eq_some_iff.1 hf).1
  rw [List.getElem?_eq_getElem hlt] at h1
  simp only [Prod.mk.injEq] at hx
  obtain ⟨hx1, _⟩ := hx
  rcases DataW.trod_slice he h1 with ⟨h2, _⟩ | ⟨a, len, cap, elems, rest, q, _, h2, h3, _, hlc, _, hel, _, hr, _⟩
  · simp at h2
    obtain ⟨_, _, rfl⟩ := h2
    simp
  · simp at h2
    obtain ⟨rfl, rfl, rfl⟩ := h2
    have hrl := (hr rfl).1
    have hmem : (elems.length + rest.length) * P.bytesOf e ∈ d.weights P t := by
      rw [hx1]
      simp only [DataW.weights, ht]
      refine DataW.weights_mem_each (j := i) (t := f.type) (d := .slice (elems.map (·.1)) (rest.map (·.1))) ?_ ?_ _ ?_
      · rw [List.getElem?_map, Array.getElem?_toList, hf]; rfl
      · rw [List.getElem?_map, List.getElem?_eq_getElem hlt, h3]; rfl
      · simp [DataW.weights, he]
    have := List.all_eq_true.1 hz _ (DataW.weights_mem_each hj hd _ hmem)
    have h4 : elems.length + rest.length = c := by omega
    rw [h4] at this
    simpa using this
end
end Go.Proofs.YtgedpfbokkambaaGreatDoor
end
