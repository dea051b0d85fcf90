/- Lemmas of this proof, laid together: SrtA. -/
import Derived.Test.YtgedpfbokkambaaGreatDoorMg04
import Derived.Test.YtgedpfbokkambaaGreatDoorMg07
import Derived.Sort.Defs
set_option linter.unusedSimpArgs false
set_option linter.unusedVariables false
section
/- Rows of runes of the call's own, and what a swap makes of them. -/
namespace Go.Proofs.YtgedpfbokkambaaGreatDoor
open Go.RowKit
abbrev rV (x : Int) : Value := .int .i32 x
/-- A row of one's own, as an array. -/
structure RwI (w : World) (g n cap : Nat) (d : Array Int) : Prop where
  row : w.ownsRow 0 21 1 (.slice (some ⟨g, 0, none⟩) n cap) n (d.toList.map rV)
theorem RwI.size {w : World} {g n cap : Nat} {d : Array Int} (h : RwI w g n cap d) : d.size = n := by have := h.row.1; simpa using this
theorem RwI.lt {w : World} {g n cap : Nat} {d : Array Int} (h : RwI w g n cap d) : g < w.heap.size := own_lt h.row rfl
theorem RwI.at_ {w : World} {g n cap : Nat} {d : Array Int} (h : RwI w g n cap d) (i : Nat) (hi : i < n) : w.cell? ⟨g, i, none⟩ = some (.int .i32 d[i]!) ∧ w.frozen? ⟨g, i, none⟩ = false := by
  have hs := h.size
  refine ⟨?_, h.row.frozenAt i⟩
  have := h.row.cellAt i (by omega)

  rw [this, List.getElem?_map, List.getElem?_eq_getElem (by simpa using (by omega : i < d.size))]
  simp [getElem!_pos, hs, hi]
theorem RwI.set {w : World} {g n cap : Nat} {d : Array Int} (h : RwI w g n cap d) (i : Nat) (x : Int) : RwI (w.setCell ⟨g, i, none⟩ (.int .i32 x)) g n cap (d.setIfInBounds i x) := by
  refine ⟨?_⟩
  have := (h.row.stored i (rV x)).1
  rw [Array.toList_setIfInBounds, List.map_set]
  exact this
theorem RwI.swp {w : World} {g n cap : Nat} {d : Array Int} (h : RwI w g n cap d) (i j : Nat) : RwI ((w.setCell ⟨g, i, none⟩ (.int .i32 d[j]!)).setCell ⟨g, j, none⟩ (.int .i32 d[i]!)) g n cap (Sort.swp d i j) := (h.set i _).set j _
theorem RwI.ext {w w' : World} {g n cap : Nat} {d : Array Int} (h : RwI w g n cap d) (he : Ext w w') : RwI w' g n cap d := ⟨own_ext h.row he⟩
theorem RwI.frm {S : Nat → Prop} {w w' : World} {g n cap : Nat} {d : Array Int} (h : RwI w g n cap d) (hf : Frm S w w') (ho : ¬ S g) : RwI w' g n cap d := ⟨own_frm h.row hf (fun a ha => by cases ha; exact ho)⟩
abbrev Fg (g : Nat) : World → World → Prop := Frm (fun k => k = g)
theorem fg_swp {g : Nat} {W w : World} (h : Fg g W w) (i j : Nat) (u v : Value) : Fg g W ((w.setCell ⟨g, i, none⟩ u).setCell ⟨g, j, none⟩ v) := (h.trans (Frm.set _ (.inl rfl))).trans (Frm.set _ (.inl rfl))
theorem swp_size {d : Array Int} {i j : Nat} : (Sort.swp d i j).size = d.size := by unfold Sort.swp; simp
theorem RwI.fam {w : World} {g n cap : Nat} {d : Array Int} (h : RwI w g n cap d) : (∀ t, t < n → w.cell? ⟨g, t, none⟩ = some (.int .i32 d[t]!)) ∧ (∀ t, t < n → w.frozen? ⟨g, t, none⟩ = false) :=
  ⟨fun t ht => (h.at_ t ht).1, fun t ht => (h.at_ t ht).2⟩
theorem RwI.drewN {w : World} {g n cap : Nat} {d : Array Int} (h : RwI w g n cap d) (q : Nat) : RwI (w.drewN q) g n cap d := h.ext (ext_drewN (ext_refl w) q)
theorem fg_drewN {g : Nat} {W w : World} (h : Fg g W w) (q : Nat) : Fg g W (w.drewN q) := h.trans (Frm.of (ext_drewN (ext_refl w) q))
theorem RwI.swpd {w : World} {g n cap : Nat} {d : Array Int} (h : RwI w g n cap d) (q i j : Nat) : RwI ((((w.drewN q).setCell ⟨g, i, none⟩ (.int .i32 d[j]!)).setCell ⟨g, j, none⟩ (.int .i32 d[i]!)).drew) g n cap (Sort.swp d i j) := ((h.drewN q).swp i j).ext (ext_drew (ext_refl _))
theorem fg_swpd {g : Nat} {W w : World} (h : Fg g W w) (q i j : Nat) (u v : Value) : Fg g W ((((w.drewN q).setCell ⟨g, i, none⟩ u).setCell ⟨g, j, none⟩ v).drew) := (fg_swp (fg_drewN h q) i j u v).trans (Frm.of (ext_drew (ext_refl _)))
end Go.Proofs.YtgedpfbokkambaaGreatDoor
end
