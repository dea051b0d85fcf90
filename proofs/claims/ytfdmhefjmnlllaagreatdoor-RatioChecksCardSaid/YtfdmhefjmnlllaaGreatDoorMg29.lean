/- Lemmas of this proof, laid together: BkA, BkB, BkC, BkE, BkD, BkF, BkG, BkH. -/
import Derived.Test.YtfdmhefjmnlllaaGreatDoorMg21
import Derived.Test.YtfdmhefjmnlllaaGreatDoorMg28
import Derived.Deep.Heap
import Derived.Deep.AppendLies
import Derived.Deep.DeepCutAuto
import Derived.Deep.RegionWith
import Derived.Deep.RegionLaw
import Derived.ArgAppend
import Derived.Deep.LoopGhost
set_option linter.unusedSimpArgs false
set_option linter.unusedVariables false
section
/- The second law's book: worlds in which some blocks only have turned. -/
namespace Go.Proofs.YtfdmhefjmnlllaaGreatDoor
open Go.RowKit
structure Frm (S : Nat → Prop) (w w' : World) : Prop where
 os : w'.os = w.os
 tape : w'.tape = w.tape
 output : w'.output = w.output
 size : w.heap.size ≤ w'.heap.size
 block : ∀ k, k < w.heap.size → ¬ S k → w'.heap[k]? = w.heap[k]?
theorem Frm.refl (S : Nat → Prop) (w : World) : Frm S w w := ⟨rfl, rfl, rfl, Nat.le_refl _, fun _ _ _ => rfl⟩
theorem Frm.trans {S : Nat → Prop} {u v w : World} (h : Frm S u v) (k : Frm S v w) : Frm S u w :=
 ⟨k.os.trans h.os, k.tape.trans h.tape, k.output.trans h.output, Nat.le_trans h.size k.size, fun i hi hs => (k.block i (Nat.lt_of_lt_of_le hi h.size) hs).trans (h.block i hi hs)⟩
theorem Frm.trans' {S T : Nat → Prop} {u v w : World} (h : Frm S u v) (k : Frm T v w) (hT : ∀ i, T i → S i ∨ u.heap.size ≤ i) : Frm S u w :=
 ⟨k.os.trans h.os, k.tape.trans h.tape, k.output.trans h.output, Nat.le_trans h.size k.size, fun i hi hs => (k.block i (Nat.lt_of_lt_of_le hi h.size) (fun ht => by rcases hT i ht with h1 | h1; exact hs h1; omega)).trans (h.block i hi hs)⟩
theorem Frm.of {S : Nat → Prop} {w w' : World} (h : Ext w w') : Frm S w w' := ⟨h.os, h.tape, h.output, h.size, fun i hi _ => h.block i hi⟩
theorem Frm.mono {S T : Nat → Prop} {w w' : World} (h : Frm S w w') (hT : ∀ k, S k → T k) : Frm T w w' := ⟨h.os, h.tape, h.output, h.size, fun i hi hs => h.block i hi (fun h1 => hs (hT i h1))⟩
theorem Frm.grown {S : Nat → Prop} {w w' : World} {r : Option Nat} (h : w.grownBy w' r) (hr : ∀ k, r = some k → S k) : Frm S w w' := ⟨h.os, h.tape, h.output, h.size, fun i hi hs => h.block i hi (fun e => hs (hr i e.symm))⟩
theorem Frm.set {S : Nat → Prop} {w : World} {b o : Nat} (v : Value) (hb : S b ∨ w.heap.size ≤ b) : Frm S w (w.setCell ⟨b, o, none⟩ v) :=
 ⟨rfl, rfl, rfl, by simp, fun i hi hs => Go.Deep.blk_setCell_other w ⟨b, o, none⟩ v i (fun e => by rcases hb with h1 | h1; exact hs (e ▸ h1); simp only at e; omega)⟩
theorem Frm.ext {S : Nat → Prop} {W w w' : World} (h : Frm S w w') (hE : Ext W w) (hS : ∀ k, S k → W.heap.size ≤ k) : Ext W w' :=
 ⟨h.os.trans hE.os, h.tape.trans hE.tape, h.output.trans hE.output, Nat.le_trans hE.size h.size, fun i hi => (h.block i (Nat.lt_of_lt_of_le hi hE.size) (fun hs => by have := hS i hs; omega)).trans (hE.block i hi)⟩
theorem Frm.cell {S : Nat → Prop} {w w' : World} (h : Frm S w w') {p : Addr} (hp : p.block < w.heap.size) (hs : ¬ S p.block) : w'.cell? p = w.cell? p := World.cell?_of_block (w := w) (h.block p.block hp hs)
theorem Frm.frozen {S : Nat → Prop} {w w' : World} (h : Frm S w w') {p : Addr} (hp : p.block < w.heap.size) (hs : ¬ S p.block) : w'.frozen? p = w.frozen? p := World.frozen?_of_block (w := w) (h.block p.block hp hs)
theorem Rd.frm {S : Nat → Prop} {w w' : World} {A : Option Addr} {n c : Nat} {xs : List Nat} (h : Rd w A n c xs) (hf : Frm S w w') (ho : ∀ a, A = some a → n ≠ 0 → ¬ S a.block) : Rd w' A n c xs :=
 ⟨h.len, h.cap, h.mx, h.lb, h.none_, h.at_, fun b off hA i hi => by
  obtain ⟨h1, h2⟩ := h.cells b off hA i hi
  have h3 := ho _ hA (by rw [← h.len]; omega)
  exact ⟨Nat.lt_of_lt_of_le h1 hf.size, (hf.cell (p := ⟨b, off + i, none⟩) h1 h3).trans h2⟩⟩
theorem own_frm {S : Nat → Prop} {w w' : World} {e : TypeId} {size : Nat} {A : Option Addr} {c m n : Nat} {xs : List Value} (h : w.ownsRow 0 e size (.slice A m c) n xs) (hf : Frm S w w') (ho : ∀ a, A = some a → ¬ S a.block) : w'.ownsRow 0 e size (.slice A m c) n xs :=
 own_still h (fun a ha => hf.block _ (own_lt h ha) (ho a ha))
def InBook (β : Nat) (GA WA LA : Option Addr) (k : Nat) : Prop := k = β ∨ (∃ a, GA = some a ∧ a.block = k) ∨ (∃ a, WA = some a ∧ a.block = k) ∨ (∃ a, LA = some a ∧ a.block = k)
structure BookIs (w : World) (β : Nat) (GA WA LA : Option Addr) (n q m gc wc lc : Nat) (gs ws ls : List Value) : Prop where
 lt : β < w.heap.size
 c0 : w.cell? ⟨β, 0, none⟩ = some (.slice GA n gc)
 c1 : w.cell? ⟨β, 1, none⟩ = some (.slice WA q wc)
 c2 : w.cell? ⟨β, 2, none⟩ = some (.slice LA m lc)
 c3 : w.cell? ⟨β, 3, none⟩ = some (.bool false)
 f0 : w.frozen? ⟨β, 0, none⟩ = false
 f1 : w.frozen? ⟨β, 1, none⟩ = false
 f2 : w.frozen? ⟨β, 2, none⟩ = false
 og : w.ownsRow 0 26 3 (.slice GA n gc) n gs
 ow : w.ownsRow 0 26 3 (.slice WA q wc) q ws
 ol : w.ownsRow 0 22 1 (.slice LA m lc) m ls
 dG : ∀ a, GA = some a → a.block ≠ β
 dW : ∀ a, WA = some a → a.block ≠ β
 dL : ∀ a, LA = some a → a.block ≠ β
 dGW : ∀ a b, GA = some a → WA = some b → a.block ≠ b.block
 dGL : ∀ a b, GA = some a → LA = some b → a.block ≠ b.block
 dWL : ∀ a b, WA = some a → LA = some b → a.block ≠ b.block
theorem BookIs.still {w w' : World} {β : Nat} {GA WA LA : Option Addr} {n q m gc wc lc : Nat} {gs ws ls : List Value} (h : BookIs w β GA WA LA n q m gc wc lc gs ws ls) (hs : w.heap.size ≤ w'.heap.size) (hk : ∀ k, k < w.heap.size → InBook β GA WA LA k → w'.heap[k]? = w.heap[k]?) : BookIs w' β GA WA LA n q m gc wc lc gs ws ls := by
 have hb := hk β h.lt (.inl rfl)
 have cc : ∀ o, w'.cell? ⟨β, o, none⟩ = w.cell? ⟨β, o, none⟩ := fun o => World.cell?_of_block (a := ⟨β, o, none⟩) hb
 have ff : ∀ o, w'.frozen? ⟨β, o, none⟩ = w.frozen? ⟨β, o, none⟩ := fun o => World.frozen?_of_block (a := ⟨β, o, none⟩) hb
 exact ⟨Nat.lt_of_lt_of_le h.lt hs, (cc 0).trans h.c0, (cc 1).trans h.c1, (cc 2).trans h.c2, (cc 3).trans h.c3, (ff 0).trans h.f0, (ff 1).trans h.f1, (ff 2).trans h.f2,
  own_still h.og (fun a ha => hk _ (own_lt h.og ha) (.inr (.inl ⟨a, ha, rfl⟩))), own_still h.ow (fun a ha => hk _ (own_lt h.ow ha) (.inr (.inr (.inl ⟨a, ha, rfl⟩)))), own_still h.ol (fun a ha => hk _ (own_lt h.ol ha) (.inr (.inr (.inr ⟨a, ha, rfl⟩)))),
  h.dG, h.dW, h.dL, h.dGW, h.dGL, h.dWL⟩
theorem BookIs.ext {w w' : World} {β : Nat} {GA WA LA : Option Addr} {n q m gc wc lc : Nat} {gs ws ls : List Value} (h : BookIs w β GA WA LA n q m gc wc lc gs ws ls) (he : Ext w w') : BookIs w' β GA WA LA n q m gc wc lc gs ws ls :=
 h.still he.size (fun k hk _ => he.block k hk)
theorem BookIs.frm {S : Nat → Prop} {w w' : World} {β : Nat} {GA WA LA : Option Addr} {n q m gc wc lc : Nat} {gs ws ls : List Value} (h : BookIs w β GA WA LA n q m gc wc lc gs ws ls) (hf : Frm S w w') (hS : ∀ k, InBook β GA WA LA k → ¬ S k) : BookIs w' β GA WA LA n q m gc wc lc gs ws ls :=
 h.still hf.size (fun k hk hi => hf.block k hk (hS k hi))
theorem push_got {w1 W w2 : World} {β : Nat} {GA : Option Addr} {n gc g H : Nat} (hl : β < w1.heap.size) (hd : ∀ a, GA = some a → a.block ≠ β) (hE : Ext w1 W) (hg : W.grownBy w2 (Value.slice GA n gc).ownBlock) (hat : (Value.slice GA n gc).ownBlock = some g ∨ g = H) (hH : w1.heap.size ≤ H) :
  (∀ o, w2.cell? ⟨β, o, none⟩ = w1.cell? ⟨β, o, none⟩) ∧ (∀ o, w2.frozen? ⟨β, o, none⟩ = w1.frozen? ⟨β, o, none⟩) ∧ Frm (fun k => ∃ a, GA = some a ∧ a.block = k) w1 w2 ∧ ((∃ a, GA = some a ∧ a.block = g) ∨ w1.heap.size ≤ g) ∧ g ≠ β := by
 have hF : Frm (fun k => ∃ a, GA = some a ∧ a.block = k) w1 w2 := (Frm.of hE).trans (Frm.grown hg (fun k hk => by
  cases GA with
  | none => cases hk
  | some a => exact ⟨a, rfl, Option.some.inj hk⟩))
 have hnb : ¬ ∃ a, GA = some a ∧ a.block = β := fun ⟨a, ha, hb⟩ => hd a ha hb
 have hgg : (∃ a, GA = some a ∧ a.block = g) ∨ w1.heap.size ≤ g := by
  rcases hat with h | h
  ·cases GA with
   | none => cases h
   | some a => exact .inl ⟨a, rfl, Option.some.inj h⟩
  ·exact .inr (by omega)
 refine ⟨fun o => hF.cell (p := ⟨β, o, none⟩) hl hnb, fun o => hF.frozen (p := ⟨β, o, none⟩) hl hnb, hF, hgg, ?_⟩
 rcases hgg with ⟨a, ha, hb⟩ | h
 ·rw [← hb]; exact hd a ha
 ·omega
abbrev Turn (w1 wc : World) (β : Nat) (GA WA LA GA' WA' LA' : Option Addr) : Prop := Frm (InBook β GA WA LA) w1 wc ∧ ∀ k, InBook β GA' WA' LA' k → InBook β GA WA LA k ∨ w1.heap.size ≤ k
section
variable {w1 W w2 : World} {β : Nat} {GA WA LA : Option Addr} {n q m gc wc lc : Nat} {gs ws ls : List Value}
theorem own_other {e : TypeId} {size : Nat} {A XA : Option Addr} {c k : Nat} {xs : List Value} (h : w1.ownsRow 0 e size (.slice A k c) k xs) (hF : Frm (fun k => ∃ a, XA = some a ∧ a.block = k) w1 w2) (hd : ∀ a b, A = some a → XA = some b → a.block ≠ b.block) (hb : ∀ a, A = some a → a.block ≠ β) (o : Nat) (v : Value) :
  (w2.setCell ⟨β, o, none⟩ v).ownsRow 0 e size (.slice A k c) k xs :=
 own_frm (own_frm h hF (fun a ha ⟨b, hb, he⟩ => hd a b ha hb he.symm)) (Frm.set (S := fun k => k = β) v (.inl rfl)) (fun a ha e => hb a ha e)
theorem set_cells {o : Nat} (v : Value) {u : Value} (hc : w2.cell? ⟨β, o, none⟩ = some u) : (w2.setCell ⟨β, o, none⟩ v).cell? ⟨β, o, none⟩ = some v ∧ ∀ p, p ≠ o → (w2.setCell ⟨β, o, none⟩ v).cell? ⟨β, p, none⟩ = w2.cell? ⟨β, p, none⟩ :=
 ⟨World.cell?_setCell_same _ _ _ hc, fun p hp => World.cell?_setCell_other _ _ _ _ (by intro e; simp at e <;> first | exact hp e | exact hp e.symm)⟩
theorem set_frozen {o : Nat} (v : Value) (p : Addr) : (w2.setCell ⟨β, o, none⟩ v).frozen? p = w2.frozen? p := by simp [go_sem]
theorem push_G {g cap k H : Nat} {news : List Value} (h : BookIs w1 β GA WA LA n q m gc wc lc gs ws ls) (hE : Ext w1 W) (hg : W.grownBy w2 (Value.slice GA n gc).ownBlock) (hat : (Value.slice GA n gc).ownBlock = some g ∨ g = H) (hH : w1.heap.size ≤ H) (ho : w2.ownsRow 0 26 3 (.slice (some ⟨g, 0, none⟩) k cap) k (gs ++ news)) :
  BookIs (w2.setCell ⟨β, 0, none⟩ (.slice (some ⟨g, 0, none⟩) k cap)) β (some ⟨g, 0, none⟩) WA LA k q m cap wc lc (gs ++ news) ws ls ∧ Turn w1 (w2.setCell ⟨β, 0, none⟩ (.slice (some ⟨g, 0, none⟩) k cap)) β GA WA LA (some ⟨g, 0, none⟩) WA LA := by
 obtain ⟨hc, hf, hF, hgg, hne⟩ := push_got h.lt h.dG hE hg hat hH
 obtain ⟨s0, s1⟩ := set_cells (.slice (some ⟨g, 0, none⟩) k cap) ((hc 0).trans h.c0)
 have hgW : ∀ a, WA = some a → g ≠ a.block := fun a ha => by
  rcases hgg with ⟨b, hb, e⟩ | e
  ·rw [← e]; exact h.dGW b a hb ha
  ·have := own_lt h.ow ha; omega
 have hgL : ∀ a, LA = some a → g ≠ a.block := fun a ha => by
  rcases hgg with ⟨b, hb, e⟩ | e
  ·rw [← e]; exact h.dGL b a hb ha
  ·have := own_lt h.ol ha; omega
 refine ⟨⟨by simpa using Nat.lt_of_lt_of_le h.lt hF.size, s0, (s1 1 (by decide)).trans ((hc 1).trans h.c1), (s1 2 (by decide)).trans ((hc 2).trans h.c2), (s1 3 (by decide)).trans ((hc 3).trans h.c3), (set_frozen _ _).trans ((hf 0).trans h.f0), (set_frozen _ _).trans ((hf 1).trans h.f1), (set_frozen _ _).trans ((hf 2).trans h.f2),
  own_far ho _ _ (by simp [Value.ownBlock]; omega), own_other h.ow hF (fun a b ha hb => (h.dGW b a hb ha).symm) h.dW _ _, own_other h.ol hF (fun a b ha hb => (h.dGL b a hb ha).symm) h.dL _ _,
  fun a ha => by cases ha; exact hne, h.dW, h.dL, fun a b ha hb => by cases ha; exact hgW b hb, fun a b ha hb => by cases ha; exact hgL b hb, h.dWL⟩,
  (hF.mono fun k hk => .inr (.inl hk)).trans (Frm.set _ (.inl (.inl rfl))), fun k hk => ?_⟩
 rcases hk with e | ⟨a, ha, e⟩ | e | e
 ·exact .inl (.inl e)
 ·cases ha
  rcases hgg with e2 | e2
  ·exact .inl (.inr (.inl (by rw [← e]; exact e2)))
  ·exact .inr (by rw [← e]; exact e2)
 ·exact .inl (.inr (.inr (.inl e)))
 ·exact .inl (.inr (.inr (.inr e)))
theorem push_W {g cap k H : Nat} {news : List Value} (h : BookIs w1 β GA WA LA n q m gc wc lc gs ws ls) (hE : Ext w1 W) (hg : W.grownBy w2 (Value.slice WA q wc).ownBlock) (hat : (Value.slice WA q wc).ownBlock = some g ∨ g = H) (hH : w1.heap.size ≤ H) (ho : w2.ownsRow 0 26 3 (.slice (some ⟨g, 0, none⟩) k cap) k (ws ++ news)) :
  BookIs (w2.setCell ⟨β, 1, none⟩ (.slice (some ⟨g, 0, none⟩) k cap)) β GA (some ⟨g, 0, none⟩) LA n k m gc cap lc gs (ws ++ news) ls ∧ Turn w1 (w2.setCell ⟨β, 1, none⟩ (.slice (some ⟨g, 0, none⟩) k cap)) β GA WA LA GA (some ⟨g, 0, none⟩) LA := by
 obtain ⟨hc, hf, hF, hgg, hne⟩ := push_got h.lt h.dW hE hg hat hH
 obtain ⟨s0, s1⟩ := set_cells (.slice (some ⟨g, 0, none⟩) k cap) ((hc 1).trans h.c1)
 have hgG : ∀ a, GA = some a → a.block ≠ g := fun a ha => by
  rcases hgg with ⟨b, hb, e⟩ | e
  ·rw [← e]; exact h.dGW a b ha hb
  ·have := own_lt h.og ha; omega
 have hgL : ∀ a, LA = some a → g ≠ a.block := fun a ha => by
  rcases hgg with ⟨b, hb, e⟩ | e
  ·rw [← e]; exact h.dWL b a hb ha
  ·have := own_lt h.ol ha; omega
 refine ⟨⟨by simpa using Nat.lt_of_lt_of_le h.lt hF.size, (s1 0 (by decide)).trans ((hc 0).trans h.c0), s0, (s1 2 (by decide)).trans ((hc 2).trans h.c2), (s1 3 (by decide)).trans ((hc 3).trans h.c3), (set_frozen _ _).trans ((hf 0).trans h.f0), (set_frozen _ _).trans ((hf 1).trans h.f1), (set_frozen _ _).trans ((hf 2).trans h.f2),
  own_other h.og hF (fun a b ha hb => h.dGW a b ha hb) h.dG _ _, own_far ho _ _ (by simp [Value.ownBlock]; omega), own_other h.ol hF (fun a b ha hb => (h.dWL b a hb ha).symm) h.dL _ _,
  h.dG, fun a ha => by cases ha; exact hne, h.dL, fun a b ha hb => by cases hb; exact hgG a ha, h.dGL, fun a b ha hb => by cases ha; exact hgL b hb⟩,
  (hF.mono fun k hk => .inr (.inr (.inl hk))).trans (Frm.set _ (.inl (.inl rfl))), fun k hk => ?_⟩
 rcases hk with e | e | ⟨a, ha, e⟩ | e
 ·exact .inl (.inl e)
 ·exact .inl (.inr (.inl e))
 ·cases ha
  rcases hgg with e2 | e2
  ·exact .inl (.inr (.inr (.inl (by rw [← e]; exact e2))))
  ·exact .inr (by rw [← e]; exact e2)
 ·exact .inl (.inr (.inr (.inr e)))
theorem push_L {g cap k H : Nat} {news : List Value} (h : BookIs w1 β GA WA LA n q m gc wc lc gs ws ls) (hE : Ext w1 W) (hg : W.grownBy w2 (Value.slice LA m lc).ownBlock) (hat : (Value.slice LA m lc).ownBlock = some g ∨ g = H) (hH : w1.heap.size ≤ H) (ho : w2.ownsRow 0 22 1 (.slice (some ⟨g, 0, none⟩) k cap) k (ls ++ news)) :
  BookIs (w2.setCell ⟨β, 2, none⟩ (.slice (some ⟨g, 0, none⟩) k cap)) β GA WA (some ⟨g, 0, none⟩) n q k gc wc cap gs ws (ls ++ news) ∧ Turn w1 (w2.setCell ⟨β, 2, none⟩ (.slice (some ⟨g, 0, none⟩) k cap)) β GA WA LA GA WA (some ⟨g, 0, none⟩) := by
 obtain ⟨hc, hf, hF, hgg, hne⟩ := push_got h.lt h.dL hE hg hat hH
 obtain ⟨s0, s1⟩ := set_cells (.slice (some ⟨g, 0, none⟩) k cap) ((hc 2).trans h.c2)
 have hgG : ∀ a, GA = some a → a.block ≠ g := fun a ha => by
  rcases hgg with ⟨b, hb, e⟩ | e
  ·rw [← e]; exact h.dGL a b ha hb
  ·have := own_lt h.og ha; omega
 have hgW : ∀ a, WA = some a → a.block ≠ g := fun a ha => by
  rcases hgg with ⟨b, hb, e⟩ | e
  ·rw [← e]; exact h.dWL a b ha hb
  ·have := own_lt h.ow ha; omega
 refine ⟨⟨by simpa using Nat.lt_of_lt_of_le h.lt hF.size, (s1 0 (by decide)).trans ((hc 0).trans h.c0), (s1 1 (by decide)).trans ((hc 1).trans h.c1), s0, (s1 3 (by decide)).trans ((hc 3).trans h.c3), (set_frozen _ _).trans ((hf 0).trans h.f0), (set_frozen _ _).trans ((hf 1).trans h.f1), (set_frozen _ _).trans ((hf 2).trans h.f2),
  own_other h.og hF (fun a b ha hb => h.dGL a b ha hb) h.dG _ _, own_other h.ow hF (fun a b ha hb => h.dWL a b ha hb) h.dW _ _, own_far ho _ _ (by simp [Value.ownBlock]; omega),
  h.dG, h.dW, fun a ha => by cases ha; exact hne, h.dGW, fun a b ha hb => by cases hb; exact hgG a ha, fun a b ha hb => by cases hb; exact hgW a ha⟩,
  (hF.mono fun k hk => .inr (.inr (.inr hk))).trans (Frm.set _ (.inl (.inl rfl))), fun k hk => ?_⟩
 rcases hk with e | e | e | ⟨a, ha, e⟩
 ·exact .inl (.inl e)
 ·exact .inl (.inr (.inl e))
 ·exact .inl (.inr (.inr (.inl e)))
 ·cases ha
  rcases hgg with e2 | e2
  ·exact .inl (.inr (.inr (.inr (by rw [← e]; exact e2))))
  ·exact .inr (by rw [← e]; exact e2)
end
theorem ratio_under : Tryz.prog.underlying 31 = some (.slice 26) := by kernel_rfl
theorem ratio_info : (Tryz.prog.info? 26).map (fun i => (i.zero, i.size, i.bytes)) = some (some (.agg #[.bool false, .slice none 0 0, .slice none 0 0]), 3, 56) := by kernel_rfl
theorem rows_under : Tryz.prog.underlying 32 = some (.slice 22) := by kernel_rfl
theorem rows_info : (Tryz.prog.info? 22).map (fun i => (i.zero, i.size, i.bytes)) = some (some (.slice none 0 0), 1, 24) := by kernel_rfl
end Go.Proofs.YtfdmhefjmnlllaaGreatDoor
end
section
/- The second law's book: a fraction is added. -/
namespace Go.Proofs.YtfdmhefjmnlllaaGreatDoor
open Go.RowKit
attribute [local go_sem] sz2 sz3 sz4 sz5 sz6 sz7 sz8
set_option maxHeartbeats 4000000
set_option maxRecDepth 100000
attribute [local irreducible] Calls
abbrev ratC (s : Bool) (A : Option Addr) (n c : Nat) (D : Option Addr) (m k : Nat) : List Value := [.bool s, .slice A n c, .slice D m k]
theorem adds_core (β : Nat) (GA WA LA : Option Addr) (n m gc wc lc : Nat) (gs ws ls : List Value) (s : Bool) (A : Option Addr) (na ca : Nat) (D : Option Addr) (md cd : Nat) (t : Bool) (B : Option Addr) (nb cb : Nat) (C : Option Addr) (mc cc : Nat) (E : Int) (w : World)
  (hb : BookIs w β GA WA LA n n m gc wc lc gs ws ls) (hn : n ≤ 1000) (hm : m ≤ 1000)
  (kS : ∀ w', Ext w w' → Calls Tryz.prog 38 #[ratV s A na ca D md cd, ratV t B nb cb C mc cc] w' fun e w'' => e = .returned (.bool true) ∧ Ext w' w'') :
  Calls Tryz.prog 11 #[.pointer (some ⟨β, 0, none⟩), ratV s A na ca D md cd, .int .i64 E, ratV t B nb cb C mc cc, .int .i64 E] w fun e w' => e = .returned (.tuple #[]) ∧ ∃ (GA' WA' LA' : Option Addr) (gc' wc' lc' : Nat),
   Hid (BookIs w' β GA' WA' LA' (n + 1) (n + 1) (m + 2) gc' wc' lc' (gs ++ ratC s A na ca D md cd) (ws ++ ratC t B nb cb C mc cc) (ls ++ [.slice A na ca, .slice D md cd])) ∧ Hid (Frm (InBook β GA WA LA) w w') ∧ Hid (∀ k, InBook β GA' WA' LA' k → InBook β GA WA LA k ∨ w.heap.size ≤ k) := by
 have HB := Lib.hid hb
 have hlt := hb.lt
 clear hb
 go_enter Tryz.func11, Tryz.ntmps11
 go_upto_region 4 with (first
  | (go_at_call 38; (with_reducible refine (kS _ xcl).mono ?_); rintro e w1 ⟨rfl, xb1⟩; obtain ⟨xc1, xf1, xl1, xz1⟩ := jU xb1; (try simp at xz1); obtain ⟨l1_0, r1_0, f1_0, r1_0_1, f1_0_1, r1_0_2, f1_0_2⟩ := kq3 xb1 (w.heap.size); obtain ⟨l1_1, r1_1, f1_1, r1_1_1, f1_1_1, r1_1_2, f1_1_2⟩ := kq3 xb1 (w.heap.size + 1))
  )
 have hE1 : Hid (Ext w w1) := by show Ext w w1; exact xcl
 have hB1 := Lib.hid (HB.out.ext hE1.out)
 have hl1 := hB1.out.lt
 have hzz : w.heap.size + 1 < w1.heap.size := by assumption
 have y0 := hB1.out.c0
 have y0f := hB1.out.f0
 have hr0 : w1.cell? ⟨w.heap.size, 0, none⟩ = some (.bool s) ∧ w1.cell? ⟨w.heap.size, 1, none⟩ = some (.slice A na ca) ∧ w1.cell? ⟨w.heap.size, 2, none⟩ = some (.slice D md cd) := by simp [go_sem, *]
 have hr1 : w1.cell? ⟨w.heap.size + 1, 0, none⟩ = some (.bool t) ∧ w1.cell? ⟨w.heap.size + 1, 1, none⟩ = some (.slice B nb cb) ∧ w1.cell? ⟨w.heap.size + 1, 2, none⟩ = some (.slice C mc cc) := by simp [go_sem, *]
 have hR0 := Lib.hid hr0
 have hR1 := Lib.hid hr1
 have hno : ∀ k, w.heap.size ≤ k → k < w1.heap.size → ¬ InBook β GA WA LA k := by
  intro k hk _ h
  rcases h with e | ⟨a, ha, e⟩ | ⟨a, ha, e⟩ | ⟨a, ha, e⟩
  ·omega
  ·have := own_lt HB.out.og ha; omega
  ·have := own_lt HB.out.ow ha; omega
  ·have := own_lt HB.out.ol ha; omega
 have hNO := Lib.hid hno
 clear hr1 hno
 obtain ⟨ir, hir, hiz, his, hib⟩ := info_parts ratio_info
 obtain ⟨il, hil, hilz, hils, hilb⟩ := info_parts rows_info
 go_cut [] (fun wx => ∃ (g cap : Nat), Hid (BookIs wx β (some ⟨g, 0, none⟩) WA LA (n + 1) n m cap wc lc (gs ++ ratC s A na ca D md cd) ws ls) ∧ Hid (Turn w1 wx β GA WA LA (some ⟨g, 0, none⟩) WA LA))
 case first =>
  go_region_law (refine step_append_lies _ rfl (.tmp 28) (.tmp 30) 31 rfl 0 26 ir _ 3 56 ratio_under hir hiz his hib rfl (by decide) (.slice GA n gc) n gs (by simp [Act.eval, Act.put]) (own_ext hB1.out.og xcl) ⟨w1.heap.size, 0, none⟩ 1 1 (ratC s A na ca D md cd) (by simp [Act.eval, Act.put]) rfl (World.news_of_block (cs := #[.bool s, .slice A na ca, .slice D md cd]) (t := 26) (fr := (0, 0)) (heap_alloc_new _ _)) (by simp [Value.oneCell']) (by decide) (by unfold maxLen; omega) (by omega) (Nat.zero_le _) (w1.heap.size + 1) (by simp) ?_; intro g cap w2 ho2 hg2 hat2 hlt2; have hp := push_G hB1.out (show Ext w1 _ by exact xcl) hg2 hat2 (Nat.le_succ _) ho2; have hq := push_got hl1 hB1.out.dG (show Ext w1 _ by exact xcl) hg2 hat2 (Nat.le_succ _); have z0 := (hq.1 0).trans y0; have z0f := (hq.2.1 0).trans y0f; have HP := Lib.hid hp; clear hp hq ho2 hg2 hat2)
  all_goals
   go_wp2_with fail
   go_meet
   case rel => exact ⟨g, cap, HP.out.1, HP.out.2⟩
 case rest =>
  obtain ⟨g4, cap4, hB4, hT4⟩ := hcut
  obtain ⟨w4, rfl⟩ : ∃ u, u = wc := ⟨wc, rfl⟩
  have hl4 := hB4.out.lt
  have y0 := hB4.out.c1
  have y0f := hB4.out.f1
  have cB : ∀ k, w.heap.size ≤ k → k < w1.heap.size → ∀ o, w4.cell? ⟨k, o, none⟩ = w1.cell? ⟨k, o, none⟩ := fun k h1 h2 o => hT4.out.1.cell (p := ⟨k, o, none⟩) h2 (hNO.out k h1 h2)
  have hr1 : w4.cell? ⟨w.heap.size + 1, 0, none⟩ = some (.bool t) ∧ w4.cell? ⟨w.heap.size + 1, 1, none⟩ = some (.slice B nb cb) ∧ w4.cell? ⟨w.heap.size + 1, 2, none⟩ = some (.slice C mc cc) := ⟨(cB _ (by omega) hzz 0).trans hR1.out.1, (cB _ (by omega) hzz 1).trans hR1.out.2.1, (cB _ (by omega) hzz 2).trans hR1.out.2.2⟩
  have hr0 : w4.cell? ⟨w.heap.size, 0, none⟩ = some (.bool s) ∧ w4.cell? ⟨w.heap.size, 1, none⟩ = some (.slice A na ca) ∧ w4.cell? ⟨w.heap.size, 2, none⟩ = some (.slice D md cd) := ⟨(cB _ (by omega) (by omega) 0).trans hR0.out.1, (cB _ (by omega) (by omega) 1).trans hR0.out.2.1, (cB _ (by omega) (by omega) 2).trans hR0.out.2.2⟩
  have hR0' := Lib.hid hr0
  have hno4 : ∀ k, w.heap.size ≤ k → k < w1.heap.size → ¬ InBook β (some ⟨g4, 0, none⟩) WA LA k := fun k h1 h2 h => by
   rcases hT4.out.2 k h with h3 | h3
   ·exact hNO.out k h1 h2 h3
   ·omega
  have hNO4 := Lib.hid hno4
  have hz4 : w1.heap.size ≤ w4.heap.size := hT4.out.1.size
  clear hr0 cB hno4
  go_upto_region 5 with fail
  go_cut [] (fun wx => ∃ (g cap : Nat), Hid (BookIs wx β (some ⟨g4, 0, none⟩) (some ⟨g, 0, none⟩) LA (n + 1) (n + 1) m cap4 cap lc (gs ++ ratC s A na ca D md cd) (ws ++ ratC t B nb cb C mc cc) ls) ∧ Hid (Turn w4 wx β (some ⟨g4, 0, none⟩) WA LA (some ⟨g4, 0, none⟩) (some ⟨g, 0, none⟩) LA))
  case first =>
   go_region_law (refine step_append_lies _ rfl (.tmp 38) (.tmp 40) 31 rfl 0 26 ir _ 3 56 ratio_under hir hiz his hib rfl (by decide) (.slice WA n wc) n ws (by simp [Act.eval, Act.put]) (own_ext hB4.out.ow xcl) ⟨w4.heap.size, 0, none⟩ 1 1 (ratC t B nb cb C mc cc) (by simp [Act.eval, Act.put]) rfl (World.news_of_block (cs := #[.bool t, .slice B nb cb, .slice C mc cc]) (t := 26) (fr := (0, 0)) (heap_alloc_new _ _)) (by simp [Value.oneCell']) (by decide) (by unfold maxLen; omega) (by omega) (Nat.zero_le _) (w4.heap.size + 1) (by simp) ?_; intro g cap w2 ho2 hg2 hat2 hlt2; have hp := push_W hB4.out (show Ext w4 _ by exact xcl) hg2 hat2 (Nat.le_succ _) ho2; have hq := push_got hl4 hB4.out.dW (show Ext w4 _ by exact xcl) hg2 hat2 (Nat.le_succ _); have z0 := (hq.1 1).trans y0; have z0f := (hq.2.1 1).trans y0f; have HP := Lib.hid hp; clear hp hq ho2 hg2 hat2)
   all_goals
    go_wp2_with fail
    go_meet
    case rel => exact ⟨g, cap, HP.out.1, HP.out.2⟩
  case rest =>
   obtain ⟨g5, cap5, hB5, hT5⟩ := hcut
   obtain ⟨w5, rfl⟩ : ∃ u, u = wc := ⟨wc, rfl⟩
   have hl5 := hB5.out.lt
   have y0 := hB5.out.c2
   have y0f := hB5.out.f2
   have cB : ∀ o, w5.cell? ⟨w.heap.size, o, none⟩ = w4.cell? ⟨w.heap.size, o, none⟩ := fun o => hT5.out.1.cell (p := ⟨w.heap.size, o, none⟩) (show w.heap.size < w4.heap.size by omega) (hNO4.out _ (Nat.le_refl _) (by omega))
   have hr0 : w5.cell? ⟨w.heap.size, 1, none⟩ = some (.slice A na ca) ∧ w5.cell? ⟨w.heap.size, 2, none⟩ = some (.slice D md cd) := ⟨(cB 1).trans hR0'.out.2.1, (cB 2).trans hR0'.out.2.2⟩
   clear hr1 cB
   go_upto_region 6 with fail
   go_region_law (refine step_append_lies _ rfl (.tmp 48) (.tmp 55) 32 rfl 0 22 il _ 1 24 rows_under hil hilz hils hilb rfl (by decide) (.slice LA m lc) m ls (by simp [Act.eval, Act.put]) (own_ext hB5.out.ol xcl) ⟨w5.heap.size, 0, none⟩ 2 2 [.slice A na ca, .slice D md cd] (by simp [Act.eval, Act.put]) rfl (World.news_of_block (cs := #[.slice A na ca, .slice D md cd]) (t := 22) (fr := (0, 0)) (heap_alloc_new _ _)) (by simp [Value.oneCell']) (by decide) (by unfold maxLen; omega) (by omega) (Nat.zero_le _) (w5.heap.size + 1) (by simp) ?_; intro g cap w2 ho2 hg2 hat2 hlt2; have hp := push_L hB5.out (show Ext w5 _ by exact xcl) hg2 hat2 (Nat.le_succ _) ho2; have hq := push_got hl5 hB5.out.dL (show Ext w5 _ by exact xcl) hg2 hat2 (Nat.le_succ _); have z0 := (hq.1 2).trans y0; have z0f := (hq.2.1 2).trans y0f; have HP := Lib.hid hp; clear hp hq ho2 hg2 hat2)
   all_goals
    go_wp2_with fail
    refine bodyPost_end (v := .tuple #[]) (by simp [results, Tryz.results11, go_sem]) rfl ⟨rfl, some ⟨g4, 0, none⟩, some ⟨g5, 0, none⟩, some ⟨g, 0, none⟩, cap4, cap5, cap, HP.out.1, ?_, ?_⟩
    ·exact Lib.hid ((((Frm.of hE1.out).trans hT4.out.1).trans' hT5.out.1 (fun k h => by rcases hT4.out.2 k h with h | h; exact .inl h; exact .inr (by omega))).trans' HP.out.2.1 (fun k h => by
      rcases hT5.out.2 k h with h | h
      ·rcases hT4.out.2 k h with h | h; exact .inl h; exact .inr (by omega)
      ·exact .inr (by omega)))
    ·refine Lib.hid fun k h => ?_
     rcases HP.out.2.2 k h with h | h
     ·rcases hT5.out.2 k h with h | h
      ·rcases hT4.out.2 k h with h | h; exact .inl h; exact .inr (by omega)
      ·exact .inr (by omega)
     ·have := hT5.out.1.size; exact .inr (by omega)
end Go.Proofs.YtfdmhefjmnlllaaGreatDoor
end
section
/- The second law's book: a number is added. -/
namespace Go.Proofs.YtfdmhefjmnlllaaGreatDoor
open Go.RowKit
attribute [local go_sem] sz2 sz3 sz4 sz5 sz6 sz7 sz8
set_option maxHeartbeats 4000000
set_option maxRecDepth 100000
attribute [local irreducible] Calls
theorem number_core (β : Nat) (GA WA LA : Option Addr) (n q m gc wc lc : Nat) (gs ws ls : List Value) (A : Option Addr) (na ca : Nat) (B : Option Addr) (nb cb : Nat) (w : World)
  (hb : BookIs w β GA WA LA n q m gc wc lc gs ws ls) (hm : m ≤ 1000)
  (kS : ∀ w', Ext w w' → Calls Tryz.prog 51 #[natV A na ca, natV B nb cb] w' fun e w'' => e = .returned (.bool true) ∧ Ext w' w'') :
  Calls Tryz.prog 15 #[.pointer (some ⟨β, 0, none⟩), natV A na ca, natV B nb cb] w fun e w' => e = .returned (.tuple #[]) ∧ ∃ (LA' : Option Addr) (lc' : Nat),
   Hid (BookIs w' β GA WA LA' n q (m + 1) gc wc lc' gs ws (ls ++ [.slice A na ca])) ∧ Hid (Turn w w' β GA WA LA GA WA LA') := by
 have HB := Lib.hid hb
 have hlt := hb.lt
 clear hb
 go_enter Tryz.func15, Tryz.ntmps15
 go_upto_region 4 with (first
  | (go_at_call 51; (with_reducible refine (kS _ xcl).mono ?_); rintro e w1 ⟨rfl, xb1⟩; obtain ⟨xc1, xf1, xl1, xz1⟩ := jU xb1; (try simp at xz1); obtain ⟨l1_0, r1_0, f1_0⟩ := kq1 xb1 (w.heap.size); obtain ⟨l1_1, r1_1, f1_1⟩ := kq1 xb1 (w.heap.size + 1))
  )
 have hE1 : Hid (Ext w w1) := by show Ext w w1; exact xcl
 have hB1 := Lib.hid (HB.out.ext hE1.out)
 have hl1 := hB1.out.lt
 have y0 := hB1.out.c2
 have y0f := hB1.out.f2
 obtain ⟨il, hil, hilz, hils, hilb⟩ := info_parts rows_info
 go_region_law (refine step_append_lies _ rfl (.tmp 19) (.tmp 22) 32 rfl 0 22 il _ 1 24 rows_under hil hilz hils hilb rfl (by decide) (.slice LA m lc) m ls (by simp [Act.eval, Act.put]) (own_ext hB1.out.ol xcl) ⟨w1.heap.size, 0, none⟩ 1 1 [.slice A na ca] (by simp [Act.eval, Act.put]) rfl (World.news_of_block (cs := #[.slice A na ca]) (t := 22) (fr := (0, 0)) (heap_alloc_new _ _)) (by simp [Value.oneCell']) (by decide) (by unfold maxLen; omega) (by omega) (Nat.zero_le _) (w1.heap.size + 1) (by simp) ?_; intro g cap w2 ho2 hg2 hat2 hlt2; have hp := push_L hB1.out (show Ext w1 _ by exact xcl) hg2 hat2 (Nat.le_succ _) ho2; have hq := push_got hl1 hB1.out.dL (show Ext w1 _ by exact xcl) hg2 hat2 (Nat.le_succ _); have z0 := (hq.1 2).trans y0; have z0f := (hq.2.1 2).trans y0f; have HP := Lib.hid hp; clear hp hq ho2 hg2 hat2)
 all_goals
  go_wp2_with fail
  refine bodyPost_end (v := .tuple #[]) (by simp [results, Tryz.results15, go_sem]) rfl ⟨rfl, some ⟨g, 0, none⟩, cap, HP.out.1, ?_⟩
  refine Lib.hid ⟨(Frm.of hE1.out).trans HP.out.2.1, fun k h => ?_⟩
  rcases HP.out.2.2 k h with h | h
  ·exact .inl h
  ·have := hE1.out.size; exact .inr (by omega)
end Go.Proofs.YtfdmhefjmnlllaaGreatDoor
end
section
/- The second law's book: a mark behind a full row, or behind a row of one's own. -/
namespace Go.Proofs.YtfdmhefjmnlllaaGreatDoor
open Go.RowKit
theorem own_bas2 {w : World} {base b2 : Nat} {e : TypeId} {size : Nat} {v : Value} {n : Nat} {xs : List Value} (h : w.ownsRow base e size v n xs) (hb : b2 ≤ base) : w.ownsRow b2 e size v n xs := by
 obtain ⟨h1, h2⟩ := h
 refine ⟨h1, ?_⟩
 rcases h2 with h2 | ⟨g, cap, cur, rfl, h0, h3⟩
 ·exact .inl h2
 ·exact .inr ⟨g, cap, cur, rfl, Nat.le_trans hb h0, h3⟩
theorem push_mark {ops : Array Oper} {rest : List Oper} {o : Oper} {a : Act} {Q : Exit → Act → World → Prop} {w : World} (hgd : o.guard = none) (s x : Operand)
  (ho : o.op = .call { callee := .builtin .append, args := #[s, x], argTypes := #[22, 22] })
  {W w0 : World} (ob : Obj) (hw : w = w0.alloc ob) (hW : Ext W w0) {v : Value} {n : Nat} {xs : List Nat} (hown : (∃ A, v = .slice A n n ∧ w0.ownsRow 0 47 1 (.slice A n n) n (xs.map u32V)) ∨ w0.ownsRow W.heap.size 47 1 v n (xs.map u32V)) (hs : a.eval s = v)
  (y : Nat) (ad : Addr) (c : Nat) (hx : a.eval x = .slice (some ad) 1 c) (hnew : w.cell? ad = some (u32V y)) (hn : n ≤ 1000000000)
  (h : ∀ g cap w', Ext W w' → Hid (w'.ownsRow W.heap.size 47 1 (.slice (some ⟨g, 0, none⟩) (n + 1) cap) (n + 1) ((xs ++ [y]).map u32V)) → wpList Tryz.prog ops Q rest (a.put o.dst (.slice (some ⟨g, 0, none⟩) (n + 1) cap)) w') : wpList Tryz.prog ops Q (o :: rest) a w := by
 obtain ⟨i, hi, hz, hsz, hby⟩ := info_parts u32_info
 subst hw
 have hnw : ∀ j u, [u32V y][j]? = some u → (w0.alloc ob).cell? (ad.add j) = some u := by
  intro j u hj
  match j, hj with
  | 0, hj => simp at hj; subst hj; simpa [Addr.add] using hnew
 have hsize : W.heap.size ≤ (w0.alloc ob).heap.size := by have := hW.size; simp; omega
 rcases hown with ⟨A, rfl, ho1⟩ | ho1
 ·have hl : xs.length = n := by have := ho1.1; simpa using this
  have ho2 := ho1.alloc ob
  refine wpList_append_grows _ hgd s x _ ho 47 i _ 1 4 u32_under hi hz hsz hby rfl (by decide) A n n (xs.map u32V) hs ?_ (by simpa using hl) ?_ ad 1 c [u32V y] hx rfl hnw ?_ (by omega) (by unfold maxLen; omega) (by omega) ?_
  ·intro hA
   subst hA
   rcases ho1.2 with ⟨he, h0⟩ | ⟨g, cap, cur, he, _⟩
   ·exact ⟨h0, h0⟩
   ·simp at he
  ·intro b hb j u hj
   have := ho2.cells (g := b.block) (by rw [hb]; rfl) j u hj
   have hb2 : b = ⟨b.block, 0, none⟩ := by
    subst hb
    rcases ho1.2 with ⟨he, _⟩ | ⟨g, cap, cur, he, _⟩
    ·simp at he
    ·simp only [Value.slice.injEq, Option.some.injEq] at he; rw [he.1]
   rw [hb2]; exact this
  ·intro u hu; simp at hu; subst hu; rfl
  ·intro v' w' ho' hg
   obtain ⟨g, cap, rfl, _, _⟩ := ho'.form (by omega)
   refine h g cap w' (ext_grown_none (jA hW _) hg) ?_
   show World.ownsRow _ _ _ _ _ _ _
   have := own_bas2 ho' hsize
   simpa using this
 ·refine wpList_append_lies _ hgd s x _ ho W.heap.size 47 i _ 1 4 u32_under hi hz hsz hby rfl (by decide) v n _ hs (ho1.alloc _) ad 1 c [u32V y] hx rfl hnw ?_ (by decide) (by unfold maxLen; omega) (by omega) hsize _ rfl ?_
  ·intro u hu; simp at hu; subst hu; rfl
  ·intro g cap w' ho' hg _ _
   refine h g cap w' (ext_grown (jA hW _) (ho1.alloc _) (Nat.le_refl _) hg) ?_
   show World.ownsRow _ _ _ _ _ _ _
   simpa using ho'
end Go.Proofs.YtfdmhefjmnlllaaGreatDoor
end
section
/- The second law's book: stands: what was answered is what was wanted. -/
namespace Go.Proofs.YtfdmhefjmnlllaaGreatDoor
open Go.RowKit
attribute [local go_sem] sz2 sz3 sz4 sz5 sz6 sz7 sz8
set_option maxHeartbeats 4000000
set_option maxRecDepth 100000
attribute [local irreducible] Calls
theorem flat_at (f : Nat → List Value) (hf : ∀ i, (f i).length = 3) : ∀ (n i j : Nat), i < n → j < 3 → ((List.range n).flatMap f)[3 * i + j]? = (f i)[j]? := by
 intro n
 induction n with
 | zero => intro i j h; omega
 | succ n ih =>
  intro i j hi hj
  have hl : ((List.range n).flatMap f).length = 3 * n := by
   clear ih hi
   induction n with
   | zero => rfl
   | succ n ih => rw [List.range_succ, List.flatMap_append, List.length_append, ih, List.flatMap_singleton, hf]; omega
  rw [List.range_succ, List.flatMap_append, List.flatMap_singleton]
  by_cases h : i < n
  ·rw [List.getElem?_append_left (by omega), ih i j h hj]
  ·obtain rfl : i = n := by omega
   rw [List.getElem?_append_right (by omega), hl, show 3 * i + j - 3 * i = j by omega]
theorem own_some {w : World} {e : TypeId} {size n c : Nat} {A : Option Addr} {xs : List Value} (h : w.ownsRow 0 e size (.slice A n c) n xs) (hn : 0 < n) : ∃ g, A = some ⟨g, 0, none⟩ := by
 rcases h.2 with ⟨_, h0⟩ | ⟨g, cap, cur, he, _⟩
 ·omega
 ·simp only [Value.slice.injEq] at he
  exact ⟨g, he.1⟩
theorem own_mod {w : World} {e : TypeId} {size n c : Nat} {A : Option Addr} {xs : List Value} (h : w.ownsRow 0 e size (.slice A n c) n xs) : n ≤ c ∧ c ≤ maxLen := by
 rcases h.2 with ⟨he, h0⟩ | ⟨g, cap, cur, he, _, _, h1, h2, _⟩
 ·simp only [Value.slice.injEq] at he; omega
 ·simp only [Value.slice.injEq] at he; omega
abbrev RowO (A : Nat → Option Addr) (N : Nat → Nat) (w : World) (i : Nat) (vs : List Nat) : Prop := w.ownsRow 0 47 1 (.slice (A i) (N i) (N i)) (N i) (vs.map u32V)
abbrev RowB (A : Nat → Option Addr) (m : Nat) (b : Nat) : Prop := ∃ i, i < m ∧ ∃ a, A i = some a ∧ a.block = b
theorem rows_at (f : Nat → Value) {m k : Nat} (h : k < m) : ((List.range m).map f)[k]? = some (f k) := by
 rw [List.getElem?_map, List.getElem?_range h]; rfl
theorem mark_step {vs : List Nat} {j v : Nat} (hj : j < vs.length) (h : vs.take j = List.replicate j v) : (vs.set j v).take (j + 1) = List.replicate (j + 1) v := by
 rw [List.take_succ_eq_append_getElem (by simpa using hj), List.take_set_of_le (Nat.le_refl j), h, List.getElem_set_self, List.replicate_succ']
theorem own_grown {w w' : World} {e : TypeId} {size n c : Nat} {A M : Option Addr} {xs : List Value} {k mc : Nat} (h : w.ownsRow 0 e size (.slice A n c) n xs) (hg : w.grownBy w' (Value.slice M k mc).ownBlock) (hd : ∀ a b, M = some a → A = some b → a.block ≠ b.block) : w'.ownsRow 0 e size (.slice A n c) n xs := by
 refine h.kept hg ?_
 cases hA : A with
 | none => exact .inl rfl
 | some b =>
  right
  cases hM : M with
  | none => simp [Value.ownBlock]
  | some a => simp only [Value.ownBlock]; intro e; exact hd a b hM hA (Option.some.inj e).symm
theorem range_snoc (f f' : Nat → Value) (k : Nat) (h : ∀ i, i < k → f' i = f i) : (List.range (k + 1)).map f' = (List.range k).map f ++ [f' k] := by
 rw [List.range_succ, List.map_append]
 congr 1
 exact List.map_congr_left (fun i hi => h i (List.mem_range.1 hi))
theorem stands_core (β : Nat) (GA WA LA : Option Addr) (n m gc wc lc : Nat) (gs : Nat → Bool) (gf : Nat → FH) (ws : Nat → Bool) (wf : Nat → FH) (A : Nat → Option Addr) (N : Nat → Nat) (w : World) (hn : n ≤ 1000) (hm : m ≤ 1000) (hN : ∀ i, i < m → N i ≤ 1000000)
  (hb : BookIs w β GA WA LA n n m gc wc lc ((List.range n).flatMap fun i => ratC (gs i) (gf i).A (gf i).n (gf i).c (gf i).D (gf i).m (gf i).k) ((List.range n).flatMap fun i => ratC (ws i) (wf i).A (wf i).n (wf i).c (wf i).D (wf i).m (wf i).k) ((List.range m).map fun i => .slice (A i) (N i) (N i)))
  (hrow : ∀ i, i < m → ∃ vs, RowO A N w i vs) (hdis : ∀ i j, i < m → j < m → i ≠ j → ∀ a b, A i = some a → A j = some b → a.block ≠ b.block) (hbk : ∀ i, i < m → ∀ a, A i = some a → ¬ InBook β GA WA LA a.block)
  (kS : ∀ i, i < n → ∀ w', Ext w w' → Calls Tryz.prog 38 #[fV (gs i) (gf i), fV (ws i) (wf i)] w' fun e w'' => e = .returned (.bool true) ∧ Ext w' w'') :
  Calls Tryz.prog 22 #[.pointer (some ⟨β, 0, none⟩)] w fun e w' => e = .returned (.bool true) ∧ Frm (RowB A m) w w' := by
 have HB := Lib.hid hb
 have HR := Lib.hid hrow
 have HD := Lib.hid hdis
 have HK := Lib.hid hbk
 have hTB : Hid (∀ k, InBook β GA WA LA k → ¬ RowB A m k) := Lib.hid (fun k hk ⟨i, hi, a, ha, e⟩ => HK.out i hi a ha (by rw [e]; exact hk))
 have hlt := hb.lt
 have y3 := hb.c3
 obtain ⟨il, hil, hilz, hils, hilb⟩ := info_parts rows_info
 clear hb hrow hdis hbk
 go_enter Tryz.func22, Tryz.ntmps22
 go_wp2
 go_loopw [3] (fun v wr => ∃ k : Nat, k ≤ n ∧ v = .int .i64 (k : Int) ∧ Hid (Ext w wr)) (fun v _ => n - (intOf v).toNat)
 case atStart => exact ⟨0, Nat.zero_le _, by go_num, jR _⟩
 case round =>
  clear y3
  obtain ⟨k, hk, rfl, hext⟩ := hrel
  have hB := Lib.hid (HB.out.ext hext.out)
  have c0 := hB.out.c0
  have c1 := hB.out.c1
  by_cases h0 : k < n
  ·have hlt' : decide ((k : Int) < (n : Int)) = true := decide_eq_true (by omega)
   obtain ⟨g, rfl⟩ := own_some hB.out.og (by omega)
   obtain ⟨h, rfl⟩ := own_some hB.out.ow (by omega)
   have e1 : ∀ j, j < 3 → wr.cell? ⟨g, k * 3 + j, none⟩ = (ratC (gs k) (gf k).A (gf k).n (gf k).c (gf k).D (gf k).m (gf k).k)[j]? := fun j hj => by
    rw [hB.out.og.cellAt (k * 3 + j) (by omega), Nat.mul_comm, flat_at _ (fun _ => rfl) n k j h0 hj]
   have e2 : ∀ j, j < 3 → wr.cell? ⟨h, k * 3 + j, none⟩ = (ratC (ws k) (wf k).A (wf k).n (wf k).c (wf k).D (wf k).m (wf k).k)[j]? := fun j hj => by
    rw [hB.out.ow.cellAt (k * 3 + j) (by omega), Nat.mul_comm, flat_at _ (fun _ => rfl) n k j h0 hj]
   have g0 := e1 0 (by decide)
   have g1 := e1 1 (by decide)
   have g2 := e1 2 (by decide)
   have h0' := e2 0 (by decide)
   have h1' := e2 1 (by decide)
   have h2' := e2 2 (by decide)
   have kk := kS k h0
   have hgl := own_lt hB.out.og rfl
   have hhl := own_lt hB.out.ow rfl
   have hbl := hB.out.lt
   clear e1 e2 kS
   simp at g0 g1 g2 h0' h1' h2'
   have kk' : ∀ nn : Aft wr, Calls Tryz.prog 38 #[fV (gs k) (gf k), fV (ws k) (wf k)] nn.out fun e w'' => e = .returned (.bool true) ∧ Ext nn.out w'' := fun nn => kk _ (jT hext.out nn.use)
   have hE := hext.out
   go_wp2
   refine wp_aft_tail 15 (by kernel_rfl) (by kernel_rfl) (by kernel_rfl) (fun hq hqf => ?_)
   simp only [List.take_succ_cons, List.take_zero, List.drop_succ_cons, List.drop_zero]
   repeat (go_big_quiet_step (first
    | (go_at_call 38; exact aft_of (kk' _))
    ))
   refine wpQuiet_nil ?_
   rintro _ ⟨nq, rfl⟩
   have xl := ext_lt nq.use
   have xz := ext_size nq.use
   try simp at xz
   go_wp2
   exact ⟨⟨k + 1, by omega, by go_num, jT hext.out nq.use⟩, by simp [intOf]; omega⟩
  ·obtain rfl : k = n := by omega
   have hlt' : decide ((k : Int) < (k : Int)) = false := decide_eq_false (by omega)
   obtain ⟨w1, rfl⟩ : ∃ u, u = wr := ⟨wr, rfl⟩
   have hF1 : Hid (Frm (RowB A m) w w1) := Lib.hid (Frm.of hext.out)
   have hR1 : Hid (∀ i, i < m → ∃ vs, RowO A N w1 i vs) := Lib.hid (fun i hi => by obtain ⟨vs, h⟩ := HR.out i hi; exact ⟨vs, own_ext h hext.out⟩)
   clear kS hext HR HB
   go_wp2
   clear c0 c1
   go_loopw [5] (fun v wr => ∃ k : Nat, k ≤ m ∧ v = .int .i64 (k : Int) ∧ Hid (Frm (RowB A m) w1 wr) ∧ Hid (∀ i, i < k → RowO A N wr i (List.replicate (N i) (1000 + i))) ∧ Hid (∀ i, k ≤ i → i < m → ∃ vs, RowO A N wr i vs)) (fun v _ => m - (intOf v).toNat)
   case atStart => exact ⟨0, Nat.zero_le _, by go_num, Frm.refl _ _, (fun i h => by omega), fun i _ hi => hR1.out i hi⟩
   case round =>
    obtain ⟨k2, hk2, rfl, hfr, hdone, htodo⟩ := hrel
    have hB2 := Lib.hid (hB.out.frm hfr.out hTB.out)
    have c2 := hB2.out.c2
    by_cases h2 : k2 < m
    ·have hlt2 : decide ((k2 : Int) < (m : Int)) = true := decide_eq_true (by omega)
     obtain ⟨g, rfl⟩ := own_some hB2.out.ol (by omega)
     have hbl := hB2.out.lt
     have hgl := own_lt hB2.out.ol rfl
     go_wp2
     clear c2 hgl hbl
     go_loopw [6] (fun v wr => ∃ j : Nat, j ≤ N k2 ∧ v = .int .i64 (j : Int) ∧ Hid (Frm (RowB A m) w1 wr) ∧ Hid (∀ i, i < k2 → RowO A N wr i (List.replicate (N i) (1000 + i))) ∧ Hid (∀ i, k2 < i → i < m → ∃ vs, RowO A N wr i vs) ∧ Hid (∃ vs, RowO A N wr k2 vs ∧ vs.take j = List.replicate j (1000 + k2))) (fun v _ => N k2 - (intOf v).toNat)
     case atStart => exact ⟨0, Nat.zero_le _, by go_num, hfr.out, hdone.out, (fun i h1 h3 => htodo.out i (by omega) h3), by obtain ⟨vs, h⟩ := htodo.out k2 (Nat.le_refl _) h2; exact ⟨vs, h, by simp⟩⟩
     case round =>
      clear hfr hdone htodo
      obtain ⟨j, hj, rfl, hfr, hdone, htodo, hcur⟩ := hrel
      have hB3 := Lib.hid (hB.out.frm hfr.out hTB.out)
      have c2 := hB3.out.c2
      have hbl := hB3.out.lt
      have hgl := own_lt hB3.out.ol rfl
      have e1 := hB3.out.ol.cellAt k2 (by omega)
      rw [rows_at _ h2] at e1
      by_cases h3 : j < N k2
      ·have hlt3 : decide ((j : Int) < (N k2 : Int)) = true := decide_eq_true (by omega)
       obtain ⟨vs, hv, ht⟩ := hcur.out
       have hvl : vs.length = N k2 := by have := hv.1; simpa using this
       obtain ⟨b, hAe⟩ := own_some hv (by omega)
       have hv' := hv
       unfold RowO at hv'
       rw [hAe] at hv' e1
       have x0 := hv'.cellAt j (by omega)
       have x0f := hv'.frozenAt j
       rw [List.getElem?_map, List.getElem?_eq_getElem (by omega)] at x0
       have hlb := own_lt hv' rfl
       have hN' := hN k2 h2
       simp only [Option.map_some] at x0
       have hset : ∀ u, ∀ i, i < m → i ≠ k2 → ∀ vs', RowO A N wr i vs' → RowO A N (wr.setCell ⟨b, j, none⟩ u) i vs' := fun u i hi hne vs' h => own_far h _ _ (by
        cases hAi : A i with
        | none => simp [Value.ownBlock]
        | some a => simp only [Value.ownBlock]; intro e; exact HD.out i k2 hi h2 hne a _ hAi hAe (Option.some.inj e))
       have hst : ∀ u, RowO A N (wr.setCell ⟨b, j, none⟩ (u32V u)) k2 (vs.set j u) := fun u => by
        have := (hv'.stored j (u32V u)).1
        unfold RowO
        rw [hAe, List.map_set]
        exact this
       have HS := Lib.hid hset
       have HT := Lib.hid hst
       have hms := Lib.hid (mark_step (by omega : j < vs.length) ht)
       clear hset hst ht hv hv'
       go_wp2
       have ev : Value.int .u32 (1000 + (k2 : Int)) = u32V (1000 + k2) := by simp [u32V]
       rw [ev]
       exact ⟨⟨j + 1, by omega, by go_num, hfr.out.trans (Frm.set _ (.inl ⟨k2, h2, _, hAe, rfl⟩)), (fun i hi => HS.out _ i (by omega) (by omega) _ (hdone.out i hi)), (fun i h4 h5 => by obtain ⟨vs', h⟩ := htodo.out i h4 h5; exact ⟨vs', HS.out _ i h5 (by omega) _ h⟩), ⟨_, HT.out _, hms.out⟩⟩, by simp [intOf]; omega⟩
      ·have hje : j = N k2 := by omega
       subst hje
       have hlt3 : decide ((N k2 : Int) < (N k2 : Int)) = false := decide_eq_false (by omega)
       have hcur2 : Hid (RowO A N wr k2 (List.replicate (N k2) (1000 + k2))) := by
        obtain ⟨vs, hv, ht⟩ := hcur.out
        have hvl : vs.length = N k2 := by have := hv.1; simpa using this
        rw [List.take_of_length_le (by omega)] at ht
        rw [← ht]; exact hv
       clear hcur
       go_wp2
       exact ⟨⟨k2 + 1, by omega, by go_num, hfr.out, (fun i hi => by
        by_cases h4 : i < k2
        ·exact hdone.out i h4
        ·obtain rfl : i = k2 := by omega
         exact hcur2.out), fun i h4 h5 => htodo.out i (by omega) h5⟩, by simp [intOf]; omega⟩
    ·obtain rfl : k2 = m := by omega
     have hlt2 : decide ((k2 : Int) < (k2 : Int)) = false := decide_eq_false (by omega)
     obtain ⟨w4, rfl⟩ : ∃ u, u = wr := ⟨wr, rfl⟩
     clear htodo hR1 hB
     have hD4 := Lib.hid hdone.out
     have hbl4 := hB2.out.lt
     clear hdone
     go_wp2
     clear c2
     go_loopw [7, 8] (fun p v wr => ∃ (k : Nat) (MA : Option Addr) (mc : Nat) (B : Nat → Option Addr) (D : Nat → Nat), k ≤ k2 ∧ p = .slice MA k mc ∧ v = .int .i64 (k : Int) ∧ Hid (Ext w4 wr) ∧ Hid (wr.ownsRow w4.heap.size 22 1 (.slice MA k mc) k ((List.range k).map fun i => .slice (B i) (N i + 20) (D i))) ∧
       Hid (∀ i, i < k → wr.ownsRow 0 47 1 (.slice (B i) (N i + 20) (D i)) (N i + 20) ((List.replicate (N i + 20) (1000 + i)).map u32V) ∧ ∀ a b, MA = some a → B i = some b → a.block ≠ b.block)) (fun _ v _ => k2 - (intOf v).toNat)
     case atStart => exact ⟨0, none, 0, fun _ => none, fun _ => 0, Nat.zero_le _, rfl, by go_num, jR _, World.ownsRow_nil _ _ _ _, fun i h => by omega⟩
     case round =>
      obtain ⟨k, MA, mc, B, D, hk4, rfl, rfl, hext, hown, hrows⟩ := hrel
      have hB4 := Lib.hid (hB2.out.ext hext.out)
      have c2 := hB4.out.c2
      by_cases h4 : k < k2
      ·have hlt4 : decide ((k : Int) < (k2 : Int)) = true := decide_eq_true (by omega)
       obtain ⟨g, rfl⟩ := own_some hB4.out.ol (by omega)
       have hbl := hB4.out.lt
       have hgl := own_lt hB4.out.ol rfl
       have e1 := hB4.out.ol.cellAt k (by omega)
       rw [rows_at _ h4] at e1
       have hN' := hN k h4
       have hrk := Lib.hid (own_ext (hD4.out k h4) hext.out)
       obtain ⟨wk, rfl⟩ : ∃ u, u = wr := ⟨wr, rfl⟩
       go_wp2
       clear c2 e1 hbl hgl
       go_loopw [9, 10] (fun p v wr => ∃ (t : Nat) (X : Option Addr) (cx : Nat), t ≤ 20 ∧ p = .slice X (N k + t) cx ∧ v = .int .i64 (t : Int) ∧ Hid (Ext wk wr) ∧ Hid ((t = 0 ∧ X = A k ∧ cx = N k) ∨ wr.ownsRow wk.heap.size 47 1 (.slice X (N k + t) cx) (N k + t) ((List.replicate (N k + t) (1000 + k)).map u32V))) (fun _ v _ => 20 - (intOf v).toNat)
       case atStart => exact ⟨0, A k, N k, by omega, rfl, by go_num, jR _, .inl ⟨rfl, rfl, rfl⟩⟩
       case round =>
        obtain ⟨t, X, cx, ht, rfl, rfl, hx, hl⟩ := hrel
        by_cases h5 : t < 20
        ·have hlt5 : decide ((t : Int) < 20) = true := decide_eq_true (by omega)
         have hl2 : Hid ((∃ Y, Value.slice X (N k + t) cx = .slice Y (N k + t) (N k + t) ∧ wr.ownsRow 0 47 1 (.slice Y (N k + t) (N k + t)) (N k + t) ((List.replicate (N k + t) (1000 + k)).map u32V)) ∨ wr.ownsRow wk.heap.size 47 1 (.slice X (N k + t) cx) (N k + t) ((List.replicate (N k + t) (1000 + k)).map u32V)) := by
          rcases hl.out with ⟨rfl, rfl, rfl⟩ | h
          ·exact .inl ⟨A k, rfl, own_ext hrk.out hx.out⟩
          ·exact .inr h
         clear hl
         have ev : Value.int .u32 (1000 + (k : Int)) = u32V (1000 + k) := by simp [u32V]
         go_wp2_with (first
          | (at_builtin; refine push_mark rfl _ _ rfl (Obj.cells #[.int .u32 (1000 + (k : Int))] 47) rfl hx.out hl2.out rfl (1000 + k) ⟨wr.heap.size, 0, none⟩ 1 rfl (by rw [← ev]; simp [go_sem]) (by omega) ?_; intro g5 cap5 w5 hx5 ho5)
          )
         go_roundw
         case rel =>
          refine ⟨t + 1, some ⟨g5, 0, none⟩, cap5, by omega, by rw [Nat.add_assoc], by go_num, hx5, .inr ?_⟩
          rw [← Nat.add_assoc]
          have := ho5.out
          rw [← List.replicate_succ'] at this
          exact this
         case measure => simp [intOf]; omega
        ·obtain rfl : t = 20 := by omega
         have hl2 : Hid (wr.ownsRow wk.heap.size 47 1 (.slice X (N k + 20) cx) (N k + 20) ((List.replicate (N k + 20) (1000 + k)).map u32V)) := by
          rcases hl.out with ⟨h, _⟩ | h
          ·omega
          ·exact h
         clear hl
         have HM := Lib.hid (own_ext hown.out (jA hx.out (Obj.cells #[.slice X (N k + 20) cx] 22)))
         have hbz : w4.heap.size ≤ (wr.alloc (Obj.cells #[.slice X (N k + 20) cx] 22)).heap.size := by have h1 := ext_size hext.out; have h2 := ext_size hx.out; simp; omega
         have hnw := Lib.hid (World.news_of_block (cs := #[.slice X (N k + 20) cx]) (t := 22) (fr := (0, 0)) (heap_alloc_new wr (Obj.cells #[.slice X (N k + 20) cx] 22)))
         go_wp2_with (first
          | (at_builtin; refine wpList_append_lies _ rfl _ _ 32 rfl w4.heap.size 22 il _ 1 24 rows_under hil hilz hils hilb rfl (by decide) (.slice MA k mc) k _ rfl HM.out ⟨wr.heap.size, 0, none⟩ 1 1 [.slice X (N k + 20) cx] rfl rfl hnw.out (by simp [Value.oneCell']) (by decide) (by unfold maxLen; omega) (by omega) hbz _ rfl ?_; intro g6 cap6 w6 ho6 hg6 hat6 hl6)
          )
         have hE6 : Ext w4 w6 := ext_grown (jA (jT hext.out hx.out) _) HM.out (Nat.le_refl _) hg6
         have hold : ∀ i, i < k → (wr.alloc (Obj.cells #[.slice X (N k + 20) cx] 22)).ownsRow 0 47 1 (.slice (B i) (N i + 20) (D i)) (N i + 20) ((List.replicate (N i + 20) (1000 + i)).map u32V) := fun i hi => own_ext (hrows.out i hi).1 (jA hx.out _)
         have hnew : (wr.alloc (Obj.cells #[.slice X (N k + 20) cx] 22)).ownsRow 0 47 1 (.slice X (N k + 20) cx) (N k + 20) ((List.replicate (N k + 20) (1000 + k)).map u32V) := own_ext (own_zero hl2.out) (jA (jR _) _)
         have hMX : ∀ a b, MA = some a → X = some b → a.block ≠ b.block := fun a b ha hb => by
          have h1 := own_lt (own_zero hown.out) ha
          have h2 := (hl2.out.lt b.block (by rw [hb]; rfl)).1
          omega
         refine ⟨⟨k + 1, some ⟨g6, 0, none⟩, cap6, (fun i => if i = k then X else B i), (fun i => if i = k then cx else D i), by omega, rfl, by go_num, hE6, ?_, ?_⟩, by simp [intOf]; omega⟩
         ·show World.ownsRow _ _ _ _ _ _ _
          rw [range_snoc (fun i => .slice (B i) (N i + 20) (D i)) _ k (fun i hi => by simp [show i ≠ k by omega])]
          simpa using ho6
         ·intro i hi
          by_cases h6 : i < k
          ·simp only [show i ≠ k by omega, if_false]
           refine ⟨own_grown (hold i h6) hg6 (hrows.out i h6).2, fun a b ha hb => ?_⟩
           cases ha
           have h7 := own_lt (hold i h6) hb
           rcases hat6 with h8 | h8
           ·cases hM : MA with
            | none => rw [hM] at h8; simp [Value.ownBlock] at h8
            | some c => rw [hM] at h8; simp only [Value.ownBlock, Option.some.injEq] at h8; have := (hrows.out i h6).2 c b hM hb; simp only; omega
           ·simp only; omega
          ·obtain rfl : i = k := by omega
           simp only [if_true]
           refine ⟨own_grown hnew hg6 hMX, fun a b ha hb => ?_⟩
           cases ha
           have h7 := own_lt hnew hb
           rcases hat6 with h8 | h8
           ·cases hM : MA with
            | none => rw [hM] at h8; simp [Value.ownBlock] at h8
            | some c => rw [hM] at h8; simp only [Value.ownBlock, Option.some.injEq] at h8; have := hMX c b hM hb; simp only; omega
           ·simp only; omega
      ·obtain rfl : k = k2 := by omega
       have hlt4 : decide ((k : Int) < (k : Int)) = false := decide_eq_false (by omega)
       obtain ⟨w6, rfl⟩ : ∃ u, u = wr := ⟨wr, rfl⟩
       have hD6 : Hid (∀ i, i < k → RowO A N w6 i (List.replicate (N i) (1000 + i))) := Lib.hid (fun i hi => own_ext (hD4.out i hi) hext.out)
       have hMo := Lib.hid (own_zero hown.out)
       have hFin : Hid (Frm (RowB A k) w w6) := Lib.hid (hF1.out.trans (hfr.out.trans (Frm.of hext.out)))
       have hml := own_mod hMo.out
       have hbl6 := hB4.out.lt
       clear hown hB2 hF1 hfr hext hD4
       go_wp2
       go_loop [11] (fun v => ∃ q : Nat, q ≤ k ∧ v = .int .i64 (q : Int)) (fun v => k - (intOf v).toNat)
       case atStart => exact ⟨0, Nat.zero_le _, by go_num⟩
       case round =>
        obtain ⟨q, hq, rfl⟩ := hrel
        by_cases h7 : q < k
        ·have hlt7 : decide ((q : Int) < (k : Int)) = true := decide_eq_true (by omega)
         obtain ⟨g7, hg7⟩ := own_some hMo.out (by omega)
         have e7 := hMo.out
         rw [hg7] at e7
         have e8 := e7.cellAt q (by omega)
         rw [rows_at _ h7] at e8
         have hgl7 := own_lt e7 rfl
         have hr7 := (hrows.out q h7).1
         obtain ⟨b7, hb7⟩ := own_some hr7 (by omega)
         rw [hb7] at hr7 e8
         have hbl7 := own_lt hr7 rfl
         have hN' := hN q h7
         have hR7 := Lib.hid hr7
         have hA7 := Lib.hid (hD6.out q h7)
         obtain ⟨g8, rfl⟩ := own_some hB4.out.ol (by omega)
         have e9 := hB4.out.ol.cellAt q (by omega)
         rw [rows_at _ h7] at e9
         have hgl8 := own_lt hB4.out.ol rfl
         have hrep : ∀ n v j : Nat, j < n → ((List.replicate n v).map u32V)[j]? = some (.int .u32 ((v : Nat) : Int)) := fun n v j hj => by
          rw [List.getElem?_map, List.getElem?_replicate, if_pos hj]; rfl
         have HRep := Lib.hid hrep
         clear hr7 e7 hrep
         subst hg7
         go_wp2
         go_loop [12] (fun v => ∃ j : Nat, j ≤ N q + 20 ∧ v = .int .i64 (j : Int)) (fun v => N q + 20 - (intOf v).toNat)
         case atStart => exact ⟨0, Nat.zero_le _, by go_num⟩
         case round =>
          obtain ⟨j, hj, rfl⟩ := hrel
          by_cases h8 : j < N q + 20
          ·have hltj : decide ((j : Int) < (N q : Int) + 20) = true := decide_eq_true (by omega)
           have x1 := hR7.out.cellAt j (by omega)
           rw [HRep.out _ _ j h8] at x1
           simp only [Int.natCast_add] at x1
           by_cases h9 : j < N q
           ·have hlt9 : decide ((j : Int) < (N q : Int)) = true := decide_eq_true (by omega)
            obtain ⟨b9, hb9⟩ := own_some hA7.out (by omega)
            have y9 := hA7.out
            unfold RowO at y9
            rw [hb9] at y9 e9
            have x2 := y9.cellAt j (by omega)
            rw [HRep.out _ _ j h9] at x2
            simp only [Int.natCast_add] at x2
            have hbl9 := own_lt y9 rfl
            clear y9
            go_wp2
            go_round
            case rel => exact ⟨j + 1, by omega, by go_num⟩
            case measure => simp [intOf]; omega
           ·have hlt9 : decide ((j : Int) < (N q : Int)) = false := decide_eq_false (by omega)
            go_wp2
            go_round
            case rel => exact ⟨j + 1, by omega, by go_num⟩
            case measure => simp [intOf]; omega
          ·have hltj : decide ((j : Int) < (N q : Int) + 20) = false := decide_eq_false (by omega)
           go_wp2
           go_round
           case rel => exact ⟨q + 1, by omega, by go_num⟩
           case measure => simp [intOf]; omega
        ·obtain rfl : q = k := by omega
         have hlt7 : decide ((q : Int) < (q : Int)) = false := decide_eq_false (by omega)
         go_wp2
         go_ret
         exact ⟨rfl, hFin.out⟩
end Go.Proofs.YtfdmhefjmnlllaaGreatDoor
end
section
/- The second law's book, as a list of what was answered: adds, number, stands. -/
namespace Go.Proofs.YtfdmhefjmnlllaaGreatDoor
open Go.RowKit
set_option maxHeartbeats 4000000
set_option maxRecDepth 100000
attribute [local irreducible] Calls
structure Rec where
 s : Bool
 F : FH
 G : FH
 xs : List Nat
 ys : List Nat
structure Row where
 A : Option Addr
 n : Nat
 xs : List Nat
structure BH where
 GA : Option Addr
 WA : Option Addr
 LA : Option Addr
 gc : Nat
 wc : Nat
 lc : Nat
abbrev InBk (β : Nat) (H : BH) (k : Nat) : Prop := InBook β H.GA H.WA H.LA k
abbrev Rec.gv (r : Rec) : List Value := ratC r.s r.F.A r.F.n r.F.c r.F.D r.F.m r.F.k
abbrev Rec.wv (r : Rec) : List Value := ratC r.s r.G.A r.G.n r.G.c r.G.D r.G.m r.G.k
abbrev Row.v (r : Row) : Value := .slice r.A r.n r.n
structure Want (w : World) (β : Nat) (H : BH) (A : Option Addr) (n c : Nat) (xs : List Nat) : Prop where
 rd : Rd w A n c xs
 off : ∀ a, A = some a → n ≠ 0 → ¬ InBk β H a.block
 lo : ∀ a, A = some a → n ≠ 0 → β ≤ a.block
structure RowIs (w : World) (B β : Nat) (H : BH) (r : Row) : Prop where
 own : w.ownsRow 0 47 1 r.v r.n (r.xs.map u32V)
 off : ∀ a, r.A = some a → ¬ InBk β H a.block
 low : ∀ a, r.A = some a → B ≤ a.block
 few : r.n ≤ 1000000
abbrev RecIs (w : World) (β : Nat) (H : BH) (r : Rec) : Prop := Want w β H r.F.A r.F.n r.F.c r.xs ∧ Want w β H r.F.D r.F.m r.F.k r.ys ∧ Want w β H r.G.A r.G.n r.G.c r.xs ∧ Want w β H r.G.D r.G.m r.G.k r.ys
abbrev Apart (r s : Row) : Prop := ∀ a b, r.A = some a → s.A = some b → a.block ≠ b.block
structure Bk (w : World) (B β : Nat) (H : BH) (rs : List Rec) (ls : List Row) : Prop where
 book : BookIs w β H.GA H.WA H.LA rs.length rs.length ls.length H.gc H.wc H.lc (rs.flatMap Rec.gv) (rs.flatMap Rec.wv) (ls.map Row.v)
 recs : ∀ r ∈ rs, RecIs w β H r
 rows : ∀ r ∈ ls, RowIs w B β H r
 apart : ls.Pairwise Apart
 low : ∀ k, InBk β H k → B ≤ k
abbrev TurnB (w w' : World) (β : Nat) (H H' : BH) : Prop := Frm (InBk β H) w w' ∧ ∀ k, InBk β H' k → InBk β H k ∨ w.heap.size ≤ k
theorem Bk.lt {w : World} {B β : Nat} {H : BH} {rs : List Rec} {ls : List Row} (h : Bk w B β H rs ls) {k : Nat} (hk : InBk β H k) : k < w.heap.size := by
 rcases hk with rfl | ⟨a, ha, rfl⟩ | ⟨a, ha, rfl⟩ | ⟨a, ha, rfl⟩
 ·exact h.book.lt
 ·exact own_lt h.book.og ha
 ·exact own_lt h.book.ow ha
 ·exact own_lt h.book.ol ha
theorem Bk.off {w : World} {B β : Nat} {H : BH} {rs : List Rec} {ls : List Row} (h : Bk w B β H rs ls) {k : Nat} (hk : w.heap.size ≤ k) : ¬ InBk β H k := fun e => by have := h.lt e; omega
theorem Want.ext {w w' : World} {β : Nat} {H : BH} {A : Option Addr} {n c : Nat} {xs : List Nat} (h : Want w β H A n c xs) (he : Ext w w') : Want w' β H A n c xs := ⟨h.rd.ext he, h.off, h.lo⟩
theorem Rd.lt {w : World} {A : Option Addr} {n c : Nat} {xs : List Nat} (h : Rd w A n c xs) {a : Addr} (ha : A = some a) (hn : n ≠ 0) : a.block < w.heap.size := by
 obtain ⟨b, o, s⟩ := a
 have hs := h.at_ _ ha
 simp only at hs
 subst hs
 exact (h.cells b o ha 0 (by rw [h.len]; omega)).1
theorem Want.turn {w w' : World} {β : Nat} {H H' : BH} {A : Option Addr} {n c : Nat} {xs : List Nat} (h : Want w β H A n c xs) (t : TurnB w w' β H H') : Want w' β H' A n c xs :=
 ⟨h.rd.frm t.1 h.off, fun a ha hn e => by
  rcases t.2 _ e with e | e
  ·exact h.off a ha hn e
  ·have := h.rd.lt ha hn; omega, h.lo⟩
theorem Want.frm {S : Nat → Prop} {w w' : World} {β : Nat} {H : BH} {A : Option Addr} {n c : Nat} {xs : List Nat} (h : Want w β H A n c xs) (t : Frm S w w') (ho : ∀ a, A = some a → n ≠ 0 → ¬ S a.block) : Want w' β H A n c xs := ⟨h.rd.frm t ho, h.off, h.lo⟩
theorem Want.of {w0 w w1 : World} {B β : Nat} {H : BH} {rs : List Rec} {ls : List Row} {A : Option Addr} {n c : Nat} {xs : List Nat} (hB : Bk w0 B β H rs ls) (h : Rd w A n c xs) (hf : Fr w1 A) (hs : w0.heap.size ≤ w1.heap.size) : Want w β H A n c xs :=
 ⟨h, fun a ha _ => hB.off (by have := hf a ha; omega), fun a ha _ => by have := hf a ha; have := hB.book.lt; omega⟩
theorem RowIs.ext {w w' : World} {B β : Nat} {H : BH} {r : Row} (h : RowIs w B β H r) (he : Ext w w') : RowIs w' B β H r := ⟨own_ext h.own he, h.off, h.low, h.few⟩
theorem RowIs.turn {w w' : World} {B β : Nat} {H H' : BH} {r : Row} (h : RowIs w B β H r) (t : TurnB w w' β H H') : RowIs w' B β H' r :=
 ⟨own_frm h.own t.1 h.off, fun a ha e => by
  rcases t.2 _ e with e | e
  ·exact h.off a ha e
  ·have := own_lt h.own ha; omega, h.low, h.few⟩
theorem Bk.ext {w w' : World} {B β : Nat} {H : BH} {rs : List Rec} {ls : List Row} (h : Bk w B β H rs ls) (he : Ext w w') : Bk w' B β H rs ls :=
 ⟨h.book.ext he, fun r hr => by obtain ⟨h1, h2, h3, h4⟩ := h.recs r hr; exact ⟨h1.ext he, h2.ext he, h3.ext he, h4.ext he⟩, fun r hr => (h.rows r hr).ext he, h.apart, h.low⟩
theorem Bk.frm {S : Nat → Prop} {w w' : World} {B β : Nat} {H : BH} {rs : List Rec} {ls : List Row} (h : Bk w B β H rs ls) (t : Frm S w w') (hS : ∀ k, S k → k < B) (hw : ∀ r ∈ rs, ∀ a, (r.F.A = some a ∨ r.F.D = some a ∨ r.G.A = some a ∨ r.G.D = some a) → ¬ S a.block) : Bk w' B β H rs ls :=
 ⟨h.book.frm t (fun k hk e => by have := hS k e; have := h.low k hk; omega), fun r hr => by
  obtain ⟨h1, h2, h3, h4⟩ := h.recs r hr
  have hh := hw r hr
  exact ⟨h1.frm t fun a ha _ => hh a (.inl ha), h2.frm t fun a ha _ => hh a (.inr (.inl ha)), h3.frm t fun a ha _ => hh a (.inr (.inr (.inl ha))), h4.frm t fun a ha _ => hh a (.inr (.inr (.inr ha)))⟩,
  fun r hr => ⟨own_frm (h.rows r hr).own t (fun a ha e => by have := hS _ e; have := (h.rows r hr).low a ha; omega), (h.rows r hr).off, (h.rows r hr).low, (h.rows r hr).few⟩, h.apart, h.low⟩
theorem TurnB.cell {w w' : World} {β : Nat} {H H' : BH} (t : TurnB w w' β H H') {b : Nat} (hb : b < w.heap.size) (ho : ¬ InBk β H b) : (∀ o, w'.cell? ⟨b, o, none⟩ = w.cell? ⟨b, o, none⟩) ∧ (∀ o, w'.frozen? ⟨b, o, none⟩ = w.frozen? ⟨b, o, none⟩) ∧ b < w'.heap.size ∧ ¬ InBk β H' b :=
 ⟨fun o => t.1.cell (p := ⟨b, o, none⟩) hb ho, fun o => t.1.frozen (p := ⟨b, o, none⟩) hb ho, Nat.lt_of_lt_of_le hb t.1.size, fun e => by
  rcases t.2 _ e with e | e
  ·exact ho e
  ·omega⟩
theorem TurnB.ext {W w w' : World} {B β : Nat} {H H' : BH} {rs : List Rec} {ls : List Row} (t : TurnB w w' β H H') (h : Bk w B β H rs ls) (hE : Ext W w) (hb : W.heap.size ≤ B) : Ext W w' :=
 t.1.ext hE (fun k hk => Nat.le_trans hb (h.low k hk))
theorem same_true {w : World} {s : Bool} {xs ys : List Nat} {A : Option Addr} {n c : Nat} {D : Option Addr} {m k : Nat} {C : Option Addr} {p q : Nat} {E : Option Addr} {u v : Nat} (h1 : Rd w A n c xs) (h2 : Rd w D m k ys) (h3 : Rd w C p q xs) (h4 : Rd w E u v ys) :
  Calls Tryz.prog 38 #[ratV s A n c D m k, ratV s C p q E u v] w fun e w'' => e = .returned (.bool true) ∧ Ext w w'' := by
 have h := rb_Same s s (decide (xs = xs)) (decide (ys = ys)) A C n c p q D E m k u v w (fun w' h => rb_SameNat A C n c p q xs xs w' (h1.ext h) (h3.ext h)) (fun w' h => rb_SameNat D E m k u v ys ys w' (h2.ext h) (h4.ext h))
 have e : (s == s && decide (xs = xs) && decide (ys = ys)) = true := by simp
 rw [e] at h
 exact h
theorem adds_at {w : World} {B β : Nat} {H : BH} {rs : List Rec} {ls : List Row} (hB : Bk w B β H rs ls) (r : Rec) (hA : RdO w r.F.A r.F.n r.F.c r.xs none) (hD : RdO w r.F.D r.F.m r.F.k r.ys r.F.A) (fA : ∀ a, r.F.A = some a → ¬ InBk β H a.block ∧ B ≤ a.block ∧ β ≤ a.block ∧ ∀ q ∈ ls, ∀ b, q.A = some b → b.block ≠ a.block) (fD : ∀ a, r.F.D = some a → ¬ InBk β H a.block ∧ B ≤ a.block ∧ β ≤ a.block ∧ ∀ q ∈ ls, ∀ b, q.A = some b → b.block ≠ a.block)
  (hG : Want w β H r.G.A r.G.n r.G.c r.xs) (hG2 : Want w β H r.G.D r.G.m r.G.k r.ys) (hf1 : r.F.n ≤ 1000000) (hf2 : r.F.m ≤ 1000000) (E : Int) (hn : rs.length ≤ 900) (hm : ls.length ≤ 900) :
  Calls Tryz.prog 11 #[.pointer (some ⟨β, 0, none⟩), fV r.s r.F, .int .i64 E, fV r.s r.G, .int .i64 E] w fun e w' => e = .returned (.tuple #[]) ∧ ∃ H' : BH, Hid (Bk w' B β H' (rs ++ [r]) (ls ++ [⟨r.F.A, r.F.n, r.xs⟩, ⟨r.F.D, r.F.m, r.ys⟩])) ∧ Hid (TurnB w w' β H H') := by
 have hB' := hB
 have e1 := hA.full
 have e2 := hD.full
 refine (adds_core β H.GA H.WA H.LA rs.length ls.length H.gc H.wc H.lc _ _ _ r.s r.F.A r.F.n r.F.c r.F.D r.F.m r.F.k r.s r.G.A r.G.n r.G.c r.G.D r.G.m r.G.k E w hB'.book (by omega) (by omega) (fun w' he => same_true (hA.toRd.ext he) (hD.toRd.ext he) (hG.rd.ext he) (hG2.rd.ext he))).mono ?_
 rintro e w' ⟨rfl, GA, WA, LA, gc, wc, lc, h1, h2, h3⟩
 have T : TurnB w w' β H ⟨GA, WA, LA, gc, wc, lc⟩ := ⟨h2.out, h3.out⟩
 have wA : Want w β H r.F.A r.F.n r.F.c r.xs := ⟨hA.toRd, fun a ha _ => (fA a ha).1, fun a ha _ => (fA a ha).2.2.1⟩
 have wD : Want w β H r.F.D r.F.m r.F.k r.ys := ⟨hD.toRd, fun a ha _ => (fD a ha).1, fun a ha _ => (fD a ha).2.2.1⟩
 have rA : RowIs w B β H ⟨r.F.A, r.F.n, r.xs⟩ := ⟨by have := hA.own; rw [e1] at this; exact this, fun a ha => (fA a ha).1, fun a ha => (fA a ha).2.1, hf1⟩
 have rD : RowIs w B β H ⟨r.F.D, r.F.m, r.ys⟩ := ⟨by have := hD.own; rw [e2] at this; exact this, fun a ha => (fD a ha).1, fun a ha => (fD a ha).2.1, hf2⟩
 refine ⟨rfl, ⟨GA, WA, LA, gc, wc, lc⟩, Lib.hid ?_, Lib.hid T⟩
 refine ⟨?_, ?_, ?_, ?_, ?_⟩
 ·have := h1.out
  rw [List.flatMap_append, List.flatMap_append, List.map_append, List.length_append, List.length_append]
  simp only [List.flatMap_cons, List.flatMap_nil, List.append_nil, List.length_cons, List.length_nil, List.map_cons, List.map_nil]
  rw [e1, e2] at this
  rw [show r.gv = ratC r.s r.F.A r.F.n r.F.n r.F.D r.F.m r.F.m by unfold Rec.gv; rw [e1, e2]]
  exact this
 ·intro q hq
  rcases List.mem_append.1 hq with hq | hq
  ·obtain ⟨q1, q2, q3, q4⟩ := hB'.recs q hq
   exact ⟨q1.turn T, q2.turn T, q3.turn T, q4.turn T⟩
  ·rw [List.mem_singleton] at hq
   subst hq
   exact ⟨wA.turn T, wD.turn T, hG.turn T, hG2.turn T⟩
 ·intro q hq
  rcases List.mem_append.1 hq with hq | hq
  ·exact (hB'.rows q hq).turn T
  ·rcases List.mem_cons.1 hq with rfl | hq
   ·exact rA.turn T
   ·rw [List.mem_singleton] at hq
    subst hq
    exact rD.turn T
 ·refine List.pairwise_append.2 ⟨hB.apart, ?_, ?_⟩
  ·refine List.pairwise_cons.2 ⟨fun q hq => ?_, List.pairwise_singleton _ _⟩
   rw [List.mem_singleton] at hq
   subst hq
   exact fun a b ha hb e => hD.apt b a hb ha e.symm
  ·intro q hq p hp a b ha hb e
   rcases List.mem_cons.1 hp with rfl | hp
   ·exact (fA b hb).2.2.2 q hq a ha e
   ·rw [List.mem_singleton] at hp
    subst hp
    exact (fD b hb).2.2.2 q hq a ha e
 ·intro k hk
  rcases T.2 k hk with hk | hk
  ·exact hB.low k hk
  ·have := hB.low β (.inl rfl); have := hB.book.lt; omega
theorem number_step {w0 w : World} {B β : Nat} {H : BH} {rs : List Rec} {ls : List Row} (hB : Bk w0 B β H rs ls) (hE : Ext w0 w) {A : Option Addr} {n c : Nat} {C : Option Addr} {p q : Nat} {xs : List Nat} (hA : RdO w A n c xs none) (fA : ∀ a, A = some a → w0.heap.size ≤ a.block)
  (hG : Rd w C p q xs) (hf1 : n ≤ 1000000) (hm : ls.length ≤ 900) (hb : B ≤ w0.heap.size) :
  Calls Tryz.prog 15 #[.pointer (some ⟨β, 0, none⟩), natV A n c, natV C p q] w fun e w' => e = .returned (.tuple #[]) ∧ ∃ H' : BH, Hid (Bk w' B β H' rs (ls ++ [⟨A, n, xs⟩])) ∧ Hid (TurnB w w' β H H') := by
 have hB' := hB.ext hE
 have e1 := hA.full
 refine (number_core β H.GA H.WA H.LA rs.length rs.length ls.length H.gc H.wc H.lc _ _ _ A n c C p q w hB'.book (by omega) (fun w' he => by
  have h := rb_SameNat A C n c p q xs xs w' (hA.toRd.ext he) (hG.ext he)
  rw [show decide (xs = xs) = true by simp] at h
  exact h)).mono ?_
 rintro e w' ⟨rfl, LA, lc, h1, h2⟩
 have T : TurnB w w' β H ⟨H.GA, H.WA, LA, H.gc, H.wc, lc⟩ := h2.out
 have rA : RowIs w B β H ⟨A, n, xs⟩ := ⟨by have := hA.own; rw [e1] at this; exact this, fun a ha => hB.off (fA a ha), fun a ha => Nat.le_trans hb (fA a ha), hf1⟩
 refine ⟨rfl, ⟨H.GA, H.WA, LA, H.gc, H.wc, lc⟩, Lib.hid ?_, Lib.hid T⟩
 refine ⟨?_, ?_, ?_, ?_, ?_⟩
 ·have := h1.out
  rw [List.map_append, List.length_append]
  simp only [List.length_cons, List.length_nil, List.map_cons, List.map_nil]
  rw [e1] at this
  exact this
 ·intro q hq
  obtain ⟨q1, q2, q3, q4⟩ := hB'.recs q hq
  exact ⟨q1.turn T, q2.turn T, q3.turn T, q4.turn T⟩
 ·intro q hq
  rcases List.mem_append.1 hq with hq | hq
  ·exact (hB'.rows q hq).turn T
  ·rw [List.mem_singleton] at hq
   subst hq
   exact rA.turn T
 ·refine List.pairwise_append.2 ⟨hB.apart, List.pairwise_singleton _ _, ?_⟩
  intro q hq p hp a b ha hb e
  have h4 := own_lt (hB.rows q hq).own ha
  rw [List.mem_singleton] at hp
  subst hp
  have := fA b hb; omega
 ·intro k hk
  rcases T.2 k hk with hk | hk
  ·exact hB.low k hk
  ·have := hE.size; omega
theorem flat_range {α : Type} (f : α → List Value) (d : α) : ∀ rs : List α, rs.flatMap f = (List.range rs.length).flatMap fun i => f (rs.getD i d) := by
 intro rs
 have h : rs = (List.range rs.length).map fun i => rs.getD i d := by
  refine List.ext_getElem (by simp) fun i h1 h2 => ?_
  simp [List.getD_eq_getElem?_getD, h1]
 conv => lhs; rw [h]
 rw [List.flatMap_map]
theorem map_range {α : Type} (f : α → Value) (d : α) : ∀ rs : List α, rs.map f = (List.range rs.length).map fun i => f (rs.getD i d) := by
 intro rs
 refine List.ext_getElem (by simp) fun i h1 h2 => ?_
 rw [List.length_map] at h1
 simp [List.getD_eq_getElem?_getD, h1]
theorem getD_mem' {α : Type} {rs : List α} {i : Nat} (d : α) (h : i < rs.length) : rs.getD i d ∈ rs := by
 rw [List.getD_eq_getElem?_getD, List.getElem?_eq_getElem h]
 exact List.getElem_mem h
theorem stands_step {w : World} {B β : Nat} {H : BH} {rs : List Rec} {ls : List Row} (hB : Bk w B β H rs ls) (hn : rs.length ≤ 1000) (hm : ls.length ≤ 1000) :
  Calls Tryz.prog 22 #[.pointer (some ⟨β, 0, none⟩)] w fun e w' => e = .returned (.bool true) ∧ Hid (∀ W, Ext W w → W.heap.size ≤ B → Ext W w') := by
 have hb := hB.book
 have hr := hB.recs
 have hl := hB.rows
 have hp := hB.apart
 let dr : Rec := ⟨false, ⟨none, 0, 0, none, 0, 0⟩, ⟨none, 0, 0, none, 0, 0⟩, [], []⟩
 let dl : Row := ⟨none, 0, []⟩
 rw [flat_range Rec.gv dr, flat_range Rec.wv dr, map_range Row.v dl] at hb
 have h := stands_core β H.GA H.WA H.LA rs.length ls.length H.gc H.wc H.lc (fun i => (rs.getD i dr).s) (fun i => (rs.getD i dr).F) (fun i => (rs.getD i dr).s) (fun i => (rs.getD i dr).G) (fun i => (ls.getD i dl).A) (fun i => (ls.getD i dl).n) w hn hm
  (fun i hi => (hl _ (getD_mem' dl hi)).few) hb (fun i hi => ⟨_, (hl _ (getD_mem' dl hi)).own⟩) (fun i j hi hj hne a b ha hb => by
   have hg : ∀ k, k < ls.length → ∀ (h : k < ls.length), ls.getD k dl = ls[k] := fun k _ h => by rw [List.getD_eq_getElem?_getD, List.getElem?_eq_getElem h]; rfl
   rw [hg i hi hi] at ha
   rw [hg j hj hj] at hb
   rcases Nat.lt_or_gt_of_ne hne with h | h
   ·exact List.pairwise_iff_getElem.1 hp i j hi hj h a b ha hb
   ·exact fun e => List.pairwise_iff_getElem.1 hp j i hj hi h b a hb ha e.symm) (fun i hi a ha => (hl _ (getD_mem' dl hi)).off a ha)
  (fun i hi w' he => by obtain ⟨h1, h2, h3, h4⟩ := hr _ (getD_mem' dr hi); exact same_true (h1.rd.ext he) (h2.rd.ext he) (h3.rd.ext he) (h4.rd.ext he))
 refine h.mono ?_
 rintro e w' ⟨rfl, h1⟩
 refine ⟨rfl, Lib.hid fun W hW hs => h1.ext hW ?_⟩
 rintro k ⟨i, hi, a, ha, rfl⟩
 have := (hl _ (getD_mem' dl hi)).low a ha
 omega
theorem Bk.new (w : World) (t : TypeId) : Bk (w.alloc (Obj.cells #[.slice none 0 0, .slice none 0 0, .slice none 0 0, .bool false] t)) w.heap.size w.heap.size ⟨none, none, none, 0, 0, 0⟩ [] [] := by
 refine ⟨⟨by simp, by simp [go_sem], by simp [go_sem], by simp [go_sem], by simp [go_sem], by simp [go_sem], by simp [go_sem], by simp [go_sem], World.ownsRow_nil _ _ _ _, World.ownsRow_nil _ _ _ _, World.ownsRow_nil _ _ _ _, (fun a h => by cases h), (fun a h => by cases h), (fun a h => by cases h), (fun a b h => by cases h), (fun a b h => by cases h), (fun a b h => by cases h)⟩, (fun r h => by cases h), (fun r h => by cases h), List.Pairwise.nil, ?_⟩
 rintro k (rfl | ⟨a, ha, _⟩ | ⟨a, ha, _⟩ | ⟨a, ha, _⟩)
 ·exact Nat.le_refl _
 ·cases ha
 ·cases ha
 ·cases ha
end Go.Proofs.YtfdmhefjmnlllaaGreatDoor
end
section
/- The second law's book: blocks of the law's own. -/
namespace Go.Proofs.YtfdmhefjmnlllaaGreatDoor
open Go.RowKit
attribute [local irreducible] Calls
abbrev RecOff (r : Rec) (b : Nat) : Prop := (∀ a, r.F.A = some a → r.F.n ≠ 0 → a.block ≠ b) ∧ (∀ a, r.F.D = some a → r.F.m ≠ 0 → a.block ≠ b) ∧ (∀ a, r.G.A = some a → r.G.n ≠ 0 → a.block ≠ b) ∧ (∀ a, r.G.D = some a → r.G.m ≠ 0 → a.block ≠ b)
structure Loc (u : World) (β : Nat) (H : BH) (rs : List Rec) (ls : List Row) (b : Nat) : Prop where
 lt : b < u.heap.size
 c0 : ∃ v, u.cell? ⟨b, 0, none⟩ = some v
 c1 : ∃ v, u.cell? ⟨b, 1, none⟩ = some v
 c2 : ∃ v, u.cell? ⟨b, 2, none⟩ = some v
 froz : ∀ o, u.frozen? ⟨b, o, none⟩ = false
 off : ¬ InBk β H b
 recs : ∀ r ∈ rs, RecOff r b
 rows : ∀ r ∈ ls, ∀ a, r.A = some a → a.block ≠ b
section
variable {u u' : World} {B β : Nat} {H H' : BH} {rs : List Rec} {ls : List Row} {b : Nat}
theorem Loc.ext (h : Loc u β H rs ls b) (he : Ext u u') : Loc u' β H rs ls b := by
 obtain ⟨v0, h0⟩ := h.c0
 obtain ⟨v1, h1⟩ := h.c1
 obtain ⟨v2, h2⟩ := h.c2
 exact ⟨Nat.lt_of_lt_of_le h.lt he.size, ⟨v0, (Below.cell (p := ⟨b, 0, none⟩) he h.lt).trans h0⟩, ⟨v1, (Below.cell (p := ⟨b, 1, none⟩) he h.lt).trans h1⟩, ⟨v2, (Below.cell (p := ⟨b, 2, none⟩) he h.lt).trans h2⟩, fun o => (Below.frozen (p := ⟨b, o, none⟩) he h.lt).trans (h.froz o), h.off, h.recs, h.rows⟩
theorem Loc.new (h : Bk u B β H rs ls) (v0 v1 v2 : Value) (t : TypeId) : Loc (u.alloc (Obj.cells #[v0, v1, v2] t)) β H rs ls u.heap.size := by
 refine ⟨by simp, ⟨v0, by simp [go_sem]⟩, ⟨v1, by simp [go_sem]⟩, ⟨v2, by simp [go_sem]⟩, fun o => by simp [go_sem], h.off (Nat.le_refl _), fun r hr => ?_, fun r hr a ha => ?_⟩
 ·obtain ⟨h1, h2, h3, h4⟩ := h.recs r hr
  exact ⟨fun a ha hn => by have := h1.rd.lt ha hn; omega, fun a ha hn => by have := h2.rd.lt ha hn; omega, fun a ha hn => by have := h3.rd.lt ha hn; omega, fun a ha hn => by have := h4.rd.lt ha hn; omega⟩
 ·have := own_lt (h.rows r hr).own ha; omega
theorem Loc.turn (h : Loc u β H rs ls b) (t : TurnB u u' β H H') {r : Rec} (hr : RecOff r b) (hA : ∀ a, r.F.A = some a → a.block ≠ b) (hD : ∀ a, r.F.D = some a → a.block ≠ b) : Loc u' β H' (rs ++ [r]) (ls ++ [⟨r.F.A, r.F.n, r.xs⟩, ⟨r.F.D, r.F.m, r.ys⟩]) b := by
 obtain ⟨t1, t2, t3, t4⟩ := t.cell h.lt h.off
 obtain ⟨v0, h0⟩ := h.c0
 obtain ⟨v1, h1⟩ := h.c1
 obtain ⟨v2, h2⟩ := h.c2
 refine ⟨t3, ⟨v0, (t1 0).trans h0⟩, ⟨v1, (t1 1).trans h1⟩, ⟨v2, (t1 2).trans h2⟩, fun o => (t2 o).trans (h.froz o), t4, fun q hq => ?_, fun q hq => ?_⟩
 ·rcases List.mem_append.1 hq with hq | hq
  ·exact h.recs q hq
  ·rw [List.mem_singleton] at hq; subst hq; exact hr
 ·rcases List.mem_append.1 hq with hq | hq
  ·exact h.rows q hq
  ·rcases List.mem_cons.1 hq with rfl | hq
   ·exact hA
   ·rw [List.mem_singleton] at hq; subst hq; exact hD
abbrev put3 (u : World) (b : Nat) (v0 v1 v2 : Value) : World := ((u.setCell ⟨b, 0, none⟩ v0).setCell ⟨b, 1, none⟩ v1).setCell ⟨b, 2, none⟩ v2
theorem frm3 (u : World) (b : Nat) (v0 v1 v2 : Value) : Frm (fun k => k = b) u (put3 u b v0 v1 v2) := by
 have one : ∀ (w : World) (o : Nat) (v : Value), Frm (fun k => k = b) w (w.setCell ⟨b, o, none⟩ v) := fun w o v => Frm.set v (.inl rfl)
 exact ((one _ 0 v0).trans (one _ 1 v1)).trans (one _ 2 v2)
theorem Bk.put (h : Bk u B β H rs ls) (hl : Loc u β H rs ls b) (v0 v1 v2 : Value) : Bk (put3 u b v0 v1 v2) B β H rs ls := by
 have t := frm3 u b v0 v1 v2
 refine ⟨h.book.frm t (fun k hk e => hl.off (e ▸ hk)), fun r hr => ?_, fun r hr => ?_, h.apart, h.low⟩
 ·obtain ⟨h1, h2, h3, h4⟩ := h.recs r hr
  obtain ⟨g1, g2, g3, g4⟩ := hl.recs r hr
  exact ⟨h1.frm t g1, h2.frm t g2, h3.frm t g3, h4.frm t g4⟩
 ·have hh := h.rows r hr
  exact ⟨own_frm hh.own t (hl.rows r hr), hh.off, hh.low, hh.few⟩
theorem put_cells (hl : Loc u β H rs ls b) (v0 v1 v2 : Value) : (put3 u b v0 v1 v2).cell? ⟨b, 0, none⟩ = some v0 ∧ (put3 u b v0 v1 v2).cell? ⟨b, 1, none⟩ = some v1 ∧ (put3 u b v0 v1 v2).cell? ⟨b, 2, none⟩ = some v2 := by
 obtain ⟨w0, h0⟩ := hl.c0
 obtain ⟨w1, h1⟩ := hl.c1
 obtain ⟨w2, h2⟩ := hl.c2
 exact set3 h0 h1 h2 v0 v1 v2
theorem Loc.put (hl : Loc u β H rs ls b) (v0 v1 v2 : Value) : Loc (put3 u b v0 v1 v2) β H rs ls b := by
 obtain ⟨q0, q1, q2⟩ := put_cells hl v0 v1 v2
 exact ⟨by simpa using hl.lt, ⟨_, q0⟩, ⟨_, q1⟩, ⟨_, q2⟩, fun o => by simp [go_sem, hl.froz o], hl.off, hl.recs, hl.rows⟩
theorem Loc.put' {b2 : Nat} (hl : Loc u β H rs ls b2) (hne : b2 ≠ b) (v0 v1 v2 : Value) : Loc (put3 u b v0 v1 v2) β H rs ls b2 := by
 have t := frm3 u b v0 v1 v2
 have cc : ∀ o, (put3 u b v0 v1 v2).cell? ⟨b2, o, none⟩ = u.cell? ⟨b2, o, none⟩ := fun o => t.cell (p := ⟨b2, o, none⟩) hl.lt hne
 obtain ⟨w0, h0⟩ := hl.c0
 obtain ⟨w1, h1⟩ := hl.c1
 obtain ⟨w2, h2⟩ := hl.c2
 exact ⟨by simpa using hl.lt, ⟨w0, (cc 0).trans h0⟩, ⟨w1, (cc 1).trans h1⟩, ⟨w2, (cc 2).trans h2⟩, fun o => by simp [go_sem, hl.froz o], hl.off, hl.recs, hl.rows⟩
theorem RdO.frm {S : Nat → Prop} {w w' : World} {A : Option Addr} {n c : Nat} {xs : List Nat} {Z : Option Addr} (h : RdO w A n c xs Z) (hf : Frm S w w') (ho : ∀ a, A = some a → ¬ S a.block) : RdO w' A n c xs Z :=
 ⟨h.toRd.frm hf (fun a ha _ => ho a ha), own_frm h.own hf ho, h.apt, h.full⟩
end
end Go.Proofs.YtfdmhefjmnlllaaGreatDoor
end
section
/- The second law's book: how things stand between two adds. -/
namespace Go.Proofs.YtfdmhefjmnlllaaGreatDoor
open Go.RowKit
attribute [local irreducible] Calls
structure Sta (W u : World) (β : Nat) (H : BH) (rs : List Rec) (ls : List Row) (Ls : List Nat) : Prop where
 ext : Ext W u
 bk : Bk u β β H rs ls
 low : W.heap.size ≤ β
 locs : ∀ b, b ∈ Ls → Loc u β H rs ls b ∧ β ≤ b
structure NewR (u : World) (β : Nat) (H : BH) (ls : List Row) (Ls : List Nat) (A : Option Addr) (n c : Nat) (xs : List Nat) (Z : Option Addr) : Prop where
 rd : RdO u A n c xs Z
 off : ∀ a, A = some a → ¬ InBk β H a.block ∧ β ≤ a.block ∧ (∀ q ∈ ls, ∀ b, q.A = some b → b.block ≠ a.block) ∧ ∀ b, b ∈ Ls → a.block ≠ b
structure WantR (u : World) (β : Nat) (H : BH) (Ls : List Nat) (A : Option Addr) (n c : Nat) (xs : List Nat) : Prop where
 want : Want u β H A n c xs
 loc : ∀ a, A = some a → n ≠ 0 → ∀ b, b ∈ Ls → a.block ≠ b
section
variable {W u u' : World} {β : Nat} {H H' : BH} {rs : List Rec} {ls : List Row} {Ls : List Nat} {A : Option Addr} {n c : Nat} {xs : List Nat} {Z : Option Addr} {b : Nat}
theorem Sta.step (h : Sta W u β H rs ls Ls) (he : Ext u u') : Sta W u' β H rs ls Ls := ⟨jT h.ext he, h.bk.ext he, h.low, fun b hb => ⟨(h.locs b hb).1.ext he, (h.locs b hb).2⟩⟩
theorem Sta.book_lt (h : Sta W u β H rs ls Ls) : β < u.heap.size := h.bk.book.lt
theorem Sta.alloc (h : Sta W u β H rs ls Ls) (v0 v1 v2 : Value) (t : TypeId) : Sta W (u.alloc (Obj.cells #[v0, v1, v2] t)) β H rs ls (u.heap.size :: Ls) := by
 have he := jA (jR u) (Obj.cells #[v0, v1, v2] t)
 refine ⟨jT h.ext he, h.bk.ext he, h.low, fun b hb => ?_⟩
 rcases List.mem_cons.1 hb with rfl | hb
 ·exact ⟨Loc.new h.bk v0 v1 v2 t, Nat.le_of_lt h.book_lt⟩
 ·exact ⟨(h.locs b hb).1.ext he, (h.locs b hb).2⟩
theorem Sta.put (h : Sta W u β H rs ls Ls) (hb : b ∈ Ls) (v0 v1 v2 : Value) : Sta W (put3 u b v0 v1 v2) β H rs ls Ls := by
 have hl := h.locs b hb
 refine ⟨ext_set3 h.ext (Nat.le_trans h.low hl.2) _ _ _, h.bk.put hl.1 _ _ _, h.low, fun b2 hb2 => ?_⟩
 have hl2 := h.locs b2 hb2
 by_cases e : b2 = b
 ·subst e; exact ⟨hl2.1.put _ _ _, hl2.2⟩
 ·exact ⟨hl2.1.put' e _ _ _, hl2.2⟩
theorem Sta.other (h : Sta W u β H rs ls Ls) {b2 : Nat} (hb2 : b2 ∈ Ls) (hne : b2 ≠ b) (v0 v1 v2 : Value) (o : Nat) : (put3 u b v0 v1 v2).cell? ⟨b2, o, none⟩ = u.cell? ⟨b2, o, none⟩ :=
 (frm3 u b v0 v1 v2).cell (p := ⟨b2, o, none⟩) (h.locs b2 hb2).1.lt hne
theorem NewR.of {U : World} (h : Sta W U β H rs ls Ls) (hr : RdO u A n c xs Z) (hf : Fr U A) : NewR u β H ls Ls A n c xs Z :=
 ⟨hr, fun a ha => by
  have h1 := hf a ha
  refine ⟨h.bk.off h1, by have := h.book_lt; omega, fun q hq b hb => ?_, fun b hb => ?_⟩
  ·have := own_lt (h.bk.rows q hq).own hb; omega
  ·have := (h.locs b hb).1.lt; omega⟩
theorem NewR.step (h : NewR u β H ls Ls A n c xs Z) (he : Ext u u') : NewR u' β H ls Ls A n c xs Z := ⟨h.rd.ext he, h.off⟩
theorem NewR.alloc (h : NewR u β H ls Ls A n c xs Z) (ob : Obj) : NewR (u.alloc ob) β H ls (u.heap.size :: Ls) A n c xs Z :=
 ⟨h.rd.ext (jA (jR u) ob), fun a ha => by
  obtain ⟨h1, h2, h3, h4⟩ := h.off a ha
  refine ⟨h1, h2, h3, fun b hb => ?_⟩
  rcases List.mem_cons.1 hb with rfl | hb
  ·have := own_lt h.rd.own ha; omega
  ·exact h4 b hb⟩
theorem NewR.put (h : NewR u β H ls Ls A n c xs Z) (hb : b ∈ Ls) (v0 v1 v2 : Value) : NewR (put3 u b v0 v1 v2) β H ls Ls A n c xs Z :=
 ⟨h.rd.frm (frm3 u b v0 v1 v2) (fun a ha => (h.off a ha).2.2.2 b hb), h.off⟩
theorem WantR.of {U : World} (h : Sta W U β H rs ls Ls) (hr : Rd u A n c xs) (hf : Fr U A) : WantR u β H Ls A n c xs :=
 ⟨⟨hr, fun a ha _ => h.bk.off (hf a ha), fun a ha _ => by have := hf a ha; have := h.book_lt; omega⟩, fun a ha _ b hb => by have := hf a ha; have := (h.locs b hb).1.lt; omega⟩
theorem WantR.step (h : WantR u β H Ls A n c xs) (he : Ext u u') : WantR u' β H Ls A n c xs := ⟨h.want.ext he, h.loc⟩
theorem WantR.alloc (h : WantR u β H Ls A n c xs) (ob : Obj) : WantR (u.alloc ob) β H (u.heap.size :: Ls) A n c xs :=
 ⟨h.want.ext (jA (jR u) ob), fun a ha hn b hb => by
  rcases List.mem_cons.1 hb with rfl | hb
  ·have := h.want.rd.lt ha hn; omega
  ·exact h.loc a ha hn b hb⟩
theorem WantR.put (h : WantR u β H Ls A n c xs) (hb : b ∈ Ls) (v0 v1 v2 : Value) : WantR (put3 u b v0 v1 v2) β H Ls A n c xs :=
 ⟨h.want.frm (frm3 u b v0 v1 v2) (fun a ha hn => h.loc a ha hn b hb), h.loc⟩
theorem WantR.turn (h : WantR u β H Ls A n c xs) (t : TurnB u u' β H H') : WantR u' β H' Ls A n c xs := ⟨h.want.turn t, h.loc⟩
theorem Sta.adds (h : Sta W u β H rs ls Ls) (s : Bool) (F G : FH) (xs ys : List Nat) (hA : NewR u β H ls Ls F.A F.n F.c xs none) (hD : NewR u β H ls Ls F.D F.m F.k ys F.A) (gA : WantR u β H Ls G.A G.n G.c xs) (gD : WantR u β H Ls G.D G.m G.k ys) (lx : xs.length ≤ 1000000) (ly : ys.length ≤ 1000000) (E : Int) (hn : rs.length ≤ 900) (hm : ls.length ≤ 900) :
  Calls Tryz.prog 11 #[.pointer (some ⟨β, 0, none⟩), fV s F, .int .i64 E, fV s G, .int .i64 E] u fun e w' => e = .returned (.tuple #[]) ∧ ∃ H' : BH, Hid (Sta W w' β H' (rs ++ [⟨s, F, G, xs, ys⟩]) (ls ++ [⟨F.A, F.n, xs⟩, ⟨F.D, F.m, ys⟩]) Ls) ∧ Hid (TurnB u w' β H H') := by
 have o1 := hA.off
 have o2 := hD.off
 refine (adds_at h.bk ⟨s, F, G, xs, ys⟩ hA.rd hD.rd (fun a ha => ⟨(o1 a ha).1, (o1 a ha).2.1, (o1 a ha).2.1, (o1 a ha).2.2.1⟩) (fun a ha => ⟨(o2 a ha).1, (o2 a ha).2.1, (o2 a ha).2.1, (o2 a ha).2.2.1⟩) gA.want gD.want (by show F.n ≤ 1000000; have := hA.rd.len; omega) (by show F.m ≤ 1000000; have := hD.rd.len; omega) E hn hm).mono ?_
 rintro e w' ⟨rfl, H', hB, hT⟩
 refine ⟨rfl, H', Lib.hid ⟨hT.out.ext h.bk h.ext h.low, hB.out, h.low, fun b hb => ?_⟩, hT⟩
 have hl := h.locs b hb
 exact ⟨hl.1.turn hT.out (r := ⟨s, F, G, xs, ys⟩) ⟨fun a ha _ => (o1 a ha).2.2.2 b hb, fun a ha _ => (o2 a ha).2.2.2 b hb, fun a ha hn => gA.loc a ha hn b hb, fun a ha hn => gD.loc a ha hn b hb⟩ (fun a ha => (o1 a ha).2.2.2 b hb) (fun a ha => (o2 a ha).2.2.2 b hb), hl.2⟩
theorem Sta.kept (h : Sta W u β H rs ls Ls) (t : TurnB u u' β H H') (hb : b ∈ Ls) (o : Nat) : u'.cell? ⟨b, o, none⟩ = u.cell? ⟨b, o, none⟩ := (t.cell (h.locs b hb).1.lt (h.locs b hb).1.off).1 o
theorem Bk.below {S : Nat → Prop} (h : Bk u β β H rs ls) (t : Frm S u u') (hS : ∀ k, S k → k < β) : Bk u' β β H rs ls := by
 refine ⟨h.book.frm t (fun k hk e => by have := hS k e; have := h.low k hk; omega), fun r hr => ?_, fun r hr => ?_, h.apart, h.low⟩
 ·obtain ⟨h1, h2, h3, h4⟩ := h.recs r hr
  exact ⟨h1.frm t fun a ha hn e => by have := hS _ e; have := h1.lo a ha hn; omega, h2.frm t fun a ha hn e => by have := hS _ e; have := h2.lo a ha hn; omega, h3.frm t fun a ha hn e => by have := hS _ e; have := h3.lo a ha hn; omega, h4.frm t fun a ha hn e => by have := hS _ e; have := h4.lo a ha hn; omega⟩
 ·exact ⟨own_frm (h.rows r hr).own t (fun a ha e => by have := hS _ e; have := (h.rows r hr).low a ha; omega), (h.rows r hr).off, (h.rows r hr).low, (h.rows r hr).few⟩
end
end Go.Proofs.YtfdmhefjmnlllaaGreatDoor
end
