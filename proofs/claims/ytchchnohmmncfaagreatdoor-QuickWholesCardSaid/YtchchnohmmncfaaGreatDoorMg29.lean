/- Lemmas of this proof, laid together: BkA, BkB, BkC, BkE, BkD, BkF, ParO, D2F, D2I, R5B, R5C, R5D, R5E, R5F, R5G. -/
import Derived.Test.YtchchnohmmncfaaGreatDoorMg17
import Derived.Test.YtchchnohmmncfaaGreatDoorMg28
import Derived.Deep.Heap
import Derived.Deep.AppendLies
import Derived.Deep.DeepCutAuto
import Derived.Deep.RegionWith
import Derived.Deep.RegionLaw
import Derived.ArgAppend
import Derived.Deep.LoopGhost
import Derived.Test.YtchchnohmmncfaaGreatDoorMg21
import Derived.Test.YtchchnohmmncfaaGreatDoorMg23
import Derived.Test.YtchchnohmmncfaaGreatDoorMg19
set_option linter.unusedSimpArgs false
set_option linter.unusedVariables false
section
/- The second law's book: worlds in which some blocks only have turned. -/
namespace Go.Proofs.YtchchnohmmncfaaGreatDoor
open Go.RowKit
/-- Only blocks that S names have turned, and new ones have come. -/
structure Frm (S : Nat → Prop) (w w' : World) : Prop where
  os : w'.os = w.os
  tape : w'.tape = w.tape
  output : w'.output = w.output
  size : w.heap.size ≤ w'.heap.size
  block : ∀ k, k < w.heap.size → ¬ S k → w'.heap[k]? = w.heap[k]?
theorem Frm.refl (S : Nat → Prop) (w : World) : Frm S w w := ⟨rfl, rfl, rfl, Nat.le_refl _, fun _ _ _ => rfl⟩
theorem Frm.trans {S : Nat → Prop} {u v w : World} (h : Frm S u v) (k : Frm S v w) : Frm S u w :=
  ⟨k.os.trans h.os, k.tape.trans h.tape, k.output.trans h.output, Nat.le_trans h.size k.size, fun i hi hs => (k.block i (Nat.lt_of_lt_of_le hi h.size) hs).trans (h.block i hi hs)⟩
theorem Frm.of {S : Nat → Prop} {w w' : World} (h : Ext w w') : Frm S w w' := ⟨h.os, h.tape, h.output, h.size, fun i hi _ => h.block i hi⟩
theorem Frm.mono {S T : Nat → Prop} {w w' : World} (h : Frm S w w') (hT : ∀ k, S k → T k) : Frm T w w' := ⟨h.os, h.tape, h.output, h.size, fun i hi hs => h.block i hi (fun h1 => hs (hT i h1))⟩
theorem Frm.set {S : Nat → Prop} {w : World} {b o : Nat} (v : Value) (hb : S b ∨ w.heap.size ≤ b) : Frm S w (w.setCell ⟨b, o, none⟩ v) :=
  ⟨rfl, rfl, rfl, by simp, fun i hi hs => Go.Deep.blk_setCell_other w ⟨b, o, none⟩ v i (fun e => by rcases hb with h1 | h1; exact hs (e ▸ h1); simp only at e; omega)⟩
theorem Frm.ext {S : Nat → Prop} {W w w' : World} (h : Frm S w w') (hE : Ext W w) (hS : ∀ k, S k → W.heap.size ≤ k) : Ext W w' :=
  ⟨h.os.trans hE.os, h.tape.trans hE.tape, h.output.trans hE.output, Nat.le_trans hE.size h.size, fun i hi => (h.block i (Nat.lt_of_lt_of_le hi hE.size) (fun hs => by have := hS i hs; omega)).trans (hE.block i hi)⟩
theorem Frm.cell {S : Nat → Prop} {w w' : World} (h : Frm S w w') {p : Addr} (hp : p.block < w.heap.size) (hs : ¬ S p.block) : w'.cell? p = w.cell? p := World.cell?_of_block (w := w) (h.block p.block hp hs)
theorem Frm.frozen {S : Nat → Prop} {w w' : World} (h : Frm S w w') {p : Addr} (hp : p.block < w.heap.size) (hs : ¬ S p.block) : w'.frozen? p = w.frozen? p := World.frozen?_of_block (w := w) (h.block p.block hp hs)
/-- The blocks of a book. -/
def InBook (β : Nat) (GA WA LA : Option Addr) (k : Nat) : Prop := k = β ∨ (∃ a, GA = some a ∧ a.block = k) ∨ (∃ a, WA = some a ∧ a.block = k) ∨ (∃ a, LA = some a ∧ a.block = k)
section
variable {w1 W w2 : World} {β : Nat} {GA WA LA : Option Addr} {n q m gc wc lc : Nat} {gs ws ls : List Value}
end
end Go.Proofs.YtchchnohmmncfaaGreatDoor
end
section
/- The second law's book: a fraction is added. -/
namespace Go.Proofs.YtchchnohmmncfaaGreatDoor
open Go.RowKit
attribute [local go_sem] sz2 sz3 sz4 sz5 sz6 sz7 sz8
set_option maxHeartbeats 4000000
set_option maxRecDepth 100000
attribute [local irreducible] Calls
abbrev ratC (s : Bool) (A : Option Addr) (n c : Nat) (D : Option Addr) (m k : Nat) : List Value := [.bool s, .slice A n c, .slice D m k]
end Go.Proofs.YtchchnohmmncfaaGreatDoor
end
section
/- The second law's book, as a list of what was answered: adds, number, stands. -/
namespace Go.Proofs.YtchchnohmmncfaaGreatDoor
open Go.RowKit
set_option maxHeartbeats 4000000
set_option maxRecDepth 100000
attribute [local irreducible] Calls
/-- What was answered, what was wanted; sign, limbs. -/
structure Rec where
  s : Bool
  F : FH
  G : FH
  xs : List Nat
  ys : List Nat
/-- A row of limbs that was answered. -/
structure Row where
  A : Option Addr
  n : Nat
  xs : List Nat
/-- Where a book's rows are. -/
structure BH where
  GA : Option Addr
  WA : Option Addr
  LA : Option Addr
  gc : Nat
  wc : Nat
  lc : Nat
abbrev InBk (β : Nat) (H : BH) (k : Nat) : Prop := InBook β H.GA H.WA H.LA k
abbrev Rec.wv (r : Rec) : List Value := ratC r.s r.G.A r.G.n r.G.c r.G.D r.G.m r.G.k
abbrev Row.v (r : Row) : Value := .slice r.A r.n r.n
/-- Limbs that lie here, in a block that a book has not. -/
structure Want (w : World) (β : Nat) (H : BH) (A : Option Addr) (n c : Nat) (xs : List Nat) : Prop where
  rd : Rd w A n c xs
  off : ∀ a, A = some a → n ≠ 0 → ¬ InBk β H a.block
  lo : ∀ a, A = some a → n ≠ 0 → β ≤ a.block
structure RowIs (w : World) (B β : Nat) (H : BH) (r : Row) : Prop where
  own : w.ownsRow 0 38 1 r.v r.n (r.xs.map u32V)
  off : ∀ a, r.A = some a → ¬ InBk β H a.block
  low : ∀ a, r.A = some a → B ≤ a.block
  few : r.n ≤ 1000000
abbrev TurnB (w w' : World) (β : Nat) (H H' : BH) : Prop := Frm (InBk β H) w w' ∧ ∀ k, InBk β H' k → InBk β H k ∨ w.heap.size ≤ k
theorem Want.ext {w w' : World} {β : Nat} {H : BH} {A : Option Addr} {n c : Nat} {xs : List Nat} (h : Want w β H A n c xs) (he : Ext w w') : Want w' β H A n c xs := ⟨h.rd.ext he, h.off, h.lo⟩
theorem Rd.lt {w : World} {A : Option Addr} {n c : Nat} {xs : List Nat} (h : Rd w A n c xs) {a : Addr} (ha : A = some a) (hn : n ≠ 0) : a.block < w.heap.size := by
  obtain ⟨b, o, s⟩ := a
  have hs := h.at_ _ ha
  simp only at hs
  subst hs
  exact (h.cells b o ha 0 (by rw [h.len]; omega)).1
theorem RowIs.ext {w w' : World} {B β : Nat} {H : BH} {r : Row} (h : RowIs w B β H r) (he : Ext w w') : RowIs w' B β H r := ⟨own_ext h.own he, h.off, h.low, h.few⟩
theorem TurnB.cell {w w' : World} {β : Nat} {H H' : BH} (t : TurnB w w' β H H') {b : Nat} (hb : b < w.heap.size) (ho : ¬ InBk β H b) : (∀ o, w'.cell? ⟨b, o, none⟩ = w.cell? ⟨b, o, none⟩) ∧ (∀ o, w'.frozen? ⟨b, o, none⟩ = w.frozen? ⟨b, o, none⟩) ∧ b < w'.heap.size ∧ ¬ InBk β H' b :=
  ⟨fun o => t.1.cell (p := ⟨b, o, none⟩) hb ho, fun o => t.1.frozen (p := ⟨b, o, none⟩) hb ho, Nat.lt_of_lt_of_le hb t.1.size, fun e => by
    rcases t.2 _ e with e | e
    · exact ho e
    · omega⟩
end Go.Proofs.YtchchnohmmncfaaGreatDoor
end
section
/- A text is read: the program's answer and the document's, together. -/
namespace Go.Proofs.YtchchnohmmncfaaGreatDoor
open Go.RowKit
attribute [local go_sem] bs_size bs_extract bs_get bs_append bs_toList const_get
attribute [local go_sem] sz2 sz3 sz4 sz5 sz6 sz7 sz8
set_option maxHeartbeats 4000000
set_option maxRecDepth 100000
attribute [local irreducible] Calls
theorem RdO.nil (w : World) (Z : Option Addr) : RdO w none 0 0 [] Z := ⟨Rd.nil w, World.ownsRow_nil _ _ _ _, (fun a z h => by cases h), rfl⟩
end Go.Proofs.YtchchnohmmncfaaGreatDoor
end
section
/- The document's fractions: the sign turned, dropped. -/
namespace Go.Proofs.YtchchnohmmncfaaGreatDoor.NB
open Go.RowKit
attribute [local go_sem] sz2 sz3 sz4 sz5 sz6 sz7 sz8
set_option maxHeartbeats 4000000
set_option maxRecDepth 100000
attribute [local irreducible] Calls
theorem br_SetSelf (g : Nat) (z : Int) (A : Option Addr) (n c d : Nat) (D : Option Addr) (m e : Nat) (hn : n ≤ 1000000) (hm : m ≤ 1000000) (w : World) (hx : RatIs w g z A n c d D m e) :
    Calls Tryz.prog 67 #[.pointer (some ⟨g, 0, none⟩), .pointer (some ⟨g, 0, none⟩)] w (FPost w g z d) := by
  have HX := Lib.hid hx
  have x2 := hx.c2
  have hlt := hx.int.room.lt
  clear hx
  go_enter Tryz.func67, Tryz.ntmps67
  go_upto_region 2 with (first
    | (go_at_call 78; (with_reducible refine (bw_copied D m e _ hm _ HX.out.rd).mono ?_); rintro e w1 ⟨rfl, hR1, xb1⟩; obtain ⟨xc1, xf1, xl1, xz1⟩ := ext_use xb1; (try simp at xz1))
   )
  have hX1 := Lib.hid ((HX.out.ext xb1).ext (ext_drew (ext_refl w1)))
  have kS := bi_Setx g 0 g 0 A n c z hn w1.drew hX1.out.int.room hX1.out.int
  have g2 := hX1.out.c2
  have f2 := hX1.out.f2
  have hlt1 := hX1.out.int.room.lt
  go_region_with (first
    | (go_at_call 45; (with_reducible refine kS.mono ?_); rintro e w3 ⟨rfl, A3, n3, c3, hI3, xt3, hP3⟩)
   )
  have g2' := (hP3.out 2 (by decide) (by decide)).1.trans g2
  have g3' := (hP3.out 2 (by decide) (by decide)).2.trans f2
  have hlt3 := hI3.out.1.room.lt
  have hO : Off (some ⟨w.heap.size, 0, none⟩) m g := fun x hx _ e => by cases hx; simp only at e; omega
  have hD3 : Rd w3 (some ⟨w.heap.size, 0, none⟩) m m (lim d) := (hR1.out.ext (ext_drew (ext_refl w1))).tch xt3 hO
  have hM := Lib.hid (rat_made (D := some ⟨w.heap.size, 0, none⟩) (m := m) (k := m) (d := d) hI3.out.1 ⟨_, g2'⟩ g3' hD3 hO)
  have hT3 := Lib.hid ((Tch.of (b := g) xb1).trans ((Tch.of (ext_drew (ext_refl w1))).trans xt3))
  have hF3 : Fr w A3 := Fr.mono hI3.out.2 (ext_trans xb1 (ext_drew (ext_refl w1)))
  clear kS xt3 hD3 hX1 HX hR1
  go_wp2_with fail
  refine bodyPost_ret (v := .pointer (some ⟨g, 0, none⟩)) ?h rfl ⟨rfl, A3, n3, c3, some ⟨w.heap.size, 0, none⟩, m, m, ⟨hM.out, hF3, fun a ha => by cases ha; exact Nat.le_refl _⟩, hT3.out.set _ _⟩
  case h => simp [results, Tryz.results67, go_sem]
/-- The sign's cell is written. -/
theorem rat_sign {w : World} {g : Nat} {z y : Int} {A : Option Addr} {n c d : Nat} {D : Option Addr} {m e : Nat} (h : RatIs w g z A n c d D m e) (hy : y.natAbs = z.natAbs) : RatIs (w.setCell ⟨g, 0, none⟩ (.bool (decide (y < 0)))) g y A n c d D m e := by
  have ht : Tch g w (w.setCell ⟨g, 0, none⟩ (.bool (decide (y < 0)))) := (Tch.refl g w).set 0 _
  have hA := h.int.rd.tch ht h.int.off
  have hD := h.rd.tch ht h.off
  obtain ⟨⟨⟨r1, ⟨v0, r2⟩, ⟨v1, r3⟩, r4, r5⟩, i2, i3, i4, i5⟩, k2, k3, k4, k5⟩ := h
  rw [← hy] at hA
  refine ⟨⟨⟨by simpa using r1, ⟨_, World.cell?_setCell_same _ _ _ r2⟩, ⟨v1, ?_⟩, by simp [go_sem]; exact r4, by simp [go_sem]; exact r5⟩, World.cell?_setCell_same _ _ _ r2, ?_, hA, i5⟩, ?_, by simp [go_sem]; exact k3, hD, k5⟩
  · rw [World.cell?_setCell_other _ _ _ _ (by intro e; simp at e)]; exact r3
  · rw [World.cell?_setCell_other _ _ _ _ (by intro e; simp at e)]; exact i3
  · rw [World.cell?_setCell_other _ _ _ _ (by intro e; simp at e)]; exact k2
theorem br_NegSelf (g : Nat) (z : Int) (A : Option Addr) (n c d : Nat) (D : Option Addr) (m e : Nat) (hn : n ≤ 1000000) (hm : m ≤ 1000000) (w : World) (hx : RatIs w g z A n c d D m e) :
    Calls Tryz.prog 51 #[.pointer (some ⟨g, 0, none⟩), .pointer (some ⟨g, 0, none⟩)] w (FPost w g (-z) d) := by
  have kS := br_SetSelf g z A n c d D m e hn hm w hx
  clear hx
  have hc : (decide (z < 0) = true ∧ True ∧ decide (-z < 0) = false) ∨ (decide (z < 0) = false ∧ z = 0 ∧ decide (-z < 0) = false) ∨ (decide (z < 0) = false ∧ 0 < z ∧ decide (-z < 0) = true) := by
    by_cases h : z < 0
    · exact .inl ⟨decide_eq_true h, trivial, decide_eq_false (by omega)⟩
    · by_cases h0 : z = 0
      · exact .inr (.inl ⟨decide_eq_false h, h0, decide_eq_false (by omega)⟩)
      · exact .inr (.inr ⟨decide_eq_false h, by omega, decide_eq_true (by omega)⟩)
  go_enter Tryz.func51, Tryz.ntmps51
  go_upto_region 2 with (first
    | (go_at_call 67; (with_reducible refine kS.mono ?_); rintro e w3 ⟨rfl, A3, n3, c3, D3, m3, k3, hR3, xt3⟩)
   )
  have i0 := hR3.out.1.int.neg
  have i1 := hR3.out.1.int.words
  have fz := hR3.out.1.int.room.f0
  have lt3 := hR3.out.1.int.room.lt
  have e3 := hR3.out.1.int.rd.len
  rw [Nat.zero_add] at i1
  have hM := Lib.hid (rat_sign hR3.out.1 (y := -z) (Int.natAbs_neg z))
  have hT := Lib.hid (xt3.set 0 (.bool (decide (-z < 0))))
  have hF := Lib.hid hR3.out.2
  clear kS hR3 xt3
  rcases hc with ⟨c1, c2, c3'⟩ | ⟨c1, c2, c3'⟩ | ⟨c1, c2, c3'⟩
  · rw [c1] at i0
    rw [c3'] at hM hT
    go_wp2
    refine bodyPost_ret (v := .pointer (some ⟨g, 0, none⟩)) ?h rfl ⟨rfl, A3, n3, c3, D3, m3, k3, ⟨hM.out, hF.out⟩, hT.out⟩
    case h => simp [results, Tryz.results51, go_sem]
  · rw [c1] at i0
    rw [c3'] at hM hT
    have hn0 : n3 = 0 := by rw [c2, Int.natAbs_zero, lim_zero] at e3; simpa using e3.symm
    have hn1 : decide ((0 : Int) < (n3 : Int)) = false := decide_eq_false (by omega)
    have hn2 : decide (0 < n3) = false := decide_eq_false (by omega)
    clear c2 e3 hn0
    go_wp2
    refine bodyPost_ret (v := .pointer (some ⟨g, 0, none⟩)) ?h rfl ⟨rfl, A3, n3, c3, D3, m3, k3, ⟨hM.out, hF.out⟩, hT.out⟩
    case h => simp [results, Tryz.results51, go_sem]
  · rw [c1] at i0
    rw [c3'] at hM hT
    have hn0 : n3 ≠ 0 := fun h => by
      rw [h] at e3
      have := lim_nil.1 (List.eq_nil_of_length_eq_zero e3)
      omega
    have hn1 : decide ((0 : Int) < (n3 : Int)) = true := decide_eq_true (by omega)
    have hn2 : decide (0 < n3) = true := decide_eq_true (by omega)
    clear c2 e3 hn0
    go_wp2
    refine bodyPost_ret (v := .pointer (some ⟨g, 0, none⟩)) ?h rfl ⟨rfl, A3, n3, c3, D3, m3, k3, ⟨hM.out, hF.out⟩, hT.out⟩
    case h => simp [results, Tryz.results51, go_sem]
end Go.Proofs.YtchchnohmmncfaaGreatDoor.NB
end
section
/- The document's fractions: another one's copy; without its sign. -/
namespace Go.Proofs.YtchchnohmmncfaaGreatDoor.NB
open Go.RowKit
attribute [local go_sem] sz2 sz3 sz4 sz5 sz6 sz7 sz8
set_option maxHeartbeats 4000000
set_option maxRecDepth 100000
attribute [local irreducible] Calls
theorem br_SetO (g b : Nat) (z : Int) (A : Option Addr) (n c d : Nat) (D : Option Addr) (m e : Nat) (hn : n ≤ 1000000) (hm : m ≤ 1000000) (w : World) (hr : RatRoom w g) (hx : RatIs w b z A n c d D m e) :
    Calls Tryz.prog 67 #[.pointer (some ⟨g, 0, none⟩), .pointer (some ⟨b, 0, none⟩)] w (FPost w g z d) := by
  have HX := Lib.hid hx
  have HR := Lib.hid hr
  have x2 := hx.c2
  have hlt := hr.int.lt
  clear hx hr
  go_enter Tryz.func67, Tryz.ntmps67
  go_upto_region 2 with (first
    | (go_at_call 78; (with_reducible refine (bw_copied D m e _ hm _ HX.out.rd).mono ?_); rintro e w1 ⟨rfl, hR1, xb1⟩; obtain ⟨xc1, xf1, xl1, xz1⟩ := ext_use xb1; (try simp at xz1))
   )
  have hX1 := Lib.hid ((HX.out.ext xb1).ext (ext_drew (ext_refl w1)))
  have hR1' := Lib.hid ((HR.out.ext xb1).ext (ext_drew (ext_refl w1)))
  have kS := bi_Setx g 0 b 0 A n c z hn w1.drew hR1'.out.int hX1.out.int
  obtain ⟨r1, ⟨v2, g2⟩, f2⟩ := hR1'.out
  have hlt1 := r1.lt
  clear r1
  go_region_with (first
    | (go_at_call 45; (with_reducible refine kS.mono ?_); rintro e w3 ⟨rfl, A3, n3, c3, hI3, xt3, hP3⟩)
   )
  have g2' := (hP3.out 2 (by decide) (by decide)).1.trans g2
  have g3' := (hP3.out 2 (by decide) (by decide)).2.trans f2
  have hlt3 := hI3.out.1.room.lt
  have hO : Off (some ⟨w.heap.size, 0, none⟩) m g := fun x hx _ e => by cases hx; simp only at e; omega
  have hD3 : Rd w3 (some ⟨w.heap.size, 0, none⟩) m m (lim d) := (hR1.out.ext (ext_drew (ext_refl w1))).tch xt3 hO
  have hM := Lib.hid (rat_made (D := some ⟨w.heap.size, 0, none⟩) (m := m) (k := m) (d := d) hI3.out.1 ⟨_, g2'⟩ g3' hD3 hO)
  have hT3 := Lib.hid ((Tch.of (b := g) xb1).trans ((Tch.of (ext_drew (ext_refl w1))).trans xt3))
  have hF3 : Fr w A3 := Fr.mono hI3.out.2 (ext_trans xb1 (ext_drew (ext_refl w1)))
  clear kS xt3 hD3 hX1 HX hR1 HR hR1'
  go_wp2_with fail
  refine bodyPost_ret (v := .pointer (some ⟨g, 0, none⟩)) ?h rfl ⟨rfl, A3, n3, c3, some ⟨w.heap.size, 0, none⟩, m, m, ⟨hM.out, hF3, fun a ha => by cases ha; exact Nat.le_refl _⟩, hT3.out.set _ _⟩
  case h => simp [results, Tryz.results67, go_sem]
theorem br_AbsO (g b : Nat) (z : Int) (A : Option Addr) (n c d : Nat) (D : Option Addr) (m e : Nat) (hn : n ≤ 1000000) (hm : m ≤ 1000000) (w : World) (hr : RatRoom w g) (hx : RatIs w b z A n c d D m e) :
    Calls Tryz.prog 36 #[.pointer (some ⟨g, 0, none⟩), .pointer (some ⟨b, 0, none⟩)] w (FPost w g ((z.natAbs : Nat) : Int) d) := by
  have kS := br_SetO g b z A n c d D m e hn hm w hr hx
  clear hx hr
  go_enter Tryz.func36, Tryz.ntmps36
  go_upto_region 2 with (first
    | (go_at_call 67; (with_reducible refine kS.mono ?_); rintro e w3 ⟨rfl, A3, n3, c3, D3, m3, k3, hR3, xt3⟩)
   )
  have i0 := hR3.out.1.int.neg
  have fz := hR3.out.1.int.room.f0
  have lt3 := hR3.out.1.int.room.lt
  have hM := Lib.hid (rat_sign hR3.out.1 (y := ((z.natAbs : Nat) : Int)) (Int.natAbs_natCast _))
  have hT := Lib.hid (xt3.set 0 (.bool (decide (((z.natAbs : Nat) : Int) < 0))))
  have hF := Lib.hid hR3.out.2
  rw [decide_eq_false (show ¬ ((z.natAbs : Nat) : Int) < 0 by omega)] at hM hT
  clear kS hR3 xt3
  go_wp2
  refine bodyPost_ret (v := .pointer (some ⟨g, 0, none⟩)) ?h rfl ⟨rfl, A3, n3, c3, D3, m3, k3, ⟨hM.out, hF.out⟩, hT.out⟩
  case h => simp [results, Tryz.results36, go_sem]
theorem o_Abs (g b l : Nat) (x : Int) (p : Nat) (l1 : (lim x.natAbs).length ≤ 1000000) (l2 : (lim p).length ≤ 1000000) (w : World) (hr : RatRoom w g) (hx : Qat w b x p l) : Calls Tryz.prog 36 #[.pointer (some ⟨g, 0, none⟩), .pointer (some ⟨b, 0, none⟩)] w (QTc w g (x.natAbs : Nat) p) := by
  obtain ⟨A, n, c, p', D, m, e, hx, rfl, gx, -⟩ := hx
  have k1 := hx.int.rd.len
  have k2 := hx.rd.len
  have k5 := den_small rfl l2
  exact own_q rfl (by rw [Int.natAbs_natCast]; exact gx) (br_AbsO g b x A n c p' D m e (by omega) (by omega) w hr hx)
theorem o_Neg (b l : Nat) (x : Int) (p : Nat) (l1 : (lim x.natAbs).length ≤ 1000000) (l2 : (lim p).length ≤ 1000000) (w : World) (hx : Qat w b x p l) : Calls Tryz.prog 51 #[.pointer (some ⟨b, 0, none⟩), .pointer (some ⟨b, 0, none⟩)] w (QTc w b (-x) p) := by
  obtain ⟨A, n, c, p', D, m, e, hx, rfl, gx, -⟩ := hx
  have k1 := hx.int.rd.len
  have k2 := hx.rd.len
  have k5 := den_small rfl l2
  exact own_q rfl (by rw [Int.natAbs_neg]; exact gx) (br_NegSelf b x A n c p' D m e (by omega) (by omega) w hx)
theorem o_Inv (b l : Nat) (x p : Nat) (hx0 : 0 < x) (l1 : (lim x).length ≤ 900000) (l2 : (lim p).length ≤ 900000) (w : World) (hx : Qat w b (x : Int) p l) : Calls Tryz.prog 112 #[.pointer (some ⟨b, 0, none⟩), .pointer (some ⟨b, 0, none⟩)] w (QTc w b (p : Nat) x) := by
  obtain ⟨A, n, c, p', D, m, e, hx, rfl, gx, -⟩ := hx
  have k1 := hx.int.rd.len
  have k2 := hx.rd.len
  have k5 := den_small rfl l2
  have h := br_Inv b (x : Int) (by omega) A n c p' D m e (by rw [Int.natAbs_natCast] at k1; omega) (by omega) w hx
  rw [decide_eq_false (show ¬ (x : Int) < 0 by omega), Int.natAbs_natCast] at h
  rw [Int.natAbs_natCast] at gx
  refine own_q ?_ (by rw [Int.natAbs_natCast, Nat.gcd_comm]; exact gx) h
  unfold denOf
  rw [if_neg (by omega)]
end Go.Proofs.YtchchnohmmncfaaGreatDoor.NB
end
section
/- The document's rounding: powers of two, logarithms. -/
namespace Go.Proofs.YtchchnohmmncfaaGreatDoor.NB
open Go.RowKit
attribute [local go_sem] sz2 sz3 sz4 sz5 sz6 sz7 sz8
set_option maxHeartbeats 4000000
set_option maxRecDepth 100000
attribute [local irreducible] Calls
theorem Qat.weak {w : World} {g lo l : Nat} {z : Int} {d : Nat} (h : Qat w g z d lo) (hl : l ≤ lo) : Qat w g z d l := by
  obtain ⟨A, n, c, p, D, m, e, h, h2, h3, k1, k2⟩ := h
  exact ⟨A, n, c, p, D, m, e, h, h2, h3, fun x hx => Nat.le_trans hl (k1 x hx), fun x hx => Nat.le_trans hl (k2 x hx)⟩
theorem Iat.weak {w : World} {g lo l : Nat} {z : Int} (h : Iat w g z lo) (hl : l ≤ lo) : Iat w g z l := by
  obtain ⟨A, n, c, h, k1⟩ := h
  exact ⟨A, n, c, h, fun x hx => Nat.le_trans hl (k1 x hx)⟩
theorem two_len (m : Nat) (hm : m ≤ 100000) : (lim (2 ^ m)).length ≤ 4000 := by
  refine lim_bits ?_
  have := bits_lt (show 2 ^ m < 2 ^ (m + 1) from Nat.pow_lt_pow_right (by decide) (by omega))
  omega
theorem one_len : (lim 1).length ≤ 4000 := by
  have e : (lim 1).length = 1 := by kernel_rfl
  omega
theorem r5_power (n : Int) (hn : -100000 ≤ n ∧ n ≤ 100000) (w : World) : Calls Tryz.prog 71 #[.int .i64 n] w (QPs w (tA 1 n : Nat) (tD 1 n)) := by
  obtain ⟨m, hm⟩ : ∃ m : Nat, max n (-n) = (m : Int) := ⟨(max n (-n)).toNat, by omega⟩
  have hm1 : m ≤ 100000 := by omega
  have hmw : IntKind.u64.wrap (m : Int) = (m : Int) := by rw [IntKind.wrap_u64]; omega
  have lm := two_len m hm1
  have l1 := one_len
  obtain ⟨W0, hW0⟩ : ∃ W0, W0 = newInt (newRat w) := ⟨_, rfl⟩
  have hE0 : Ext w W0 := by rw [hW0]; exact ext_alloc (ext_alloc (ext_refl _) _) _
  have es : (newRat w).heap.size = w.heap.size + 1 := by simp
  have hR : RatRoom W0 w.heap.size := by rw [hW0]; exact (room_rat w).ext (ext_alloc (ext_refl _) _)
  have hI : Room W0 (w.heap.size + 1) 0 := by rw [hW0]; have := room_int (newRat w); rwa [es] at this
  have hs0 : W0.heap.size = w.heap.size + 2 := by rw [hW0]; simp
  have k1 := Lib.hid (o_NewInt 1 (by decide) (by decide) W0)
  have e1 : (1 : Int) * 2 ^ m = ((2 ^ m : Nat) : Int) := by simp
  have k2 := Lib.hid (fun w1 g1 lo (h : Ext W0 w1) (hi : Iat w1 g1 1 lo) => show Calls Tryz.prog 111 #[.pointer (some ⟨w.heap.size + 1, 0, none⟩), .pointer (some ⟨g1, 0, none⟩), .int .u64 (m : Int)] w1 (ITc w1 (w.heap.size + 1) ((2 ^ m : Nat) : Int)) by
    have := o_Lsh (w.heap.size + 1) g1 lo 1 m (show (lim 1).length ≤ _ by omega) (by omega) w1 (hI.ext h) hi; rwa [e1] at this)
  have k3 := Lib.hid (fun w1 w2 lo (h : Ext W0 w1) (ht : Tch (w.heap.size + 1) w1 w2) (hi : Iat w2 (w.heap.size + 1) ((2 ^ m : Nat) : Int) lo) => o_SetInt w.heap.size (w.heap.size + 1) lo ((2 ^ m : Nat) : Int) (by rw [Int.natAbs_natCast]; omega) w2 (room_tch (hR.ext h) ht (by omega)) hi)
  have k4 := Lib.hid (fun w3 lo (hi : Qat w3 w.heap.size ((2 ^ m : Nat) : Int) 1 lo) => o_Inv w.heap.size lo (2 ^ m) 1 (Nat.two_pow_pos m) (by omega) (by omega) w3 hi)
  have HE : Hid (∀ w1 w2 w3, Ext W0 w1 → Tch (w.heap.size + 1) w1 w2 → Tch w.heap.size w2 w3 → Ext w w3) := Lib.hid fun w1 w2 w3 h1 h2 h3 => Tch.ext h3 (Tch.ext h2 (ext_trans hE0 h1) (by omega)) (Nat.le_refl _)
  clear hE0 hR hI hs0 lm l1
  have hl2 : Hid (∀ w1 w2, Ext W0 w1 → Tch (w.heap.size + 1) w1 w2 → w.heap.size ≤ w2.heap.size) := Lib.hid fun w1 w2 h1 h2 => by
    have a1 := ext_size h1
    have a2 := h2.size
    rw [hW0] at a1
    simp at a1
    omega
  by_cases h0 : 0 ≤ n
  · have hmn : m = n.toNat := by omega
    have e2 : tA 1 n = 2 ^ m := by unfold tA; rw [Nat.one_mul, hmn]
    have e3 : tD 1 n = 1 := by unfold tD; rw [show (-n).toNat = 0 by omega]
    rw [e2, e3]
    have h0' : ¬ n < 0 := by omega
    have d0 : decide (n < 0) = false := decide_eq_false h0'
    generalize (2 ^ m : Nat) = P at *
    clear e1 e2 e3 hmn h0 es
    go_enter Tryz.func71, Tryz.ntmps71
    go_wp2_with (first
      | (go_at_call 25; rw [show (w.alloc (Obj.cells #[.bool false, .slice none 0 0, .slice none 0 0] 54)).alloc (Obj.cells #[.bool false, .slice none 0 0] 52) = W0 from hW0.symm]; (with_reducible refine (k1.out).mono ?_); rintro e w1 ⟨g1, rfl, hI1, hg1, xb1⟩)
      | (go_at_call 111; (with_reducible refine (k2.out _ _ _ xb1 hI1.out).mono ?_); rintro e w2 ⟨rfl, hI2, xt2⟩)
      | (go_at_call 20; (with_reducible refine (k3.out _ _ _ xb1 xt2 hI2.out).mono ?_); rintro e w3 ⟨rfl, hQ3, xt3⟩))
    refine bodyPost_ret (v := .pointer (some ⟨w.heap.size, 0, none⟩)) ?h rfl ⟨w.heap.size, rfl, hQ3.out.weak (hl2.out _ _ xb1 xt2), Nat.le_refl _, HE.out _ _ _ xb1 xt2 xt3⟩
    case h => simp [results, Tryz.results71, go_sem]
  · have hmn : m = (-n).toNat := by omega
    have e2 : tA 1 n = 1 := by unfold tA; rw [show n.toNat = 0 by omega]
    have e3 : tD 1 n = 2 ^ m := by unfold tD; rw [Nat.one_mul, hmn]
    rw [e2, e3]
    have h0' : n < 0 := by omega
    have d0 : decide (n < 0) = true := decide_eq_true h0'
    generalize (2 ^ m : Nat) = P at *
    clear e1 e2 e3 hmn h0 es
    go_enter Tryz.func71, Tryz.ntmps71
    go_wp2_with (first
      | (go_at_call 25; rw [show (w.alloc (Obj.cells #[.bool false, .slice none 0 0, .slice none 0 0] 54)).alloc (Obj.cells #[.bool false, .slice none 0 0] 52) = W0 from hW0.symm]; (with_reducible refine (k1.out).mono ?_); rintro e w1 ⟨g1, rfl, hI1, hg1, xb1⟩)
      | (go_at_call 111; (with_reducible refine (k2.out _ _ _ xb1 hI1.out).mono ?_); rintro e w2 ⟨rfl, hI2, xt2⟩)
      | (go_at_call 20; (with_reducible refine (k3.out _ _ _ xb1 xt2 hI2.out).mono ?_); rintro e w3 ⟨rfl, hQ3, xt3⟩)
      | (go_at_call 112; (with_reducible refine (k4.out _ _ hQ3.out).mono ?_); rintro e w4 ⟨rfl, hQ4, xt4⟩))
    refine bodyPost_ret (v := .pointer (some ⟨w.heap.size, 0, none⟩)) ?h rfl ⟨w.heap.size, rfl, hQ4.out.weak (Nat.le_trans (hl2.out _ _ xb1 xt2) xt3.size), Nat.le_refl _, Tch.ext xt4 (HE.out _ _ _ xb1 xt2 xt3) (Nat.le_refl _)⟩
    case h => simp [results, Tryz.results71, go_sem]
end Go.Proofs.YtchchnohmmncfaaGreatDoor.NB
end
section
/- The document's rounding: a half; logarithms. -/
namespace Go.Proofs.YtchchnohmmncfaaGreatDoor.NB
open Go.RowKit
attribute [local go_sem] sz2 sz3 sz4 sz5 sz6 sz7 sz8
set_option maxHeartbeats 4000000
set_option maxRecDepth 100000
attribute [local irreducible] Calls
theorem o_SetFrac (g b1 b2 lo lo2 : Nat) (x : Int) (y : Nat) (hy : 0 < y) (l1 : (lim x.natAbs).length ≤ 400000) (l2 : (lim y).length ≤ 400000) (w : World) (hT : Tz w) (hr : RatRoom w g) (hx : Iat w b1 x lo) (hyy : Iat w b2 (y : Int) lo2) :
    Calls Tryz.prog 150 #[.pointer (some ⟨g, 0, none⟩), .pointer (some ⟨b1, 0, none⟩), .pointer (some ⟨b2, 0, none⟩)] w (QTc w g (canN x y) (canD x y)) := by
  obtain ⟨A, n, c, hx, -⟩ := hx
  obtain ⟨B, m, d, hyy, -⟩ := hyy
  have k1 := hx.rd.len
  have k2 := hyy.rd.len
  rw [Int.natAbs_natCast] at k2
  have h := br_SetFrac g b1 b2 x (y : Int) (by omega) A n c B m d (by omega) (by omega) w hT hr hx hyy
  have e1 : sgn (qneg x (y : Nat)) (x.natAbs / Nat.gcd x.natAbs ((y : Nat) : Int).natAbs : Nat) = canN x y := by
    rw [Int.natAbs_natCast]
    unfold canN qneg
    rw [decide_eq_false (show ¬ ((y : Nat) : Int) < 0 by omega)]
    simp
  have e2 : lowD x.natAbs ((y : Nat) : Int).natAbs = canW x y := by rw [Int.natAbs_natCast]; exact low_can x y
  rw [e1, e2] at h
  exact own_q (canW_den (by omega)) (can_gcd (by omega)) h
theorem o_SetFrac64 (g : Nat) (w : World) (hT : Tz w) (hr : RatRoom w g) : Calls Tryz.prog 136 #[.pointer (some ⟨g, 0, none⟩), .int .i64 1, .int .i64 2] w fun e w' => e = .returned (.pointer (some ⟨g, 0, none⟩)) ∧ Hid (Qat w' g 1 2 w.heap.size) ∧ Tch g w w' := by
  have k1 := Lib.hid (o_NewInt 1 (by decide) (by decide) w)
  have k2 := Lib.hid (fun w => o_NewInt 2 (by decide) (by decide) w)
  have e1 : (lim 1).length = 1 := by kernel_rfl
  have e2 : (lim 2).length = 1 := by kernel_rfl
  have k3 := Lib.hid (fun w2 g1 g2 l1 l2 (h : Ext w w2) (h1 : Iat w2 g1 1 l1) (h2 : Iat w2 g2 2 l2) => show Calls Tryz.prog 150 #[.pointer (some ⟨g, 0, none⟩), .pointer (some ⟨g1, 0, none⟩), .pointer (some ⟨g2, 0, none⟩)] w2 (QTc w2 g 1 2) by
    have := o_SetFrac g g1 g2 l1 l2 1 2 (by decide) (show (lim 1).length ≤ _ by omega) (by omega) w2 (hT.ext h) (hr.ext h) h1 h2
    rwa [show canN 1 2 = 1 by kernel_rfl, show canD 1 2 = 2 by kernel_rfl] at this)
  clear hT hr
  go_enter Tryz.func136, Tryz.ntmps136
  go_wp2_with (first
    | (go_at_call 25; (with_reducible refine (k1.out).mono ?_); rintro e w1 ⟨g1, rfl, hI1, hg1, xb1⟩)
    | (go_at_call 25; (with_reducible refine (k2.out _).mono ?_); rintro e w2 ⟨g2, rfl, hI2, hg2, xb2⟩)
    | (go_at_call 150; (with_reducible refine (k3.out _ _ _ _ _ (ext_trans xb1 xb2) (hI1.out.ext xb2) hI2.out).mono ?_); rintro e w3 ⟨rfl, hQ3, xt3⟩))
  refine bodyPost_ret (v := .pointer (some ⟨g, 0, none⟩)) ?h rfl ⟨rfl, hQ3.out.weak (ext_size (ext_trans xb1 xb2)), (Tch.of (ext_trans xb1 xb2)).trans xt3⟩
  case h => simp [results, Tryz.results136, go_sem]
theorem o_half (w : World) (hT : Tz w) : Calls Tryz.prog 115 #[.int .i64 1, .int .i64 2] w (QPs w 1 2) := by
  have hE : Ext w (newRat w) := ext_alloc (ext_refl _) _
  have k1 := Lib.hid (o_SetFrac64 w.heap.size (newRat w) (hT.ext hE) (room_rat w))
  clear hT hE
  go_enter Tryz.func115, Tryz.ntmps115
  go_wp2_with (first
    | (go_at_call 136; (with_reducible refine (k1.out).mono ?_); rintro e w1 ⟨rfl, hQ1, xt1⟩))
  refine bodyPost_ret (v := .pointer (some ⟨w.heap.size, 0, none⟩)) ?h rfl ⟨w.heap.size, rfl, hQ1.out.weak (by simp), Nat.le_refl _, Tch.ext xt1 (ext_alloc (ext_refl _) _) (Nat.le_refl _)⟩
  case h => simp [results, Tryz.results115, go_sem]
theorem r5_log (b lo z d : Nat) (hz : 0 < z) (hd : 0 < d) (l1 : (lim z).length ≤ 3000) (l2 : (lim d).length ≤ 3000) (w : World) (hx : Qat w b (z : Int) d lo) : Calls Tryz.prog 37 #[.pointer (some ⟨b, 0, none⟩)] w fun e w' => e = .returned (.int .i64 (lgQ z d)) ∧ Ext w w' := by
  have hbz : bitsOf z ≤ 96000 := by have := (lim_bytes z).1; omega
  have hbd : bitsOf d ≤ 96000 := by have := (lim_bytes d).1; omega
  have hX := Lib.hid (fun w' (he : Ext w w') => hx.ext he)
  have k1 := Lib.hid (fun w' (he : Ext w w') => o_Num b lo (z : Int) d (by rw [Int.natAbs_natCast]; omega) w' (hx.ext he))
  have k2 := Lib.hid (fun w' (he : Ext w w') => o_Denom b lo (z : Int) d (by omega) w' (hx.ext he))
  obtain ⟨bz, hbz'⟩ : ∃ y, bitsOf z = y := ⟨_, rfl⟩
  obtain ⟨bd, hbd'⟩ : ∃ y, bitsOf d = y := ⟨_, rfl⟩
  have k3 := Lib.hid (fun g l w' (h : Iat w' g (z : Int) l) => show Calls Tryz.prog 69 #[.pointer (some ⟨g, 0, none⟩)] w' fun e w'' => e = .returned (.int .i64 (bz : Int)) ∧ Ext w' w'' by
    have := o_BitLen g l (z : Int) (by rw [Int.natAbs_natCast]; omega) w' h; rwa [Int.natAbs_natCast, hbz'] at this)
  have k4 := Lib.hid (fun g l w' (h : Iat w' g ((d : Nat) : Int) l) => show Calls Tryz.prog 69 #[.pointer (some ⟨g, 0, none⟩)] w' fun e w'' => e = .returned (.int .i64 (bd : Int)) ∧ Ext w' w'' by
    have := o_BitLen g l (d : Int) (by rw [Int.natAbs_natCast]; omega) w' h; rwa [Int.natAbs_natCast, hbd'] at this)
  obtain ⟨n, hn⟩ : ∃ n : Int, (bz : Int) - bd = n := ⟨_, rfl⟩
  have k5 := Lib.hid (fun w' => r5_power n (by omega) w')
  have lP1 : (lim (tA 1 n)).length ≤ 4000 := by unfold tA; rw [Nat.one_mul]; exact two_len _ (by omega)
  have lP2 : (lim (tD 1 n)).length ≤ 4000 := by unfold tD; rw [Nat.one_mul]; exact two_len _ (by omega)
  have k6 := Lib.hid (fun g l w' (he : Ext w w') (h : Qat w' g (tA 1 n : Nat) (tD 1 n) l) => o_Cmp g b l lo (tA 1 n : Nat) (z : Int) (tD 1 n) d (by rw [Int.natAbs_natCast]; omega) (by omega) (by rw [Int.natAbs_natCast]; omega) (by omega) w' h (hx.ext he))
  obtain ⟨C, hC⟩ : ∃ C, cmpN (tA 1 n * d) (z * tD 1 n) = C := ⟨_, rfl⟩
  have hCs : (((tA 1 n : Nat) : Int) * (d : Int) - (z : Int) * ((tD 1 n : Nat) : Int)).sign = C := by
    rw [← hC, cmpN_sign, Int.natCast_mul, Int.natCast_mul]
  rw [hCs] at k6
  have hres : lgQ z d = if 0 < C then n - 1 else n := by
    have e1 : tA z (-n) = z * tD 1 n := by unfold tA tD; rw [Nat.one_mul]
    have e2 : tD d (-n) = tA 1 n * d := by unfold tA tD; rw [Int.neg_neg, Nat.one_mul, Nat.mul_comm]
    unfold lgQ
    rw [hbz', hbd', hn, e1, e2, ← hC]
    by_cases g : z * tD 1 n < tA 1 n * d
    · rw [if_pos g, if_pos (cmpN_pos.2 g)]
    · rw [if_neg g, if_neg (fun q => g (cmpN_pos.1 q))]
  rw [hres]
  have hnb : -96000 ≤ n ∧ n ≤ 96000 := by omega
  obtain ⟨hna, hnc⟩ := hnb
  clear lP1 lP2 hCs hC hres hbz' hbd' hX hx hbz hbd l1 l2 hz hd
  by_cases g : 0 < C
  · have dg : decide (0 < C) = true := decide_eq_true g
    rw [if_pos g]
    go_enter Tryz.func37, Tryz.ntmps37
    go_wp2_with (first
      | (go_at_call 68; (with_reducible refine (k1.out _ (by (repeat (first | exact ext_refl _ | assumption | refine ext_setCell ?_ (by simp; try omega) _ | refine ext_alloc ?_ _ | refine ext_drew ?_ | refine ext_drewN ?_ _ | refine ext_trans ?_ (Aft.use _) | refine ext_trans ?_ (by assumption))))).mono ?_); rintro e w1 ⟨g1, rfl, hI1, hg1, xb1⟩)
      | (go_at_call 69; (with_reducible refine (k3.out _ _ _ hI1.out).mono ?_); rintro e w2 ⟨rfl, xb2⟩)
      | (go_at_call 70; (with_reducible refine (k2.out _ (by (repeat (first | exact ext_refl _ | assumption | refine ext_setCell ?_ (by simp; try omega) _ | refine ext_alloc ?_ _ | refine ext_drew ?_ | refine ext_drewN ?_ _ | refine ext_trans ?_ (Aft.use _) | refine ext_trans ?_ (by assumption))))).mono ?_); rintro e w3 ⟨g3, rfl, hI3, hg3, xb3⟩)
      | (go_at_call 69; (with_reducible refine (k4.out _ _ _ hI3.out).mono ?_); rintro e w4 ⟨rfl, xb4⟩)
      | (go_at_call 71; (with_reducible refine (k5.out _).mono ?_); rintro e w5 ⟨g5, rfl, hQ5, hg5, xb5⟩)
      | (go_at_call 40; (with_reducible refine (k6.out _ _ _ (by (repeat (first | exact ext_refl _ | assumption | refine ext_setCell ?_ (by simp; try omega) _ | refine ext_alloc ?_ _ | refine ext_drew ?_ | refine ext_drewN ?_ _ | refine ext_trans ?_ (Aft.use _) | refine ext_trans ?_ (by assumption)))) hQ5.out).mono ?_); rintro e w6 ⟨rfl, xb6⟩))
    refine bodyPost_ret (v := .int .i64 (n - 1)) ?h rfl ⟨rfl, ?_⟩
    case h => simp [results, Tryz.results37, go_sem]
    repeat (first | exact ext_refl _ | assumption | refine ext_setCell ?_ (by simp; try omega) _ | refine ext_alloc ?_ _ | refine ext_drew ?_ | refine ext_drewN ?_ _ | refine ext_trans ?_ (Aft.use _) | refine ext_trans ?_ (by assumption))
  · have dg : decide (0 < C) = false := decide_eq_false g
    rw [if_neg g]
    go_enter Tryz.func37, Tryz.ntmps37
    go_wp2_with (first
      | (go_at_call 68; (with_reducible refine (k1.out _ (by (repeat (first | exact ext_refl _ | assumption | refine ext_setCell ?_ (by simp; try omega) _ | refine ext_alloc ?_ _ | refine ext_drew ?_ | refine ext_drewN ?_ _ | refine ext_trans ?_ (Aft.use _) | refine ext_trans ?_ (by assumption))))).mono ?_); rintro e w1 ⟨g1, rfl, hI1, hg1, xb1⟩)
      | (go_at_call 69; (with_reducible refine (k3.out _ _ _ hI1.out).mono ?_); rintro e w2 ⟨rfl, xb2⟩)
      | (go_at_call 70; (with_reducible refine (k2.out _ (by (repeat (first | exact ext_refl _ | assumption | refine ext_setCell ?_ (by simp; try omega) _ | refine ext_alloc ?_ _ | refine ext_drew ?_ | refine ext_drewN ?_ _ | refine ext_trans ?_ (Aft.use _) | refine ext_trans ?_ (by assumption))))).mono ?_); rintro e w3 ⟨g3, rfl, hI3, hg3, xb3⟩)
      | (go_at_call 69; (with_reducible refine (k4.out _ _ _ hI3.out).mono ?_); rintro e w4 ⟨rfl, xb4⟩)
      | (go_at_call 71; (with_reducible refine (k5.out _).mono ?_); rintro e w5 ⟨g5, rfl, hQ5, hg5, xb5⟩)
      | (go_at_call 40; (with_reducible refine (k6.out _ _ _ (by (repeat (first | exact ext_refl _ | assumption | refine ext_setCell ?_ (by simp; try omega) _ | refine ext_alloc ?_ _ | refine ext_drew ?_ | refine ext_drewN ?_ _ | refine ext_trans ?_ (Aft.use _) | refine ext_trans ?_ (by assumption)))) hQ5.out).mono ?_); rintro e w6 ⟨rfl, xb6⟩))
    refine bodyPost_ret (v := .int .i64 n) ?h rfl ⟨rfl, ?_⟩
    case h => simp [results, Tryz.results37, go_sem]
    repeat (first | exact ext_refl _ | assumption | refine ext_setCell ?_ (by simp; try omega) _ | refine ext_alloc ?_ _ | refine ext_drew ?_ | refine ext_drewN ?_ _ | refine ext_trans ?_ (Aft.use _) | refine ext_trans ?_ (by assumption))
end Go.Proofs.YtchchnohmmncfaaGreatDoor.NB
end
section
/- The document's rounding: a whole number, to even. -/
namespace Go.Proofs.YtchchnohmmncfaaGreatDoor.NB
open Go.RowKit
attribute [local go_sem] sz2 sz3 sz4 sz5 sz6 sz7 sz8
set_option maxHeartbeats 8000000
set_option maxRecDepth 100000
attribute [local irreducible] Calls
theorem Iat.room {w : World} {g lo : Nat} {z : Int} (h : Iat w g z lo) : Room w g 0 := by
  obtain ⟨A, n, c, h, -⟩ := h
  exact h.room
theorem whole_rest {z d : Nat} (hd : d ≠ 0) (hg : Nat.gcd z d = 1) : canN ((z : Int) * 1 - ((z / d : Nat) : Int) * (d : Int)) (d * 1) = ((z % d : Nat) : Int) ∧ canD ((z : Int) * 1 - ((z / d : Nat) : Int) * (d : Int)) (d * 1) = d := by
  have e : (z : Int) * 1 - ((z / d : Nat) : Int) * (d : Int) = ((z % d : Nat) : Int) := by
    have h := Nat.div_add_mod z d
    rw [Int.mul_one, ← Int.natCast_mul]
    rw [Nat.mul_comm] at h
    omega
  rw [e, Nat.mul_one]
  refine can_self hd ?_
  rw [Int.natAbs_natCast, ← Nat.gcd_rec, Nat.gcd_comm]
  exact hg
/-- The worlds of 'whole': what came before its branches. -/
theorem r5_whole (neg : Bool) (b lo z d : Nat) (hd : d ≠ 0) (hg : Nat.gcd z d = 1) (l1 : (lim z).length ≤ 40000) (l2 : (lim d).length ≤ 40000) (w : World) (hT : Tz w) (hx : Qat w b (z : Int) d lo) : Calls Tryz.prog 72 #[.pointer (some ⟨b, 0, none⟩), .bool neg, .int .u8 0] w (IPs w ((rdQ 0 neg z d : Nat) : Int)) := by
  have hE0 : Ext w (newInt w) := ext_alloc (ext_refl _) _
  have hdv : ((z : Int) / (d : Int)) = ((z / d : Nat) : Int) := by simp
  have lq : (lim (z / d)).length ≤ 40000 := Nat.le_trans (lim_mono (Nat.div_le_self _ _)) l1
  have k1 := Lib.hid (fun w' (he : Ext w w') => o_Num b lo (z : Int) d (by rw [Int.natAbs_natCast]; omega) w' (hx.ext he))
  have k2 := Lib.hid (fun w' (he : Ext w w') => o_Denom b lo (z : Int) d (by omega) w' (hx.ext he))
  have k3 := Lib.hid (fun w' g1 g2 lo1 lo2 (he : Ext (newInt w) w') (h1 : Iat w' g1 (z : Int) lo1) (h2 : Iat w' g2 ((d : Nat) : Int) lo2) (hg1 : w.heap.size < g1) (hg2 : w.heap.size < g2) => show Calls Tryz.prog 113 #[.pointer (some ⟨w.heap.size, 0, none⟩), .pointer (some ⟨g1, 0, none⟩), .pointer (some ⟨g2, 0, none⟩)] w' (IDv w' w.heap.size ((z / d : Nat) : Int)) by
    have := o_Div w.heap.size g1 g2 lo1 lo2 (z : Int) (d : Int) (by omega) (by rw [Int.natAbs_natCast]; omega) (by rw [Int.natAbs_natCast]; omega) w' ((room_int w).ext he) h1 h2 (by omega) (by omega)
    rwa [hdv] at this)
  have k4 := Lib.hid (fun w3 lo3 (h : Iat w3 w.heap.size ((z / d : Nat) : Int) lo3) => show Calls Tryz.prog 20 #[.pointer (some ⟨w3.heap.size + 1, 0, none⟩), .pointer (some ⟨w.heap.size, 0, none⟩)] (newRat (newRat w3)) (QTc (newRat (newRat w3)) (w3.heap.size + 1) ((z / d : Nat) : Int) 1) by
    have es : (newRat w3).heap.size = w3.heap.size + 1 := by simp
    have hr := room_rat (newRat w3)
    rw [es] at hr
    exact o_SetInt (w3.heap.size + 1) w.heap.size lo3 _ (by rw [Int.natAbs_natCast]; omega) _ hr (h.ext (ext_alloc (ext_alloc (ext_refl _) _) _)))
  have hrest := whole_rest hd hg
  have lr : (lim (z % d)).length ≤ 40000 := Nat.le_trans (lim_mono (Nat.mod_le _ _)) l1
  have lone : (lim 1).length = 1 := by kernel_rfl
  have ltwo : (lim 2).length = 1 := by kernel_rfl
  have k5 := Lib.hid (fun w3 w4 lo4 (he : Ext w w3) (ht : Tch (w3.heap.size + 1) (newRat (newRat w3)) w4) (h : Qat w4 (w3.heap.size + 1) ((z / d : Nat) : Int) 1 lo4) (hl : w3.heap.size + 2 ≤ lo4) => show Calls Tryz.prog 114 #[.pointer (some ⟨w3.heap.size, 0, none⟩), .pointer (some ⟨b, 0, none⟩), .pointer (some ⟨w3.heap.size + 1, 0, none⟩)] w4 (QTc w4 w3.heap.size ((z % d : Nat) : Int) d) by
    have e34 : Ext w3 w4 := Tch.ext ht (ext_alloc (ext_alloc (ext_refl _) _) _) (by omega)
    have hr1 : RatRoom (newRat (newRat w3)) w3.heap.size := (room_rat w3).ext (ext_alloc (ext_refl _) _)
    have e1 : (lim 1).length = 1 := by kernel_rfl
    have := o_Sub w3.heap.size b (w3.heap.size + 1) lo lo4 (z : Int) ((z / d : Nat) : Int) d 1 (by rw [Int.natAbs_natCast]; omega) (by omega) (by rw [Int.natAbs_natCast]; omega) (by omega) w3 w4 e34 (Nat.le_refl _) (hT.ext (ext_trans he e34)) (room_tch hr1 ht (by omega)) (hx.ext he) h (by omega)
    rwa [show ((1 : Nat) : Int) = 1 from rfl, hrest.1, hrest.2] at this)
  have k6 := Lib.hid (fun w' g l (h : Qat w' g ((z % d : Nat) : Int) d l) => o_Sign g l _ d w' h)
  have k7 := Lib.hid (fun w' (he : Ext w w') => o_half w' (hT.ext he))
  obtain ⟨H, hH⟩ : ∃ H, cmpN (2 * (z % d)) d = H := ⟨_, rfl⟩
  have k8 := Lib.hid (fun w' g h l l' (h1 : Qat w' g ((z % d : Nat) : Int) d l) (h2 : Qat w' h 1 2 l') => show Calls Tryz.prog 40 #[.pointer (some ⟨g, 0, none⟩), .pointer (some ⟨h, 0, none⟩)] w' fun e w'' => e = .returned (.int .i64 H) ∧ Ext w' w'' by
    have := o_Cmp g h l l' _ 1 d 2 (by rw [Int.natAbs_natCast]; omega) (by omega) (by show (lim 1).length ≤ _; omega) (by omega) w' h1 h2
    have e : (((z % d : Nat) : Int) * ((2 : Nat) : Int) - 1 * (d : Int)).sign = H := by
      rw [← hH, cmpN_sign, Int.natCast_mul, Int.one_mul, Int.mul_comm]
    rwa [e] at this)
  have k9 := Lib.hid (fun w' g l (h : Iat w' g ((z / d : Nat) : Int) l) => o_Bit0 g (z / d) l w' h)
  have k10 := Lib.hid (fun w' => o_NewInt 1 (by decide) (by decide) w')
  have k11 := Lib.hid (fun w' g8 l l' (h : Iat w' w.heap.size ((z / d : Nat) : Int) l) (h1 : Iat w' g8 1 l') => show Calls Tryz.prog 33 #[.pointer (some ⟨w.heap.size, 0, none⟩), .pointer (some ⟨w.heap.size, 0, none⟩), .pointer (some ⟨g8, 0, none⟩)] w' (ITc w' w.heap.size ((z / d + 1 : Nat) : Int)) by
    have e1 : (lim 1).length = 1 := by kernel_rfl
    have := o_IAdd w.heap.size w.heap.size g8 l l' ((z / d : Nat) : Int) 1 (by rw [Int.natAbs_natCast]; omega) (show (lim 1).length ≤ _ by omega) w' h.room h h1
    rwa [show ((z / d : Nat) : Int) + 1 = ((z / d + 1 : Nat) : Int) by omega] at this)
  have hcases : (z % d = 0 ∧ rdQ 0 neg z d = z / d) ∨ (z % d ≠ 0 ∧ ((0 < H ∧ rdQ 0 neg z d = z / d + 1) ∨ (H = 0 ∧ z / d % 2 = 1 ∧ rdQ 0 neg z d = z / d + 1) ∨ (H = 0 ∧ z / d % 2 = 0 ∧ rdQ 0 neg z d = z / d) ∨ (H < 0 ∧ rdQ 0 neg z d = z / d))) := by
    unfold rdQ upM
    rw [hH]
    by_cases g : z % d = 0
    · exact .inl ⟨g, if_pos g⟩
    · right
      refine ⟨g, ?_⟩
      rw [if_neg g, if_pos rfl]
      rcases Int.lt_trichotomy H 0 with h | h | h
      · exact .inr (.inr (.inr ⟨h, by rw [decide_eq_false (by omega), decide_eq_false (by omega)]; rfl⟩))
      · rcases Nat.mod_two_eq_zero_or_one (z / d) with q | q
        · exact .inr (.inr (.inl ⟨h, q, by rw [decide_eq_false (by omega), decide_eq_true h, q]; rfl⟩))
        · exact .inr (.inl ⟨h, q, by rw [decide_eq_false (by omega), decide_eq_true h, q]; rfl⟩)
      · exact .inl ⟨h, by rw [decide_eq_true h]; rfl⟩
  have hsg : (((z % d : Nat) : Int).sign == 0) = decide (z % d = 0) := by
    rw [Bool.eq_iff_iff, beq_iff_eq, decide_eq_true_iff, Int.sign_eq_zero_iff_zero]
    omega
  obtain ⟨S, hS⟩ : ∃ S, ((z % d : Nat) : Int).sign = S := ⟨_, rfl⟩
  rw [hS] at hsg k6
  obtain ⟨r, hr⟩ : ∃ r, z % d = r := ⟨_, rfl⟩
  rw [hr] at k5 k6 k8 hsg hcases
  obtain ⟨Q, hQ⟩ : ∃ Q, z / d = Q := ⟨_, rfl⟩
  obtain ⟨R, hR⟩ : ∃ R, rdQ 0 neg z d = R := ⟨_, rfl⟩
  obtain ⟨B, hB⟩ : ∃ B, z / d % 2 = B := ⟨_, rfl⟩
  rw [hB] at k9
  rw [hQ, hR] at hcases
  rw [hQ] at k3 k4 k5 k9 k11 hB
  rw [hB] at hcases
  rw [hR]
  have hBI : (B : Int) ≤ 1 := by omega
  clear lr lone ltwo hrest hH hS hr hQ hR hx hT hg l1 l2 lq hdv hE0 hB
  rcases hcases with ⟨g, rfl⟩ | ⟨g, ⟨h, rfl⟩ | ⟨h, hb, rfl⟩ | ⟨h, hb, rfl⟩ | ⟨h, rfl⟩⟩
  · have s0 : (S == 0) = true := by rw [hsg]; exact decide_eq_true g
    clear hsg g
    go_enter Tryz.func72, Tryz.ntmps72
    go_wp2_with (first
      | (go_at_call 68; (with_reducible refine (k1.out _ (by (repeat (first | exact ext_refl _ | assumption | refine ext_setCell ?_ (by simp; try omega) _ | refine ext_alloc ?_ _ | refine ext_drew ?_ | refine ext_drewN ?_ _ | refine ext_trans ?_ (Aft.use _) | refine ext_trans ?_ (by assumption))))).mono ?_); rintro e w1 ⟨g1, rfl, hI1, hg1, xb1⟩; simp at hg1)
      | (go_at_call 70; (with_reducible refine (k2.out _ (by (repeat (first | exact ext_refl _ | assumption | refine ext_setCell ?_ (by simp; try omega) _ | refine ext_alloc ?_ _ | refine ext_drew ?_ | refine ext_drewN ?_ _ | refine ext_trans ?_ (Aft.use _) | refine ext_trans ?_ (by assumption))))).mono ?_); rintro e w2 ⟨g2, rfl, hI2, hg2, xb2⟩; have hE2 : Ext w w2 := (by (repeat (first | exact ext_refl _ | assumption | refine ext_setCell ?_ (by simp; try omega) _ | refine ext_alloc ?_ _ | refine ext_drew ?_ | refine ext_drewN ?_ _ | refine ext_trans ?_ (Aft.use _) | refine ext_trans ?_ (by assumption)))); have hs1 := ext_size xb1; simp at hs1)
      | (go_at_call 113; (with_reducible refine (k3.out _ _ _ _ _ (ext_trans xb1 xb2) (hI1.out.ext xb2) hI2.out (by omega) (by omega)).mono ?_); rintro e w3 ⟨rfl, hI3, xt3⟩; have hE3 : Ext w w3 := xt3.out w hE2 (Nat.le_refl _))
      | (go_at_call 20; (with_reducible refine (k4.out _ _ hI3.out).mono ?_); rintro e w4 ⟨rfl, hQ4, xt4⟩; have hE34 : Ext w3 w4 := Tch.ext xt4 (ext_alloc (ext_alloc (ext_refl _) _) _) (by omega))
      | (go_at_call 114; (with_reducible refine (k5.out _ _ _ hE3 xt4 hQ4.out (by simp)).mono ?_); rintro e w5 ⟨rfl, hQ5, xt5⟩; have hE35 : Ext w3 w5 := Tch.ext xt5 hE34 (Nat.le_refl _))
      | (go_at_call 34; (with_reducible refine (k6.out _ _ _ hQ5.out).mono ?_); rintro e w6 ⟨rfl, xb6⟩)
      | (go_at_call 115; (with_reducible refine (k7.out _ (ext_trans hE3 (ext_trans hE35 xb6))).mono ?_); rintro e w7 ⟨g7, rfl, hQ7, hg7, xb7⟩)
      | (go_at_call 40; (with_reducible refine (k8.out _ _ _ _ _ (hQ5.out.ext (ext_trans xb6 xb7)) hQ7.out).mono ?_); rintro e w8 ⟨rfl, xb8⟩; have hE38 : Ext w3 w8 := ext_trans hE35 (ext_trans xb6 (ext_trans xb7 xb8)))
      | (go_at_call 116; (with_reducible refine (k9.out _ _ _ (hI3.out.ext hE38)).mono ?_); rintro e w9 ⟨rfl, xb9⟩; replace hE38 := ext_trans hE38 xb9)
      | (go_at_call 25; (with_reducible refine (k10.out _).mono ?_); rintro e w10 ⟨g10, rfl, hI10, hg10, xb10⟩; replace hE38 := ext_trans hE38 xb10)
      | (go_at_call 33; (with_reducible refine (k11.out _ _ _ _ (hI3.out.ext hE38) hI10.out).mono ?_); rintro e w11 ⟨rfl, hI11, xt11⟩))
    refine bodyPost_ret (v := .pointer (some ⟨w.heap.size, 0, none⟩)) ?h rfl ⟨w.heap.size, rfl, (hI3.out.ext (ext_trans hE35 xb6)).weak (ext_size hE2), Nat.le_refl _, ext_trans hE3 (ext_trans hE35 xb6)⟩
    case h => simp [results, Tryz.results72, go_sem]
  · have s0 : (S == 0) = false := by rw [hsg]; exact decide_eq_false g
    have d1 : decide (0 < H) = true := decide_eq_true h
    clear hsg g
    go_enter Tryz.func72, Tryz.ntmps72
    go_wp2_with (first
      | (go_at_call 68; (with_reducible refine (k1.out _ (by (repeat (first | exact ext_refl _ | assumption | refine ext_setCell ?_ (by simp; try omega) _ | refine ext_alloc ?_ _ | refine ext_drew ?_ | refine ext_drewN ?_ _ | refine ext_trans ?_ (Aft.use _) | refine ext_trans ?_ (by assumption))))).mono ?_); rintro e w1 ⟨g1, rfl, hI1, hg1, xb1⟩; simp at hg1)
      | (go_at_call 70; (with_reducible refine (k2.out _ (by (repeat (first | exact ext_refl _ | assumption | refine ext_setCell ?_ (by simp; try omega) _ | refine ext_alloc ?_ _ | refine ext_drew ?_ | refine ext_drewN ?_ _ | refine ext_trans ?_ (Aft.use _) | refine ext_trans ?_ (by assumption))))).mono ?_); rintro e w2 ⟨g2, rfl, hI2, hg2, xb2⟩; have hE2 : Ext w w2 := (by (repeat (first | exact ext_refl _ | assumption | refine ext_setCell ?_ (by simp; try omega) _ | refine ext_alloc ?_ _ | refine ext_drew ?_ | refine ext_drewN ?_ _ | refine ext_trans ?_ (Aft.use _) | refine ext_trans ?_ (by assumption)))); have hs1 := ext_size xb1; simp at hs1)
      | (go_at_call 113; (with_reducible refine (k3.out _ _ _ _ _ (ext_trans xb1 xb2) (hI1.out.ext xb2) hI2.out (by omega) (by omega)).mono ?_); rintro e w3 ⟨rfl, hI3, xt3⟩; have hE3 : Ext w w3 := xt3.out w hE2 (Nat.le_refl _))
      | (go_at_call 20; (with_reducible refine (k4.out _ _ hI3.out).mono ?_); rintro e w4 ⟨rfl, hQ4, xt4⟩; have hE34 : Ext w3 w4 := Tch.ext xt4 (ext_alloc (ext_alloc (ext_refl _) _) _) (by omega))
      | (go_at_call 114; (with_reducible refine (k5.out _ _ _ hE3 xt4 hQ4.out (by simp)).mono ?_); rintro e w5 ⟨rfl, hQ5, xt5⟩; have hE35 : Ext w3 w5 := Tch.ext xt5 hE34 (Nat.le_refl _))
      | (go_at_call 34; (with_reducible refine (k6.out _ _ _ hQ5.out).mono ?_); rintro e w6 ⟨rfl, xb6⟩)
      | (go_at_call 115; (with_reducible refine (k7.out _ (ext_trans hE3 (ext_trans hE35 xb6))).mono ?_); rintro e w7 ⟨g7, rfl, hQ7, hg7, xb7⟩)
      | (go_at_call 40; (with_reducible refine (k8.out _ _ _ _ _ (hQ5.out.ext (ext_trans xb6 xb7)) hQ7.out).mono ?_); rintro e w8 ⟨rfl, xb8⟩; have hE38 : Ext w3 w8 := ext_trans hE35 (ext_trans xb6 (ext_trans xb7 xb8)))
      | (go_at_call 116; (with_reducible refine (k9.out _ _ _ (hI3.out.ext hE38)).mono ?_); rintro e w9 ⟨rfl, xb9⟩; replace hE38 := ext_trans hE38 xb9)
      | (go_at_call 25; (with_reducible refine (k10.out _).mono ?_); rintro e w10 ⟨g10, rfl, hI10, hg10, xb10⟩; replace hE38 := ext_trans hE38 xb10)
      | (go_at_call 33; (with_reducible refine (k11.out _ _ _ _ (hI3.out.ext hE38) hI10.out).mono ?_); rintro e w11 ⟨rfl, hI11, xt11⟩))
    refine bodyPost_ret (v := .pointer (some ⟨w.heap.size, 0, none⟩)) ?h rfl ⟨w.heap.size, rfl, hI11.out.weak (Nat.le_trans (ext_size hE3) (ext_size hE38)), Nat.le_refl _, Tch.ext xt11 (ext_trans hE3 hE38) (Nat.le_refl _)⟩
    case h => simp [results, Tryz.results72, go_sem]
  · subst h hb
    have s0 : (S == 0) = false := by rw [hsg]; exact decide_eq_false g
    clear hsg g
    go_enter Tryz.func72, Tryz.ntmps72
    go_wp2_with (first
      | (go_at_call 68; (with_reducible refine (k1.out _ (by (repeat (first | exact ext_refl _ | assumption | refine ext_setCell ?_ (by simp; try omega) _ | refine ext_alloc ?_ _ | refine ext_drew ?_ | refine ext_drewN ?_ _ | refine ext_trans ?_ (Aft.use _) | refine ext_trans ?_ (by assumption))))).mono ?_); rintro e w1 ⟨g1, rfl, hI1, hg1, xb1⟩; simp at hg1)
      | (go_at_call 70; (with_reducible refine (k2.out _ (by (repeat (first | exact ext_refl _ | assumption | refine ext_setCell ?_ (by simp; try omega) _ | refine ext_alloc ?_ _ | refine ext_drew ?_ | refine ext_drewN ?_ _ | refine ext_trans ?_ (Aft.use _) | refine ext_trans ?_ (by assumption))))).mono ?_); rintro e w2 ⟨g2, rfl, hI2, hg2, xb2⟩; have hE2 : Ext w w2 := (by (repeat (first | exact ext_refl _ | assumption | refine ext_setCell ?_ (by simp; try omega) _ | refine ext_alloc ?_ _ | refine ext_drew ?_ | refine ext_drewN ?_ _ | refine ext_trans ?_ (Aft.use _) | refine ext_trans ?_ (by assumption)))); have hs1 := ext_size xb1; simp at hs1)
      | (go_at_call 113; (with_reducible refine (k3.out _ _ _ _ _ (ext_trans xb1 xb2) (hI1.out.ext xb2) hI2.out (by omega) (by omega)).mono ?_); rintro e w3 ⟨rfl, hI3, xt3⟩; have hE3 : Ext w w3 := xt3.out w hE2 (Nat.le_refl _))
      | (go_at_call 20; (with_reducible refine (k4.out _ _ hI3.out).mono ?_); rintro e w4 ⟨rfl, hQ4, xt4⟩; have hE34 : Ext w3 w4 := Tch.ext xt4 (ext_alloc (ext_alloc (ext_refl _) _) _) (by omega))
      | (go_at_call 114; (with_reducible refine (k5.out _ _ _ hE3 xt4 hQ4.out (by simp)).mono ?_); rintro e w5 ⟨rfl, hQ5, xt5⟩; have hE35 : Ext w3 w5 := Tch.ext xt5 hE34 (Nat.le_refl _))
      | (go_at_call 34; (with_reducible refine (k6.out _ _ _ hQ5.out).mono ?_); rintro e w6 ⟨rfl, xb6⟩)
      | (go_at_call 115; (with_reducible refine (k7.out _ (ext_trans hE3 (ext_trans hE35 xb6))).mono ?_); rintro e w7 ⟨g7, rfl, hQ7, hg7, xb7⟩)
      | (go_at_call 40; (with_reducible refine (k8.out _ _ _ _ _ (hQ5.out.ext (ext_trans xb6 xb7)) hQ7.out).mono ?_); rintro e w8 ⟨rfl, xb8⟩; have hE38 : Ext w3 w8 := ext_trans hE35 (ext_trans xb6 (ext_trans xb7 xb8)))
      | (go_at_call 116; (with_reducible refine (k9.out _ _ _ (hI3.out.ext hE38)).mono ?_); rintro e w9 ⟨rfl, xb9⟩; replace hE38 := ext_trans hE38 xb9)
      | (go_at_call 25; (with_reducible refine (k10.out _).mono ?_); rintro e w10 ⟨g10, rfl, hI10, hg10, xb10⟩; replace hE38 := ext_trans hE38 xb10)
      | (go_at_call 33; (with_reducible refine (k11.out _ _ _ _ (hI3.out.ext hE38) hI10.out).mono ?_); rintro e w11 ⟨rfl, hI11, xt11⟩))
    refine bodyPost_ret (v := .pointer (some ⟨w.heap.size, 0, none⟩)) ?h rfl ⟨w.heap.size, rfl, hI11.out.weak (Nat.le_trans (ext_size hE3) (ext_size hE38)), Nat.le_refl _, Tch.ext xt11 (ext_trans hE3 hE38) (Nat.le_refl _)⟩
    case h => simp [results, Tryz.results72, go_sem]
  · subst h hb
    have s0 : (S == 0) = false := by rw [hsg]; exact decide_eq_false g
    clear hsg g
    go_enter Tryz.func72, Tryz.ntmps72
    go_wp2_with (first
      | (go_at_call 68; (with_reducible refine (k1.out _ (by (repeat (first | exact ext_refl _ | assumption | refine ext_setCell ?_ (by simp; try omega) _ | refine ext_alloc ?_ _ | refine ext_drew ?_ | refine ext_drewN ?_ _ | refine ext_trans ?_ (Aft.use _) | refine ext_trans ?_ (by assumption))))).mono ?_); rintro e w1 ⟨g1, rfl, hI1, hg1, xb1⟩; simp at hg1)
      | (go_at_call 70; (with_reducible refine (k2.out _ (by (repeat (first | exact ext_refl _ | assumption | refine ext_setCell ?_ (by simp; try omega) _ | refine ext_alloc ?_ _ | refine ext_drew ?_ | refine ext_drewN ?_ _ | refine ext_trans ?_ (Aft.use _) | refine ext_trans ?_ (by assumption))))).mono ?_); rintro e w2 ⟨g2, rfl, hI2, hg2, xb2⟩; have hE2 : Ext w w2 := (by (repeat (first | exact ext_refl _ | assumption | refine ext_setCell ?_ (by simp; try omega) _ | refine ext_alloc ?_ _ | refine ext_drew ?_ | refine ext_drewN ?_ _ | refine ext_trans ?_ (Aft.use _) | refine ext_trans ?_ (by assumption)))); have hs1 := ext_size xb1; simp at hs1)
      | (go_at_call 113; (with_reducible refine (k3.out _ _ _ _ _ (ext_trans xb1 xb2) (hI1.out.ext xb2) hI2.out (by omega) (by omega)).mono ?_); rintro e w3 ⟨rfl, hI3, xt3⟩; have hE3 : Ext w w3 := xt3.out w hE2 (Nat.le_refl _))
      | (go_at_call 20; (with_reducible refine (k4.out _ _ hI3.out).mono ?_); rintro e w4 ⟨rfl, hQ4, xt4⟩; have hE34 : Ext w3 w4 := Tch.ext xt4 (ext_alloc (ext_alloc (ext_refl _) _) _) (by omega))
      | (go_at_call 114; (with_reducible refine (k5.out _ _ _ hE3 xt4 hQ4.out (by simp)).mono ?_); rintro e w5 ⟨rfl, hQ5, xt5⟩; have hE35 : Ext w3 w5 := Tch.ext xt5 hE34 (Nat.le_refl _))
      | (go_at_call 34; (with_reducible refine (k6.out _ _ _ hQ5.out).mono ?_); rintro e w6 ⟨rfl, xb6⟩)
      | (go_at_call 115; (with_reducible refine (k7.out _ (ext_trans hE3 (ext_trans hE35 xb6))).mono ?_); rintro e w7 ⟨g7, rfl, hQ7, hg7, xb7⟩)
      | (go_at_call 40; (with_reducible refine (k8.out _ _ _ _ _ (hQ5.out.ext (ext_trans xb6 xb7)) hQ7.out).mono ?_); rintro e w8 ⟨rfl, xb8⟩; have hE38 : Ext w3 w8 := ext_trans hE35 (ext_trans xb6 (ext_trans xb7 xb8)))
      | (go_at_call 116; (with_reducible refine (k9.out _ _ _ (hI3.out.ext hE38)).mono ?_); rintro e w9 ⟨rfl, xb9⟩; replace hE38 := ext_trans hE38 xb9)
      | (go_at_call 25; (with_reducible refine (k10.out _).mono ?_); rintro e w10 ⟨g10, rfl, hI10, hg10, xb10⟩; replace hE38 := ext_trans hE38 xb10)
      | (go_at_call 33; (with_reducible refine (k11.out _ _ _ _ (hI3.out.ext hE38) hI10.out).mono ?_); rintro e w11 ⟨rfl, hI11, xt11⟩))
    refine bodyPost_ret (v := .pointer (some ⟨w.heap.size, 0, none⟩)) ?h rfl ⟨w.heap.size, rfl, (hI3.out.ext hE38).weak (ext_size hE2), Nat.le_refl _, ext_trans hE3 hE38⟩
    case h => simp [results, Tryz.results72, go_sem]
  · have s0 : (S == 0) = false := by rw [hsg]; exact decide_eq_false g
    have d1 : decide (0 < H) = false := decide_eq_false (by omega)
    have d2 : (H == 0) = false := by rw [beq_eq_false_iff_ne]; omega
    have h' : ¬ 0 < H := by omega
    clear hsg g
    go_enter Tryz.func72, Tryz.ntmps72
    go_wp2_with (first
      | (go_at_call 68; (with_reducible refine (k1.out _ (by (repeat (first | exact ext_refl _ | assumption | refine ext_setCell ?_ (by simp; try omega) _ | refine ext_alloc ?_ _ | refine ext_drew ?_ | refine ext_drewN ?_ _ | refine ext_trans ?_ (Aft.use _) | refine ext_trans ?_ (by assumption))))).mono ?_); rintro e w1 ⟨g1, rfl, hI1, hg1, xb1⟩; simp at hg1)
      | (go_at_call 70; (with_reducible refine (k2.out _ (by (repeat (first | exact ext_refl _ | assumption | refine ext_setCell ?_ (by simp; try omega) _ | refine ext_alloc ?_ _ | refine ext_drew ?_ | refine ext_drewN ?_ _ | refine ext_trans ?_ (Aft.use _) | refine ext_trans ?_ (by assumption))))).mono ?_); rintro e w2 ⟨g2, rfl, hI2, hg2, xb2⟩; have hE2 : Ext w w2 := (by (repeat (first | exact ext_refl _ | assumption | refine ext_setCell ?_ (by simp; try omega) _ | refine ext_alloc ?_ _ | refine ext_drew ?_ | refine ext_drewN ?_ _ | refine ext_trans ?_ (Aft.use _) | refine ext_trans ?_ (by assumption)))); have hs1 := ext_size xb1; simp at hs1)
      | (go_at_call 113; (with_reducible refine (k3.out _ _ _ _ _ (ext_trans xb1 xb2) (hI1.out.ext xb2) hI2.out (by omega) (by omega)).mono ?_); rintro e w3 ⟨rfl, hI3, xt3⟩; have hE3 : Ext w w3 := xt3.out w hE2 (Nat.le_refl _))
      | (go_at_call 20; (with_reducible refine (k4.out _ _ hI3.out).mono ?_); rintro e w4 ⟨rfl, hQ4, xt4⟩; have hE34 : Ext w3 w4 := Tch.ext xt4 (ext_alloc (ext_alloc (ext_refl _) _) _) (by omega))
      | (go_at_call 114; (with_reducible refine (k5.out _ _ _ hE3 xt4 hQ4.out (by simp)).mono ?_); rintro e w5 ⟨rfl, hQ5, xt5⟩; have hE35 : Ext w3 w5 := Tch.ext xt5 hE34 (Nat.le_refl _))
      | (go_at_call 34; (with_reducible refine (k6.out _ _ _ hQ5.out).mono ?_); rintro e w6 ⟨rfl, xb6⟩)
      | (go_at_call 115; (with_reducible refine (k7.out _ (ext_trans hE3 (ext_trans hE35 xb6))).mono ?_); rintro e w7 ⟨g7, rfl, hQ7, hg7, xb7⟩)
      | (go_at_call 40; (with_reducible refine (k8.out _ _ _ _ _ (hQ5.out.ext (ext_trans xb6 xb7)) hQ7.out).mono ?_); rintro e w8 ⟨rfl, xb8⟩; have hE38 : Ext w3 w8 := ext_trans hE35 (ext_trans xb6 (ext_trans xb7 xb8)))
      | (go_at_call 116; (with_reducible refine (k9.out _ _ _ (hI3.out.ext hE38)).mono ?_); rintro e w9 ⟨rfl, xb9⟩; replace hE38 := ext_trans hE38 xb9)
      | (go_at_call 25; (with_reducible refine (k10.out _).mono ?_); rintro e w10 ⟨g10, rfl, hI10, hg10, xb10⟩; replace hE38 := ext_trans hE38 xb10)
      | (go_at_call 33; (with_reducible refine (k11.out _ _ _ _ (hI3.out.ext hE38) hI10.out).mono ?_); rintro e w11 ⟨rfl, hI11, xt11⟩))
    refine bodyPost_ret (v := .pointer (some ⟨w.heap.size, 0, none⟩)) ?h rfl ⟨w.heap.size, rfl, (hI3.out.ext hE38).weak (ext_size hE2), Nat.le_refl _, ext_trans hE3 hE38⟩
    case h => simp [results, Tryz.results72, go_sem]
end Go.Proofs.YtchchnohmmncfaaGreatDoor.NB
end
section
/- The document's rounding: to whole times of a power of two. -/
namespace Go.Proofs.YtchchnohmmncfaaGreatDoor.NB
open Go.RowKit
attribute [local go_sem] sz2 sz3 sz4 sz5 sz6 sz7 sz8
set_option maxHeartbeats 8000000
set_option maxRecDepth 100000
attribute [local irreducible] Calls
theorem tA_len (z : Nat) (q : Int) (k : Nat) (hq : q ≤ 50000) (h : (lim z).length ≤ k) : (lim (tA z q)).length ≤ k + 1600 := by
  unfold tA
  refine lim_bits ?_
  have h1 := bits_shl z q.toNat
  have h2 := (lim_bytes z).1
  omega
theorem tD_len (d : Nat) (q : Int) (k : Nat) (hq : -50000 ≤ q) (h : (lim d).length ≤ k) : (lim (tD d q)).length ≤ k + 1600 := by
  unfold tD
  refine lim_bits ?_
  have h1 := bits_shl d (-q).toNat
  have h2 := (lim_bytes d).1
  omega
/-- A number's lowest terms. -/
def loN (a d : Nat) : Nat := a / Nat.gcd a d
def loD (a d : Nat) : Nat := d / Nat.gcd a d
theorem can_lo (a d : Nat) : canN (a : Int) d = ((loN a d : Nat) : Int) ∧ canD (a : Int) d = loD a d := by
  unfold canN canD loN loD
  rw [decide_eq_false (show ¬ (a : Int) < 0 by omega), Int.natAbs_natCast]
  exact ⟨rfl, rfl⟩
theorem lo_cross {a d : Nat} (hd : 0 < d) : loN a d * d = a * loD a d ∧ 0 < loD a d ∧ (0 < a → 0 < loN a d) ∧ Nat.gcd (loN a d) (loD a d) = 1 := by
  have hg : 0 < Nat.gcd a d := Nat.gcd_pos_of_pos_right _ hd
  obtain ⟨x, hx⟩ := Nat.gcd_dvd_left a d
  obtain ⟨y, hy⟩ := Nat.gcd_dvd_right a d
  have e1 : loN a d = x := Nat.div_eq_of_eq_mul_right hg hx
  have e2 : loD a d = y := Nat.div_eq_of_eq_mul_right hg hy
  have h4 : Nat.gcd (loN a d) (loD a d) = 1 := by
    have := can_gcd (z := (a : Int)) (d := d) (by omega)
    rw [(can_lo a d).1, (can_lo a d).2, Int.natAbs_natCast] at this
    exact this
  rw [e1, e2] at h4 ⊢
  generalize hgd : Nat.gcd a d = g at *
  refine ⟨?_, ?_, ?_, h4⟩
  · rw [hx, hy]; ac_rfl
  · exact Nat.pos_of_ne_zero fun h => by rw [h, Nat.mul_zero] at hy; omega
  · intro ha
    exact Nat.pos_of_ne_zero fun h => by rw [h, Nat.mul_zero] at hx; omega
theorem lo_len {a d k : Nat} (h1 : (lim a).length ≤ k) (h2 : (lim d).length ≤ k) : (lim (loN a d)).length ≤ k ∧ (lim (loD a d)).length ≤ k :=
  ⟨Nat.le_trans (lim_mono (Nat.div_le_self _ _)) h1, Nat.le_trans (lim_mono (Nat.div_le_self _ _)) h2⟩
theorem man_len {A D k : Nat} (neg : Bool) (h : (lim A).length ≤ k) (hk : 1 ≤ k) : (lim (rdQ 0 neg A D)).length ≤ k + 1 := by
  have h1 := (rdQ_le 0 neg A D).2
  have h2 : rdQ 0 neg A D ≤ A + 1 := Nat.le_trans h1 (Nat.add_le_add_right (Nat.div_le_self _ _) 1)
  have h3 := lim_mono h2
  have h4 : (lim (A + 1)).length ≤ k + 1 := sum_len h (show (lim 1).length ≤ k by have e : (lim 1).length = 1 := by kernel_rfl
                                                                                  omega)
  omega
theorem r5_unit (neg : Bool) (b lo z d : Nat) (q : Int) (hq : -50000 ≤ q ∧ q ≤ 50000) (hd : 0 < d) (l1 : (lim z).length ≤ 3000) (l2 : (lim d).length ≤ 3000) (w : World) (hT : Tz w) (hx : Qat w b (z : Int) d lo) :
    Calls Tryz.prog 38 #[.pointer (some ⟨b, 0, none⟩), .int .i64 q, .bool neg, .int .u8 0] w (QPs w ((loN (tA (rdQ 0 neg (tA z (-q)) (tD d (-q))) q) (tD 1 q) : Nat) : Int) (loD (tA (rdQ 0 neg (tA z (-q)) (tD d (-q))) q) (tD 1 q))) := by
  obtain ⟨hq1, hq2⟩ := hq
  have lA := tA_len z (-q) 3000 (by omega) l1
  have lD := tD_len d (-q) 3000 (by omega) l2
  have hDp : 0 < tD d (-q) := Nat.mul_pos hd (Nat.two_pow_pos _)
  have eA : z * tA 1 (-q) = tA z (-q) := by unfold tA; rw [Nat.one_mul]
  have eD : d * tD 1 (-q) = tD d (-q) := by unfold tD; rw [Nat.one_mul]
  have o1 : (lim 1).length ≤ 1 := by have e : (lim 1).length = 1 := by kernel_rfl
                                     omega
  have lA1 := tA_len 1 (-q) 1 (by omega) o1
  have lD1 := tD_len 1 (-q) 1 (by omega) o1
  have lA2 := tA_len 1 q 1 (by omega) o1
  have lD2 := tD_len 1 q 1 (by omega) o1
  have k1 := Lib.hid (fun w' => r5_power (-q) (by omega) w')
  have k2 := Lib.hid (fun w1 p l (he : Ext (newRat w) w1) (hp : Qat w1 p ((tA 1 (-q) : Nat) : Int) (tD 1 (-q)) l) => show Calls Tryz.prog 73 #[.pointer (some ⟨w.heap.size, 0, none⟩), .pointer (some ⟨b, 0, none⟩), .pointer (some ⟨p, 0, none⟩)] w1 (QTc w1 w.heap.size ((loN (tA z (-q)) (tD d (-q)) : Nat) : Int) (loD (tA z (-q)) (tD d (-q)))) by
    have e0 : Ext w w1 := ext_trans (ext_alloc (ext_refl _) _) he
    have := o_Mul w.heap.size b p lo l (z : Int) ((tA 1 (-q) : Nat) : Int) d (tD 1 (-q)) (by rw [Int.natAbs_natCast]; omega) (by omega) (by rw [Int.natAbs_natCast]; omega) (by omega) w1 (hT.ext e0) ((room_rat w).ext he) (hx.ext e0) hp
    rw [← Int.natCast_mul, eA, eD, (can_lo _ _).1, (can_lo _ _).2] at this
    exact this)
  obtain ⟨c1, c2, -, c4⟩ := lo_cross (a := tA z (-q)) hDp
  have lL := lo_len lA lD
  have eR : rdQ 0 neg (loN (tA z (-q)) (tD d (-q))) (loD (tA z (-q)) (tD d (-q))) = rdQ 0 neg (tA z (-q)) (tD d (-q)) := rdQ_eq c2 hDp c1
  obtain ⟨M, hM⟩ : ∃ M, rdQ 0 neg (tA z (-q)) (tD d (-q)) = M := ⟨_, rfl⟩
  have lM : (lim M).length ≤ 4601 := by rw [← hM]; exact man_len neg lA (by omega)
  have lM2 := tA_len M q 4601 (by omega) lM
  have k3 := Lib.hid (fun w2 g l (h : Qat w2 g ((loN (tA z (-q)) (tD d (-q)) : Nat) : Int) (loD (tA z (-q)) (tD d (-q))) l) (ht : Tz w2) => show Calls Tryz.prog 72 #[.pointer (some ⟨g, 0, none⟩), .bool neg, .int .u8 0] w2 (IPs w2 ((M : Nat) : Int)) by
    have := r5_whole neg g l _ _ (by omega) c4 (by omega) (by omega) w2 ht h
    rwa [eR, hM] at this)
  have k4 := Lib.hid (fun w3 g lo3 (h : Iat w3 g ((M : Nat) : Int) lo3) => show Calls Tryz.prog 20 #[.pointer (some ⟨w3.heap.size + 1, 0, none⟩), .pointer (some ⟨g, 0, none⟩)] (newRat (newRat w3)) (QTc (newRat (newRat w3)) (w3.heap.size + 1) ((M : Nat) : Int) 1) by
    have es : (newRat w3).heap.size = w3.heap.size + 1 := by simp
    have hr := room_rat (newRat w3)
    rw [es] at hr
    exact o_SetInt (w3.heap.size + 1) g lo3 _ (by rw [Int.natAbs_natCast]; omega) _ hr (h.ext (ext_alloc (ext_alloc (ext_refl _) _) _)))
  have k5 := Lib.hid (fun w' => r5_power q (by omega) w')
  have eM : M * tA 1 q = tA M q := by unfold tA; rw [Nat.one_mul]
  have k6 := Lib.hid (fun w3 w4 w5 g5 l4 l5 (h0 : Ext w w3) (ht : Tch (w3.heap.size + 1) (newRat (newRat w3)) w4) (he : Ext w4 w5) (h : Qat w4 (w3.heap.size + 1) ((M : Nat) : Int) 1 l4) (hp : Qat w5 g5 ((tA 1 q : Nat) : Int) (tD 1 q) l5) => show Calls Tryz.prog 73 #[.pointer (some ⟨w3.heap.size, 0, none⟩), .pointer (some ⟨w3.heap.size + 1, 0, none⟩), .pointer (some ⟨g5, 0, none⟩)] w5 (QTc w5 w3.heap.size ((loN (tA M q) (tD 1 q) : Nat) : Int) (loD (tA M q) (tD 1 q))) by
    have e34 : Ext w3 w4 := Tch.ext ht (ext_alloc (ext_alloc (ext_refl _) _) _) (by omega)
    have hr1 : RatRoom (newRat (newRat w3)) w3.heap.size := (room_rat w3).ext (ext_alloc (ext_refl _) _)
    have := o_Mul w3.heap.size (w3.heap.size + 1) g5 l4 l5 (M : Int) ((tA 1 q : Nat) : Int) 1 (tD 1 q) (by rw [Int.natAbs_natCast]; omega) (by omega) (by rw [Int.natAbs_natCast]; omega) (by omega) w5 (hT.ext (ext_trans h0 (ext_trans e34 he))) ((room_tch hr1 ht (by omega)).ext he) (h.ext he) hp
    rw [← Int.natCast_mul, eM, Nat.one_mul, (can_lo _ _).1, (can_lo _ _).2] at this
    exact this)
  rw [hM]
  have hTT := Lib.hid (fun w' (he : Ext w w') => hT.ext he)
  generalize loN (tA M q) (tD 1 q) = ZN at *
  generalize loD (tA M q) (tD 1 q) = ZD at *
  generalize loN (tA z (-q)) (tD d (-q)) = YN at *
  generalize loD (tA z (-q)) (tD d (-q)) = YD at *
  generalize tA 1 (-q) = P1 at *
  generalize tD 1 (-q) = P2 at *
  generalize tA 1 q = P3 at *
  generalize tD 1 q = P4 at *
  clear hx hT lA lD hDp eA eD o1 lA1 lD1 lA2 lD2 c1 c2 c4 lL eR hM lM lM2 eM hd l1 l2
  go_enter Tryz.func38, Tryz.ntmps38
  go_wp2_with (first
    | (go_at_call 71; (with_reducible refine (k1.out _).mono ?_); rintro e w1 ⟨g1, rfl, hQ1, hg1, xb1⟩)
    | (go_at_call 73; (with_reducible refine (k2.out _ _ _ xb1 hQ1.out).mono ?_); rintro e w2 ⟨rfl, hQ2, xt2⟩; have hE2 : Ext w w2 := Tch.ext xt2 (ext_trans (ext_alloc (ext_refl _) _) xb1) (Nat.le_refl _))
    | (go_at_call 72; (with_reducible refine (k3.out _ _ _ hQ2.out (hTT.out _ hE2)).mono ?_); rintro e w3 ⟨g3, rfl, hI3, hg3, xb3⟩; have hE3 := ext_trans hE2 xb3)
    | (go_at_call 20; (with_reducible refine (k4.out _ _ _ hI3.out).mono ?_); rintro e w4 ⟨rfl, hQ4, xt4⟩; have hE34 : Ext w3 w4 := Tch.ext xt4 (ext_alloc (ext_alloc (ext_refl _) _) _) (by omega))
    | (go_at_call 71; (with_reducible refine (k5.out _).mono ?_); rintro e w5 ⟨g5, rfl, hQ5, hg5, xb5⟩)
    | (go_at_call 73; (with_reducible refine (k6.out _ _ _ _ _ _ hE3 xt4 xb5 hQ4.out hQ5.out).mono ?_); rintro e w6 ⟨rfl, hQ6, xt6⟩))
  refine bodyPost_ret (v := .pointer (some ⟨w3.heap.size, 0, none⟩)) ?h rfl ⟨w3.heap.size, rfl, hQ6.out.weak (Nat.le_trans (ext_size hE3) (Nat.le_trans (ext_size hE34) (ext_size xb5))), ext_size hE3, Tch.ext xt6 (ext_trans hE3 (ext_trans hE34 xb5)) (ext_size hE3)⟩
  case h => simp [results, Tryz.results38, go_sem]
end Go.Proofs.YtchchnohmmncfaaGreatDoor.NB
end
section
/- The document's rounding: the least and the greatest float; the sign. -/
namespace Go.Proofs.YtchchnohmmncfaaGreatDoor.NB
open Go.RowKit
attribute [local go_sem] sz2 sz3 sz4 sz5 sz6 sz7 sz8
set_option maxHeartbeats 8000000
set_option maxRecDepth 100000
attribute [local irreducible] Calls
theorem bias_rng {E : Nat} (hE : 2 ≤ E ∧ E ≤ 11) : 1 ≤ biasF E ∧ biasF E ≤ 1023 := by
  have hb2 := bias_two E hE.1
  have hE11 : 2 ^ E ≤ 2 ^ 11 := Nat.pow_le_pow_right (by decide) hE.2
  have : (2 : Nat) ^ 11 = 2048 := by decide
  omega
theorem r5_Bias (E F : Nat) (hE : 2 ≤ E ∧ E ≤ 11) (w : World) : Calls Tryz.prog 39 #[fmV E F] w fun e w' => e = .returned (.int .i64 (biasF E)) ∧ Ext w w' := by
  obtain ⟨b1, b2⟩ := bias_rng hE
  obtain ⟨E1, rfl⟩ : ∃ E1, E = E1 + 1 := ⟨E - 1, by omega⟩
  obtain ⟨bz, hbz⟩ : ∃ bz, biasF (E1 + 1) = bz := ⟨_, rfl⟩
  have h1 : biasF (E1 + 1) = (2 : Int) ^ E1 - 1 := rfl
  rw [hbz] at h1 b1 b2
  have hw1 : wrap64 ((2 : Int) ^ E1) = bz + 1 := by
    rw [show (2 : Int) ^ E1 = bz + 1 by omega]
    unfold wrap64; omega
  have hEI : (E1 : Int) ≤ 10 := by omega
  rw [hbz]
  clear h1 hbz hE
  go_enter Tryz.func39, Tryz.ntmps39
  go_wp2
  refine bodyPost_ret (v := .int .i64 bz) ?h rfl ⟨rfl, ?_⟩
  case h => simp [results, Tryz.results39, go_sem]
  repeat (first | exact ext_refl _ | assumption | refine ext_setCell ?_ (by simp; try omega) _ | refine ext_alloc ?_ _ | refine ext_drew ?_ | refine ext_drewN ?_ _ | refine ext_trans ?_ (Aft.use _) | refine ext_trans ?_ (by assumption))
theorem r5_Sign (E F : Nat) (hE : 2 ≤ E ∧ E ≤ 11) (hF : 1 ≤ F ∧ F ≤ 52) (w : World) : Calls Tryz.prog 35 #[fmV E F] w fun e w' => e = .returned (.int .u64 ((2 ^ (E + F) : Nat) : Int)) ∧ Ext w w' := by
  obtain ⟨P, hP⟩ : ∃ P, 2 ^ (E + F) = P := ⟨_, rfl⟩
  have hP63 : P ≤ 9223372036854775808 := by
    have h63 : 2 ^ (E + F) ≤ 2 ^ 63 := Nat.pow_le_pow_right (by decide) (by omega)
    have e63 : (2 : Nat) ^ 63 = 9223372036854775808 := by decide
    omega
  have hPw : IntKind.u64.wrap ((2 : Int) ^ (E + F)) = (P : Int) := by
    have : ((2 : Int) ^ (E + F)) = ((2 ^ (E + F) : Nat) : Int) := by simp
    rw [this, hP, IntKind.wrap_u64]; omega
  have hE1 := hE.1
  have hE2 := hE.2
  have hF1 := hF.1
  have hF2 := hF.2
  rw [hP]
  clear hP hE hF
  go_enter Tryz.func35, Tryz.ntmps35
  go_wp2
  refine bodyPost_ret (v := .int .u64 ↑P) ?h rfl ⟨rfl, ?_⟩
  case h => simp [results, Tryz.results35, go_sem, hPw]
  repeat (first | exact ext_refl _ | assumption | refine ext_setCell ?_ (by simp; try omega) _ | refine ext_alloc ?_ _ | refine ext_drew ?_ | refine ext_drewN ?_ _ | refine ext_trans ?_ (Aft.use _) | refine ext_trans ?_ (by assumption))
theorem r5_Least (E F : Nat) (hE : 2 ≤ E ∧ E ≤ 11) (w : World) : Calls Tryz.prog 41 #[fmV E F] w (QPs w ((tA 1 (1 - biasF E) : Nat) : Int) (tD 1 (1 - biasF E))) := by
  obtain ⟨b1, b2⟩ := bias_rng hE
  have kB := Lib.hid (fun w => r5_Bias E F hE w)
  have kP := Lib.hid (fun w => r5_power (1 - biasF E) (by omega) w)
  generalize tA 1 (1 - biasF E) = P at *
  generalize tD 1 (1 - biasF E) = Q at *
  generalize biasF E = b at *
  clear hE
  go_enter Tryz.func41, Tryz.ntmps41
  go_wp2_with (first
    | (go_at_call 39; (with_reducible refine (kB.out _).mono ?_); rintro e w1 ⟨rfl, xb1⟩; obtain ⟨xc1, xf1, xl1, xz1⟩ := ext_use xb1; (try simp at xz1); obtain ⟨l1_0, gc, gf⟩ := kp xb1 (w.heap.size) (by first | omega | (simp; try omega)); have r1_0 := gc 0; have f1_0 := gf 0; have r1_0_1 := gc 1; have f1_0_1 := gf 1; clear gc gf)
    | (go_at_call 71; (with_reducible refine (kP.out _).mono ?_); rintro e w2 ⟨g, rfl, hQ, hg, xb2⟩))
  refine bodyPost_ret (v := .pointer (some ⟨g, 0, none⟩)) ?h rfl ⟨g, rfl, hQ.out.weak (by have := ext_size xb1; simp at this; omega), by have := ext_size xb1; simp at this; omega, ?_⟩
  case h => simp [results, Tryz.results41, go_sem]
  repeat (first | exact ext_refl _ | assumption | refine ext_setCell ?_ (by simp; try omega) _ | refine ext_alloc ?_ _ | refine ext_drew ?_ | refine ext_drewN ?_ _ | refine ext_trans ?_ (Aft.use _) | refine ext_trans ?_ (by assumption))
end Go.Proofs.YtchchnohmmncfaaGreatDoor.NB
end
