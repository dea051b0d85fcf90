/- Lemmas of this proof, laid together: BkA, BkB, BkC, BkE, BkD, BkF, ParO, D2F, OpsB, D2I, D2J, AbN, AbB, NamB, NamC, MakB. -/
import Derived.Test.YtfdmhefjmnlllaaGreatDoorMg21
import Derived.Test.YtfdmhefjmnlllaaGreatDoorMg28
import Derived.Deep.Heap
import Derived.Deep.AppendLies
import Derived.Deep.DeepCutAuto
import Derived.Deep.RegionWith
import Derived.Deep.RegionLaw
import Derived.ArgAppend
import Derived.Deep.LoopGhost
import Derived.Test.YtfdmhefjmnlllaaGreatDoorMg27
import Derived.Test.YtfdmhefjmnlllaaGreatDoorMg26
import Derived.Test.YtfdmhefjmnlllaaGreatDoorMg25
import Derived.Test.YtfdmhefjmnlllaaGreatDoorMg23
import Derived.Test.YtfdmhefjmnlllaaGreatDoorMg03
import Derived.Test.YtfdmhefjmnlllaaGreatDoorMg22
set_option linter.unusedSimpArgs false
set_option linter.unusedVariables false
section
/- The second law's book: worlds in which some blocks only have turned. -/
namespace Go.Proofs.YtfdmhefjmnlllaaGreatDoor
open Go.RowKit
structure Frm (S : Nat → Prop) (w w' : World) : Prop where
 os : w'.os = w.os
 tape : w'.tape = w.tape
 output : w'.output = w.output
 size : w.heap.size ≤ w'.heap.size
 block : ∀ k, k < w.heap.size → ¬ S k → w'.heap[k]? = w.heap[k]?
theorem Frm.refl (S : Nat → Prop) (w : World) : Frm S w w := ⟨rfl, rfl, rfl, Nat.le_refl _, fun _ _ _ => rfl⟩
theorem Frm.trans {S : Nat → Prop} {u v w : World} (h : Frm S u v) (k : Frm S v w) : Frm S u w :=
 ⟨k.os.trans h.os, k.tape.trans h.tape, k.output.trans h.output, Nat.le_trans h.size k.size, fun i hi hs => (k.block i (Nat.lt_of_lt_of_le hi h.size) hs).trans (h.block i hi hs)⟩
theorem Frm.of {S : Nat → Prop} {w w' : World} (h : Ext w w') : Frm S w w' := ⟨h.os, h.tape, h.output, h.size, fun i hi _ => h.block i hi⟩
theorem Frm.mono {S T : Nat → Prop} {w w' : World} (h : Frm S w w') (hT : ∀ k, S k → T k) : Frm T w w' := ⟨h.os, h.tape, h.output, h.size, fun i hi hs => h.block i hi (fun h1 => hs (hT i h1))⟩
theorem Frm.set {S : Nat → Prop} {w : World} {b o : Nat} (v : Value) (hb : S b ∨ w.heap.size ≤ b) : Frm S w (w.setCell ⟨b, o, none⟩ v) :=
 ⟨rfl, rfl, rfl, by simp, fun i hi hs => Go.Deep.blk_setCell_other w ⟨b, o, none⟩ v i (fun e => by rcases hb with h1 | h1; exact hs (e ▸ h1); simp only at e; omega)⟩
theorem Frm.ext {S : Nat → Prop} {W w w' : World} (h : Frm S w w') (hE : Ext W w) (hS : ∀ k, S k → W.heap.size ≤ k) : Ext W w' :=
 ⟨h.os.trans hE.os, h.tape.trans hE.tape, h.output.trans hE.output, Nat.le_trans hE.size h.size, fun i hi => (h.block i (Nat.lt_of_lt_of_le hi hE.size) (fun hs => by have := hS i hs; omega)).trans (hE.block i hi)⟩
theorem Frm.cell {S : Nat → Prop} {w w' : World} (h : Frm S w w') {p : Addr} (hp : p.block < w.heap.size) (hs : ¬ S p.block) : w'.cell? p = w.cell? p := World.cell?_of_block (w := w) (h.block p.block hp hs)
theorem Frm.frozen {S : Nat → Prop} {w w' : World} (h : Frm S w w') {p : Addr} (hp : p.block < w.heap.size) (hs : ¬ S p.block) : w'.frozen? p = w.frozen? p := World.frozen?_of_block (w := w) (h.block p.block hp hs)
def InBook (β : Nat) (GA WA LA : Option Addr) (k : Nat) : Prop := k = β ∨ (∃ a, GA = some a ∧ a.block = k) ∨ (∃ a, WA = some a ∧ a.block = k) ∨ (∃ a, LA = some a ∧ a.block = k)
structure BookIs (w : World) (β : Nat) (GA WA LA : Option Addr) (n q m gc wc lc : Nat) (gs ws ls : List Value) : Prop where
 lt : β < w.heap.size
 c0 : w.cell? ⟨β, 0, none⟩ = some (.slice GA n gc)
 c1 : w.cell? ⟨β, 1, none⟩ = some (.slice WA q wc)
 c2 : w.cell? ⟨β, 2, none⟩ = some (.slice LA m lc)
 c3 : w.cell? ⟨β, 3, none⟩ = some (.bool false)
 f0 : w.frozen? ⟨β, 0, none⟩ = false
 f1 : w.frozen? ⟨β, 1, none⟩ = false
 f2 : w.frozen? ⟨β, 2, none⟩ = false
 og : w.ownsRow 0 26 3 (.slice GA n gc) n gs
 ow : w.ownsRow 0 26 3 (.slice WA q wc) q ws
 ol : w.ownsRow 0 22 1 (.slice LA m lc) m ls
 dG : ∀ a, GA = some a → a.block ≠ β
 dW : ∀ a, WA = some a → a.block ≠ β
 dL : ∀ a, LA = some a → a.block ≠ β
 dGW : ∀ a b, GA = some a → WA = some b → a.block ≠ b.block
 dGL : ∀ a b, GA = some a → LA = some b → a.block ≠ b.block
 dWL : ∀ a b, WA = some a → LA = some b → a.block ≠ b.block
theorem BookIs.still {w w' : World} {β : Nat} {GA WA LA : Option Addr} {n q m gc wc lc : Nat} {gs ws ls : List Value} (h : BookIs w β GA WA LA n q m gc wc lc gs ws ls) (hs : w.heap.size ≤ w'.heap.size) (hk : ∀ k, k < w.heap.size → InBook β GA WA LA k → w'.heap[k]? = w.heap[k]?) : BookIs w' β GA WA LA n q m gc wc lc gs ws ls := by
 have hb := hk β h.lt (.inl rfl)
 have cc : ∀ o, w'.cell? ⟨β, o, none⟩ = w.cell? ⟨β, o, none⟩ := fun o => World.cell?_of_block (a := ⟨β, o, none⟩) hb
 have ff : ∀ o, w'.frozen? ⟨β, o, none⟩ = w.frozen? ⟨β, o, none⟩ := fun o => World.frozen?_of_block (a := ⟨β, o, none⟩) hb
 exact ⟨Nat.lt_of_lt_of_le h.lt hs, (cc 0).trans h.c0, (cc 1).trans h.c1, (cc 2).trans h.c2, (cc 3).trans h.c3, (ff 0).trans h.f0, (ff 1).trans h.f1, (ff 2).trans h.f2,
  own_still h.og (fun a ha => hk _ (own_lt h.og ha) (.inr (.inl ⟨a, ha, rfl⟩))), own_still h.ow (fun a ha => hk _ (own_lt h.ow ha) (.inr (.inr (.inl ⟨a, ha, rfl⟩)))), own_still h.ol (fun a ha => hk _ (own_lt h.ol ha) (.inr (.inr (.inr ⟨a, ha, rfl⟩)))),
  h.dG, h.dW, h.dL, h.dGW, h.dGL, h.dWL⟩
theorem BookIs.ext {w w' : World} {β : Nat} {GA WA LA : Option Addr} {n q m gc wc lc : Nat} {gs ws ls : List Value} (h : BookIs w β GA WA LA n q m gc wc lc gs ws ls) (he : Ext w w') : BookIs w' β GA WA LA n q m gc wc lc gs ws ls :=
 h.still he.size (fun k hk _ => he.block k hk)
section
variable {w1 W w2 : World} {β : Nat} {GA WA LA : Option Addr} {n q m gc wc lc : Nat} {gs ws ls : List Value}
end
end Go.Proofs.YtfdmhefjmnlllaaGreatDoor
end
section
/- The second law's book: a fraction is added. -/
namespace Go.Proofs.YtfdmhefjmnlllaaGreatDoor
open Go.RowKit
attribute [local go_sem] sz2 sz3 sz4 sz5 sz6 sz7 sz8
set_option maxHeartbeats 4000000
set_option maxRecDepth 100000
attribute [local irreducible] Calls
abbrev ratC (s : Bool) (A : Option Addr) (n c : Nat) (D : Option Addr) (m k : Nat) : List Value := [.bool s, .slice A n c, .slice D m k]
end Go.Proofs.YtfdmhefjmnlllaaGreatDoor
end
section
/- The second law's book: stands: what was answered is what was wanted. -/
namespace Go.Proofs.YtfdmhefjmnlllaaGreatDoor
open Go.RowKit
attribute [local go_sem] sz2 sz3 sz4 sz5 sz6 sz7 sz8
set_option maxHeartbeats 4000000
set_option maxRecDepth 100000
attribute [local irreducible] Calls
theorem own_mod {w : World} {e : TypeId} {size n c : Nat} {A : Option Addr} {xs : List Value} (h : w.ownsRow 0 e size (.slice A n c) n xs) : n ≤ c ∧ c ≤ maxLen := by
 rcases h.2 with ⟨he, h0⟩ | ⟨g, cap, cur, he, _, _, h1, h2, _⟩
 ·simp only [Value.slice.injEq] at he; omega
 ·simp only [Value.slice.injEq] at he; omega
end Go.Proofs.YtfdmhefjmnlllaaGreatDoor
end
section
/- The second law's book, as a list of what was answered: adds, number, stands. -/
namespace Go.Proofs.YtfdmhefjmnlllaaGreatDoor
open Go.RowKit
set_option maxHeartbeats 4000000
set_option maxRecDepth 100000
attribute [local irreducible] Calls
structure Rec where
 s : Bool
 F : FH
 G : FH
 xs : List Nat
 ys : List Nat
structure Row where
 A : Option Addr
 n : Nat
 xs : List Nat
structure BH where
 GA : Option Addr
 WA : Option Addr
 LA : Option Addr
 gc : Nat
 wc : Nat
 lc : Nat
abbrev InBk (β : Nat) (H : BH) (k : Nat) : Prop := InBook β H.GA H.WA H.LA k
abbrev Rec.gv (r : Rec) : List Value := ratC r.s r.F.A r.F.n r.F.c r.F.D r.F.m r.F.k
abbrev Rec.wv (r : Rec) : List Value := ratC r.s r.G.A r.G.n r.G.c r.G.D r.G.m r.G.k
abbrev Row.v (r : Row) : Value := .slice r.A r.n r.n
structure Want (w : World) (β : Nat) (H : BH) (A : Option Addr) (n c : Nat) (xs : List Nat) : Prop where
 rd : Rd w A n c xs
 off : ∀ a, A = some a → n ≠ 0 → ¬ InBk β H a.block
 lo : ∀ a, A = some a → n ≠ 0 → β ≤ a.block
structure RowIs (w : World) (B β : Nat) (H : BH) (r : Row) : Prop where
 own : w.ownsRow 0 47 1 r.v r.n (r.xs.map u32V)
 off : ∀ a, r.A = some a → ¬ InBk β H a.block
 low : ∀ a, r.A = some a → B ≤ a.block
 few : r.n ≤ 1000000
abbrev RecIs (w : World) (β : Nat) (H : BH) (r : Rec) : Prop := Want w β H r.F.A r.F.n r.F.c r.xs ∧ Want w β H r.F.D r.F.m r.F.k r.ys ∧ Want w β H r.G.A r.G.n r.G.c r.xs ∧ Want w β H r.G.D r.G.m r.G.k r.ys
abbrev Apart (r s : Row) : Prop := ∀ a b, r.A = some a → s.A = some b → a.block ≠ b.block
structure Bk (w : World) (B β : Nat) (H : BH) (rs : List Rec) (ls : List Row) : Prop where
 book : BookIs w β H.GA H.WA H.LA rs.length rs.length ls.length H.gc H.wc H.lc (rs.flatMap Rec.gv) (rs.flatMap Rec.wv) (ls.map Row.v)
 recs : ∀ r ∈ rs, RecIs w β H r
 rows : ∀ r ∈ ls, RowIs w B β H r
 apart : ls.Pairwise Apart
 low : ∀ k, InBk β H k → B ≤ k
abbrev TurnB (w w' : World) (β : Nat) (H H' : BH) : Prop := Frm (InBk β H) w w' ∧ ∀ k, InBk β H' k → InBk β H k ∨ w.heap.size ≤ k
theorem Bk.lt {w : World} {B β : Nat} {H : BH} {rs : List Rec} {ls : List Row} (h : Bk w B β H rs ls) {k : Nat} (hk : InBk β H k) : k < w.heap.size := by
 rcases hk with rfl | ⟨a, ha, rfl⟩ | ⟨a, ha, rfl⟩ | ⟨a, ha, rfl⟩
 ·exact h.book.lt
 ·exact own_lt h.book.og ha
 ·exact own_lt h.book.ow ha
 ·exact own_lt h.book.ol ha
theorem Bk.off {w : World} {B β : Nat} {H : BH} {rs : List Rec} {ls : List Row} (h : Bk w B β H rs ls) {k : Nat} (hk : w.heap.size ≤ k) : ¬ InBk β H k := fun e => by have := h.lt e; omega
theorem Want.ext {w w' : World} {β : Nat} {H : BH} {A : Option Addr} {n c : Nat} {xs : List Nat} (h : Want w β H A n c xs) (he : Ext w w') : Want w' β H A n c xs := ⟨h.rd.ext he, h.off, h.lo⟩
theorem Rd.lt {w : World} {A : Option Addr} {n c : Nat} {xs : List Nat} (h : Rd w A n c xs) {a : Addr} (ha : A = some a) (hn : n ≠ 0) : a.block < w.heap.size := by
 obtain ⟨b, o, s⟩ := a
 have hs := h.at_ _ ha
 simp only at hs
 subst hs
 exact (h.cells b o ha 0 (by rw [h.len]; omega)).1
theorem Want.of {w0 w w1 : World} {B β : Nat} {H : BH} {rs : List Rec} {ls : List Row} {A : Option Addr} {n c : Nat} {xs : List Nat} (hB : Bk w0 B β H rs ls) (h : Rd w A n c xs) (hf : Fr w1 A) (hs : w0.heap.size ≤ w1.heap.size) : Want w β H A n c xs :=
 ⟨h, fun a ha _ => hB.off (by have := hf a ha; omega), fun a ha _ => by have := hf a ha; have := hB.book.lt; omega⟩
theorem RowIs.ext {w w' : World} {B β : Nat} {H : BH} {r : Row} (h : RowIs w B β H r) (he : Ext w w') : RowIs w' B β H r := ⟨own_ext h.own he, h.off, h.low, h.few⟩
theorem Bk.ext {w w' : World} {B β : Nat} {H : BH} {rs : List Rec} {ls : List Row} (h : Bk w B β H rs ls) (he : Ext w w') : Bk w' B β H rs ls :=
 ⟨h.book.ext he, fun r hr => by obtain ⟨h1, h2, h3, h4⟩ := h.recs r hr; exact ⟨h1.ext he, h2.ext he, h3.ext he, h4.ext he⟩, fun r hr => (h.rows r hr).ext he, h.apart, h.low⟩
theorem TurnB.cell {w w' : World} {β : Nat} {H H' : BH} (t : TurnB w w' β H H') {b : Nat} (hb : b < w.heap.size) (ho : ¬ InBk β H b) : (∀ o, w'.cell? ⟨b, o, none⟩ = w.cell? ⟨b, o, none⟩) ∧ (∀ o, w'.frozen? ⟨b, o, none⟩ = w.frozen? ⟨b, o, none⟩) ∧ b < w'.heap.size ∧ ¬ InBk β H' b :=
 ⟨fun o => t.1.cell (p := ⟨b, o, none⟩) hb ho, fun o => t.1.frozen (p := ⟨b, o, none⟩) hb ho, Nat.lt_of_lt_of_le hb t.1.size, fun e => by
  rcases t.2 _ e with e | e
  ·exact ho e
  ·omega⟩
theorem TurnB.ext {W w w' : World} {B β : Nat} {H H' : BH} {rs : List Rec} {ls : List Row} (t : TurnB w w' β H H') (h : Bk w B β H rs ls) (hE : Ext W w) (hb : W.heap.size ≤ B) : Ext W w' :=
 t.1.ext hE (fun k hk => Nat.le_trans hb (h.low k hk))
theorem Bk.new (w : World) (t : TypeId) : Bk (w.alloc (Obj.cells #[.slice none 0 0, .slice none 0 0, .slice none 0 0, .bool false] t)) w.heap.size w.heap.size ⟨none, none, none, 0, 0, 0⟩ [] [] := by
 refine ⟨⟨by simp, by simp [go_sem], by simp [go_sem], by simp [go_sem], by simp [go_sem], by simp [go_sem], by simp [go_sem], by simp [go_sem], World.ownsRow_nil _ _ _ _, World.ownsRow_nil _ _ _ _, World.ownsRow_nil _ _ _ _, (fun a h => by cases h), (fun a h => by cases h), (fun a h => by cases h), (fun a b h => by cases h), (fun a b h => by cases h), (fun a b h => by cases h)⟩, (fun r h => by cases h), (fun r h => by cases h), List.Pairwise.nil, ?_⟩
 rintro k (rfl | ⟨a, ha, _⟩ | ⟨a, ha, _⟩ | ⟨a, ha, _⟩)
 ·exact Nat.le_refl _
 ·cases ha
 ·cases ha
 ·cases ha
end Go.Proofs.YtfdmhefjmnlllaaGreatDoor
end
section
/- A text is read: the program's answer and the document's, together. -/
namespace Go.Proofs.YtfdmhefjmnlllaaGreatDoor
open Go.RowKit
attribute [local go_sem] bs_size bs_extract bs_get bs_append bs_toList const_get
attribute [local go_sem] sz2 sz3 sz4 sz5 sz6 sz7 sz8
set_option maxHeartbeats 4000000
set_option maxRecDepth 100000
attribute [local irreducible] Calls
theorem RdO.nil (w : World) (Z : Option Addr) : RdO w none 0 0 [] Z := ⟨Rd.nil w, World.ownsRow_nil _ _ _ _, (fun a z h => by cases h), rfl⟩
theorem fr_none (w : World) : Fr w none := fun a h => by cases h
end Go.Proofs.YtfdmhefjmnlllaaGreatDoor
end
section
/- Two fractions: the program's answer and the document's, together (written by mkopsb.py). -/
namespace Go.Proofs.YtfdmhefjmnlllaaGreatDoor.NB
open Go.RowKit
set_option maxHeartbeats 4000000
set_option maxRecDepth 100000
attribute [local irreducible] Calls
end Go.Proofs.YtfdmhefjmnlllaaGreatDoor.NB
namespace Go.Proofs.YtfdmhefjmnlllaaGreatDoor
open Go.RowKit
set_option maxHeartbeats 4000000
set_option maxRecDepth 100000
attribute [local irreducible] Calls
abbrev OfPst (w : World) (s : Bool) (xs ys : List Nat) (E : Int) : Ending → World → Prop := fun e w' => ∃ F : FH, e = .returned (.tuple #[fV s F, .int .i64 E]) ∧ Hid (RdO w' F.A F.n F.c xs none ∧ Fr w F.A ∧ RdO w' F.D F.m F.k ys F.A ∧ Fr w F.D) ∧ Ext w w'
structure FrIn (w : World) (F : FH) (xs ys : List Nat) : Prop where
 num : Rd w F.A F.n F.c xs
 den : Rd w F.D F.m F.k ys
theorem FrIn.ext {w w' : World} {F : FH} {xs ys : List Nat} (h : FrIn w F xs ys) (he : Ext w w') : FrIn w' F xs ys := ⟨h.num.ext he, h.den.ext he⟩
theorem of_t {w : World} {z : Int} {d : Nat} {f : FuncId} {v : Array Value} (h : Calls Tryz.prog f v w (TPost w z d)) : Calls Tryz.prog f v w (OfPst w (decide (z < 0)) (lim z.natAbs) (lim d) 0) := by
 refine h.mono ?_
 rintro e w' ⟨A, n, c, D, m, k, rfl, h1, h2⟩
 exact ⟨⟨A, n, c, D, m, k⟩, rfl, h1, h2⟩
theorem of_no {w : World} {E : Int} {f : FuncId} {v : Array Value} (h : Calls Tryz.prog f v w (NoE w E)) : Calls Tryz.prog f v w (OfPst w false [] [] E) := by
 refine h.mono ?_
 rintro e w' ⟨rfl, h1⟩
 exact ⟨⟨none, 0, 0, none, 0, 0⟩, rfl, Lib.hid ⟨RdO.nil _ _, fr_none _, RdO.nil _ _, fr_none _⟩, h1⟩
theorem RatOk.parts {s : Bool} {xs ys : List Nat} (h : RatOk s xs ys) (hb : Lb xs) (hb2 : Lb ys) : ∃ a d, xs = lim a ∧ ys = lim d ∧ d ≠ 0 ∧ Nat.gcd a d = 1 ∧ (s = true → a ≠ 0) :=
 ⟨val xs, val ys, (chk_zero hb h.1).2, (chk_zero hb2 h.2.1).2, h.2.2.1, h.2.2.2.1, h.2.2.2.2⟩
section
variable {s t : Bool} {xs ys us vs : List Nat}
section
variable {a d : Nat} (hd : d ≠ 0) (hg : Nat.gcd a d = 1) (hn : s = true → a ≠ 0) (l1 : (lim a).length ≤ 40) (l2 : (lim d).length ≤ 40) (F : FH) (w : World) (hT : Tz w) (hF : FrIn w F (lim a) (lim d))
include hd hg hn l1 l2 hT hF
theorem tk_yes : ∀ w', Ext w w' → Calls Tryz.prog 40 #[fV s F] w' (KPost w' (sgn s a) (lowD a d)) := fun w' he => ra_taken s F.A F.n F.c a F.D F.m F.k d hd (by have := hF.num.len; omega) (by have := hF.den.len; omega) hg hn w' (hT.ext he) (hF.num.ext he) (hF.den.ext he)
end
end
end Go.Proofs.YtfdmhefjmnlllaaGreatDoor
end
section
/- The sign turned, and dropped: the program's ratio.Neg and ratio.Abs, out of what `of` answers (written by mkabn.py). -/
namespace Go.Proofs.YtfdmhefjmnlllaaGreatDoor
open Go.RowKit
attribute [local go_sem] sz2 sz3 sz4 sz5 sz6 sz7 sz8
attribute [local go_sem] D2.Oper.detAt D2.detUpon D2.relUpon
set_option maxHeartbeats 4000000
set_option maxRecDepth 100000
attribute [local irreducible] Calls
abbrev OgPst (g : Nat) (w : World) (s : Bool) (xs ys : List Nat) (E : Int) : Ending → World → Prop := fun e w' => ∃ F : FH, e = .returned (.tuple #[fV s F, .int .i64 E]) ∧ Hid (RdO w' F.A F.n F.c xs none ∧ Fr w F.A ∧ RdO w' F.D F.m F.k ys F.A ∧ Fr w F.D) ∧ Tch g w w'
section
variable (s : Bool) (A : Option Addr) (n c : Nat) (D : Option Addr) (m k : Nat) (w : World) (r : Bool) (zs ws : List Nat) (E : Int)
end
end Go.Proofs.YtfdmhefjmnlllaaGreatDoor
end
section
/- Neg, Abs, Floor, Text, Check: the program's answer and the document's, together (written by mkabb.py). -/
namespace Go.Proofs.YtfdmhefjmnlllaaGreatDoor
open Go.RowKit
set_option maxHeartbeats 4000000
set_option maxRecDepth 100000
attribute [local irreducible] Calls
theorem nought_in {w : World} {F : FH} (h : RaF w 0 1 F) : FrIn w F (lim 0) (lim 1) := ⟨h.num, h.den⟩
theorem lim_one1 : (lim 1).length = 1 := by kernel_rfl
theorem tk_nought {w : World} {F : FH} (hT : Tz w) (h : RaF w 0 1 F) : ∀ w', Ext w w' → Calls Tryz.prog 40 #[fV false F] w' (KPost w' (sgn false 0) (lowD 0 1)) :=
 tk_yes (s := false) (a := 0) (d := 1) (by decide) (by decide) (fun h => by cases h) (by rw [lim_zero]; simp) (by rw [lim_one1]; decide) F w hT (nought_in h)
section
variable {s : Bool} {xs ys : List Nat}
end
end Go.Proofs.YtfdmhefjmnlllaaGreatDoor
end
section
/- The program's ratio.of with Add, Sub, Mul, whatever `told` answers (written by mknab.py). -/
namespace Go.Proofs.YtfdmhefjmnlllaaGreatDoor
open Go.RowKit
attribute [local go_sem] sz2 sz3 sz4 sz5 sz6 sz7 sz8
set_option maxHeartbeats 4000000
set_option maxRecDepth 100000
attribute [local irreducible] Calls
attribute [local go_sem] run_makeFunc''
section
variable (s : Bool) (A : Option Addr) (n c : Nat) (D : Option Addr) (m k : Nat) (t : Bool) (B : Option Addr) (n2 c2 : Nat) (C : Option Addr) (m2 k2 : Nat) (w : World) (r : Bool) (zs ws : List Nat) (E : Int)
theorem ra_of_Add_g (g : Nat) (za zb zn : Int) (da db zd : Nat) (hr : RatRoom w g)
  (kA : ∀ w', Ext w w' → Calls Tryz.prog 40 #[ratV s A n c D m k] w' (KPost w' za da)) (kB : ∀ w', Ext w w' → Calls Tryz.prog 40 #[ratV t B n2 c2 C m2 k2] w' (KPost w' zb db))
  (hop : ∀ bx X n' c' Y m' k' b2 X2 n2' c2' Y2 m2' k2' w', Ext w w' → RatIs w' bx za X n' c' da Y m' k' → RatIs w' b2 zb X2 n2' c2' db Y2 m2' k2' → Off Y m' g → Off Y2 m2' g → Calls Tryz.prog 39 #[.pointer (some ⟨g, 0, none⟩), .pointer (some ⟨bx, 0, none⟩), .pointer (some ⟨b2, 0, none⟩)] w' (FPost w' g zn zd))
  (kT : ∀ A n c D m k w', RatIs w' g zn A n c zd D m k → Calls Tryz.prog 64 #[.pointer (some ⟨g, 0, none⟩)] w' (OfPst w' r zs ws E)) :
  Calls Tryz.prog 36 #[ratV s A n c D m k, ratV t B n2 c2 C m2 k2, .func (.func 39) #[.pointer (some ⟨g, 0, none⟩)] #[]] w (OgPst g w r zs ws E) := by
 have hgl := hr.int.lt
 clear hr
 go_enter Tryz.func36, Tryz.ntmps36
 go_upto_region 7 with (first
  | (go_at_call 40; (with_reducible refine (kA _ xcl).mono ?_); rintro e w1 ⟨b1, A1, n1, c1, D1, m1, k1, rfl, hR1, hb1, xb1⟩; obtain ⟨xc1, xf1, xl1, xz1⟩ := jU xb1; (try simp at xz1); obtain ⟨l1_0, r1_0, f1_0, r1_0_1, f1_0_1, r1_0_2, f1_0_2⟩ := kq3 xb1 (w.heap.size); obtain ⟨l1_1, r1_1, f1_1, r1_1_1, f1_1_1, r1_1_2, f1_1_2⟩ := kq3 xb1 (w.heap.size + 1); obtain ⟨l1_2, r1_2, f1_2, r1_2_1, f1_2_1, r1_2_2, f1_2_2⟩ := kq3 xb1 (w.heap.size + 1 + 1))
  | (go_at_call 40; (with_reducible refine (kB _ xcl).mono ?_); rintro e w2 ⟨b2, A2, n2, c2, D2, m2, k2, rfl, hR2, hb2, xb2⟩; obtain ⟨xc2, xf2, xl2, xz2⟩ := jU xb2; (try simp at xz2); obtain ⟨l2_0, r2_0, f2_0, r2_0_1, f2_0_1, r2_0_2, f2_0_2⟩ := kq3 xb2 (w.heap.size); obtain ⟨l2_1, r2_1, f2_1, r2_1_1, f2_1_1, r2_1_2, f2_1_2⟩ := kq3 xb2 (w.heap.size + 1); obtain ⟨l2_2, r2_2, f2_2, r2_2_1, f2_2_1, r2_2_2, f2_2_2⟩ := kq3 xb2 (w.heap.size + 1 + 1))
  )
 have hEw : Hid (Ext w w2) := by show Ext w w2; exact xcl
 have hR1' := Lib.hid (hR1.out.1.ext (show Ext w1 w2 by exact xcl))
 have hO1 : Off D1 m1 g := hR1.out.2.2.off (by simp; omega) m1
 have hO2 : Off D2 m2 g := hR2.out.2.2.off (by have := ext_lt xb1 g (by simp; omega); simpa using this) m2
 have kop := hop b1 A1 n1 c1 D1 m1 k1 b2 A2 n2 c2 D2 m2 k2 w2 hEw.out hR1'.out hR2.out.1 hO1 hO2
 have z0 : w2.cell? ⟨w.heap.size + 1 + 1, 0, none⟩ = some (.bool false) := by simp [go_sem, *]
 have z1 : w2.cell? ⟨w.heap.size + 1 + 1, 1, none⟩ = some (.slice none 0 0) := by simp [go_sem, *]
 have z2 : w2.cell? ⟨w.heap.size + 1 + 1, 2, none⟩ = some (.slice none 0 0) := by simp [go_sem, *]
 have f0 : w2.frozen? ⟨w.heap.size + 1 + 1, 0, none⟩ = false := by simp [go_sem, *]
 have f1 : w2.frozen? ⟨w.heap.size + 1 + 1, 1, none⟩ = false := by simp [go_sem, *]
 have f2 : w2.frozen? ⟨w.heap.size + 1 + 1, 2, none⟩ = false := by simp [go_sem, *]
 have zl : w.heap.size + 1 + 1 < w2.heap.size := by assumption
 clear hop kA kB hO1 hO2
 go_wp2_with (first
  | (go_at_call 39; (with_reducible refine kop.mono ?_); rintro e w3 ⟨rfl, A3, n3, c3, D3, m3, k3, hR3, xt3⟩)
  )
 have g0 := (xt3.cell (p := ⟨w.heap.size + 1 + 1, 0, none⟩) zl (by simp only; omega)).trans z0
 have g1 := (xt3.cell (p := ⟨w.heap.size + 1 + 1, 1, none⟩) zl (by simp only; omega)).trans z1
 have g2 := (xt3.cell (p := ⟨w.heap.size + 1 + 1, 2, none⟩) zl (by simp only; omega)).trans z2
 have e0 := (xt3.frozen (p := ⟨w.heap.size + 1 + 1, 0, none⟩) zl (by simp only; omega)).trans f0
 have e1 := (xt3.frozen (p := ⟨w.heap.size + 1 + 1, 1, none⟩) zl (by simp only; omega)).trans f1
 have e2 := (xt3.frozen (p := ⟨w.heap.size + 1 + 1, 2, none⟩) zl (by simp only; omega)).trans f2
 have gl := Nat.lt_of_lt_of_le zl xt3.size
 clear z0 z1 z2 f0 f1 f2 xb1 xb2
 go_wp2_with (first
  | (go_at_call 64; (with_reducible refine (kT _ _ _ _ _ _ _ hR3.out.1).mono ?_); rintro e w4 ⟨F4, rfl, hI4, xb4⟩; obtain ⟨xc4, xf4, xl4, xz4⟩ := jU xb4; (try simp at xz4); obtain ⟨l4_0, r4_0, f4_0, r4_0_1, f4_0_1, r4_0_2, f4_0_2⟩ := kq3 xb4 (w.heap.size + 1 + 1))
  )
 have hlt4 : w.heap.size + 1 + 1 < w3.heap.size := gl
 have n5 : ∀ x, F4.A = some x → w.heap.size + 1 + 1 < x.block := fun x hx => by have := hI4.out.2.1 x hx; omega
 have n6 : ∀ x, F4.D = some x → w.heap.size + 1 + 1 < x.block := fun x hx => by have := hI4.out.2.2.2 x hx; omega
 have z0 : w4.cell? ⟨w.heap.size + 1 + 1, 0, none⟩ = some (.bool false) := by simp [go_sem, *]
 have z1 : w4.cell? ⟨w.heap.size + 1 + 1, 1, none⟩ = some (.slice none 0 0) := by simp [go_sem, *]
 have z2 : w4.cell? ⟨w.heap.size + 1 + 1, 2, none⟩ = some (.slice none 0 0) := by simp [go_sem, *]
 obtain ⟨q0, q1, q2⟩ := set3 (b := w.heap.size + 1 + 1) z0 z1 z2 (.bool r) (.slice F4.A F4.n F4.c) (.slice F4.D F4.m F4.k)
 have hTT : Tch g w w4 := ((Tch.of hEw.out).trans xt3).trans (Tch.of xb4)
 refine bodyPost_ret (v := .tuple #[ratV r F4.A F4.n F4.c F4.D F4.m F4.k, .int .i64 E]) ?h rfl ⟨F4, rfl, ⟨hI4.out.1.set3 n5 _ _ _, fun x hx => Nat.le_of_lt (by have := n5 x hx; omega), hI4.out.2.2.1.set3 n6 _ _ _, fun x hx => Nat.le_of_lt (by have := n6 x hx; omega)⟩, tch_set3 hTT (by omega) _ _ _⟩
 case h => simp [results, Tryz.results36, go_sem, q0, q1, q2]
theorem ra_Add_g (kO : ∀ G W, RatRoom W G → Ext w W → Calls Tryz.prog 36 #[ratV s A n c D m k, ratV t B n2 c2 C m2 k2, .func (.func 39) #[.pointer (some ⟨G, 0, none⟩)] #[]] W (OgPst G W r zs ws E)) :
  Calls Tryz.prog 24 #[ratV s A n c D m k, ratV t B n2 c2 C m2 k2] w (OfPst w r zs ws E) := by
 have kO' : Calls Tryz.prog 36 #[ratV s A n c D m k, ratV t B n2 c2 C m2 k2, .func (.func 39) #[.pointer (some ⟨w.heap.size + 1 + 1 + 1, 0, none⟩)] #[]] ((((w.alloc (Obj.cells #[.bool s, .slice A n c, .slice D m k] 26)).alloc (Obj.cells #[.bool t, .slice B n2 c2, .slice C m2 k2] 26)).alloc (Obj.cells #[.bool false, .slice none 0 0, .slice none 0 0] 26)).alloc (Obj.cells #[.bool false, .slice none 0 0, .slice none 0 0] 68))
   fun e w' => ∃ F : FH, e = .returned (.tuple #[fV r F, .int .i64 E]) ∧ Hid (RdO w' F.A F.n F.c zs none ∧ (∀ x, F.A = some x → w.heap.size + 1 + 1 < x.block) ∧ RdO w' F.D F.m F.k ws F.A ∧ (∀ x, F.D = some x → w.heap.size + 1 + 1 < x.block)) ∧
    w'.cell? ⟨w.heap.size + 1 + 1, 0, none⟩ = some (.bool false) ∧ w'.cell? ⟨w.heap.size + 1 + 1, 1, none⟩ = some (.slice none 0 0) ∧ w'.cell? ⟨w.heap.size + 1 + 1, 2, none⟩ = some (.slice none 0 0) ∧
    w'.frozen? ⟨w.heap.size + 1 + 1, 0, none⟩ = false ∧ w'.frozen? ⟨w.heap.size + 1 + 1, 1, none⟩ = false ∧ w'.frozen? ⟨w.heap.size + 1 + 1, 2, none⟩ = false ∧ w.heap.size + 1 + 1 < w'.heap.size ∧ Hid (Ext w w') := by
  have hr := rat_room (((w.alloc (Obj.cells #[.bool s, .slice A n c, .slice D m k] 26)).alloc (Obj.cells #[.bool t, .slice B n2 c2, .slice C m2 k2] 26)).alloc (Obj.cells #[.bool false, .slice none 0 0, .slice none 0 0] 26))
  have e0 : (((w.alloc (Obj.cells #[.bool s, .slice A n c, .slice D m k] 26)).alloc (Obj.cells #[.bool t, .slice B n2 c2, .slice C m2 k2] 26)).alloc (Obj.cells #[.bool false, .slice none 0 0, .slice none 0 0] 26)).heap.size = w.heap.size + 1 + 1 + 1 := by simp
  rw [e0] at hr
  have hEx : Ext w ((((w.alloc (Obj.cells #[.bool s, .slice A n c, .slice D m k] 26)).alloc (Obj.cells #[.bool t, .slice B n2 c2, .slice C m2 k2] 26)).alloc (Obj.cells #[.bool false, .slice none 0 0, .slice none 0 0] 26)).alloc (Obj.cells #[.bool false, .slice none 0 0, .slice none 0 0] 68)) := jA (jA (jA (jA (jR _) _) _) _) _
  refine (kO _ _ hr hEx).mono ?_
  rintro e w' ⟨F1, rfl, h1, h2⟩
  have hsz := hr.int.lt
  have hs2 := h2.size
  have lt : ∀ o, (⟨w.heap.size + 1 + 1, o, none⟩ : Addr).block ≠ w.heap.size + 1 + 1 + 1 := fun o => by simp
  have lb : w.heap.size + 1 + 1 < ((((w.alloc (Obj.cells #[.bool s, .slice A n c, .slice D m k] 26)).alloc (Obj.cells #[.bool t, .slice B n2 c2, .slice C m2 k2] 26)).alloc (Obj.cells #[.bool false, .slice none 0 0, .slice none 0 0] 26)).alloc (Obj.cells #[.bool false, .slice none 0 0, .slice none 0 0] 68)).heap.size := by simp
  refine ⟨F1, rfl, ⟨h1.out.1, fun x hx => by have := h1.out.2.1 x hx; omega, h1.out.2.2.1, fun x hx => by have := h1.out.2.2.2 x hx; omega⟩,
   (h2.cell (p := ⟨w.heap.size + 1 + 1, 0, none⟩) lb (lt 0)).trans (by simp [go_sem]), (h2.cell (p := ⟨w.heap.size + 1 + 1, 1, none⟩) lb (lt 1)).trans (by simp [go_sem]), (h2.cell (p := ⟨w.heap.size + 1 + 1, 2, none⟩) lb (lt 2)).trans (by simp [go_sem]), (h2.frozen (p := ⟨w.heap.size + 1 + 1, 0, none⟩) lb (lt 0)).trans (by simp [go_sem]), (h2.frozen (p := ⟨w.heap.size + 1 + 1, 1, none⟩) lb (lt 1)).trans (by simp [go_sem]), (h2.frozen (p := ⟨w.heap.size + 1 + 1, 2, none⟩) lb (lt 2)).trans (by simp [go_sem]), Nat.lt_of_lt_of_le lb hs2, h2.ext hEx (by omega)⟩
 clear kO
 go_enter Tryz.func24, Tryz.ntmps24
 go_wp2_with (first
  | (go_at_call 36; (with_reducible refine kO'.mono ?_); rintro e w1 ⟨F1, rfl, hI1, z0, z1, z2, f0, f1, f2, zl, hE1⟩)
  )
 obtain ⟨q0, q1, q2⟩ := set3 (b := w.heap.size + 1 + 1) z0 z1 z2 (.bool r) (.slice F1.A F1.n F1.c) (.slice F1.D F1.m F1.k)
 have n5 := hI1.out.2.1
 have n6 := hI1.out.2.2.2
 refine bodyPost_ret (v := .tuple #[ratV r F1.A F1.n F1.c F1.D F1.m F1.k, .int .i64 E]) ?h rfl ⟨F1, rfl, ⟨hI1.out.1.set3 n5 _ _ _, fun x hx => Nat.le_of_lt (by have := n5 x hx; omega), hI1.out.2.2.1.set3 n6 _ _ _, fun x hx => Nat.le_of_lt (by have := n6 x hx; omega)⟩, ext_set3 hE1.out (by omega) _ _ _⟩
 case h => simp [results, Tryz.results24, go_sem, q0, q1, q2]
theorem ra_of_Sub_g (g : Nat) (za zb zn : Int) (da db zd : Nat) (hr : RatRoom w g)
  (kA : ∀ w', Ext w w' → Calls Tryz.prog 40 #[ratV s A n c D m k] w' (KPost w' za da)) (kB : ∀ w', Ext w w' → Calls Tryz.prog 40 #[ratV t B n2 c2 C m2 k2] w' (KPost w' zb db))
  (hop : ∀ bx X n' c' Y m' k' b2 X2 n2' c2' Y2 m2' k2' w', Ext w w' → RatIs w' bx za X n' c' da Y m' k' → RatIs w' b2 zb X2 n2' c2' db Y2 m2' k2' → Off Y m' g → Off Y2 m2' g → Calls Tryz.prog 37 #[.pointer (some ⟨g, 0, none⟩), .pointer (some ⟨bx, 0, none⟩), .pointer (some ⟨b2, 0, none⟩)] w' (FPost w' g zn zd))
  (kT : ∀ A n c D m k w', RatIs w' g zn A n c zd D m k → Calls Tryz.prog 64 #[.pointer (some ⟨g, 0, none⟩)] w' (OfPst w' r zs ws E)) :
  Calls Tryz.prog 36 #[ratV s A n c D m k, ratV t B n2 c2 C m2 k2, .func (.func 37) #[.pointer (some ⟨g, 0, none⟩)] #[]] w (OgPst g w r zs ws E) := by
 have hgl := hr.int.lt
 clear hr
 go_enter Tryz.func36, Tryz.ntmps36
 go_upto_region 7 with (first
  | (go_at_call 40; (with_reducible refine (kA _ xcl).mono ?_); rintro e w1 ⟨b1, A1, n1, c1, D1, m1, k1, rfl, hR1, hb1, xb1⟩; obtain ⟨xc1, xf1, xl1, xz1⟩ := jU xb1; (try simp at xz1); obtain ⟨l1_0, r1_0, f1_0, r1_0_1, f1_0_1, r1_0_2, f1_0_2⟩ := kq3 xb1 (w.heap.size); obtain ⟨l1_1, r1_1, f1_1, r1_1_1, f1_1_1, r1_1_2, f1_1_2⟩ := kq3 xb1 (w.heap.size + 1); obtain ⟨l1_2, r1_2, f1_2, r1_2_1, f1_2_1, r1_2_2, f1_2_2⟩ := kq3 xb1 (w.heap.size + 1 + 1))
  | (go_at_call 40; (with_reducible refine (kB _ xcl).mono ?_); rintro e w2 ⟨b2, A2, n2, c2, D2, m2, k2, rfl, hR2, hb2, xb2⟩; obtain ⟨xc2, xf2, xl2, xz2⟩ := jU xb2; (try simp at xz2); obtain ⟨l2_0, r2_0, f2_0, r2_0_1, f2_0_1, r2_0_2, f2_0_2⟩ := kq3 xb2 (w.heap.size); obtain ⟨l2_1, r2_1, f2_1, r2_1_1, f2_1_1, r2_1_2, f2_1_2⟩ := kq3 xb2 (w.heap.size + 1); obtain ⟨l2_2, r2_2, f2_2, r2_2_1, f2_2_1, r2_2_2, f2_2_2⟩ := kq3 xb2 (w.heap.size + 1 + 1))
  )
 have hEw : Hid (Ext w w2) := by show Ext w w2; exact xcl
 have hR1' := Lib.hid (hR1.out.1.ext (show Ext w1 w2 by exact xcl))
 have hO1 : Off D1 m1 g := hR1.out.2.2.off (by simp; omega) m1
 have hO2 : Off D2 m2 g := hR2.out.2.2.off (by have := ext_lt xb1 g (by simp; omega); simpa using this) m2
 have kop := hop b1 A1 n1 c1 D1 m1 k1 b2 A2 n2 c2 D2 m2 k2 w2 hEw.out hR1'.out hR2.out.1 hO1 hO2
 have z0 : w2.cell? ⟨w.heap.size + 1 + 1, 0, none⟩ = some (.bool false) := by simp [go_sem, *]
 have z1 : w2.cell? ⟨w.heap.size + 1 + 1, 1, none⟩ = some (.slice none 0 0) := by simp [go_sem, *]
 have z2 : w2.cell? ⟨w.heap.size + 1 + 1, 2, none⟩ = some (.slice none 0 0) := by simp [go_sem, *]
 have f0 : w2.frozen? ⟨w.heap.size + 1 + 1, 0, none⟩ = false := by simp [go_sem, *]
 have f1 : w2.frozen? ⟨w.heap.size + 1 + 1, 1, none⟩ = false := by simp [go_sem, *]
 have f2 : w2.frozen? ⟨w.heap.size + 1 + 1, 2, none⟩ = false := by simp [go_sem, *]
 have zl : w.heap.size + 1 + 1 < w2.heap.size := by assumption
 clear hop kA kB hO1 hO2
 go_wp2_with (first
  | (go_at_call 37; (with_reducible refine kop.mono ?_); rintro e w3 ⟨rfl, A3, n3, c3, D3, m3, k3, hR3, xt3⟩)
  )
 have g0 := (xt3.cell (p := ⟨w.heap.size + 1 + 1, 0, none⟩) zl (by simp only; omega)).trans z0
 have g1 := (xt3.cell (p := ⟨w.heap.size + 1 + 1, 1, none⟩) zl (by simp only; omega)).trans z1
 have g2 := (xt3.cell (p := ⟨w.heap.size + 1 + 1, 2, none⟩) zl (by simp only; omega)).trans z2
 have e0 := (xt3.frozen (p := ⟨w.heap.size + 1 + 1, 0, none⟩) zl (by simp only; omega)).trans f0
 have e1 := (xt3.frozen (p := ⟨w.heap.size + 1 + 1, 1, none⟩) zl (by simp only; omega)).trans f1
 have e2 := (xt3.frozen (p := ⟨w.heap.size + 1 + 1, 2, none⟩) zl (by simp only; omega)).trans f2
 have gl := Nat.lt_of_lt_of_le zl xt3.size
 clear z0 z1 z2 f0 f1 f2 xb1 xb2
 go_wp2_with (first
  | (go_at_call 64; (with_reducible refine (kT _ _ _ _ _ _ _ hR3.out.1).mono ?_); rintro e w4 ⟨F4, rfl, hI4, xb4⟩; obtain ⟨xc4, xf4, xl4, xz4⟩ := jU xb4; (try simp at xz4); obtain ⟨l4_0, r4_0, f4_0, r4_0_1, f4_0_1, r4_0_2, f4_0_2⟩ := kq3 xb4 (w.heap.size + 1 + 1))
  )
 have hlt4 : w.heap.size + 1 + 1 < w3.heap.size := gl
 have n5 : ∀ x, F4.A = some x → w.heap.size + 1 + 1 < x.block := fun x hx => by have := hI4.out.2.1 x hx; omega
 have n6 : ∀ x, F4.D = some x → w.heap.size + 1 + 1 < x.block := fun x hx => by have := hI4.out.2.2.2 x hx; omega
 have z0 : w4.cell? ⟨w.heap.size + 1 + 1, 0, none⟩ = some (.bool false) := by simp [go_sem, *]
 have z1 : w4.cell? ⟨w.heap.size + 1 + 1, 1, none⟩ = some (.slice none 0 0) := by simp [go_sem, *]
 have z2 : w4.cell? ⟨w.heap.size + 1 + 1, 2, none⟩ = some (.slice none 0 0) := by simp [go_sem, *]
 obtain ⟨q0, q1, q2⟩ := set3 (b := w.heap.size + 1 + 1) z0 z1 z2 (.bool r) (.slice F4.A F4.n F4.c) (.slice F4.D F4.m F4.k)
 have hTT : Tch g w w4 := ((Tch.of hEw.out).trans xt3).trans (Tch.of xb4)
 refine bodyPost_ret (v := .tuple #[ratV r F4.A F4.n F4.c F4.D F4.m F4.k, .int .i64 E]) ?h rfl ⟨F4, rfl, ⟨hI4.out.1.set3 n5 _ _ _, fun x hx => Nat.le_of_lt (by have := n5 x hx; omega), hI4.out.2.2.1.set3 n6 _ _ _, fun x hx => Nat.le_of_lt (by have := n6 x hx; omega)⟩, tch_set3 hTT (by omega) _ _ _⟩
 case h => simp [results, Tryz.results36, go_sem, q0, q1, q2]
theorem ra_Sub_g (kO : ∀ G W, RatRoom W G → Ext w W → Calls Tryz.prog 36 #[ratV s A n c D m k, ratV t B n2 c2 C m2 k2, .func (.func 37) #[.pointer (some ⟨G, 0, none⟩)] #[]] W (OgPst G W r zs ws E)) :
  Calls Tryz.prog 27 #[ratV s A n c D m k, ratV t B n2 c2 C m2 k2] w (OfPst w r zs ws E) := by
 have kO' : Calls Tryz.prog 36 #[ratV s A n c D m k, ratV t B n2 c2 C m2 k2, .func (.func 37) #[.pointer (some ⟨w.heap.size + 1 + 1 + 1, 0, none⟩)] #[]] ((((w.alloc (Obj.cells #[.bool s, .slice A n c, .slice D m k] 26)).alloc (Obj.cells #[.bool t, .slice B n2 c2, .slice C m2 k2] 26)).alloc (Obj.cells #[.bool false, .slice none 0 0, .slice none 0 0] 26)).alloc (Obj.cells #[.bool false, .slice none 0 0, .slice none 0 0] 68))
   fun e w' => ∃ F : FH, e = .returned (.tuple #[fV r F, .int .i64 E]) ∧ Hid (RdO w' F.A F.n F.c zs none ∧ (∀ x, F.A = some x → w.heap.size + 1 + 1 < x.block) ∧ RdO w' F.D F.m F.k ws F.A ∧ (∀ x, F.D = some x → w.heap.size + 1 + 1 < x.block)) ∧
    w'.cell? ⟨w.heap.size + 1 + 1, 0, none⟩ = some (.bool false) ∧ w'.cell? ⟨w.heap.size + 1 + 1, 1, none⟩ = some (.slice none 0 0) ∧ w'.cell? ⟨w.heap.size + 1 + 1, 2, none⟩ = some (.slice none 0 0) ∧
    w'.frozen? ⟨w.heap.size + 1 + 1, 0, none⟩ = false ∧ w'.frozen? ⟨w.heap.size + 1 + 1, 1, none⟩ = false ∧ w'.frozen? ⟨w.heap.size + 1 + 1, 2, none⟩ = false ∧ w.heap.size + 1 + 1 < w'.heap.size ∧ Hid (Ext w w') := by
  have hr := rat_room (((w.alloc (Obj.cells #[.bool s, .slice A n c, .slice D m k] 26)).alloc (Obj.cells #[.bool t, .slice B n2 c2, .slice C m2 k2] 26)).alloc (Obj.cells #[.bool false, .slice none 0 0, .slice none 0 0] 26))
  have e0 : (((w.alloc (Obj.cells #[.bool s, .slice A n c, .slice D m k] 26)).alloc (Obj.cells #[.bool t, .slice B n2 c2, .slice C m2 k2] 26)).alloc (Obj.cells #[.bool false, .slice none 0 0, .slice none 0 0] 26)).heap.size = w.heap.size + 1 + 1 + 1 := by simp
  rw [e0] at hr
  have hEx : Ext w ((((w.alloc (Obj.cells #[.bool s, .slice A n c, .slice D m k] 26)).alloc (Obj.cells #[.bool t, .slice B n2 c2, .slice C m2 k2] 26)).alloc (Obj.cells #[.bool false, .slice none 0 0, .slice none 0 0] 26)).alloc (Obj.cells #[.bool false, .slice none 0 0, .slice none 0 0] 68)) := jA (jA (jA (jA (jR _) _) _) _) _
  refine (kO _ _ hr hEx).mono ?_
  rintro e w' ⟨F1, rfl, h1, h2⟩
  have hsz := hr.int.lt
  have hs2 := h2.size
  have lt : ∀ o, (⟨w.heap.size + 1 + 1, o, none⟩ : Addr).block ≠ w.heap.size + 1 + 1 + 1 := fun o => by simp
  have lb : w.heap.size + 1 + 1 < ((((w.alloc (Obj.cells #[.bool s, .slice A n c, .slice D m k] 26)).alloc (Obj.cells #[.bool t, .slice B n2 c2, .slice C m2 k2] 26)).alloc (Obj.cells #[.bool false, .slice none 0 0, .slice none 0 0] 26)).alloc (Obj.cells #[.bool false, .slice none 0 0, .slice none 0 0] 68)).heap.size := by simp
  refine ⟨F1, rfl, ⟨h1.out.1, fun x hx => by have := h1.out.2.1 x hx; omega, h1.out.2.2.1, fun x hx => by have := h1.out.2.2.2 x hx; omega⟩,
   (h2.cell (p := ⟨w.heap.size + 1 + 1, 0, none⟩) lb (lt 0)).trans (by simp [go_sem]), (h2.cell (p := ⟨w.heap.size + 1 + 1, 1, none⟩) lb (lt 1)).trans (by simp [go_sem]), (h2.cell (p := ⟨w.heap.size + 1 + 1, 2, none⟩) lb (lt 2)).trans (by simp [go_sem]), (h2.frozen (p := ⟨w.heap.size + 1 + 1, 0, none⟩) lb (lt 0)).trans (by simp [go_sem]), (h2.frozen (p := ⟨w.heap.size + 1 + 1, 1, none⟩) lb (lt 1)).trans (by simp [go_sem]), (h2.frozen (p := ⟨w.heap.size + 1 + 1, 2, none⟩) lb (lt 2)).trans (by simp [go_sem]), Nat.lt_of_lt_of_le lb hs2, h2.ext hEx (by omega)⟩
 clear kO
 go_enter Tryz.func27, Tryz.ntmps27
 go_wp2_with (first
  | (go_at_call 36; (with_reducible refine kO'.mono ?_); rintro e w1 ⟨F1, rfl, hI1, z0, z1, z2, f0, f1, f2, zl, hE1⟩)
  )
 obtain ⟨q0, q1, q2⟩ := set3 (b := w.heap.size + 1 + 1) z0 z1 z2 (.bool r) (.slice F1.A F1.n F1.c) (.slice F1.D F1.m F1.k)
 have n5 := hI1.out.2.1
 have n6 := hI1.out.2.2.2
 refine bodyPost_ret (v := .tuple #[ratV r F1.A F1.n F1.c F1.D F1.m F1.k, .int .i64 E]) ?h rfl ⟨F1, rfl, ⟨hI1.out.1.set3 n5 _ _ _, fun x hx => Nat.le_of_lt (by have := n5 x hx; omega), hI1.out.2.2.1.set3 n6 _ _ _, fun x hx => Nat.le_of_lt (by have := n6 x hx; omega)⟩, ext_set3 hE1.out (by omega) _ _ _⟩
 case h => simp [results, Tryz.results27, go_sem, q0, q1, q2]
theorem ra_of_Mul_g (g : Nat) (za zb zn : Int) (da db zd : Nat) (hr : RatRoom w g)
  (kA : ∀ w', Ext w w' → Calls Tryz.prog 40 #[ratV s A n c D m k] w' (KPost w' za da)) (kB : ∀ w', Ext w w' → Calls Tryz.prog 40 #[ratV t B n2 c2 C m2 k2] w' (KPost w' zb db))
  (hop : ∀ bx X n' c' Y m' k' b2 X2 n2' c2' Y2 m2' k2' w', Ext w w' → RatIs w' bx za X n' c' da Y m' k' → RatIs w' b2 zb X2 n2' c2' db Y2 m2' k2' → Off Y m' g → Off Y2 m2' g → Calls Tryz.prog 72 #[.pointer (some ⟨g, 0, none⟩), .pointer (some ⟨bx, 0, none⟩), .pointer (some ⟨b2, 0, none⟩)] w' (FPost w' g zn zd))
  (kT : ∀ A n c D m k w', RatIs w' g zn A n c zd D m k → Calls Tryz.prog 64 #[.pointer (some ⟨g, 0, none⟩)] w' (OfPst w' r zs ws E)) :
  Calls Tryz.prog 36 #[ratV s A n c D m k, ratV t B n2 c2 C m2 k2, .func (.func 72) #[.pointer (some ⟨g, 0, none⟩)] #[]] w (OgPst g w r zs ws E) := by
 have hgl := hr.int.lt
 clear hr
 go_enter Tryz.func36, Tryz.ntmps36
 go_upto_region 7 with (first
  | (go_at_call 40; (with_reducible refine (kA _ xcl).mono ?_); rintro e w1 ⟨b1, A1, n1, c1, D1, m1, k1, rfl, hR1, hb1, xb1⟩; obtain ⟨xc1, xf1, xl1, xz1⟩ := jU xb1; (try simp at xz1); obtain ⟨l1_0, r1_0, f1_0, r1_0_1, f1_0_1, r1_0_2, f1_0_2⟩ := kq3 xb1 (w.heap.size); obtain ⟨l1_1, r1_1, f1_1, r1_1_1, f1_1_1, r1_1_2, f1_1_2⟩ := kq3 xb1 (w.heap.size + 1); obtain ⟨l1_2, r1_2, f1_2, r1_2_1, f1_2_1, r1_2_2, f1_2_2⟩ := kq3 xb1 (w.heap.size + 1 + 1))
  | (go_at_call 40; (with_reducible refine (kB _ xcl).mono ?_); rintro e w2 ⟨b2, A2, n2, c2, D2, m2, k2, rfl, hR2, hb2, xb2⟩; obtain ⟨xc2, xf2, xl2, xz2⟩ := jU xb2; (try simp at xz2); obtain ⟨l2_0, r2_0, f2_0, r2_0_1, f2_0_1, r2_0_2, f2_0_2⟩ := kq3 xb2 (w.heap.size); obtain ⟨l2_1, r2_1, f2_1, r2_1_1, f2_1_1, r2_1_2, f2_1_2⟩ := kq3 xb2 (w.heap.size + 1); obtain ⟨l2_2, r2_2, f2_2, r2_2_1, f2_2_1, r2_2_2, f2_2_2⟩ := kq3 xb2 (w.heap.size + 1 + 1))
  )
 have hEw : Hid (Ext w w2) := by show Ext w w2; exact xcl
 have hR1' := Lib.hid (hR1.out.1.ext (show Ext w1 w2 by exact xcl))
 have hO1 : Off D1 m1 g := hR1.out.2.2.off (by simp; omega) m1
 have hO2 : Off D2 m2 g := hR2.out.2.2.off (by have := ext_lt xb1 g (by simp; omega); simpa using this) m2
 have kop := hop b1 A1 n1 c1 D1 m1 k1 b2 A2 n2 c2 D2 m2 k2 w2 hEw.out hR1'.out hR2.out.1 hO1 hO2
 have z0 : w2.cell? ⟨w.heap.size + 1 + 1, 0, none⟩ = some (.bool false) := by simp [go_sem, *]
 have z1 : w2.cell? ⟨w.heap.size + 1 + 1, 1, none⟩ = some (.slice none 0 0) := by simp [go_sem, *]
 have z2 : w2.cell? ⟨w.heap.size + 1 + 1, 2, none⟩ = some (.slice none 0 0) := by simp [go_sem, *]
 have f0 : w2.frozen? ⟨w.heap.size + 1 + 1, 0, none⟩ = false := by simp [go_sem, *]
 have f1 : w2.frozen? ⟨w.heap.size + 1 + 1, 1, none⟩ = false := by simp [go_sem, *]
 have f2 : w2.frozen? ⟨w.heap.size + 1 + 1, 2, none⟩ = false := by simp [go_sem, *]
 have zl : w.heap.size + 1 + 1 < w2.heap.size := by assumption
 clear hop kA kB hO1 hO2
 go_wp2_with (first
  | (go_at_call 72; (with_reducible refine kop.mono ?_); rintro e w3 ⟨rfl, A3, n3, c3, D3, m3, k3, hR3, xt3⟩)
  )
 have g0 := (xt3.cell (p := ⟨w.heap.size + 1 + 1, 0, none⟩) zl (by simp only; omega)).trans z0
 have g1 := (xt3.cell (p := ⟨w.heap.size + 1 + 1, 1, none⟩) zl (by simp only; omega)).trans z1
 have g2 := (xt3.cell (p := ⟨w.heap.size + 1 + 1, 2, none⟩) zl (by simp only; omega)).trans z2
 have e0 := (xt3.frozen (p := ⟨w.heap.size + 1 + 1, 0, none⟩) zl (by simp only; omega)).trans f0
 have e1 := (xt3.frozen (p := ⟨w.heap.size + 1 + 1, 1, none⟩) zl (by simp only; omega)).trans f1
 have e2 := (xt3.frozen (p := ⟨w.heap.size + 1 + 1, 2, none⟩) zl (by simp only; omega)).trans f2
 have gl := Nat.lt_of_lt_of_le zl xt3.size
 clear z0 z1 z2 f0 f1 f2 xb1 xb2
 go_wp2_with (first
  | (go_at_call 64; (with_reducible refine (kT _ _ _ _ _ _ _ hR3.out.1).mono ?_); rintro e w4 ⟨F4, rfl, hI4, xb4⟩; obtain ⟨xc4, xf4, xl4, xz4⟩ := jU xb4; (try simp at xz4); obtain ⟨l4_0, r4_0, f4_0, r4_0_1, f4_0_1, r4_0_2, f4_0_2⟩ := kq3 xb4 (w.heap.size + 1 + 1))
  )
 have hlt4 : w.heap.size + 1 + 1 < w3.heap.size := gl
 have n5 : ∀ x, F4.A = some x → w.heap.size + 1 + 1 < x.block := fun x hx => by have := hI4.out.2.1 x hx; omega
 have n6 : ∀ x, F4.D = some x → w.heap.size + 1 + 1 < x.block := fun x hx => by have := hI4.out.2.2.2 x hx; omega
 have z0 : w4.cell? ⟨w.heap.size + 1 + 1, 0, none⟩ = some (.bool false) := by simp [go_sem, *]
 have z1 : w4.cell? ⟨w.heap.size + 1 + 1, 1, none⟩ = some (.slice none 0 0) := by simp [go_sem, *]
 have z2 : w4.cell? ⟨w.heap.size + 1 + 1, 2, none⟩ = some (.slice none 0 0) := by simp [go_sem, *]
 obtain ⟨q0, q1, q2⟩ := set3 (b := w.heap.size + 1 + 1) z0 z1 z2 (.bool r) (.slice F4.A F4.n F4.c) (.slice F4.D F4.m F4.k)
 have hTT : Tch g w w4 := ((Tch.of hEw.out).trans xt3).trans (Tch.of xb4)
 refine bodyPost_ret (v := .tuple #[ratV r F4.A F4.n F4.c F4.D F4.m F4.k, .int .i64 E]) ?h rfl ⟨F4, rfl, ⟨hI4.out.1.set3 n5 _ _ _, fun x hx => Nat.le_of_lt (by have := n5 x hx; omega), hI4.out.2.2.1.set3 n6 _ _ _, fun x hx => Nat.le_of_lt (by have := n6 x hx; omega)⟩, tch_set3 hTT (by omega) _ _ _⟩
 case h => simp [results, Tryz.results36, go_sem, q0, q1, q2]
theorem ra_Mul_g (kO : ∀ G W, RatRoom W G → Ext w W → Calls Tryz.prog 36 #[ratV s A n c D m k, ratV t B n2 c2 C m2 k2, .func (.func 72) #[.pointer (some ⟨G, 0, none⟩)] #[]] W (OgPst G W r zs ws E)) :
  Calls Tryz.prog 26 #[ratV s A n c D m k, ratV t B n2 c2 C m2 k2] w (OfPst w r zs ws E) := by
 have kO' : Calls Tryz.prog 36 #[ratV s A n c D m k, ratV t B n2 c2 C m2 k2, .func (.func 72) #[.pointer (some ⟨w.heap.size + 1 + 1 + 1, 0, none⟩)] #[]] ((((w.alloc (Obj.cells #[.bool s, .slice A n c, .slice D m k] 26)).alloc (Obj.cells #[.bool t, .slice B n2 c2, .slice C m2 k2] 26)).alloc (Obj.cells #[.bool false, .slice none 0 0, .slice none 0 0] 26)).alloc (Obj.cells #[.bool false, .slice none 0 0, .slice none 0 0] 68))
   fun e w' => ∃ F : FH, e = .returned (.tuple #[fV r F, .int .i64 E]) ∧ Hid (RdO w' F.A F.n F.c zs none ∧ (∀ x, F.A = some x → w.heap.size + 1 + 1 < x.block) ∧ RdO w' F.D F.m F.k ws F.A ∧ (∀ x, F.D = some x → w.heap.size + 1 + 1 < x.block)) ∧
    w'.cell? ⟨w.heap.size + 1 + 1, 0, none⟩ = some (.bool false) ∧ w'.cell? ⟨w.heap.size + 1 + 1, 1, none⟩ = some (.slice none 0 0) ∧ w'.cell? ⟨w.heap.size + 1 + 1, 2, none⟩ = some (.slice none 0 0) ∧
    w'.frozen? ⟨w.heap.size + 1 + 1, 0, none⟩ = false ∧ w'.frozen? ⟨w.heap.size + 1 + 1, 1, none⟩ = false ∧ w'.frozen? ⟨w.heap.size + 1 + 1, 2, none⟩ = false ∧ w.heap.size + 1 + 1 < w'.heap.size ∧ Hid (Ext w w') := by
  have hr := rat_room (((w.alloc (Obj.cells #[.bool s, .slice A n c, .slice D m k] 26)).alloc (Obj.cells #[.bool t, .slice B n2 c2, .slice C m2 k2] 26)).alloc (Obj.cells #[.bool false, .slice none 0 0, .slice none 0 0] 26))
  have e0 : (((w.alloc (Obj.cells #[.bool s, .slice A n c, .slice D m k] 26)).alloc (Obj.cells #[.bool t, .slice B n2 c2, .slice C m2 k2] 26)).alloc (Obj.cells #[.bool false, .slice none 0 0, .slice none 0 0] 26)).heap.size = w.heap.size + 1 + 1 + 1 := by simp
  rw [e0] at hr
  have hEx : Ext w ((((w.alloc (Obj.cells #[.bool s, .slice A n c, .slice D m k] 26)).alloc (Obj.cells #[.bool t, .slice B n2 c2, .slice C m2 k2] 26)).alloc (Obj.cells #[.bool false, .slice none 0 0, .slice none 0 0] 26)).alloc (Obj.cells #[.bool false, .slice none 0 0, .slice none 0 0] 68)) := jA (jA (jA (jA (jR _) _) _) _) _
  refine (kO _ _ hr hEx).mono ?_
  rintro e w' ⟨F1, rfl, h1, h2⟩
  have hsz := hr.int.lt
  have hs2 := h2.size
  have lt : ∀ o, (⟨w.heap.size + 1 + 1, o, none⟩ : Addr).block ≠ w.heap.size + 1 + 1 + 1 := fun o => by simp
  have lb : w.heap.size + 1 + 1 < ((((w.alloc (Obj.cells #[.bool s, .slice A n c, .slice D m k] 26)).alloc (Obj.cells #[.bool t, .slice B n2 c2, .slice C m2 k2] 26)).alloc (Obj.cells #[.bool false, .slice none 0 0, .slice none 0 0] 26)).alloc (Obj.cells #[.bool false, .slice none 0 0, .slice none 0 0] 68)).heap.size := by simp
  refine ⟨F1, rfl, ⟨h1.out.1, fun x hx => by have := h1.out.2.1 x hx; omega, h1.out.2.2.1, fun x hx => by have := h1.out.2.2.2 x hx; omega⟩,
   (h2.cell (p := ⟨w.heap.size + 1 + 1, 0, none⟩) lb (lt 0)).trans (by simp [go_sem]), (h2.cell (p := ⟨w.heap.size + 1 + 1, 1, none⟩) lb (lt 1)).trans (by simp [go_sem]), (h2.cell (p := ⟨w.heap.size + 1 + 1, 2, none⟩) lb (lt 2)).trans (by simp [go_sem]), (h2.frozen (p := ⟨w.heap.size + 1 + 1, 0, none⟩) lb (lt 0)).trans (by simp [go_sem]), (h2.frozen (p := ⟨w.heap.size + 1 + 1, 1, none⟩) lb (lt 1)).trans (by simp [go_sem]), (h2.frozen (p := ⟨w.heap.size + 1 + 1, 2, none⟩) lb (lt 2)).trans (by simp [go_sem]), Nat.lt_of_lt_of_le lb hs2, h2.ext hEx (by omega)⟩
 clear kO
 go_enter Tryz.func26, Tryz.ntmps26
 go_wp2_with (first
  | (go_at_call 36; (with_reducible refine kO'.mono ?_); rintro e w1 ⟨F1, rfl, hI1, z0, z1, z2, f0, f1, f2, zl, hE1⟩)
  )
 obtain ⟨q0, q1, q2⟩ := set3 (b := w.heap.size + 1 + 1) z0 z1 z2 (.bool r) (.slice F1.A F1.n F1.c) (.slice F1.D F1.m F1.k)
 have n5 := hI1.out.2.1
 have n6 := hI1.out.2.2.2
 refine bodyPost_ret (v := .tuple #[ratV r F1.A F1.n F1.c F1.D F1.m F1.k, .int .i64 E]) ?h rfl ⟨F1, rfl, ⟨hI1.out.1.set3 n5 _ _ _, fun x hx => Nat.le_of_lt (by have := n5 x hx; omega), hI1.out.2.2.1.set3 n6 _ _ _, fun x hx => Nat.le_of_lt (by have := n6 x hx; omega)⟩, ext_set3 hE1.out (by omega) _ _ _⟩
 case h => simp [results, Tryz.results26, go_sem, q0, q1, q2]
end
end Go.Proofs.YtfdmhefjmnlllaaGreatDoor
end
section
/- Numbers of 16384 limbs: Add, Sub, Mul, Scale (written by mknac.py). -/
namespace Go.Proofs.YtfdmhefjmnlllaaGreatDoor
open Go.RowKit
attribute [local go_sem] sz2 sz3 sz4 sz5 sz6 sz7 sz8
set_option maxHeartbeats 4000000
set_option maxRecDepth 100000
attribute [local irreducible] Calls
section
variable (s : Bool) (A : Option Addr) (n c : Nat) (D : Option Addr) (m k : Nat) (b N V : Nat) (w : World)
theorem sc_up_g {z : Int} {d L M K : Nat} (hg : Nat.gcd z.natAbs (denOf d) = 1) (hlz : (lim z.natAbs).length ≤ 100000) (hld : (lim d).length ≤ 100000) (hz : z ≠ 0) (hN : 1 ≤ N) (hb : 2 ≤ b) (hbl : b < 4294967296) (hV : b ^ N = V) (hlV : (lim V).length ≤ 20000) (hL : Lib.bitLen b = L) (hM : (L : Int) - 1 = (M : Nat)) (hM1 : 1 ≤ M) (hM2 : M ≤ 31) (hK : (1048576 : Int) / (M : Int) = (K : Nat)) (hK1 : K ≤ 1048576) (hNK : N ≤ K)
  {r : Bool} {zs ws : List Nat} {Ec : Int} (kt : ∀ w', Ext w w' → Calls Tryz.prog 40 #[ratV s A n c D m k] w' (KPost w' z d)) (hT : Tz w)
  (kT : ∀ (g : Nat) (A : Option Addr) (n c : Nat) (D : Option Addr) (m k : Nat) (w' : World), RatIs w' g (canN (z * (V : Int)) (denOf d * 1)) A n c (canW (z * (V : Int)) (denOf d * 1)) D m k → Calls Tryz.prog 64 #[.pointer (some ⟨g, 0, none⟩)] w' (OfPst w' r zs ws Ec)) :
  Calls Tryz.prog 25 #[ratV s A n c D m k, .int .u32 (b : Int), .int .i64 (N : Int)] w (OfPst w r zs ws Ec) := by
 have he3 : ((N : Int) == 0) = false := by rw [beq_eq_false_iff_ne]; omega
 have he4 : ¬ (N : Int) = 0 := by omega
 have hb0 : ((b : Int) == 0) = false := by rw [beq_eq_false_iff_ne]; omega
 have hb1 : ((b : Int) == 1) = false := by rw [beq_eq_false_iff_ne]; omega
 have hb2 : ¬ (b : Int) = 0 := by omega
 have hb3 : ¬ (b : Int) = 1 := by omega
 have hs0 : (z.sign == 0) = false := by rw [beq_eq_false_iff_ne]; intro h; exact hz (Int.sign_eq_zero_iff_zero.1 h)
 have hs1 : ¬ z.sign = 0 := by intro h; exact hz (Int.sign_eq_zero_iff_zero.1 h)
 have hM3 : ((M : Int) == 0) = false := by rw [beq_eq_false_iff_ne]; omega
 have hM4 : ¬ (M : Int) = 0 := by omega
 have hLL : (L : Int) ≤ 32 := by omega
 have kB : ∀ w', Calls Tryz.prog 67 #[.int .u32 (b : Int)] w' fun r w'' => r = .returned (.int .i64 (L : Int)) ∧ Ext w' w'' := fun w' => (Tryz.bits_Len32 (b : Int) w' (by omega) (by omega)).mono fun r w'' ⟨h1, h2⟩ => ⟨by rw [h1, Int.toNat_natCast, hL], by rw [h2]; exact jR _⟩
 have hd1 : decide ((K : Int) < (N : Int)) = false := decide_eq_false (by omega)
 have hd2 : decide ((N : Int) < -(K : Int)) = false := decide_eq_false (by omega)
 have hd3 : ¬ (K : Int) < (N : Int) := by omega
 have hd4 : ¬ (N : Int) < -(K : Int) := by omega
 have hmx : max (N : Int) (-(N : Int)) = (N : Int) := by omega
 have hng : decide ((N : Int) < 0) = false := decide_eq_false (by omega)
 have hng2 : ¬ (N : Int) < 0 := by omega
 have hNl : N < 4294967296 := by omega
 have lb1 : ∀ x, x < 4294967296 → (lim x).length ≤ 1 := fun x hx => lim_le (by rw [Nat.pow_one]; exact hx)
 have kN1 : ∀ w', Calls Tryz.prog 70 #[.int .i64 (b : Int)] w' (NPost w' (b : Int)) := fun w' => bi_NewInt _ (by omega) (by omega) w'
 have kN2 : ∀ w', Calls Tryz.prog 70 #[.int .i64 (N : Int)] w' (NPost w' (N : Int)) := fun w' => bi_NewInt _ (by omega) (by omega) w'
 have kE : ∀ G bx b2 A n c D m d w', Room w' G 0 → IntIs w' bx 0 (b : Int) A n c → IntIs w' b2 0 (N : Int) D m d → Calls Tryz.prog 69 #[.pointer (some ⟨G, 0, none⟩), .pointer (some ⟨bx, 0, none⟩), .pointer (some ⟨b2, 0, none⟩), .pointer none] w' (IPost w' G 0 (V : Nat)) := fun G bx b2 A n c D m d w' hr h1 h2 => by
  have := bi_Exp G bx b2 b N (by omega) hN hNl A n c D m d (by rw [hV]; exact hlV) (by have h3 := h1.rd.len; rw [Int.natAbs_natCast] at h3; have := lb1 b hbl; omega) w' hr h1 h2
  rwa [hV] at this
 have hg1V : Nat.gcd ((V : Nat) : Int).natAbs (denOf 0) = 1 := Nat.gcd_one_right _
 have HT := Lib.hid hT
 have HG := Lib.hid (And.intro hg (And.intro hlz (And.intro hld (And.intro hlV hg1V))))
 clear hg hlz hld hlV hV hL lb1 hg1V hT
 go_enter Tryz.func25, Tryz.ntmps25
 go_upto_region 13 with (first
  | (go_at_call 40; (with_reducible refine (kt _ xcl).mono ?_); rintro e w1 ⟨g1, A1, n1, c1, D1, m1, k1, rfl, hI1, hg1, xb1⟩; obtain ⟨xc1, xf1, xl1, xz1⟩ := jU xb1; (try simp at xz1); obtain ⟨l1_0, r1_0, f1_0, r1_0_1, f1_0_1, r1_0_2, f1_0_2⟩ := kq3 xb1 (w.heap.size); obtain ⟨l1_1, r1_1, f1_1, r1_1_1, f1_1_1, r1_1_2, f1_1_2⟩ := kq3 xb1 (w.heap.size + 1))
  | (go_at_call 66; (with_reducible refine (br_Sign _ z _ _ _ _ hI1.out.1.int).mono ?_); rintro e w3 ⟨rfl, xb3⟩; obtain ⟨xc3, xf3, xl3, xz3⟩ := jU xb3; (try simp at xz3); obtain ⟨l3_0, r3_0, f3_0, r3_0_1, f3_0_1, r3_0_2, f3_0_2⟩ := kq3 xb3 (w.heap.size + 1))
  | (go_at_call 67; (with_reducible refine (kB _).mono ?_); rintro e w4 ⟨rfl, xb4⟩; obtain ⟨xc4, xf4, xl4, xz4⟩ := jU xb4; (try simp at xz4); obtain ⟨l4_0, r4_0, f4_0, r4_0_1, f4_0_1, r4_0_2, f4_0_2⟩ := kq3 xb4 (w.heap.size + 1))
  )
 have hX4 := Lib.hid (hI1.out.1.ext (jT xb3 xb4))
 have hE4 : Hid (Ext w w4) := by show Ext w w4; exact xcl
 have z0 : w4.cell? ⟨w.heap.size + 1, 0, none⟩ = some (.bool false) := by simp [go_sem, *]
 have z1 : w4.cell? ⟨w.heap.size + 1, 1, none⟩ = some (.slice none 0 0) := by simp [go_sem, *]
 have z2 : w4.cell? ⟨w.heap.size + 1, 2, none⟩ = some (.slice none 0 0) := by simp [go_sem, *]
 have y0 : w4.frozen? ⟨w.heap.size + 1, 0, none⟩ = false := by simp [go_sem, *]
 have y1 : w4.frozen? ⟨w.heap.size + 1, 1, none⟩ = false := by simp [go_sem, *]
 have y2 : w4.frozen? ⟨w.heap.size + 1, 2, none⟩ = false := by simp [go_sem, *]
 have zl : w.heap.size + 1 < w4.heap.size := by assumption
 have hgl : g1 < w4.heap.size := hX4.out.int.room.lt
 have hgw : w.heap.size + 1 < g1 := by have := hg1; simp at this; omega
 have hZZ : Hid (Bl3 w4 (w.heap.size + 1)) := Lib.hid ⟨zl, z0, z1, z2, y0, y1, y2⟩
 have hr2 := Lib.hid ((rat_room w4).ext (jA (jR _) (Obj.cells #[.bool false, .slice none 0 0] 66)))
 have hr3 : Hid (Room ((w4.alloc (Obj.cells #[.bool false, .slice none 0 0, .slice none 0 0] 68)).alloc (Obj.cells #[.bool false, .slice none 0 0] 66)) (w4.heap.size + 1) 0) := by
  have := int_room (w4.alloc (Obj.cells #[.bool false, .slice none 0 0, .slice none 0 0] 68))
  have e0 : (w4.alloc (Obj.cells #[.bool false, .slice none 0 0, .slice none 0 0] 68)).heap.size = w4.heap.size + 1 := by simp
  rw [e0] at this
  exact Lib.hid this
 have hXA := Lib.hid (jA (jA (jR w4) (Obj.cells #[.bool false, .slice none 0 0, .slice none 0 0] 68)) (Obj.cells #[.bool false, .slice none 0 0] 66))
 have hne : w4.heap.size ≠ w4.heap.size + 1 := by omega
 clear xc1 xf1 xl1 xz1 xc3 xf3 xl3 xz3 xc4 xf4 xl4 xz4 hI1 hg1 z0 z1 z2 y0 y1 y2 kt kB
 go_upto_region 14 with (first
  | (go_at_call 70; (with_reducible refine (kN1 _).mono ?_); rintro e w5 ⟨b5, B5, j5, l5, rfl, hI5, hb5, xb5⟩)
  | (go_at_call 70; (with_reducible refine (kN2 _).mono ?_); rintro e w6 ⟨b6, B6, j6, l6, rfl, hI6, hb6, xb6⟩; have hE6 := Lib.hid (jT xb5 xb6); have hI5' := Lib.hid (hI5.out.1.ext xb6))
  | (go_at_call 69; (with_reducible refine (kE _ _ _ _ _ _ _ _ _ _ (hr3.out.ext hE6.out) hI5'.out hI6.out.1).mono ?_); rintro e w7 ⟨rfl, A7, n7, c7, hI7, xt7⟩; have hr7 := Lib.hid ((hr2.out.ext hE6.out).tch xt7 hne); have hn7 : n7 ≤ 1000000 := (by have h1 := hI7.out.1.rd.len; rw [Int.natAbs_natCast] at h1; have := HG.out.2.2.2.1; omega))
  | (go_at_call 68; (with_reducible refine (br_SetInt _ _ _ _ _ _ hn7 _ hr7.out hI7.out.1).mono ?_); rintro e w8 ⟨rfl, A8, n8, c8, D8, m8, k8, hI8, xt8⟩)
  )
 have hXX := Lib.hid (jT hXA.out hE6.out)
 have hs6 : w4.heap.size + 1 + 1 ≤ w6.heap.size := by have := ext_size hE6.out; simpa using this
 have hX8 := Lib.hid (((hX4.out.ext hXX.out).tch xt7 (by omega) (hX4.out.int.rd.off (by omega)) (hX4.out.rd.off (by omega))).tch xt8 (by omega) (hX4.out.int.rd.off (by omega)) (hX4.out.rd.off (by omega)))
 have hB8 := Lib.hid (((hZZ.out.ext hXX.out).tch xt7 (by omega)).tch xt8 (by omega))
 have hE8 := Lib.hid (xt8.ext (xt7.ext (jT hE4.out hXX.out) (by omega)) (by omega))
 have hlA := hX4.out.int.rd.len
 have hlD := hX4.out.rd.len
 have hl8 := hI8.out.1.int.rd.len
 have hm8 := hI8.out.1.rd.len
 rw [Int.natAbs_natCast] at hl8
 rw [lim_zero] at hm8
 have hm8' : m8 = 0 := by simpa using hm8.symm
 have kM : Calls Tryz.prog 72 #[.pointer (some ⟨g1, 0, none⟩), .pointer (some ⟨g1, 0, none⟩), .pointer (some ⟨w4.heap.size, 0, none⟩)] w8 (FPost w8 g1 (canN (z * (V : Int)) (denOf d * 1)) (canW (z * (V : Int)) (denOf d * 1))) :=
  br_Mul g1 g1 w4.heap.size z (V : Nat) d 0 HG.out.1 HG.out.2.2.2.2 A1 n1 c1 D1 m1 k1 A8 n8 c8 D8 m8 k8 (by rw [← hlA]; exact HG.out.2.1) (by rw [← hlD]; exact HG.out.2.2.1) (by rw [← hl8]; exact Nat.le_trans HG.out.2.2.2.1 (by decide)) (by omega) w8 (HT.out.ext hE8.out) hX8.out.room hX8.out hI8.out.1
 clear hlA hlD hl8 hm8 hm8' hX4 hI8 hI7 hI5 hI6 hI5' xb5 xb6 xt7 xt8 hr7 hr2 hr3 hE6 hXA hXX hE4 hZZ kN1 kN2 kE
 have hw8 : w.heap.size + 1 < w8.heap.size := hB8.out.lt
 go_wp2_with (first
  | (go_at_call 72; (with_reducible refine kM.mono ?_); rintro e w9 ⟨rfl, A9, n9, c9, D9, m9, k9, hI9, xt9⟩; have hB9 := Lib.hid (hB8.out.tch xt9 (by omega)); have hE9 := Lib.hid (xt9.ext hE8.out (by omega)); have q0 := hB9.out.c0; have q1 := hB9.out.c1; have q2 := hB9.out.c2; have p0 := hB9.out.f0; have p1 := hB9.out.f1; have p2 := hB9.out.f2; have ql := hB9.out.lt)
  | (go_at_call 64; (with_reducible refine (kT _ _ _ _ _ _ _ _ hI9.out.1).mono ?_); rintro e w10 ⟨F3, rfl, hR3, xb10⟩; obtain ⟨xc10, xf10, xl10, xz10⟩ := jU xb10; (try simp at xz10); obtain ⟨l10_0, r10_0, f10_0, r10_0_1, f10_0_1, r10_0_2, f10_0_2⟩ := kq3 xb10 (w.heap.size + 1))
  )
 have hB := hB9.out.ext xb10
 obtain ⟨u0, u1, u2⟩ := set3 (b := w.heap.size + 1) hB.c0 hB.c1 hB.c2 (.bool r) (.slice F3.A F3.n F3.c) (.slice F3.D F3.m F3.k)
 have hEE : Ext w w10 := jT hE9.out xb10
 have n5 : ∀ a, F3.A = some a → w.heap.size + 1 < a.block := fun a ha => by have := hR3.out.2.1 a ha; omega
 have n6 : ∀ a, F3.D = some a → w.heap.size + 1 < a.block := fun a ha => by have := hR3.out.2.2.2 a ha; omega
 refine bodyPost_ret (v := .tuple #[ratV r F3.A F3.n F3.c F3.D F3.m F3.k, .int .i64 Ec]) ?h rfl ⟨F3, rfl, ⟨hR3.out.1.set3 n5 _ _ _, fun x hx => Nat.le_of_lt (by have := n5 x hx; omega), hR3.out.2.2.1.set3 n6 _ _ _, fun x hx => Nat.le_of_lt (by have := n6 x hx; omega)⟩, ext_set3 hEE (Nat.le_succ _) _ _ _⟩
 case h => simp [results, Tryz.results25, go_sem, u0, u1, u2]
end
/-! ## the plain numbers -/
def ones (k : Nat) : Nat := val (List.replicate k 1)
theorem ones_ge (k : Nat) : Bs ^ k ≤ ones (k + 1) := by
 unfold ones
 rw [List.replicate_succ', val_snoc, List.length_replicate]
 omega
theorem lim_ones (k : Nat) : lim (ones (k + 1)) = List.replicate (k + 1) 1 := by
 refine (lim_of _ (fun x hx => by obtain ⟨_, rfl⟩ := List.mem_replicate.1 hx; decide) (fun _ => ?_)).symm
 have := ones_ge k
 rw [List.length_replicate]
 exact this
theorem twos_ge (k : Nat) : Bs ^ k ≤ val (List.replicate (k + 1) 2) := by
 rw [List.replicate_succ', val_snoc, List.length_replicate]
 have : 0 < Bs ^ k := Nat.pow_pos (by decide)
 omega
theorem dbl (k : Nat) : ones k + ones k = val (List.replicate k 2) := by
 unfold ones
 induction k with
 | zero => rfl
 | succ k ih =>
  rw [List.replicate_succ, List.replicate_succ]
  simp only [val]
  rw [← ih, Nat.mul_add]
  omega
theorem dbl_len (k : Nat) : (lim (ones (k + 1) + ones (k + 1))).length = k + 1 := by
 rw [dbl, ← lim_of _ (fun x hx => by obtain ⟨_, rfl⟩ := List.mem_replicate.1 hx; decide) (fun _ => by rw [List.length_replicate]; exact twos_ge k), List.length_replicate]
theorem long_of {k v : Nat} (h : Bs ^ k ≤ v) : k < (lim v).length := by
 refine Nat.lt_of_not_le fun hl => ?_
 have h1 := lim_lt v
 have h2 : Bs ^ (lim v).length ≤ Bs ^ k := Nat.pow_le_pow_right (by decide) hl
 omega
theorem mul_long {k v : Nat} (hk : 1 ≤ k) (h : Bs ^ k ≤ v) : k + 1 < (lim (v * v)).length := by
 refine long_of (k := k + 1) (Nat.le_trans ?_ (Nat.mul_le_mul h h))
 rw [← Nat.pow_add]
 exact Nat.pow_le_pow_right (by decide) (by omega)
theorem shift_long {k v V : Nat} (hV : Bs ≤ V) (h : Bs ^ k ≤ v) : k + 1 < (lim (v * V)).length := by
 refine long_of (k := k + 1) (Nat.le_trans ?_ (Nat.mul_le_mul h hV))
 rw [Nat.pow_succ]
 exact Nat.le_refl _
/-! ## the walks -/
section
variable {a : Nat} (F : FH) (w : World) (hT : Tz w) (hF : FrIn w F (lim a) (lim 1)) (l1 : (lim a).length ≤ 16384)
theorem one_low (a : Nat) : denOf (lowD a 1) = 1 := den_low (by decide) (Nat.gcd_one_right a)
include hT hF l1
theorem nt_kept : ∀ w', Ext w w' → Calls Tryz.prog 40 #[fV false F] w' (KPost w' ((a : Nat) : Int) (lowD a 1)) := fun w' he =>
 ra_taken false F.A F.n F.c a F.D F.m F.k 1 (by decide) (by have := hF.num.len; omega) (by have := hF.den.len; rw [lim_one1] at this; omega) (Nat.gcd_one_right a) (fun h => by cases h) w' (hT.ext he) (hF.num.ext he) (hF.den.ext he)
theorem nn_Add (l2 : (lim (a + a)).length ≤ 16384) : Calls Tryz.prog 24 #[fV false F, fV false F] w (OfPst w (decide (((a + a : Nat) : Int) < 0)) (lim ((a + a : Nat) : Int).natAbs) (lim 1) 0) := by
 have kt := nt_kept F w hT hF l1
 have e0 := can_self (z := ((a + a : Nat) : Int)) (d := 1) (by decide) (Nat.gcd_one_right _)
 have e1 : (a : Int) * ((1 : Nat) : Int) + (a : Int) * ((1 : Nat) : Int) = ((a + a : Nat) : Int) := by push_cast; omega
 have hw := lim_mono (canW_le ((a + a : Nat) : Int) 1)
 rw [lim_one1] at hw
 refine ra_Add_g false F.A F.n F.c F.D F.m F.k false F.A F.n F.c F.D F.m F.k w _ _ _ _ fun g W hr he => ?_
 refine ra_of_Add_g false F.A F.n F.c F.D F.m F.k false F.A F.n F.c F.D F.m F.k W _ _ _ _ g (a : Int) (a : Int) ((a + a : Nat) : Int) (lowD a 1) (lowD a 1) (canW ((a + a : Nat) : Int) 1) hr (fun w' h => kt w' (jT he h)) (fun w' h => kt w' (jT he h)) (fun bx X n' c' Y m' k' b2 X2 n2' c2' Y2 m2' k2' w' hE h5 h6 h7 h8 => ?_) (fun A n c D m k w' hX => ?_)
 ·have q1 := h5.int.rd.len
  have q2 := h5.rd.len
  have q3 := h6.int.rd.len
  have q4 := h6.rd.len
  rw [Int.natAbs_natCast] at q1 q3
  have q5 := lim_mono (lowD_le a 1)
  rw [lim_one1] at q5
  have := br_Add g bx b2 (a : Int) (a : Int) (lowD a 1) (lowD a 1) (by rw [one_low]; exact Nat.gcd_one_right _) (by rw [one_low]; exact Nat.gcd_one_right _) X n' c' Y m' k' X2 n2' c2' Y2 m2' k2' (by omega) (by omega) (by omega) (by omega) w' (hT.ext (jT he hE)) (hr.ext hE) h5 h6 h7 h8
  rw [one_low, Nat.mul_one, e1, e0.1] at this
  exact this
 ·have q1 := hX.int.rd.len
  have q2 := hX.rd.len
  rw [Int.natAbs_natCast] at q1
  have h := ra_told_ok g _ A n c _ D m k (by omega) (by omega) (by rw [canW_den (by decide), e0.2, lim_one1]; decide) w' hX
  rw [canW_den (by decide), e0.2] at h
  exact of_t h
theorem nn_Sub : Calls Tryz.prog 27 #[fV false F, fV false F] w (OfPst w (decide ((0 : Int) < 0)) (lim (0 : Int).natAbs) (lim 1) 0) := by
 have kt := nt_kept F w hT hF l1
 have e0 := can_self (z := 0) (d := 1) (by decide) (Nat.gcd_one_right _)
 have e1 : (a : Int) * ((1 : Nat) : Int) - (a : Int) * ((1 : Nat) : Int) = 0 := by omega
 have hw := lim_mono (canW_le (0 : Int) 1)
 rw [lim_one1] at hw
 refine ra_Sub_g false F.A F.n F.c F.D F.m F.k false F.A F.n F.c F.D F.m F.k w _ _ _ _ fun g W hr he => ?_
 refine ra_of_Sub_g false F.A F.n F.c F.D F.m F.k false F.A F.n F.c F.D F.m F.k W _ _ _ _ g (a : Int) (a : Int) 0 (lowD a 1) (lowD a 1) (canW 0 1) hr (fun w' h => kt w' (jT he h)) (fun w' h => kt w' (jT he h)) (fun bx X n' c' Y m' k' b2 X2 n2' c2' Y2 m2' k2' w' hE h5 h6 h7 h8 => ?_) (fun A n c D m k w' hX => ?_)
 ·have q1 := h5.int.rd.len
  have q2 := h5.rd.len
  have q3 := h6.int.rd.len
  have q4 := h6.rd.len
  rw [Int.natAbs_natCast] at q1 q3
  have q5 := lim_mono (lowD_le a 1)
  rw [lim_one1] at q5
  have := br_Sub g bx b2 (a : Int) (a : Int) (lowD a 1) (lowD a 1) (by rw [one_low]; exact Nat.gcd_one_right _) (by rw [one_low]; exact Nat.gcd_one_right _) X n' c' Y m' k' X2 n2' c2' Y2 m2' k2' (by omega) (by omega) (by omega) (by omega) w' (hT.ext (jT he hE)) (hr.ext hE) h5 h6 h7 h8
  rw [one_low, Nat.mul_one, e1, e0.1] at this
  exact this
 ·have q1 := hX.int.rd.len
  have q2 := hX.rd.len
  have q3 : (lim (0 : Int).natAbs).length = 0 := by kernel_rfl
  have h := ra_told_ok g _ A n c _ D m k (by omega) (by omega) (by rw [canW_den (by decide), e0.2, lim_one1]; decide) w' hX
  rw [canW_den (by decide), e0.2] at h
  exact of_t h
theorem nn_Mul (l2 : 16384 < (lim (a * a)).length) : Calls Tryz.prog 26 #[fV false F, fV false F] w (OfPst w false [] [] 4) := by
 have kt := nt_kept F w hT hF l1
 have e0 := can_self (z := ((a * a : Nat) : Int)) (d := 1) (by decide) (Nat.gcd_one_right _)
 have e1 : (a : Int) * (a : Int) = ((a * a : Nat) : Int) := by push_cast; rfl
 have hl := lim_mul_len a a
 refine ra_Mul_g false F.A F.n F.c F.D F.m F.k false F.A F.n F.c F.D F.m F.k w _ _ _ _ fun g W hr he => ?_
 refine ra_of_Mul_g false F.A F.n F.c F.D F.m F.k false F.A F.n F.c F.D F.m F.k W _ _ _ _ g (a : Int) (a : Int) ((a * a : Nat) : Int) (lowD a 1) (lowD a 1) (canW ((a * a : Nat) : Int) 1) hr (fun w' h => kt w' (jT he h)) (fun w' h => kt w' (jT he h)) (fun bx X n' c' Y m' k' b2 X2 n2' c2' Y2 m2' k2' w' hE h5 h6 h7 h8 => ?_) (fun A n c D m k w' hX => ?_)
 ·have q1 := h5.int.rd.len
  have q2 := h5.rd.len
  have q3 := h6.int.rd.len
  have q4 := h6.rd.len
  rw [Int.natAbs_natCast] at q1 q3
  have q5 := lim_mono (lowD_le a 1)
  rw [lim_one1] at q5
  have := br_Mul g bx b2 (a : Int) (a : Int) (lowD a 1) (lowD a 1) (by rw [one_low]; exact Nat.gcd_one_right _) (by rw [one_low]; exact Nat.gcd_one_right _) X n' c' Y m' k' X2 n2' c2' Y2 m2' k2' (by omega) (by omega) (by omega) (by omega) w' (hT.ext (jT he hE)) (hr.ext hE) h5 h6
  rw [one_low, Nat.mul_one, e1, e0.1] at this
  exact this
 ·have q1 := hX.int.rd.len
  rw [Int.natAbs_natCast] at q1
  exact of_no (ra_told_num g _ A n c _ D m k (by omega) (by omega) w' hX)
theorem nn_Scale (ha : a ≠ 0) (l2 : 16384 < (lim (a * 4294967296)).length) : Calls Tryz.prog 25 #[fV false F, .int .u32 ((2 : Nat) : Int), .int .i64 ((32 : Nat) : Int)] w (OfPst w false [] [] 4) := by
 have kt := nt_kept F w hT hF l1
 have e0 := can_self (z := ((a : Int) * ((4294967296 : Nat) : Int))) (d := 1) (by decide) (Nat.gcd_one_right _)
 have hl := lim_mul_len a 4294967296
 have h2 : (lim 4294967296).length = 2 := by kernel_rfl
 have hw := lim_mono (lowD_le a 1)
 rw [lim_one1] at hw
 refine sc_up_g (b := 2) (N := 32) (V := 4294967296) (L := 2) (M := 1) (K := 1048576) false F.A F.n F.c F.D F.m F.k w (by rw [one_low]; exact Nat.gcd_one_right _) (by rw [Int.natAbs_natCast]; omega) (by omega) (by omega) (by decide) (by decide) (by decide) (by kernel_rfl) (by omega) (by kernel_rfl) (by decide) (by decide) (by decide) (by kernel_rfl) (by decide) (by decide) kt hT (fun g A n c D m k w' hX => ?_)
 rw [one_low, Nat.mul_one, e0.1] at hX
 have q1 := hX.int.rd.len
 rw [Int.natAbs_mul, Int.natAbs_natCast, Int.natAbs_natCast] at q1
 exact of_no (ra_told_num g _ A n c _ D m k (by omega) (by omega) w' hX)
end
end Go.Proofs.YtfdmhefjmnlllaaGreatDoor
end
section
/- Fractions that are made: the program's answer and the document's, together (written by mkmake.py). -/
namespace Go.Proofs.YtfdmhefjmnlllaaGreatDoor
open Go.RowKit
attribute [local go_sem] sz2 sz3 sz4 sz5 sz6 sz7 sz8
set_option maxHeartbeats 4000000
set_option maxRecDepth 100000
attribute [local irreducible] Calls
theorem ra_make_no1 (neg : Bool) (A : Option Addr) (n c : Nat) (D : Option Addr) (m k : Nat) (w : World) (E : Int) (hE : (E == 0) = false) (kA : ∀ w', Ext w w' → Calls Tryz.prog 61 #[natV A n c] w' fun e w'' => e = .returned (.int .i64 E) ∧ Ext w' w'') :
  Calls Tryz.prog 23 #[.bool neg, natV A n c, natV D m k] w (NoE w E) := by
 go_enter Tryz.func23, Tryz.ntmps23
 go_wp2
 go_loopw [16] (fun vi wr => ∃ i : Nat, i ≤ 0 ∧ vi = .int .i64 (i : Int) ∧ Hid (Ext (mkW w A n c D m k) wr)) (fun vi _ => 2 - (intOf vi).toNat)
 case atStart => exact ⟨0, by omega, rfl, jR _⟩
 case round =>
  obtain ⟨i, hi, rfl, hext⟩ := hrel
  obtain ⟨⟨c0, c1, c2, c3⟩, ⟨r0, r1, r2⟩, ⟨f0, f1, f2⟩, hsz⟩ := mkW_facts w A n c D m k wr hext.out
  have hE0 := Lib.hid (jT (ext_mkW w A n c D m k) hext.out)
  obtain rfl : i = 0 := by omega
  go_wp2_with (first
   | (go_at_call 61; (with_reducible refine (kA _ (jA hE0.out _)).mono ?_); rintro e w5 ⟨rfl, xb5⟩; have hw5 := Lib.hid (jT (jA (jR wr) (Obj.cells #[.slice A n c] 24)) xb5); obtain ⟨-, ⟨s0, s1, s2⟩, ⟨p0, p1, p2⟩, hs5⟩ := mkW_facts w A n c D m k w5 (jT hext.out hw5.out))
   )
  obtain ⟨q0, q1, q2⟩ := set3 (b := w.heap.size + 1 + 1) s0 s1 s2 (.bool false) (.slice none 0 0) (.slice none 0 0)
  have hEE := Lib.hid (jT hE0.out hw5.out)
  refine bodyPost_ret (v := .tuple #[ratV false none 0 0 none 0 0, .int .i64 E]) ?h rfl ⟨rfl, ext_set3 hEE.out (by omega) _ _ _⟩
  case h => simp [results, Tryz.results23, go_sem, q0, q1, q2]
end Go.Proofs.YtfdmhefjmnlllaaGreatDoor
namespace Go.Proofs.YtfdmhefjmnlllaaGreatDoor.NB
open Go.RowKit
attribute [local go_sem] sz2 sz3 sz4 sz5 sz6 sz7 sz8
set_option maxHeartbeats 4000000
set_option maxRecDepth 100000
attribute [local irreducible] Calls
end Go.Proofs.YtfdmhefjmnlllaaGreatDoor.NB
namespace Go.Proofs.YtfdmhefjmnlllaaGreatDoor
open Go.RowKit
attribute [local irreducible] Calls
end Go.Proofs.YtfdmhefjmnlllaaGreatDoor
end
