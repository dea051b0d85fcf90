/- Lemmas of this proof, laid together: BkH. -/
import Derived.Test.YtchbefambnhjjaaGreatDoorMg32
set_option linter.unusedSimpArgs false
set_option linter.unusedVariables false
section
/- The second law's book: how things stand between two adds. -/
namespace Go.Proofs.YtchbefambnhjjaaGreatDoor
open Go.RowKit
attribute [local irreducible] Calls
structure Sta (W u : World) (β : Nat) (H : BH) (rs : List Rec) (ls : List Row) (Ls : List Nat) : Prop where
 ext : Ext W u
 bk : Bk u β β H rs ls
 low : W.heap.size ≤ β
 locs : ∀ b, b ∈ Ls → Loc u β H rs ls b ∧ β ≤ b
structure NewR (u : World) (β : Nat) (H : BH) (ls : List Row) (Ls : List Nat) (A : Option Addr) (n c : Nat) (xs : List Nat) (Z : Option Addr) : Prop where
 rd : RdO u A n c xs Z
 off : ∀ a, A = some a → ¬ InBk β H a.block ∧ β ≤ a.block ∧ (∀ q ∈ ls, ∀ b, q.A = some b → b.block ≠ a.block) ∧ ∀ b, b ∈ Ls → a.block ≠ b
structure WantR (u : World) (β : Nat) (H : BH) (Ls : List Nat) (A : Option Addr) (n c : Nat) (xs : List Nat) : Prop where
 want : Want u β H A n c xs
 loc : ∀ a, A = some a → n ≠ 0 → ∀ b, b ∈ Ls → a.block ≠ b
section
variable {W u u' : World} {β : Nat} {H H' : BH} {rs : List Rec} {ls : List Row} {Ls : List Nat} {A : Option Addr} {n c : Nat} {xs : List Nat} {Z : Option Addr} {b : Nat}
theorem Sta.step (h : Sta W u β H rs ls Ls) (he : Ext u u') : Sta W u' β H rs ls Ls := ⟨jT h.ext he, h.bk.ext he, h.low, fun b hb => ⟨(h.locs b hb).1.ext he, (h.locs b hb).2⟩⟩
theorem Sta.book_lt (h : Sta W u β H rs ls Ls) : β < u.heap.size := h.bk.book.lt
theorem Sta.alloc (h : Sta W u β H rs ls Ls) (v0 v1 v2 : Value) (t : TypeId) : Sta W (u.alloc (Obj.cells #[v0, v1, v2] t)) β H rs ls (u.heap.size :: Ls) := by
 have he := jA (jR u) (Obj.cells #[v0, v1, v2] t)
 refine ⟨jT h.ext he, h.bk.ext he, h.low, fun b hb => ?_⟩
 rcases List.mem_cons.1 hb with rfl | hb
 ·exact ⟨Loc.new h.bk v0 v1 v2 t, Nat.le_of_lt h.book_lt⟩
 ·exact ⟨(h.locs b hb).1.ext he, (h.locs b hb).2⟩
theorem Sta.put (h : Sta W u β H rs ls Ls) (hb : b ∈ Ls) (v0 v1 v2 : Value) : Sta W (put3 u b v0 v1 v2) β H rs ls Ls := by
 have hl := h.locs b hb
 refine ⟨ext_set3 h.ext (Nat.le_trans h.low hl.2) _ _ _, h.bk.put hl.1 _ _ _, h.low, fun b2 hb2 => ?_⟩
 have hl2 := h.locs b2 hb2
 by_cases e : b2 = b
 ·subst e; exact ⟨hl2.1.put _ _ _, hl2.2⟩
 ·exact ⟨hl2.1.put' e _ _ _, hl2.2⟩
theorem Sta.other (h : Sta W u β H rs ls Ls) {b2 : Nat} (hb2 : b2 ∈ Ls) (hne : b2 ≠ b) (v0 v1 v2 : Value) (o : Nat) : (put3 u b v0 v1 v2).cell? ⟨b2, o, none⟩ = u.cell? ⟨b2, o, none⟩ :=
 (frm3 u b v0 v1 v2).cell (p := ⟨b2, o, none⟩) (h.locs b2 hb2).1.lt hne
theorem NewR.of {U : World} (h : Sta W U β H rs ls Ls) (hr : RdO u A n c xs Z) (hf : Fr U A) : NewR u β H ls Ls A n c xs Z :=
 ⟨hr, fun a ha => by
  have h1 := hf a ha
  refine ⟨h.bk.off h1, by have := h.book_lt; omega, fun q hq b hb => ?_, fun b hb => ?_⟩
  ·have := own_lt (h.bk.rows q hq).own hb; omega
  ·have := (h.locs b hb).1.lt; omega⟩
theorem NewR.step (h : NewR u β H ls Ls A n c xs Z) (he : Ext u u') : NewR u' β H ls Ls A n c xs Z := ⟨h.rd.ext he, h.off⟩
theorem NewR.alloc (h : NewR u β H ls Ls A n c xs Z) (ob : Obj) : NewR (u.alloc ob) β H ls (u.heap.size :: Ls) A n c xs Z :=
 ⟨h.rd.ext (jA (jR u) ob), fun a ha => by
  obtain ⟨h1, h2, h3, h4⟩ := h.off a ha
  refine ⟨h1, h2, h3, fun b hb => ?_⟩
  rcases List.mem_cons.1 hb with rfl | hb
  ·have := own_lt h.rd.own ha; omega
  ·exact h4 b hb⟩
theorem NewR.put (h : NewR u β H ls Ls A n c xs Z) (hb : b ∈ Ls) (v0 v1 v2 : Value) : NewR (put3 u b v0 v1 v2) β H ls Ls A n c xs Z :=
 ⟨h.rd.frm (frm3 u b v0 v1 v2) (fun a ha => (h.off a ha).2.2.2 b hb), h.off⟩
theorem WantR.of {U : World} (h : Sta W U β H rs ls Ls) (hr : Rd u A n c xs) (hf : Fr U A) : WantR u β H Ls A n c xs :=
 ⟨⟨hr, fun a ha _ => h.bk.off (hf a ha), fun a ha _ => by have := hf a ha; have := h.book_lt; omega⟩, fun a ha _ b hb => by have := hf a ha; have := (h.locs b hb).1.lt; omega⟩
theorem WantR.step (h : WantR u β H Ls A n c xs) (he : Ext u u') : WantR u' β H Ls A n c xs := ⟨h.want.ext he, h.loc⟩
theorem WantR.alloc (h : WantR u β H Ls A n c xs) (ob : Obj) : WantR (u.alloc ob) β H (u.heap.size :: Ls) A n c xs :=
 ⟨h.want.ext (jA (jR u) ob), fun a ha hn b hb => by
  rcases List.mem_cons.1 hb with rfl | hb
  ·have := h.want.rd.lt ha hn; omega
  ·exact h.loc a ha hn b hb⟩
theorem WantR.put (h : WantR u β H Ls A n c xs) (hb : b ∈ Ls) (v0 v1 v2 : Value) : WantR (put3 u b v0 v1 v2) β H Ls A n c xs :=
 ⟨h.want.frm (frm3 u b v0 v1 v2) (fun a ha hn => h.loc a ha hn b hb), h.loc⟩
theorem WantR.turn (h : WantR u β H Ls A n c xs) (t : TurnB u u' β H H') : WantR u' β H' Ls A n c xs := ⟨h.want.turn t, h.loc⟩
theorem Sta.adds (h : Sta W u β H rs ls Ls) (s : Bool) (F G : FH) (xs ys : List Nat) (hA : NewR u β H ls Ls F.A F.n F.c xs none) (hD : NewR u β H ls Ls F.D F.m F.k ys F.A) (gA : WantR u β H Ls G.A G.n G.c xs) (gD : WantR u β H Ls G.D G.m G.k ys) (lx : xs.length ≤ 1000000) (ly : ys.length ≤ 1000000) (E : Int) (hn : rs.length ≤ 900) (hm : ls.length ≤ 900) :
  Calls Tryz.prog 12 #[.pointer (some ⟨β, 0, none⟩), fV s F, .int .i64 E, fV s G, .int .i64 E] u fun e w' => e = .returned (.tuple #[]) ∧ ∃ H' : BH, Hid (Sta W w' β H' (rs ++ [⟨s, F, G, xs, ys⟩]) (ls ++ [⟨F.A, F.n, xs⟩, ⟨F.D, F.m, ys⟩]) Ls) ∧ Hid (TurnB u w' β H H') := by
 have o1 := hA.off
 have o2 := hD.off
 refine (adds_at h.bk ⟨s, F, G, xs, ys⟩ hA.rd hD.rd (fun a ha => ⟨(o1 a ha).1, (o1 a ha).2.1, (o1 a ha).2.1, (o1 a ha).2.2.1⟩) (fun a ha => ⟨(o2 a ha).1, (o2 a ha).2.1, (o2 a ha).2.1, (o2 a ha).2.2.1⟩) gA.want gD.want (by show F.n ≤ 1000000; have := hA.rd.len; omega) (by show F.m ≤ 1000000; have := hD.rd.len; omega) E hn hm).mono ?_
 rintro e w' ⟨rfl, H', hB, hT⟩
 refine ⟨rfl, H', Lib.hid ⟨hT.out.ext h.bk h.ext h.low, hB.out, h.low, fun b hb => ?_⟩, hT⟩
 have hl := h.locs b hb
 exact ⟨hl.1.turn hT.out (r := ⟨s, F, G, xs, ys⟩) ⟨fun a ha _ => (o1 a ha).2.2.2 b hb, fun a ha _ => (o2 a ha).2.2.2 b hb, fun a ha hn => gA.loc a ha hn b hb, fun a ha hn => gD.loc a ha hn b hb⟩ (fun a ha => (o1 a ha).2.2.2 b hb) (fun a ha => (o2 a ha).2.2.2 b hb), hl.2⟩
theorem Sta.kept (h : Sta W u β H rs ls Ls) (t : TurnB u u' β H H') (hb : b ∈ Ls) (o : Nat) : u'.cell? ⟨b, o, none⟩ = u.cell? ⟨b, o, none⟩ := (t.cell (h.locs b hb).1.lt (h.locs b hb).1.off).1 o
theorem Bk.below {S : Nat → Prop} (h : Bk u β β H rs ls) (t : Frm S u u') (hS : ∀ k, S k → k < β) : Bk u' β β H rs ls := by
 refine ⟨h.book.frm t (fun k hk e => by have := hS k e; have := h.low k hk; omega), fun r hr => ?_, fun r hr => ?_, h.apart, h.low⟩
 ·obtain ⟨h1, h2, h3, h4⟩ := h.recs r hr
  exact ⟨h1.frm t fun a ha hn e => by have := hS _ e; have := h1.lo a ha hn; omega, h2.frm t fun a ha hn e => by have := hS _ e; have := h2.lo a ha hn; omega, h3.frm t fun a ha hn e => by have := hS _ e; have := h3.lo a ha hn; omega, h4.frm t fun a ha hn e => by have := hS _ e; have := h4.lo a ha hn; omega⟩
 ·exact ⟨own_frm (h.rows r hr).own t (fun a ha e => by have := hS _ e; have := (h.rows r hr).low a ha; omega), (h.rows r hr).off, (h.rows r hr).low, (h.rows r hr).few⟩
end
end Go.Proofs.YtchbefambnhjjaaGreatDoor
end
