/- Lemmas of this proof, laid together: IntA, IntB, IntF, RatA, ByP, IntC, IntD, IntE, RatB, SlO, RatC, RndQ. -/
import Derived.Test.YtkhkoeibpkglkaaGreatDoorMg16
import Derived.Deep.DeepCutAuto
import Derived.Deep.RegionWith
import Derived.Deep.LoopGhost
import Derived.Test.YtkhkoeibpkglkaaGreatDoorMg09
import Derived.Test.YtkhkoeibpkglkaaGreatDoorMg06
import Derived.Deep.Heap
set_option linter.unusedSimpArgs false
set_option linter.unusedVariables false
section
/- Whole numbers of the library's: objects in memory, set. -/
namespace Go.Proofs.YtkhkoeibpkglkaaGreatDoor
open Go.RowKit
attribute [local go_sem] sz2 sz3 sz4 sz5 sz6 sz7 sz8
set_option maxHeartbeats 4000000
set_option maxRecDepth 100000
attribute [local irreducible] Calls
/-- Nothing that was there has turned but the block b; new blocks may have come. -/
structure Tch (b : Nat) (w w' : World) : Prop where
  os : w'.os = w.os
  tape : w'.tape = w.tape
  output : w'.output = w.output
  size : w.heap.size ≤ w'.heap.size
  block : ∀ k, k < w.heap.size → k ≠ b → w'.heap[k]? = w.heap[k]?
theorem Tch.refl (b : Nat) (w : World) : Tch b w w := ⟨rfl, rfl, rfl, Nat.le_refl _, fun _ _ _ => rfl⟩
theorem Tch.trans {b : Nat} {u v w : World} (h : Tch b u v) (k : Tch b v w) : Tch b u w :=
  ⟨k.os.trans h.os, k.tape.trans h.tape, k.output.trans h.output, Nat.le_trans h.size k.size, fun i hi hb => (k.block i (Nat.lt_of_lt_of_le hi h.size) hb).trans (h.block i hi hb)⟩
theorem Tch.of {b : Nat} {w w' : World} (h : Ext w w') : Tch b w w' := ⟨h.os, h.tape, h.output, h.size, fun i hi _ => h.block i hi⟩
theorem Tch.set {b : Nat} {u w : World} (h : Tch b u w) (o : Nat) (v : Value) : Tch b u (w.setCell ⟨b, o, none⟩ v) :=
  ⟨h.os, h.tape, h.output, by simpa using h.size, fun i hi hb => (Below.heap_setCell w ⟨b, o, none⟩ v i hb).trans (h.block i hi hb)⟩
theorem Tch.ext {b : Nat} {W w w' : World} (h : Tch b w w') (hE : Ext W w) (hb : W.heap.size ≤ b) : Ext W w' :=
  ⟨h.os.trans hE.os, h.tape.trans hE.tape, h.output.trans hE.output, Nat.le_trans hE.size h.size, fun i hi => (h.block i (Nat.lt_of_lt_of_le hi hE.size) (by omega)).trans (hE.block i hi)⟩
theorem Tch.cell {b : Nat} {w w' : World} (h : Tch b w w') {p : Addr} (hp : p.block < w.heap.size) (hb : p.block ≠ b) : w'.cell? p = w.cell? p := World.cell?_of_block (w := w) (h.block p.block hp hb)
theorem Tch.frozen {b : Nat} {w w' : World} (h : Tch b w w') {p : Addr} (hp : p.block < w.heap.size) (hb : p.block ≠ b) : w'.frozen? p = w.frozen? p := World.frozen?_of_block (w := w) (h.block p.block hp hb)
/-- A slice, if it has anything, does not lie in the block b. -/
def Off (A : Option Addr) (n b : Nat) : Prop := ∀ x, A = some x → n ≠ 0 → x.block ≠ b
theorem Fr.off {W : World} {A : Option Addr} (h : Fr W A) {b : Nat} (hb : b < W.heap.size) (n : Nat) : Off A n b := fun x hx _ e => by have := h x hx; omega
theorem Rd.tch {b : Nat} {w w' : World} {A : Option Addr} {n c : Nat} {xs : List Nat} (h : Rd w A n c xs) (ht : Tch b w w') (ho : Off A n b) : Rd w' A n c xs :=
  ⟨h.len, h.cap, h.mx, h.lb, h.none_, h.at_, fun g off hA i hi => by
    obtain ⟨h1, h2⟩ := h.cells g off hA i hi
    exact ⟨Nat.lt_of_lt_of_le h1 ht.size, (ht.cell (p := ⟨g, off + i, none⟩) h1 (ho ⟨g, off, none⟩ hA (by have := h.len; omega))).trans h2⟩⟩
theorem Rd.off {w : World} {A : Option Addr} {n c : Nat} {xs : List Nat} (h : Rd w A n c xs) {g : Nat} (hg : w.heap.size ≤ g) : Off A n g := fun x hx hn e => by
  have := h.at_ x hx
  obtain ⟨g', off, s⟩ := x
  simp only at this e
  subst this e
  have := (h.cells _ off hx 0 (by have := h.len; omega)).1
  omega
/-- Room for a whole number. -/
structure Room (w : World) (b o : Nat) : Prop where
  lt : b < w.heap.size
  c0 : ∃ v, w.cell? ⟨b, o, none⟩ = some v
  c1 : ∃ v, w.cell? ⟨b, o + 1, none⟩ = some v
  f0 : w.frozen? ⟨b, o, none⟩ = false
  f1 : w.frozen? ⟨b, o + 1, none⟩ = false
/-- A whole number stands there, with these words. -/
structure IntIs (w : World) (b o : Nat) (z : Int) (A : Option Addr) (n c : Nat) : Prop where
  room : Room w b o
  neg : w.cell? ⟨b, o, none⟩ = some (.bool (decide (z < 0)))
  words : w.cell? ⟨b, o + 1, none⟩ = some (.slice A n c)
  rd : Rd w A n c (lim z.natAbs)
  off : Off A n b
theorem Room.ext {w w' : World} {b o : Nat} (h : Room w b o) (he : Ext w w') : Room w' b o := by
  obtain ⟨hl, ⟨v, h0⟩, ⟨u, h1⟩, h2, h3⟩ := h
  exact ⟨Nat.lt_of_lt_of_le hl he.size, ⟨v, (Below.cell (p := ⟨b, o, none⟩) he hl).trans h0⟩, ⟨u, (Below.cell (p := ⟨b, o + 1, none⟩) he hl).trans h1⟩, (Below.frozen (p := ⟨b, o, none⟩) he hl).trans h2, (Below.frozen (p := ⟨b, o + 1, none⟩) he hl).trans h3⟩
theorem Room.tch {w w' : World} {b o g : Nat} (h : Room w b o) (he : Tch g w w') (hg : b ≠ g) : Room w' b o := by
  obtain ⟨hl, ⟨v, h0⟩, ⟨u, h1⟩, h2, h3⟩ := h
  exact ⟨Nat.lt_of_lt_of_le hl he.size, ⟨v, (he.cell (p := ⟨b, o, none⟩) hl hg).trans h0⟩, ⟨u, (he.cell (p := ⟨b, o + 1, none⟩) hl hg).trans h1⟩, (he.frozen (p := ⟨b, o, none⟩) hl hg).trans h2, (he.frozen (p := ⟨b, o + 1, none⟩) hl hg).trans h3⟩
theorem IntIs.ext {w w' : World} {b o : Nat} {z : Int} {A : Option Addr} {n c : Nat} (h : IntIs w b o z A n c) (he : Ext w w') : IntIs w' b o z A n c :=
  ⟨h.room.ext he, (Below.cell (p := ⟨b, o, none⟩) he h.room.lt).trans h.neg, (Below.cell (p := ⟨b, o + 1, none⟩) he h.room.lt).trans h.words, h.rd.ext he, h.off⟩
theorem IntIs.tch {w w' : World} {b o g : Nat} {z : Int} {A : Option Addr} {n c : Nat} (h : IntIs w b o z A n c) (he : Tch g w w') (hg : b ≠ g) (ho : Off A n g) : IntIs w' b o z A n c :=
  ⟨h.room.tch he hg, (he.cell (p := ⟨b, o, none⟩) h.room.lt hg).trans h.neg, (he.cell (p := ⟨b, o + 1, none⟩) h.room.lt hg).trans h.words, h.rd.tch he ho, h.off⟩
theorem int_made {w : World} {b o : Nat} {A : Option Addr} {k c : Nat} (hr : Room w b o) {z : Int} (hR : Rd w A k c (lim z.natAbs)) (ho : Off A k b) {s : Bool} (hs : s = decide (z < 0)) :
    IntIs ((w.setCell ⟨b, o + 1, none⟩ (.slice A k c)).setCell ⟨b, o, none⟩ (.bool s)) b o z A k c := by
  have ht : Tch b w ((w.setCell ⟨b, o + 1, none⟩ (.slice A k c)).setCell ⟨b, o, none⟩ (.bool s)) := ((Tch.refl b w).set _ _).set _ _
  obtain ⟨hl, ⟨v0, h0⟩, ⟨v1, h1⟩, h2, h3⟩ := hr
  have k0 : ((w.setCell ⟨b, o + 1, none⟩ (.slice A k c)).setCell ⟨b, o, none⟩ (.bool s)).cell? ⟨b, o, none⟩ = some (.bool s) := by
    refine World.cell?_setCell_same _ _ _ (u := v0) ?_
    rw [World.cell?_setCell_other _ _ _ _ (by intro e; simp at e)]; exact h0
  have k1 : ((w.setCell ⟨b, o + 1, none⟩ (.slice A k c)).setCell ⟨b, o, none⟩ (.bool s)).cell? ⟨b, o + 1, none⟩ = some (.slice A k c) := by
    rw [World.cell?_setCell_other _ _ _ _ (by intro e; simp at e)]
    exact World.cell?_setCell_same _ _ _ h1
  exact ⟨⟨by simpa using hl, ⟨_, k0⟩, ⟨_, k1⟩, by simpa using h2, by simpa using h3⟩, by rw [k0, hs], k1, hR.tch ht ho, ho⟩
theorem trimZ_lim_lim (a : Nat) : trimZ (lim a) = lim a := by rw [trimZ_lim _ (lb_lim a), val_lim]
/-- A sign and a size. -/
def sgn (neg : Bool) (a : Nat) : Int := if neg then -(a : Int) else a
theorem sgn_abs (neg : Bool) (a : Nat) : (sgn neg a).natAbs = a := by cases neg <;> simp [sgn]
theorem sgn_lt (neg : Bool) (a : Nat) : decide (sgn neg a < 0) = (neg && decide (0 < a)) := by cases neg <;> simp [sgn] <;> omega
theorem bi_setx (b o : Nat) (neg : Bool) (A : Option Addr) (n c a : Nat) (w : World) (hr : Room w b o) (hA : Rd w A n c (lim a)) (ho : Off A n b) :
    Calls Tryz.prog 117 #[.pointer (some ⟨b, o, none⟩), .bool neg, .slice A n c] w fun e w' => e = .returned (.pointer (some ⟨b, o, none⟩)) ∧ Hid (IntIs w' b o (sgn neg a) A n c) ∧ Tch b w w' ∧ Hid (∀ p, p ≠ o → p ≠ o + 1 → w'.cell? ⟨b, p, none⟩ = w.cell? ⟨b, p, none⟩ ∧ w'.frozen? ⟨b, p, none⟩ = w.frozen? ⟨b, p, none⟩) := by
  have hlen := hA.len
  have HA := Lib.hid hA
  have HR := Lib.hid hr
  obtain ⟨hl, ⟨v0, h0⟩, ⟨v1, h1⟩, h2, h3⟩ := hr
  have HO := Lib.hid ho
  have hz : a = 0 ↔ n = 0 := by rw [← hlen]; exact ⟨fun h => by rw [h, lim_zero]; rfl, fun h => lim_nil.1 (List.eq_nil_of_length_eq_zero h)⟩
  have HZ := Lib.hid (show decide (0 < n) = decide (0 < a) by rw [decide_eq_decide]; omega)
  clear ho hA hz
  cases neg
  all_goals
   go_enter Tryz.func117, Tryz.ntmps117
   go_wp2_with (first
    | (go_at_call 180; (with_reducible refine (bw_trim A n c (lim a) _ HA.out).mono ?_); rintro e w1 ⟨k, rfl, hR1, rfl⟩; rw [trimZ_lim_lim] at hR1; obtain rfl : n = k := by rw [← hlen]; exact hR1.len)
    )
   refine bodyPost_ret (v := .pointer (some ⟨b, o, none⟩)) ?h rfl ⟨rfl, int_made HR.out (by rw [sgn_abs]; exact hR1) HO.out (by rw [sgn_lt]; first | rfl | (rw [← HZ.out]; rfl)), ((Tch.refl b w).set _ _).set _ _, fun p h1 h2 => ⟨by rw [World.cell?_setCell_other _ _ _ _ (by intro e; simp at e; try omega), World.cell?_setCell_other _ _ _ _ (by intro e; simp at e; try omega)], by simp⟩⟩
   case h => simp [results, Tryz.results117, go_sem]
theorem bi_set (b o : Nat) (neg : Bool) (A : Option Addr) (n c a : Nat) (w : World) (hr : Room w b o) (hA : Rd w A n c (lim a)) (ho : Off A n b) :
    Calls Tryz.prog 117 #[.pointer (some ⟨b, o, none⟩), .bool neg, .slice A n c] w fun e w' => e = .returned (.pointer (some ⟨b, o, none⟩)) ∧ Hid (IntIs w' b o (sgn neg a) A n c) ∧ Tch b w w' :=
  (bi_setx b o neg A n c a w hr hA ho).mono fun _ _ ⟨h1, h2, h3, _⟩ => ⟨h1, h2, h3⟩
end Go.Proofs.YtkhkoeibpkglkaaGreatDoor
end
section
/- Whole numbers of the library's: copied, with the sign turned. -/
namespace Go.Proofs.YtkhkoeibpkglkaaGreatDoor
open Go.RowKit
attribute [local go_sem] sz2 sz3 sz4 sz5 sz6 sz7 sz8
set_option maxHeartbeats 4000000
set_option maxRecDepth 100000
attribute [local irreducible] Calls
attribute [local go_sem] Oper.detAt detUpon relUpon
theorem rel_copied (N : Nat) (A : Option Addr) (n c a : Nat) (hn : n ≤ 1000000) (vals : List Value) (w : World) (hN : N ≤ w.heap.size) (hA : Rd w A n c (lim a)) :
    Calls Tryz.prog 120 #[.slice A n c] w fun e w' => ∃ v, e = .returned v ∧ Ext w w' ∧ Fresh w v w' ∧ RWord N a vals v w' := by
  have HA := Lib.hid hA
  have hlen := Lib.hid hA.len
  clear hA
  go_enter Tryz.func120, Tryz.ntmps120
  go_wp2_with (first
    | (at_make; refine make_u32 rfl _ _ rfl _ _ _ _ n rfl rfl (by simp) (by simp) (by omega) ?_; intro w1 hx1 ho1; have hext1 := Lib.hid hx1; clear hx1)
    | (with_reducible refine copy_u32 rfl (.tmp 7) (.tmp 8) rfl ho1.out (HA.out.ext hext1.out) rfl rfl (Nat.le_refl _) hext1.out (Nat.le_refl _) ?_; intro w2 hx2 ho2; have hext2 := Lib.hid hx2; clear hx2)
    | go_in)
  refine bodyPost_ret (v := .slice (some ⟨w.heap.size, 0, none⟩) n n) ?h rfl ⟨_, rfl, hext2.out, ?_, ?_⟩
  case h => simp [results, Tryz.results120, go_sem]
  · intro b hb
    simp only [blk, Option.some.injEq] at hb
    subst hb
    exact ho2.out.lt _ rfl
  · have e : lim a ++ (List.replicate n 0).drop n = lim a := by simp
    rw [e] at ho2
    obtain ⟨A', c', he, hR⟩ := Rd.own ho2.out (lb_lim a)
    cases he
    exact ⟨_, _, _, rfl, hR, fun q hq => by cases hq; exact hN⟩
theorem sgn_self (z : Int) : sgn (decide (z < 0)) z.natAbs = z := by unfold sgn; split <;> simp at * <;> omega
theorem sgn_neg (z : Int) : sgn (!decide (z < 0)) z.natAbs = -z := by unfold sgn; split <;> simp at * <;> omega
/-- What a method that sets a number leaves. -/
abbrev IPost (w : World) (b o : Nat) (z : Int) : Ending → World → Prop := fun e w' => e = .returned (.pointer (some ⟨b, o, none⟩)) ∧ ∃ (A : Option Addr) (n c : Nat), Hid (IntIs w' b o z A n c ∧ Fr w A) ∧ Tch b w w'
theorem bi_Set (b o bx ox : Nat) (A : Option Addr) (n c : Nat) (z : Int) (hn : n ≤ 1000000) (w : World) (hr : Room w b o) (hx : IntIs w bx ox z A n c) :
    Calls Tryz.prog 118 #[.pointer (some ⟨b, o, none⟩), .pointer (some ⟨bx, ox, none⟩)] w (IPost w b o z) := by
  have HX := Lib.hid hx
  have HR := Lib.hid hr
  have lx := hx.room.lt
  have x0 := hx.neg
  have x1 := hx.words
  clear hx hr
  go_enter Tryz.func118, Tryz.ntmps118
  go_wp2
  refine wp_drawn_tail 10 (tab [(9, RWord w.heap.size z.natAbs)]) (by kernel_rfl) (by kernel_rfl) (by kernel_rfl) (tab_stays (by simp [stays_word])) (fun hq hqf => ?_)
  simp only [List.take_succ_cons, List.take_zero, List.drop_succ_cons, List.drop_zero]
  have y0 := fun nq => (hq nq bx ox lx).trans x0
  have y1 := fun nq => (hq nq bx (ox + 1) lx).trans x1
  iterate 9
    (refine wpK_det rfl (fun K hK => ?_)
     go_simp
     first
       | (refine hK _ ?_; clear hK K)
       | (apply Exists.intro; refine ⟨fun x => ?_, hK _ ?_⟩; (first | exact y0 x | exact y1 x | (trace_state; simp [y0, y1]; rfl)); clear hK K))
  refine wpK_rel _ rfl rfl ?_ ?_
  · rintro _ ⟨nn, rfl⟩ _
    unfold Oper.relAt
    go_simp
    exact rel_copied _ _ _ _ _ hn _ _ (ext_size nn.use) (HX.out.rd.ext nn.use)
  rintro v ⟨_, ⟨nn, rfl⟩, hr⟩
  obtain ⟨A9, k9, c9, rfl, -, -⟩ := hr
  clear nn
  refine wpK_nil ?_
  intro nq2 hG
  have r9 : RWord w.heap.size z.natAbs [] (.slice A9 k9 c9) nq2.out := by have := hG.fact 9; simp [Facts.put] at this; exact this
  have hR9 := Lib.hid (rword_at r9)
  have hF9 : Fr w A9 := hR9.out.2
  have hO9 := hF9.off HR.out.lt k9
  clear r9 hG
  go_wp2_with (first
    | (go_at_call 117; (with_reducible refine (bi_set b o _ A9 k9 c9 z.natAbs _ (HR.out.ext nq2.use) hR9.out.1 hO9).mono ?_); rintro e w3 ⟨rfl, hI3, xt3⟩)
   )
  refine bodyPost_ret (v := .pointer (some ⟨b, o, none⟩)) ?h rfl ⟨rfl, A9, k9, c9, ⟨by have := hI3.out; rwa [sgn_self] at this, hF9⟩, (Tch.of nq2.use).trans xt3⟩
  case h => simp [results, Tryz.results118, go_sem]
end Go.Proofs.YtkhkoeibpkglkaaGreatDoor
end
section
/- Words of the library's: by a number that goes into them. -/
namespace Go.Proofs.YtkhkoeibpkglkaaGreatDoor
open Go.RowKit
attribute [local go_sem] sz2 sz3 sz4 sz5 sz6 sz7 sz8
set_option maxHeartbeats 4000000
set_option maxRecDepth 100000
attribute [local irreducible] Calls
theorem bw_by_one (A G : Option Addr) (n c m d : Nat) (w : World) (hG : Rd w G m d (lim 1)) :
    Calls Tryz.prog 182 #[.slice A n c, .slice G m d] w fun e w' => e = .returned (.slice A n c) ∧ Ext w w' := by
  have HG := Lib.hid hG
  clear hG
  go_enter Tryz.func182, Tryz.ntmps182
  go_wp2_with (first
    | (go_at_call 245; (with_reducible refine (bw_one G m d 1 _ HG.out).mono ?_); rintro e w1 ⟨rfl, rfl⟩)
   )
  refine bodyPost_ret (v := .slice A n c) ?h rfl ⟨rfl, ext_refl _⟩
  case h => simp [results, Tryz.results182, go_sem]
theorem bw_by_div (A G : Option Addr) (n c m d a g : Nat) (h1 : g ≠ 1) (h0 : g ≠ 0) (hn : n ≤ 400000) (w : World) (hA : Rd w A n c (lim a)) (hG : Rd w G m d (lim g)) :
    Calls Tryz.prog 182 #[.slice A n c, .slice G m d] w (WPost w (a / g)) := by
  have HA := Lib.hid hA
  have HG := Lib.hid hG
  clear hA hG
  have hone : decide (g = 1) = false := decide_eq_false h1
  go_enter Tryz.func182, Tryz.ntmps182
  go_wp2_with (first
    | (go_at_call 245; (with_reducible refine (bw_one G m d g _ HG.out).mono ?_); rintro e w1 ⟨rfl, rfl⟩)
    | (go_at_call 242; (with_reducible refine (bw_div A G n c m d a g h0 hn _ HA.out HG.out).mono ?_); rintro e w2 ⟨A2, k2, d2, B2, m2, e2, rfl, hR2, hS2, xb2⟩)
   )
  refine bodyPost_ret (v := .slice A2 k2 d2) ?h rfl ⟨A2, k2, d2, rfl, hR2, xb2⟩
  case h => simp [results, Tryz.results182, go_sem]
theorem rel_by (N : Nat) (A G : Option Addr) (n c m d a g : Nat) (h1 : g ≠ 1) (h0 : g ≠ 0) (hga : a / g ≠ 0) (hn : n ≤ 400000) (vals : List Value) (w : World) (hN : N ≤ w.heap.size) (hA : Rd w A n c (lim a)) (hG : Rd w G m d (lim g)) :
    Calls Tryz.prog 182 #[.slice A n c, .slice G m d] w fun e w' => ∃ v, e = .returned v ∧ Ext w w' ∧ Fresh w v w' ∧ RWord N (a / g) vals v w' := by
  refine (bw_by_div A G n c m d a g h1 h0 hn w hA hG).mono ?_
  rintro e w' ⟨A', k, c', rfl, h2, h3⟩
  refine ⟨_, rfl, h3, fun b hb => ?_, A', k, c', rfl, h2.out.1, fun q hq => Nat.le_trans hN (h2.out.2 q hq)⟩
  cases A' with
  | none => simp [blk] at hb
  | some q =>
    simp only [blk, Option.some.injEq] at hb
    subst hb
    refine ⟨h2.out.2 q rfl, rd_lt h2.out.1 rfl (fun e => hga (lim_nil.1 e))⟩
end Go.Proofs.YtkhkoeibpkglkaaGreatDoor
end
section
/- Fractions of the library's: objects in memory, set. -/
namespace Go.Proofs.YtkhkoeibpkglkaaGreatDoor
open Go.RowKit
attribute [local go_sem] sz2 sz3 sz4 sz5 sz6 sz7 sz8
set_option maxHeartbeats 4000000
set_option maxRecDepth 100000
attribute [local irreducible] Calls
attribute [local go_sem] Oper.detAt detUpon relUpon
/-- Room for a fraction. -/
structure RatRoom (w : World) (g : Nat) : Prop where
  int : Room w g 0
  c2 : ∃ v, w.cell? ⟨g, 2, none⟩ = some v
  f2 : w.frozen? ⟨g, 2, none⟩ = false
/-- A fraction stands there, with these words. -/
structure RatIs (w : World) (g : Nat) (z : Int) (A : Option Addr) (n c : Nat) (d : Nat) (D : Option Addr) (m e : Nat) : Prop where
  int : IntIs w g 0 z A n c
  c2 : w.cell? ⟨g, 2, none⟩ = some (.slice D m e)
  f2 : w.frozen? ⟨g, 2, none⟩ = false
  rd : Rd w D m e (lim d)
  off : Off D m g
theorem RatRoom.ext {w w' : World} {g : Nat} (h : RatRoom w g) (he : Ext w w') : RatRoom w' g := by
  obtain ⟨h1, ⟨v, h2⟩, h3⟩ := h
  exact ⟨h1.ext he, ⟨v, (Below.cell (p := ⟨g, 2, none⟩) he h1.lt).trans h2⟩, (Below.frozen (p := ⟨g, 2, none⟩) he h1.lt).trans h3⟩
theorem RatIs.ext {w w' : World} {g : Nat} {z : Int} {A : Option Addr} {n c : Nat} {d : Nat} {D : Option Addr} {m e : Nat} (h : RatIs w g z A n c d D m e) (he : Ext w w') : RatIs w' g z A n c d D m e :=
  ⟨h.int.ext he, (Below.cell (p := ⟨g, 2, none⟩) he h.int.room.lt).trans h.c2, (Below.frozen (p := ⟨g, 2, none⟩) he h.int.room.lt).trans h.f2, h.rd.ext he, h.off⟩
theorem RatIs.tch {w w' : World} {g b : Nat} {z : Int} {A : Option Addr} {n c : Nat} {d : Nat} {D : Option Addr} {m e : Nat} (h : RatIs w g z A n c d D m e) (ht : Tch b w w') (hg : g ≠ b) (hA : Off A n b) (hD : Off D m b) : RatIs w' g z A n c d D m e :=
  ⟨h.int.tch ht hg hA, (ht.cell (p := ⟨g, 2, none⟩) h.int.room.lt hg).trans h.c2, (ht.frozen (p := ⟨g, 2, none⟩) h.int.room.lt hg).trans h.f2, h.rd.tch ht hD, h.off⟩
/-- What stands below the line: no words are 1. -/
def denOf (d : Nat) : Nat := if d = 0 then 1 else d
theorem br_below_new (g : Nat) (z : Int) (A : Option Addr) (n c : Nat) (D : Option Addr) (m e : Nat) (w : World) (hx : RatIs w g z A n c 0 D m e) :
    Calls Tryz.prog 183 #[.pointer (some ⟨g, 0, none⟩)] w fun e w' => e = .returned (.slice (some ⟨w.heap.size, 0, none⟩) 1 1) ∧ Hid (Rd w' (some ⟨w.heap.size, 0, none⟩) 1 1 (lim 1)) ∧ Ext w w' := by
  have hm : m = 0 := by have := hx.rd.len; rw [lim_zero] at this; exact this.symm
  subst hm
  have x2 := hx.c2
  clear hx
  go_enter Tryz.func183, Tryz.ntmps183
  go_wp2
  refine bodyPost_ret (v := .slice (some ⟨w.heap.size, 0, none⟩) 1 1) ?h rfl ⟨rfl, one_row w, ext_alloc (ext_refl _) _⟩
  case h => simp [results, Tryz.results183, go_sem]
theorem br_below_old (g : Nat) (z : Int) (A : Option Addr) (n c d : Nat) (hd : d ≠ 0) (D : Option Addr) (m e : Nat) (w : World) (hx : RatIs w g z A n c d D m e) :
    Calls Tryz.prog 183 #[.pointer (some ⟨g, 0, none⟩)] w fun e' w' => e' = .returned (.slice D m e) ∧ Ext w w' := by
  have hm : m ≠ 0 := by have := hx.rd.len; intro h; rw [h] at this; exact hd (lim_nil.1 (List.eq_nil_of_length_eq_zero this))
  have hm1 : ((m : Int) == 0) = false := by rw [beq_eq_false_iff_ne]; omega
  have x2 := hx.c2
  clear hx
  go_enter Tryz.func183, Tryz.ntmps183
  go_wp2
  refine bodyPost_ret (v := .slice D m e) ?h rfl ⟨rfl, ext_refl _⟩
  case h => simp [results, Tryz.results183, go_sem]
/-- What a fraction that was set is. -/
abbrev SPost (w : World) (g : Nat) (z : Int) (d : Nat) (A D : Option Addr) : Ending → World → Prop := fun e w' => e = .returned (.pointer (some ⟨g, 0, none⟩)) ∧ ∃ (A' : Option Addr) (n c : Nat) (D' : Option Addr) (m k : Nat),
  Hid (RatIs w' g z A' n c d D' m k ∧ ∀ W, Ext W w → Fr W A → Fr W D → Fr W A' ∧ Fr W D') ∧ Tch g w w'
theorem Fr.szmono {W w : World} {A : Option Addr} (h : Fr w A) (hs : W.heap.size ≤ w.heap.size) : Fr W A := fun a ha => Nat.le_trans hs (h a ha)
theorem Fr.none (w : World) : Fr w none := fun _ h => by cases h
theorem rat_made {w : World} {g : Nat} {z : Int} {A : Option Addr} {n c : Nat} (hi : IntIs w g 0 z A n c) (hc : ∃ v, w.cell? ⟨g, 2, none⟩ = some v) (hf : w.frozen? ⟨g, 2, none⟩ = false) {d : Nat} {D : Option Addr} {m k : Nat} (hD : Rd w D m k (lim d)) (ho : Off D m g) :
    RatIs (w.setCell ⟨g, 2, none⟩ (.slice D m k)) g z A n c d D m k := by
  obtain ⟨v, hv⟩ := hc
  have ht : Tch g w (w.setCell ⟨g, 2, none⟩ (.slice D m k)) := (Tch.refl g w).set 2 _
  have hA := hi.rd.tch ht hi.off
  obtain ⟨⟨r1, ⟨v0, r2⟩, ⟨v1, r3⟩, r4, r5⟩, i2, i3, i4, i5⟩ := hi
  have o0 : ∀ p, p ≠ 2 → (w.setCell ⟨g, 2, none⟩ (.slice D m k)).cell? ⟨g, p, none⟩ = w.cell? ⟨g, p, none⟩ := fun p hp => World.cell?_setCell_other _ _ _ _ (by intro e; simp at e; try omega)
  exact ⟨⟨⟨by simpa using r1, ⟨_, (o0 0 (by omega)).trans r2⟩, ⟨_, (o0 1 (by omega)).trans r3⟩, by simpa using r4, by simpa using r5⟩, (o0 0 (by omega)).trans i2, (o0 1 (by omega)).trans i3, hA, i5⟩,
    World.cell?_setCell_same _ _ _ hv, by simpa using hf, hD.tch ht ho, ho⟩
theorem br_set_zero (g : Nat) (minus : Bool) (A : Option Addr) (n c : Nat) (D : Option Addr) (m k d : Nat) (w : World) (hr : RatRoom w g) (hA : Rd w A n c (lim 0)) (hD : Rd w D m k (lim d)) :
    Calls Tryz.prog 119 #[.pointer (some ⟨g, 0, none⟩), .bool minus, .slice A n c, .slice D m k] w (SPost w g 0 0 A D) := by
  obtain rfl : n = 0 := by have := hA.len; rw [lim_zero] at this; exact this.symm
  have HA := Lib.hid hA
  have HD := Lib.hid hD
  have HR := Lib.hid hr
  have hnil : Rd w none 0 0 (lim 0) := by rw [lim_zero]; exact Rd.nil _
  have hoff : Off none 0 g := fun x hx => by cases hx
  have HN := Lib.hid hnil
  have hfc := hr.c2
  have hff := hr.f2
  obtain ⟨v2, hv2⟩ := hfc
  clear hA hD hr hnil
  go_enter Tryz.func119, Tryz.ntmps119
  go_wp2_with (first
    | (go_at_call 180; (with_reducible refine (bw_trim A 0 c (lim 0) _ HA.out).mono ?_); rintro e w1 ⟨k1, rfl, hR1, rfl⟩; rw [trimZ_lim_lim] at hR1; obtain rfl : k1 = 0 := by have := hR1.len; rw [lim_zero] at this; exact this.symm)
    | (go_at_call 180; (with_reducible refine (bw_trim D m k (lim d) _ HD.out).mono ?_); rintro e w2 ⟨k2, rfl, hR2, rfl⟩)
    | (go_at_call 117; (with_reducible refine (bi_setx g 0 false none 0 0 0 _ HR.out.int HN.out hoff).mono ?_); rintro e w3 ⟨rfl, hI3, xt3, hq3⟩; have hv3 := (hq3.out 2 (by omega) (by omega)).1.trans hv2; have hf3 := (hq3.out 2 (by omega) (by omega)).2.trans hff)
   )
  refine bodyPost_ret (v := .pointer (some ⟨g, 0, none⟩)) ?h rfl ⟨rfl, none, 0, 0, none, 0, 0, ⟨rat_made hI3.out ⟨_, hv3⟩ hf3 (by rw [lim_zero]; exact Rd.nil _) hoff, fun W _ _ _ => ⟨Fr.none W, Fr.none W⟩⟩, xt3.set 2 _⟩
  case h => simp [results, Tryz.results119, go_sem]
theorem br_set_co (g : Nat) (minus : Bool) (A : Option Addr) (n c a : Nat) (ha : a ≠ 0) (D : Option Addr) (m k d : Nat) (hd : d ≠ 0) (hn : n ≤ 400000) (hm : m ≤ 400000) (hg : Nat.gcd a d = 1) (w : World) (hT : Tz w) (hr : RatRoom w g) (hA : Rd w A n c (lim a)) (hD : Rd w D m k (lim d)) (hoA : Off A n g) (hoD : Off D m g) :
    Calls Tryz.prog 119 #[.pointer (some ⟨g, 0, none⟩), .bool minus, .slice A n c, .slice D m k] w (SPost w g (sgn minus a) d A D) := by
  have hn0 : ((n : Int) == 0) = false := by
    rw [beq_eq_false_iff_ne]
    have := hA.len; intro h; exact ha (lim_nil.1 (List.eq_nil_of_length_eq_zero (by omega)))
  have hla := hA.len
  have hld := hD.len
  have HA := Lib.hid hA
  have HD := Lib.hid hD
  have HR := Lib.hid hr
  have HT := Lib.hid hT
  have hgl := hr.int.lt
  have hfc := hr.c2
  have hff := hr.f2
  obtain ⟨v2, hv2⟩ := hfc
  clear hA hD hr hT
  go_enter Tryz.func119, Tryz.ntmps119
  go_wp2_with (first
    | (go_at_call 180; (with_reducible refine (bw_trim A n c (lim a) _ HA.out).mono ?_); rintro e w1 ⟨k1, rfl, hR1, rfl⟩; rw [trimZ_lim_lim] at hR1; obtain rfl : n = k1 := by rw [← hla]; exact hR1.len)
    | (go_at_call 180; (with_reducible refine (bw_trim D m k (lim d) _ HD.out).mono ?_); rintro e w2 ⟨k2, rfl, hR2, rfl⟩; rw [trimZ_lim_lim] at hR2; obtain rfl : m = k2 := by rw [← hld]; exact hR2.len)
    | (go_at_call 181; (with_reducible refine (bw_common A D n c m k a d hn hm _ HT.out HA.out HD.out).mono ?_); rintro e w3 ⟨G, k3, c3, rfl, hG3, xb3⟩)
   )
  have hG3' := Lib.hid (show Rd w3 G k3 c3 (lim 1) by have := hG3.out.1; rwa [hg] at this)
  have hby : ∀ x : Aft w3, Calls Tryz.prog 182 #[.slice A n c, .slice G k3 c3] x.out fun e w'' => e = .returned (.slice A n c) ∧ Ext x.out w'' := fun x => bw_by_one A G n c k3 c3 _ (hG3'.out.ext x.use)
  refine wp_aft_tail 7 (by kernel_rfl) (by kernel_rfl) (by kernel_rfl) (fun hq hqf => ?_)
  simp only [List.take_succ_cons, List.take_zero, List.drop_succ_cons, List.drop_zero]
  repeat (go_big_quiet_step (first
    | (go_at_call 182; exact aft_of (hby _))
    ))
  refine wpQuiet_nil ?_
  rintro _ ⟨nq, rfl⟩
  have xl := ext_lt nq.use
  have xz := ext_size nq.use
  try simp at xz
  have hE4 := Lib.hid (ext_trans xb3 nq.use)
  have hq4 := Lib.hid nq.use
  have hv4 := (Below.cell (p := ⟨g, 2, none⟩) hE4.out hgl).trans hv2
  have hf4 := (Below.frozen (p := ⟨g, 2, none⟩) hE4.out hgl).trans hff
  go_wp2_with (first
    | (go_at_call 117; (with_reducible refine (bi_setx g 0 minus A n c a _ (HR.out.int.ext hE4.out) (HA.out.ext hE4.out) hoA).mono ?_); rintro e w5 ⟨rfl, hI5, xt5, hq5⟩; have hv5 := (hq5.out 2 (by omega) (by omega)).1.trans hv4; have hf5 := (hq5.out 2 (by omega) (by omega)).2.trans hf4; have hD5 := Lib.hid ((HD.out.ext hE4.out).tch xt5 hoD); have hG5 := Lib.hid ((hG3'.out.ext hq4.out).tch xt5 (hG3.out.2.off hgl k3)))
    | (go_at_call 182; (with_reducible refine (bw_by_one D G m k k3 c3 _ hG5.out).mono ?_); rintro e w6 ⟨rfl, xb6⟩; have hgl6 := ext_lt xb6 g hI5.out.room.lt; have hv6 := (Below.cell (p := ⟨g, 2, none⟩) xb6 hI5.out.room.lt).trans hv5; have hf6 := (Below.frozen (p := ⟨g, 2, none⟩) xb6 hI5.out.room.lt).trans hf5)
   )
  refine bodyPost_ret (v := .pointer (some ⟨g, 0, none⟩)) ?h rfl ⟨rfl, A, n, c, D, m, k, ⟨rat_made (hI5.out.ext xb6) ⟨_, hv6⟩ hf6 (hD5.out.ext xb6) hoD, fun W _ h1 h2 => ⟨h1, h2⟩⟩, (((Tch.of hE4.out).trans xt5).trans (Tch.of xb6)).set 2 _⟩
  case h => simp [results, Tryz.results119, go_sem]
theorem br_set_div (g : Nat) (minus : Bool) (A : Option Addr) (n c a : Nat) (ha : a ≠ 0) (D : Option Addr) (m k d : Nat) (hd : d ≠ 0) (hn : n ≤ 400000) (hm : m ≤ 400000) (hg : Nat.gcd a d ≠ 1) (w : World) (hT : Tz w) (hr : RatRoom w g) (hA : Rd w A n c (lim a)) (hD : Rd w D m k (lim d)) (hoA : Off A n g) (hoD : Off D m g) :
    Calls Tryz.prog 119 #[.pointer (some ⟨g, 0, none⟩), .bool minus, .slice A n c, .slice D m k] w (SPost w g (sgn minus (a / Nat.gcd a d : Nat)) (d / Nat.gcd a d) A D) := by
  have hn0 : ((n : Int) == 0) = false := by
    rw [beq_eq_false_iff_ne]
    have := hA.len; intro h; exact ha (lim_nil.1 (List.eq_nil_of_length_eq_zero (by omega)))
  have hla := hA.len
  have hld := hD.len
  have HA := Lib.hid hA
  have HD := Lib.hid hD
  have HR := Lib.hid hr
  have HT := Lib.hid hT
  have hgl := hr.int.lt
  have hfc := hr.c2
  have hff := hr.f2
  obtain ⟨v2, hv2⟩ := hfc
  clear hA hD hr hT
  obtain ⟨gd, hgd⟩ : ∃ gd, gd = Nat.gcd a d := ⟨_, rfl⟩
  rw [← hgd] at hg ⊢
  have hg0 : gd ≠ 0 := by rw [hgd]; intro h; exact ha (Nat.eq_zero_of_gcd_eq_zero_left h)
  have hga : a / gd ≠ 0 := by
    have h1 : gd ≤ a := by rw [hgd]; exact Nat.le_of_dvd (Nat.pos_of_ne_zero ha) (Nat.gcd_dvd_left a d)
    have := Nat.div_pos h1 (Nat.pos_of_ne_zero hg0); omega
  have HGD := Lib.hid hgd
  clear hgd
  go_enter Tryz.func119, Tryz.ntmps119
  go_wp2_with (first
    | (go_at_call 180; (with_reducible refine (bw_trim A n c (lim a) _ HA.out).mono ?_); rintro e w1 ⟨k1, rfl, hR1, rfl⟩; rw [trimZ_lim_lim] at hR1; obtain rfl : n = k1 := by rw [← hla]; exact hR1.len)
    | (go_at_call 180; (with_reducible refine (bw_trim D m k (lim d) _ HD.out).mono ?_); rintro e w2 ⟨k2, rfl, hR2, rfl⟩; rw [trimZ_lim_lim] at hR2; obtain rfl : m = k2 := by rw [← hld]; exact hR2.len)
    | (go_at_call 181; (with_reducible refine (bw_common A D n c m k a d hn hm _ HT.out HA.out HD.out).mono ?_); rintro e w3 ⟨G, k3, c3, rfl, hG3, xb3⟩)
   )
  have hG3' := Lib.hid (show Rd w3 G k3 c3 (lim gd) by have := hG3.out.1; rwa [← HGD.out] at this)
  refine wp_drawn_tail 7 (tab [(6, RWord w3.heap.size (a / gd))]) (by kernel_rfl) (by kernel_rfl) (by kernel_rfl) (tab_stays (by simp [stays_word])) (fun hq hqf => ?_)
  simp only [List.take_succ_cons, List.take_zero, List.drop_succ_cons, List.drop_zero]
  iterate 6
    (refine wpK_det rfl (fun K hK => ?_)
     go_simp
     (refine hK _ ?_; clear hK K))
  refine wpK_rel _ rfl rfl ?_ ?_
  · rintro _ ⟨nn, rfl⟩ _
    unfold Oper.relAt
    go_simp
    exact rel_by _ A G n c k3 c3 a gd hg hg0 hga hn _ _ (ext_size nn.use) (HA.out.ext (ext_trans xb3 nn.use)) (hG3'.out.ext nn.use)
  rintro v ⟨_, ⟨nn, rfl⟩, hr⟩
  obtain ⟨A9, k9, c9, rfl, -, -⟩ := hr
  clear nn
  refine wpK_nil ?_
  intro nq hGG
  have r9 : RWord w3.heap.size (a / gd) [] (.slice A9 k9 c9) nq.out := by have := hGG.fact 6; simp [Facts.put] at this; exact this
  have hR9 := Lib.hid (rword_at r9)
  have hF9 : Fr w3 A9 := hR9.out.2
  have hgl3 : g < w3.heap.size := ext_lt xb3 g hgl
  have hO9 := hF9.off hgl3 k9
  clear r9 hGG
  have hE4 := Lib.hid (ext_trans xb3 nq.use)
  have hq4 := Lib.hid nq.use
  have hv4 := (Below.cell (p := ⟨g, 2, none⟩) hE4.out hgl).trans hv2
  have hf4 := (Below.frozen (p := ⟨g, 2, none⟩) hE4.out hgl).trans hff
  go_wp2_with (first
    | (go_at_call 117; (with_reducible refine (bi_setx g 0 minus A9 k9 c9 (a / gd) _ (HR.out.int.ext hE4.out) hR9.out.1 hO9).mono ?_); rintro e w5 ⟨rfl, hI5, xt5, hq5⟩; have hv5 := (hq5.out 2 (by omega) (by omega)).1.trans hv4; have hf5 := (hq5.out 2 (by omega) (by omega)).2.trans hf4; have hD5 := Lib.hid ((HD.out.ext hE4.out).tch xt5 hoD); have hG5 := Lib.hid ((hG3'.out.ext hq4.out).tch xt5 (hG3.out.2.off hgl k3)))
    | (go_at_call 182; (with_reducible refine (bw_by_div D G m k k3 c3 d gd hg hg0 hm _ hD5.out hG5.out).mono ?_); rintro e w6 ⟨D6, k6, c6, rfl, hR6, xb6⟩; have hgl6 := ext_lt xb6 g hI5.out.room.lt; have hv6 := (Below.cell (p := ⟨g, 2, none⟩) xb6 hI5.out.room.lt).trans hv5; have hf6 := (Below.frozen (p := ⟨g, 2, none⟩) xb6 hI5.out.room.lt).trans hf5)
   )
  refine bodyPost_ret (v := .pointer (some ⟨g, 0, none⟩)) ?h rfl ⟨rfl, A9, k9, c9, D6, k6, c6, ⟨rat_made (hI5.out.ext xb6) ⟨_, hv6⟩ hf6 hR6.out.1 (hR6.out.2.off hI5.out.room.lt k6), fun W hW _ _ => ⟨Fr.mono hF9 (ext_trans hW xb3), Fr.szmono hR6.out.2 (Nat.le_trans (ext_size (ext_trans hW hE4.out)) xt5.size)⟩⟩, (((Tch.of hE4.out).trans xt5).trans (Tch.of xb6)).set 2 _⟩
  case h => simp [results, Tryz.results119, go_sem]
/-- Below the line, in lowest terms (nought has no words there). -/
def lowD (a d : Nat) : Nat := if a = 0 then 0 else d / Nat.gcd a d
theorem br_set (g : Nat) (minus : Bool) (A : Option Addr) (n c a : Nat) (D : Option Addr) (m k d : Nat) (hd : d ≠ 0) (hn : n ≤ 400000) (hm : m ≤ 400000) (w : World) (hT : Tz w) (hr : RatRoom w g) (hA : Rd w A n c (lim a)) (hD : Rd w D m k (lim d)) (hoA : Off A n g) (hoD : Off D m g) :
    Calls Tryz.prog 119 #[.pointer (some ⟨g, 0, none⟩), .bool minus, .slice A n c, .slice D m k] w (SPost w g (sgn minus (a / Nat.gcd a d : Nat)) (lowD a d) A D) := by
  by_cases h0 : a = 0
  · subst h0
    have e1 : sgn minus (0 / Nat.gcd 0 d : Nat) = 0 := by rw [Nat.zero_div]; cases minus <;> rfl
    rw [e1]
    exact br_set_zero g minus A n c D m k d w hr hA hD
  · have e2 : lowD a d = d / Nat.gcd a d := if_neg h0
    rw [e2]
    by_cases h1 : Nat.gcd a d = 1
    · have := br_set_co g minus A n c a h0 D m k d hd hn hm h1 w hT hr hA hD hoA hoD
      rw [h1, Nat.div_one, Nat.div_one]; exact this
    · exact br_set_div g minus A n c a h0 D m k d hd hn hm h1 w hT hr hA hD hoA hoD
/-- What a fraction that was made is, with words of its own. -/
abbrev FPost (w : World) (g : Nat) (z : Int) (d : Nat) : Ending → World → Prop := fun e w' => e = .returned (.pointer (some ⟨g, 0, none⟩)) ∧ ∃ (A' : Option Addr) (n c : Nat) (D' : Option Addr) (m k : Nat),
  Hid (RatIs w' g z A' n c d D' m k ∧ Fr w A' ∧ Fr w D') ∧ Tch g w w'
/-- A quotient's sign. -/
def qneg (x y : Int) : Bool := decide (x < 0) != decide (y < 0)
theorem br_SetFrac (g bx b2 : Nat) (x y : Int) (hy : y ≠ 0) (A : Option Addr) (n c : Nat) (D : Option Addr) (m k : Nat) (hn : n ≤ 400000) (hm : m ≤ 400000) (w : World) (hT : Tz w) (hr : RatRoom w g) (hx : IntIs w bx 0 x A n c) (hyy : IntIs w b2 0 y D m k) :
    Calls Tryz.prog 64 #[.pointer (some ⟨g, 0, none⟩), .pointer (some ⟨bx, 0, none⟩), .pointer (some ⟨b2, 0, none⟩)] w
      (FPost w g (sgn (qneg x y) (x.natAbs / Nat.gcd x.natAbs y.natAbs : Nat)) (lowD x.natAbs y.natAbs)) := by
  have HX := Lib.hid hx
  have HY := Lib.hid hyy
  have HR := Lib.hid hr
  have HT := Lib.hid hT
  have lx := hx.room.lt
  have x0 := hx.neg
  have x1 := hx.words
  have ly := hyy.room.lt
  have v0 := hyy.neg
  have v1 := hyy.words
  have hgl := hr.int.lt
  simp only [Nat.zero_add] at x1 v1
  clear hx hyy hr hT
  go_enter Tryz.func64, Tryz.ntmps64
  go_wp2
  refine wp_drawn_tail 20 (tab [(14, RWord w.heap.size x.natAbs), (19, RWord w.heap.size y.natAbs)]) (by kernel_rfl) (by kernel_rfl) (by kernel_rfl) (tab_stays (by simp [stays_word])) (fun hq hqf => ?_)
  simp only [List.take_succ_cons, List.take_zero, List.drop_succ_cons, List.drop_zero]
  have y0 := fun nq => (hq nq bx 0 lx).trans x0
  have y1 := fun nq => (hq nq bx 1 lx).trans x1
  have y2 := fun nq => (hq nq b2 0 ly).trans v0
  have y3 := fun nq => (hq nq b2 1 ly).trans v1
  iterate 14
    (refine wpK_det rfl (fun K hK => ?_)
     go_simp
     first
       | (refine hK _ ?_; clear hK K)
       | (apply Exists.intro; refine ⟨fun x => ?_, hK _ ?_⟩; (first | exact y0 x | exact y1 x | exact y2 x | exact y3 x | (simp [y0, y1, y2, y3]; rfl)); clear hK K))
  refine wpK_rel _ rfl rfl ?_ ?_
  · rintro _ ⟨nn, rfl⟩ _
    unfold Oper.relAt
    go_simp
    exact rel_copied _ _ _ _ _ (by omega) _ _ (ext_size nn.use) (HX.out.rd.ext nn.use)
  rintro v ⟨_, ⟨nn, rfl⟩, hr⟩
  obtain ⟨A9, k9, c9, rfl, -, -⟩ := hr
  clear nn
  iterate 4
    (refine wpK_det rfl (fun K hK => ?_)
     go_simp
     first
       | (refine hK _ ?_; clear hK K)
       | (apply Exists.intro; refine ⟨fun x => ?_, hK _ ?_⟩; (first | exact y0 x | exact y1 x | exact y2 x | exact y3 x | (simp [y0, y1, y2, y3]; rfl)); clear hK K))
  refine wpK_rel _ rfl rfl ?_ ?_
  · rintro _ ⟨nn, rfl⟩ _
    unfold Oper.relAt
    go_simp
    exact rel_copied _ _ _ _ _ (by omega) _ _ (ext_size nn.use) (HY.out.rd.ext nn.use)
  rintro v ⟨_, ⟨nn, rfl⟩, hr⟩
  obtain ⟨B9, m9, d9, rfl, -, -⟩ := hr
  clear nn
  refine wpK_nil ?_
  intro nq hG
  have r9 : RWord w.heap.size x.natAbs [] (.slice A9 k9 c9) nq.out := by have := hG.fact 14; simp [Facts.put] at this; exact this
  have s9 : RWord w.heap.size y.natAbs [] (.slice B9 m9 d9) nq.out := by have := hG.fact 19; simp [Facts.put] at this; exact this
  have hR9 := Lib.hid (rword_at r9)
  have hS9 := Lib.hid (rword_at s9)
  have hF9 : Fr w A9 := hR9.out.2
  have hF8 : Fr w B9 := hS9.out.2
  have hO9 := hF9.off hgl k9
  have hO8 := hF8.off hgl m9
  have l1 : k9 ≤ 400000 := by rw [← hR9.out.1.len, HX.out.rd.len]; exact hn
  have l2 : m9 ≤ 400000 := by rw [← hS9.out.1.len, HY.out.rd.len]; exact hm
  have hE := Lib.hid nq.use
  have hyn : y.natAbs ≠ 0 := by omega
  clear r9 s9 hG
  go_wp2_with (first
    | (go_at_call 119; (with_reducible refine (br_set g _ A9 k9 c9 x.natAbs B9 m9 d9 y.natAbs hyn l1 l2 _ (HT.out.ext hE.out) (HR.out.ext hE.out) hR9.out.1 hS9.out.1 hO9 hO8).mono ?_); rintro e w3 ⟨rfl, A3, n3, c3, D3, m3, k3, hI3, xt3⟩)
   )
  refine bodyPost_ret (v := .pointer (some ⟨g, 0, none⟩)) ?h rfl ⟨rfl, A3, n3, c3, D3, m3, k3, ⟨hI3.out.1, hI3.out.2 w hE.out hF9 hF8⟩, (Tch.of hE.out).trans xt3⟩
  case h => simp [results, Tryz.results64, go_sem]
end Go.Proofs.YtkhkoeibpkglkaaGreatDoor
end
section
/- Bytes of a number, the one of most worth first: the plain part. -/
namespace Go.Proofs.YtkhkoeibpkglkaaGreatDoor
set_option maxRecDepth 100000
/-- The last n bytes of a number, the one of most worth first. -/
def beB (n a : Nat) : List UInt8 := (List.range n).map fun i => UInt8.ofNat (a / 256 ^ (n - 1 - i) % 256)
theorem beB_length (n a : Nat) : (beB n a).length = n := by simp [beB]
theorem beB_getD {n a i : Nat} (h : i < n) : ((beB n a).getD i 0).toNat = a / 256 ^ (n - 1 - i) % 256 := by
  rw [List.getD_eq_getElem?_getD, List.getElem?_eq_getElem (by rw [beB_length]; exact h)]
  simp [beB]
theorem pow256 (q r : Nat) : 256 ^ (4 * q + r) = Bs ^ q * 256 ^ r := by rw [Nat.pow_add, Nat.pow_mul]
theorem or_byte {os : List Nat} (hb : Lb os) {q r c V : Nat} (hr : r < 4) (hq : q < os.length) (hv : val os = 256 ^ (4 * q + r + 1) * V) (hc : c < 256) {x : Nat} (hx : os.getD q 0 = x) :
    c * 2 ^ (8 * r) < 4294967296 ∧ (x ||| c * 2 ^ (8 * r)) = x + c * 2 ^ (8 * r) ∧ x + c * 2 ^ (8 * r) < 4294967296 ∧ val (os.set q (x + c * 2 ^ (8 * r))) = 256 ^ (4 * q + r) * (256 * V + c) ∧ Lb (os.set q (x + c * 2 ^ (8 * r))) := by
  have hxb : x < 4294967296 := by
    rw [← hx, List.getD_eq_getElem?_getD, List.getElem?_eq_getElem hq]; exact hb _ (List.getElem_mem hq)
  have hs : val os = val (os.take q) + Bs ^ q * (x + Bs * val (os.drop (q + 1))) := by
    have h1 : os = os.take q ++ (x :: os.drop (q + 1)) := by
      have h2 : os.drop q = x :: os.drop (q + 1) := by
        rw [List.drop_eq_getElem_cons hq]
        rw [List.getD_eq_getElem?_getD, List.getElem?_eq_getElem hq] at hx
        rw [← hx]; rfl
      rw [← h2, List.take_append_drop]
    conv => lhs; rw [h1]
    rw [val_append, List.length_take, Nat.min_eq_left (Nat.le_of_lt hq)]
    rfl
  have ht : val (os.take q) < Bs ^ q := by
    have := val_lt (os.take q) (fun y hy => hb y (List.mem_of_mem_take hy))
    rwa [List.length_take, Nat.min_eq_left (Nat.le_of_lt hq)] at this
  have hp : 0 < Bs ^ q := Nat.pow_pos (by decide)
  have he : 256 ^ (4 * q + r + 1) * V = Bs ^ q * (256 ^ (r + 1) * V) := by rw [Nat.add_assoc, pow256, Nat.mul_assoc]
  have h0 : x + Bs * val (os.drop (q + 1)) = 256 ^ (r + 1) * V := by
    have h1 : Bs ^ q * (256 ^ (r + 1) * V) = val (os.take q) + Bs ^ q * (x + Bs * val (os.drop (q + 1))) := by rw [← he, ← hv, hs]
    have h2 : (Bs ^ q * (256 ^ (r + 1) * V)) / Bs ^ q = (val (os.take q) + Bs ^ q * (x + Bs * val (os.drop (q + 1)))) / Bs ^ q := by rw [h1]
    rw [Nat.mul_div_cancel_left _ hp, Nat.add_mul_div_left _ _ hp, Nat.div_eq_of_lt ht, Nat.zero_add] at h2
    exact h2.symm
  obtain ⟨R, hR⟩ : ∃ R, R = val (os.drop (q + 1)) := ⟨_, rfl⟩
  rw [← hR] at h0
  unfold Bs at h0
  have hdiv : ∃ y, x = 2 ^ (8 * r + 8) * y ∧ 2 ^ (8 * r + 8) * y + 2 ^ (8 * r + 8) ≤ 4294967296 := by
    match r, hr with
    | 0, _ => exact ⟨x / 256, by simp at h0 ⊢; omega, by simp at h0 ⊢; omega⟩
    | 1, _ => exact ⟨x / 65536, by simp at h0 ⊢; omega, by simp at h0 ⊢; omega⟩
    | 2, _ => exact ⟨x / 16777216, by simp at h0 ⊢; omega, by simp at h0 ⊢; omega⟩
    | 3, _ => exact ⟨x / 4294967296, by simp at h0 ⊢; omega, by simp at h0 ⊢; omega⟩
  obtain ⟨y, hy, hyb⟩ := hdiv
  have hcs : c * 2 ^ (8 * r) < 2 ^ (8 * r + 8) := by
    rw [Nat.pow_add, Nat.mul_comm]; exact Nat.mul_lt_mul_of_pos_left hc (Nat.two_pow_pos _)
  have hlt : x + c * 2 ^ (8 * r) < 4294967296 := by omega
  refine ⟨by omega, ?_, hlt, ?_, ?_⟩
  · rw [hy, Nat.or_comm, or_add hcs]
  · have h1 := val_set os q (x + c * 2 ^ (8 * r)) hq
    rw [hx, hv, he] at h1
    have h2 : Bs ^ q * (x + c * 2 ^ (8 * r)) = Bs ^ q * x + Bs ^ q * (c * 2 ^ (8 * r)) := Nat.mul_add ..
    have h3 : 256 ^ (4 * q + r) * (256 * V + c) = Bs ^ q * (256 ^ (r + 1) * V) + Bs ^ q * (c * 2 ^ (8 * r)) := by
      rw [pow256, Nat.mul_assoc, Nat.mul_add, Nat.mul_add]
      congr 1
      · rw [Nat.pow_succ, Nat.mul_assoc]
      · rw [Nat.mul_comm c, Nat.pow_mul]
    omega
  · intro z hz
    rcases List.mem_or_eq_of_mem_set hz with h | h
    · exact hb z h
    · subst h; exact hlt
theorem byte_next (a k : Nat) : 256 * (a / 256 ^ (k + 1)) + a / 256 ^ k % 256 = a / 256 ^ k := by
  rw [Nat.pow_succ, ← Nat.div_div_eq_div_mul]
  exact Nat.div_add_mod _ _
theorem byte_of_limb (a q r : Nat) (hr : r < 4) : a / Bs ^ q % Bs / 2 ^ (8 * r) % 256 = a / 256 ^ (4 * q + r) % 256 := by
  rw [pow256, ← Nat.div_div_eq_div_mul]
  generalize a / Bs ^ q = D
  unfold Bs
  match r, hr with
  | 0, _ => simp <;> omega
  | 1, _ => simp <;> omega
  | 2, _ => simp <;> omega
  | 3, _ => simp <;> omega
theorem lim_bytes (a : Nat) : ((bitsOf a + 7) / 8 + 3) / 4 = (lim a).length ∧ a < 256 ^ ((bitsOf a + 7) / 8) := by
  by_cases h : a = 0
  · subst h; simp [bitsOf, lim_zero]
  · obtain ⟨h0, h1, h2⟩ := bitsOf_spec h
    obtain ⟨h3, h4⟩ := lim_len h
    have h5 := lim_lt a
    have e1 : ∀ k, Bs ^ k = 2 ^ (32 * k) := fun k => by rw [Nat.pow_mul]
    have e2 : ∀ k, 256 ^ k = 2 ^ (8 * k) := fun k => by rw [Nat.pow_mul]
    rw [e1] at h3 h5
    have h6 : 32 * ((lim a).length - 1) < bitsOf a := (Nat.pow_lt_pow_iff_right (a := 2) (by decide)).1 (Nat.lt_of_le_of_lt h3 h2)
    have h7 : bitsOf a - 1 < 32 * (lim a).length := (Nat.pow_lt_pow_iff_right (a := 2) (by decide)).1 (Nat.lt_of_le_of_lt (by first | exact h1 | (have := h1; rwa [Nat.pow_sub_one] at this) | skip) h5)
    refine ⟨by omega, ?_⟩
    rw [e2]
    exact Nat.lt_of_lt_of_le h2 (Nat.pow_le_pow_right (by decide) (by omega))
end Go.Proofs.YtkhkoeibpkglkaaGreatDoor
end
section
/- Whole numbers of the library's: out of bytes. -/
namespace Go.Proofs.YtkhkoeibpkglkaaGreatDoor
open Go.RowKit
attribute [local go_sem] sz2 sz3 sz4 sz5 sz6 sz7 sz8
set_option maxHeartbeats 4000000
set_option maxRecDepth 100000
attribute [local irreducible] Calls
attribute [local go_sem] Oper.detAt detUpon relUpon
theorem bi_Neg (b o bx ox : Nat) (A : Option Addr) (n c : Nat) (z : Int) (hn : n ≤ 1000000) (w : World) (hr : Room w b o) (hx : IntIs w bx ox z A n c) :
    Calls Tryz.prog 107 #[.pointer (some ⟨b, o, none⟩), .pointer (some ⟨bx, ox, none⟩)] w (IPost w b o (-z)) := by
  have HX := Lib.hid hx
  have HR := Lib.hid hr
  have lx := hx.room.lt
  have x0 := hx.neg
  have x1 := hx.words
  clear hx hr
  go_enter Tryz.func107, Tryz.ntmps107
  go_wp2
  refine wp_drawn_tail 11 (tab [(10, RWord w.heap.size z.natAbs)]) (by kernel_rfl) (by kernel_rfl) (by kernel_rfl) (tab_stays (by simp [stays_word])) (fun hq hqf => ?_)
  simp only [List.take_succ_cons, List.take_zero, List.drop_succ_cons, List.drop_zero]
  have y0 := fun nq => (hq nq bx ox lx).trans x0
  have y1 := fun nq => (hq nq bx (ox + 1) lx).trans x1
  iterate 10
    (refine wpK_det rfl (fun K hK => ?_)
     go_simp
     first
       | (refine hK _ ?_; clear hK K)
       | (apply Exists.intro; refine ⟨fun x => ?_, hK _ ?_⟩; (first | exact y0 x | exact y1 x | (simp [y0, y1]; rfl)); clear hK K))
  refine wpK_rel _ rfl rfl ?_ ?_
  · rintro _ ⟨nn, rfl⟩ _
    unfold Oper.relAt
    go_simp
    exact rel_copied _ _ _ _ _ hn _ _ (ext_size nn.use) (HX.out.rd.ext nn.use)
  rintro v ⟨_, ⟨nn, rfl⟩, hr⟩
  obtain ⟨A9, k9, c9, rfl, -, -⟩ := hr
  clear nn
  refine wpK_nil ?_
  intro nq2 hG
  have r9 : RWord w.heap.size z.natAbs [] (.slice A9 k9 c9) nq2.out := by have := hG.fact 10; simp [Facts.put] at this; exact this
  have hR9 := Lib.hid (rword_at r9)
  have hF9 : Fr w A9 := hR9.out.2
  have hO9 := hF9.off HR.out.lt k9
  clear r9 hG
  go_wp2_with (first
    | (go_at_call 117; (with_reducible refine (bi_set b o _ A9 k9 c9 z.natAbs _ (HR.out.ext nq2.use) hR9.out.1 hO9).mono ?_); rintro e w3 ⟨rfl, hI3, xt3⟩)
   )
  refine bodyPost_ret (v := .pointer (some ⟨b, o, none⟩)) ?h rfl ⟨rfl, A9, k9, c9, ⟨by have := hI3.out; rwa [sgn_neg] at this, hF9⟩, (Tch.of nq2.use).trans xt3⟩
  case h => simp [results, Tryz.results107, go_sem]
theorem bi_SetWords (b o : Nat) (A : Option Addr) (n c a : Nat) (hn : n ≤ 1000000) (w : World) (hr : Room w b o) (hA : Rd w A n c (lim a)) :
    Calls Tryz.prog 227 #[.pointer (some ⟨b, o, none⟩), .slice A n c] w (IPost w b o a) := by
  have HA := Lib.hid hA
  have HR := Lib.hid hr
  have hlt := hr.lt
  have hO : ∀ k, Off (some ⟨w.heap.size, 0, none⟩) k b := fun k x hx _ e => by cases hx; simp at e; omega
  clear hA hr
  go_enter Tryz.func227, Tryz.ntmps227
  go_wp2_with (first
    | (go_at_call 120; (with_reducible refine (bw_copied A n c (lim a) hn _ HA.out).mono ?_); rintro e w2 ⟨rfl, hR2, xb2⟩)
    | (go_at_call 117; (with_reducible refine (bi_set b o _ _ _ _ a _ (HR.out.ext xb2) hR2.out (hO _)).mono ?_); rintro e w3 ⟨rfl, hI3, xt3⟩)
   )
  refine bodyPost_ret (v := .pointer (some ⟨b, o, none⟩)) ?h rfl ⟨rfl, _, _, _, ⟨hI3.out, fun q hq => by cases hq; exact Nat.le_refl _⟩, (Tch.of xb2).trans xt3⟩
  case h => simp [results, Tryz.results227, go_sem]
end Go.Proofs.YtkhkoeibpkglkaaGreatDoor
end
section
/- Whole numbers of the library's: out of bytes. -/
namespace Go.Proofs.YtkhkoeibpkglkaaGreatDoor
open Go.RowKit
attribute [local go_sem] sz2 sz3 sz4 sz5 sz6 sz7 sz8
set_option maxHeartbeats 4000000
set_option maxRecDepth 100000
attribute [local irreducible] Calls
/-- Bytes that stand in a row of their own. -/
def ByAt (w : World) (g n : Nat) (l : List UInt8) : Prop := g < w.heap.size ∧ ∀ i, i < n → w.cell? ⟨g, i, none⟩ = some (.int .u8 ((l.getD i 0).toNat : Int))
theorem ByAt.ext {w w' : World} {g n : Nat} {l : List UInt8} (h : ByAt w g n l) (he : Ext w w') : ByAt w' g n l :=
  ⟨Nat.lt_of_lt_of_le h.1 he.size, fun i hi => (Below.cell (p := ⟨g, i, none⟩) he h.1).trans (h.2 i hi)⟩
theorem bi_SetBytes (b o g n a : Nat) (hn : n ≤ 1000000) (ha : a < 256 ^ n) (w : World) (hr : Room w b o) (hB : ByAt w g n (beB n a)) :
    Calls Tryz.prog 165 #[.pointer (some ⟨b, o, none⟩), .slice (some ⟨g, 0, none⟩) n n] w (IPost w b o a) := by
  have HR := Lib.hid hr
  have HB := Lib.hid hB
  have hO : ∀ k, Off (some ⟨w.heap.size, 0, none⟩) k b := fun k x hx _ e => by have := hr.lt; cases hx; simp at e; omega
  have hgl := hB.1
  obtain ⟨N, hN⟩ : ∃ N, N = (n + 3) / 4 := ⟨_, rfl⟩
  have e0 : ((n : Int) + 3) / 4 = (N : Int) := by omega
  have HN := Lib.hid (show 4 * N ≥ n ∧ 4 * N ≤ n + 3 by omega)
  have hN1 : N ≤ 1000000 := by omega
  have HA := Lib.hid ha
  clear hB hr hN ha
  go_enter Tryz.func165, Tryz.ntmps165
  go_wp2_with (first
    | (at_make; refine make_u32 rfl _ _ rfl _ _ _ _ N rfl rfl e0 e0 (by omega) ?_; intro w1 hx1 ho1; have hext1 := Lib.hid hx1; clear hx1)
   )
  go_loopw [16] (fun vi wr => ∃ (i : Nat) (os : List Nat), i ≤ n ∧ vi = .int .i64 (i : Int) ∧ Hid (os.length = N ∧ Lb os ∧ val os = 256 ^ (n - i) * (a / 256 ^ (n - i))) ∧
      Hid (wr.ownsRow w.heap.size 60 1 (.slice (some ⟨w.heap.size, 0, none⟩) N N) N (os.map u32V)) ∧ Hid (Ext w wr))
    (fun vi _ => n - (intOf vi).toNat)
  case atStart => exact ⟨0, List.replicate N 0, Nat.zero_le _, rfl, ⟨by simp, lb_replicate _, by rw [val_replicate, Nat.sub_zero, Nat.div_eq_of_lt HA.out, Nat.mul_zero]⟩, ho1.out, hext1.out⟩
  case round =>
    clear ho1 hext1
    obtain ⟨i, os, hi, rfl, hos, hown, hext⟩ := hrel
    by_cases h1 : i < n
    · obtain ⟨k, hk⟩ : ∃ k, k = n - 1 - i := ⟨_, rfl⟩
      obtain ⟨q, hq⟩ : ∃ q, q = k / 4 := ⟨_, rfl⟩
      obtain ⟨r, hr4⟩ : ∃ r, r = k % 4 := ⟨_, rfl⟩
      obtain ⟨c, hc⟩ : ∃ c, c = a / 256 ^ k % 256 := ⟨_, rfl⟩
      obtain ⟨s, hs⟩ : ∃ s, s = 8 * r := ⟨_, rfl⟩
      have hcell := (HB.out.ext hext.out).2 i h1
      rw [beB_getD h1, ← hk, ← hc] at hcell
      have hc256 : c < 256 := by rw [hc]; exact Nat.mod_lt _ (by decide)
      obtain ⟨x, hx⟩ : ∃ x, os.getD q 0 = x := ⟨_, rfl⟩
      have hqN : q < N := by have := HN.out; omega
      obtain ⟨hc1, hf1⟩ := own_at hown.out q hqN
      rw [hx] at hc1
      have hob := or_byte (V := a / 256 ^ (k + 1)) hos.out.2.1 (show r < 4 by omega) (by rw [hos.out.1]; exact hqN) (by rw [hos.out.2.2, show n - i = 4 * q + r + 1 by omega, show 4 * q + r + 1 = k + 1 by omega]) hc256 hx
      rw [show 4 * q + r = k by omega, hc, byte_next, ← hc, ← hs] at hob
      have e1 : (n : Int) - 1 - (i : Int) = (k : Int) := by omega
      have e2 : (k : Int) / 4 = (q : Int) := by omega
      have e3 : (k : Int) % 4 = (r : Int) := by omega
      have e4 : 8 * (r : Int) = (s : Int) := by omega
      have hs24 : s ≤ 24 := by omega
      have HOB := Lib.hid hob
      have hgl2 : w.heap.size < wr.heap.size := (hown.out.lt w.heap.size rfl).2
      clear hob hk hq hr4 hc hs
      go_wp2
      refine wp_aft_tail 13 (by kernel_rfl) (by kernel_rfl) (by kernel_rfl) (fun hq hqf => ?_)
      simp only [List.take_succ_cons, List.take_zero, List.drop_succ_cons, List.drop_zero]
      repeat (go_big_quiet_step (first | fail
        ))
      refine wpQuiet_nil ?_
      rintro _ ⟨nq, rfl⟩
      have xl := ext_lt nq.use
      have xz := ext_size nq.use
      try simp at xz
      have y1 := (hq nq w.heap.size q hgl2).trans hc1
      have y2 := (hqf nq w.heap.size q hgl2).trans hf1
      clear hq hqf
      have hE2 := Lib.hid nq.use
      have hor : Hid (bits BinOp.or IntKind.u32 (x : Int) ((c : Int) * 2 ^ s % 4294967296) = ((x + c * 2 ^ s : Nat) : Int)) := by
        obtain ⟨o1, o2, o3, -, -⟩ := HOB.out
        have e5 : (c : Int) * 2 ^ s % 4294967296 = ((c * 2 ^ s : Nat) : Int) := by
          have : (c : Int) * 2 ^ s = ((c * 2 ^ s : Nat) : Int) := by simp
          rw [this]; omega
        show _ = _
        rw [e5, bits_or32 _ _ (by omega) o1, o2]
      go_wp2
      case roundEnd =>
        refine ⟨⟨i + 1, os.set q (x + c * 2 ^ s), by omega, by simp, ⟨by simp [hos.out.1], HOB.out.2.2.2.2, ?_⟩, ?_, ?_⟩, ?_⟩
        · rw [HOB.out.2.2.2.1, show n - (i + 1) = k by omega]
        · show World.ownsRow _ _ _ _ _ _ _
          rw [hor.out]
          exact own_set (own_ext hown.out hE2.out) _ _
        · exact ext_setCell (ext_trans hext.out hE2.out) (Nat.le_refl _) _
        · simp [intOf]; omega
    · obtain rfl : i = n := by omega
      have hv : val os = a := by rw [hos.out.2.2, Nat.sub_self, Nat.pow_zero, Nat.div_one, Nat.one_mul]
      have hT := bw_trim_own hown.out hos.out.2.1 hv
      have hE := hext.out
      clear hv
      go_wp2_with (first
        | (go_at_call 180; (with_reducible refine hT.mono ?_); rintro e w' ⟨⟨j, rfl, hR⟩, rfl⟩)
        | (go_at_call 227; (with_reducible refine (bi_SetWords b o _ j N a (by have := hR.out.cap; omega) _ (HR.out.ext hE) hR.out).mono ?_); rintro e w3 ⟨rfl, A3, n3, c3, hI3, xt3⟩)
       )
      refine bodyPost_ret (v := .pointer (some ⟨b, o, none⟩)) ?h rfl ⟨rfl, A3, n3, c3, ⟨hI3.out.1, Fr.mono hI3.out.2 hE⟩, (Tch.of hE).trans xt3⟩
      case h => simp [results, Tryz.results165, go_sem]
end Go.Proofs.YtkhkoeibpkglkaaGreatDoor
end
section
/- Whole numbers of the library's: out of limbs. -/
namespace Go.Proofs.YtkhkoeibpkglkaaGreatDoor
open Go.RowKit
attribute [local go_sem] sz2 sz3 sz4 sz5 sz6 sz7 sz8
set_option maxHeartbeats 4000000
set_option maxRecDepth 100000
attribute [local irreducible] Calls
theorem bV_ofNat (x : Nat) : bV (UInt8.ofNat (x % 256)) = .int .u8 ((x : Int) % 256) := by
  simp [bV]
theorem ofNat_byte (x : Nat) : (UInt8.ofNat (x % 256)).toNat = x % 256 := by simp
theorem getD_set8 {l : List UInt8} {i j : Nat} {y : UInt8} (hi : i < l.length) : (l.set i y).getD j 0 = if i = j then y else l.getD j 0 := by
  rw [List.getD_eq_getElem?_getD, List.getD_eq_getElem?_getD, List.getElem?_set]
  by_cases h : i = j
  · subst h; simp [hi]
  · simp [h]
theorem ra_whole (A : Option Addr) (n c a : Nat) (hn : n ≤ 200000) (w : World) (hA : Rd w A n c (lim a)) :
    Calls Tryz.prog 106 #[natV A n c] w fun e w' => ∃ (b : Nat) (B : Option Addr) (k d : Nat), e = .returned (.pointer (some ⟨b, 0, none⟩)) ∧ Hid (IntIs w' b 0 a B k d ∧ Fr w B) ∧ w.heap.size ≤ b ∧ Ext w w' := by
  have hmx := hA.mx
  have hcx := hA.cap
  have HA := Lib.hid hA
  have HL := Lib.hid (show a < 256 ^ (4 * n) by have := lim_lt a; rw [hA.len] at this; rw [Nat.pow_mul]; exact this)
  clear hA
  go_enter Tryz.func106, Tryz.ntmps106
  go_wp2_with (first
    | (at_make; refine make_u8 rfl _ _ rfl _ _ _ _ (4 * n) rfl rfl (by simp) (by simp) (by omega) ?_; intro w1 hx1 ho1; have hext1 := Lib.hid hx1; have cb : w1.cell? ⟨w.heap.size, 0, none⟩ = some (.slice A n c) := (Below.cell (p := ⟨w.heap.size, 0, none⟩) hx1 (by simp)).trans (by simp [go_sem]); clear hx1)
   )
  have hG : (w.alloc (Obj.cells #[Value.slice A n c] 31)).heap.size = w.heap.size + 1 := by simp
  rw [hG] at ho1
  have hE0 := Lib.hid (ext_trans (ext_alloc (ext_refl w) _) hext1.out)
  clear hG hext1
  go_loopw [15] (fun vi wr => ∃ (i : Nat) (l : List UInt8), i ≤ n ∧ vi = .int .i64 (i : Int) ∧ Hid (l.length = 4 * n ∧ ∀ p, p < 4 * n → 4 * n ≤ p + 4 * i → (l.getD p 0).toNat = a / 256 ^ (4 * n - 1 - p) % 256) ∧
      Hid (wr.ownsRow (w.heap.size + 1) 5 1 (.slice (some ⟨w.heap.size + 1, 0, none⟩) (4 * n) (4 * n)) (4 * n) (l.map bV)) ∧ Hid (Ext w wr) ∧ wr.cell? ⟨w.heap.size, 0, none⟩ = some (.slice A n c))
    (fun vi _ => n - (intOf vi).toNat)
  case atStart => exact ⟨0, List.replicate (4 * n) 0, Nat.zero_le _, rfl, ⟨by simp, fun p h1 h2 => by omega⟩, ho1.out, hE0.out, cb⟩
  case round =>
    clear ho1 hE0 cb
    obtain ⟨i, l, hi, rfl, hl, hown, hext, cb⟩ := hrel
    by_cases h1 : i < n
    · obtain ⟨bx, ox, hXe⟩ : ∃ b off, A = some ⟨b, off, none⟩ := by
        rcases HA.out.shape with ⟨_, h, _⟩ | h
        · omega
        · exact h
      subst hXe
      obtain ⟨x, hx, hxb, hcx1⟩ := (HA.out.ext hext.out).get i h1
      have hlt : w.heap.size < wr.heap.size := by have : w.heap.size + 1 < wr.heap.size := (hown.out.lt _ rfl).2; omega
      obtain ⟨t, ht⟩ : ∃ t, t = 4 * n - 4 * i := ⟨_, rfl⟩
      obtain ⟨t1, ht1⟩ : ∃ u, u = t - 1 := ⟨_, rfl⟩
      obtain ⟨t2, ht2⟩ : ∃ u, u = t - 2 := ⟨_, rfl⟩
      obtain ⟨t3, ht3⟩ : ∃ u, u = t - 3 := ⟨_, rfl⟩
      obtain ⟨t4, ht4⟩ : ∃ u, u = t - 4 := ⟨_, rfl⟩
      have et : 4 * (n : Int) - 4 * (i : Int) = (t : Int) := by omega
      have e1 : (t : Int) - 1 = (t1 : Int) := by omega
      have e2 : (t : Int) - 2 = (t2 : Int) := by omega
      have e3 : (t : Int) - 3 = (t3 : Int) := by omega
      have e4 : (t : Int) - 4 = (t4 : Int) := by omega
      have b1 : t1 < 4 * n := by omega
      have b2 : t2 < 4 * n := by omega
      have b3 : t3 < 4 * n := by omega
      have b4 : t4 < 4 * n := by omega
      have b5 : t ≤ 4 * n := by omega
      obtain ⟨c1, f1⟩ := ownb_at hown.out t1 b1
      obtain ⟨c2, f2⟩ := ownb_at hown.out t2 b2
      obtain ⟨c3, f3⟩ := ownb_at hown.out t3 b3
      obtain ⟨c4, f4⟩ := ownb_at hown.out t4 b4
      have d12 : ¬ t1 = t2 := by omega
      have d13 : ¬ t1 = t3 := by omega
      have d14 : ¬ t1 = t4 := by omega
      have d23 : ¬ t2 = t3 := by omega
      have d24 : ¬ t2 = t4 := by omega
      have d34 : ¬ t3 = t4 := by omega
      have HT := Lib.hid (show t = 4 * n - 4 * i ∧ t1 = t - 1 ∧ t2 = t - 2 ∧ t3 = t - 3 ∧ t4 = t - 4 ∧ 4 ≤ t by omega)
      clear ht ht1 ht2 ht3 ht4
      go_wp2
      case roundEnd =>
        obtain ⟨ht, ht1, ht2, ht3, ht4, ht5⟩ := HT.out
        have hlim : x = a / Bs ^ i % Bs := by rw [← limb_at]; exact hx.out.symm
        have lb : ∀ r, r < 4 → x / 2 ^ (8 * r) % 256 = a / 256 ^ (4 * i + r) % 256 := fun r hr => by rw [hlim, byte_of_limb _ _ _ hr]
        have v1 : Value.int IntKind.u8 ((x : Int) % 256) = bV (UInt8.ofNat (x % 256)) := (bV_ofNat x).symm
        have v2 : Value.int IntKind.u8 ((x : Int) / 256 % 256) = bV (UInt8.ofNat (x / 256 % 256)) := by rw [bV_ofNat]; simp
        have v3 : Value.int IntKind.u8 ((x : Int) / 65536 % 256) = bV (UInt8.ofNat (x / 65536 % 256)) := by rw [bV_ofNat]; simp
        have v4 : Value.int IntKind.u8 ((x : Int) / 16777216) = bV (UInt8.ofNat (x / 16777216 % 256)) := by
          have e : ((x / 16777216 : Nat) : Int) % 256 = (x : Int) / 16777216 := by omega
          rw [bV_ofNat, e]
        rw [v1, v2, v3, v4]
        refine ⟨⟨i + 1, (((l.set t1 (UInt8.ofNat (x % 256))).set t2 (UInt8.ofNat (x / 256 % 256))).set t3 (UInt8.ofNat (x / 65536 % 256))).set t4 (UInt8.ofNat (x / 16777216 % 256)), by omega, by simp, ⟨by simp [hl.out.1], fun p hp hq => ?_⟩, ?_, ?_, ?_⟩, ?_⟩
        · have hlen := hl.out.1
          rw [getD_set8 (by simp [hlen]; omega), getD_set8 (by simp [hlen]; omega), getD_set8 (by simp [hlen]; omega), getD_set8 (by omega)]
          by_cases p4 : t4 = p
          · rw [if_pos p4, ofNat_byte]
            have := lb 3 (by omega)
            rw [show 4 * n - 1 - p = 4 * i + 3 by omega, ← this]
          · rw [if_neg p4]
            by_cases p3 : t3 = p
            · rw [if_pos p3, ofNat_byte]
              have := lb 2 (by omega)
              rw [show 4 * n - 1 - p = 4 * i + 2 by omega, ← this]
            · rw [if_neg p3]
              by_cases p2 : t2 = p
              · rw [if_pos p2, ofNat_byte]
                have := lb 1 (by omega)
                rw [show 4 * n - 1 - p = 4 * i + 1 by omega, ← this]
              · rw [if_neg p2]
                by_cases p1 : t1 = p
                · rw [if_pos p1, ofNat_byte]
                  have := lb 0 (by omega)
                  rw [show 4 * n - 1 - p = 4 * i + 0 by omega, ← this]; simp
                · rw [if_neg p1]
                  exact hl.out.2 p hp (by omega)
        · exact ownb_set (ownb_set (ownb_set (ownb_set hown.out _ _) _ _) _ _) _ _
        · exact ext_setCell (ext_setCell (ext_setCell (ext_setCell hext.out (by simp) _) (by simp) _) (by simp) _) (by simp) _
        · have fr : ∀ (W : World) (p : Nat) (u : Value), (W.setCell ⟨w.heap.size + 1, p, none⟩ u).cell? ⟨w.heap.size, 0, none⟩ = W.cell? ⟨w.heap.size, 0, none⟩ := fun W p u => World.cell?_setCell_other _ _ _ _ (by intro e; simp at e)
          rw [fr, fr, fr, fr]; exact cb
        · simp [intOf]; omega
    · obtain rfl : i = n := by omega
      have hby : Hid (ByAt wr (w.heap.size + 1) (4 * i) (beB (4 * i) a)) := by
        refine ⟨(hown.out.lt _ rfl).2, fun p hp => ?_⟩
        rw [(ownb_at hown.out p hp).1, hl.out.2 p hp (by omega), beB_getD hp]
      have hsz := (hown.out.lt _ rfl).2
      have hroom : Room (wr.alloc (Obj.cells #[.bool false, .slice none 0 0] 102)) wr.heap.size 0 := ⟨by simp, ⟨_, by simp [go_sem]; rfl⟩, ⟨_, by simp [go_sem]; rfl⟩, by simp [go_sem], by simp [go_sem]⟩
      have HRM := Lib.hid hroom
      clear hroom
      go_wp2_with (first
        | (go_at_call 165; (with_reducible refine (bi_SetBytes _ 0 _ (4 * i) a (by omega) HL.out _ HRM.out (hby.out.ext (ext_alloc (ext_refl _) _))).mono ?_); rintro e w3 ⟨rfl, A3, n3, c3, hI3, xt3⟩)
       )
      have hEE := Lib.hid (xt3.ext (ext_alloc hext.out _) (ext_size hext.out))
      refine bodyPost_ret (v := .pointer (some ⟨wr.heap.size, 0, none⟩)) ?h rfl ⟨_, A3, n3, c3, rfl, ⟨hI3.out.1, Fr.mono hI3.out.2 (ext_alloc hext.out _)⟩, ext_size hext.out, hEE.out⟩
      case h => simp [results, Tryz.results106, go_sem]
end Go.Proofs.YtkhkoeibpkglkaaGreatDoor
end
section
/- Fractions of the library's: above and below the line; bytes, limbs. -/
namespace Go.Proofs.YtkhkoeibpkglkaaGreatDoor
open Go.RowKit
attribute [local go_sem] sz2 sz3 sz4 sz5 sz6 sz7 sz8
set_option maxHeartbeats 4000000
set_option maxRecDepth 100000
attribute [local irreducible] Calls
/-- A whole number in a block of its own. -/
abbrev NPost (w : World) (z : Int) : Ending → World → Prop := fun e w' => ∃ (b : Nat) (B : Option Addr) (k l : Nat), e = .returned (.pointer (some ⟨b, 0, none⟩)) ∧ Hid (IntIs w' b 0 z B k l ∧ Fr w B) ∧ w.heap.size ≤ b ∧ Ext w w'
theorem int_room (w : World) : Room (w.alloc (Obj.cells #[.bool false, .slice none 0 0] 102)) w.heap.size 0 :=
  ⟨by simp, ⟨_, by simp [go_sem]; rfl⟩, ⟨_, by simp [go_sem]; rfl⟩, by simp [go_sem], by simp [go_sem]⟩
theorem br_Num (g : Nat) (z : Int) (A : Option Addr) (n c d : Nat) (D : Option Addr) (m e : Nat) (hn : n ≤ 1000000) (w : World) (hx : RatIs w g z A n c d D m e) :
    Calls Tryz.prog 122 #[.pointer (some ⟨g, 0, none⟩)] w (NPost w z) := by
  have HX := Lib.hid hx
  clear hx
  have hrm := Lib.hid (int_room w)
  go_enter Tryz.func122, Tryz.ntmps122
  go_wp2_with (first
    | (go_at_call 118; (with_reducible refine (bi_Set w.heap.size 0 g 0 A n c z hn _ hrm.out (HX.out.int.ext (ext_alloc (ext_refl _) _))).mono ?_); rintro e w3 ⟨rfl, A3, n3, c3, hI3, xt3⟩)
   )
  have hEE := Lib.hid (xt3.ext (ext_alloc (ext_refl w) _) (Nat.le_refl _))
  refine bodyPost_ret (v := .pointer (some ⟨w.heap.size, 0, none⟩)) ?h rfl ⟨_, A3, n3, c3, rfl, ⟨hI3.out.1, Fr.mono hI3.out.2 (ext_alloc (ext_refl w) _)⟩, Nat.le_refl _, hEE.out⟩
  case h => simp [results, Tryz.results122, go_sem]
theorem br_below (g : Nat) (z : Int) (A : Option Addr) (n c d : Nat) (D : Option Addr) (m e : Nat) (w : World) (hx : RatIs w g z A n c d D m e) :
    Calls Tryz.prog 183 #[.pointer (some ⟨g, 0, none⟩)] w fun e' w' => ∃ (B : Option Addr) (k l : Nat), e' = .returned (.slice B k l) ∧ Hid (Rd w' B k l (lim (denOf d)) ∧ (B = D ∨ Fr w B)) ∧ Ext w w' := by
  by_cases hd : d = 0
  · subst hd
    refine (br_below_new g z A n c D m e w hx).mono ?_
    rintro e w' ⟨rfl, h1, h2⟩
    exact ⟨_, _, _, rfl, ⟨h1.out, .inr (fun q hq => by cases hq; exact Nat.le_refl _)⟩, h2⟩
  · refine (br_below_old g z A n c d hd D m e w hx).mono ?_
    rintro e w' ⟨rfl, h1⟩
    exact ⟨_, _, _, rfl, ⟨by unfold denOf; rw [if_neg hd]; exact hx.rd.ext h1, .inl rfl⟩, h1⟩
theorem denOf_len {d m : Nat} (h : (lim d).length = m) : (lim (denOf d)).length ≤ m + 1 := by
  unfold denOf
  split
  · rw [lim_one (by decide) (by decide)]; simp
  · omega
theorem br_Denom (g : Nat) (z : Int) (A : Option Addr) (n c d : Nat) (D : Option Addr) (m e : Nat) (hm : m ≤ 900000) (w : World) (hx : RatIs w g z A n c d D m e) :
    Calls Tryz.prog 123 #[.pointer (some ⟨g, 0, none⟩)] w (NPost w (denOf d : Nat)) := by
  have HX := Lib.hid hx
  have hld := denOf_len hx.rd.len
  clear hx
  have hrm := Lib.hid (int_room w)
  have hO : ∀ W' : World, w.heap.size < W'.heap.size → ∀ k, Off (some ⟨W'.heap.size, 0, none⟩) k w.heap.size := fun W' h k x hx _ e => by cases hx; simp at e; omega
  go_enter Tryz.func123, Tryz.ntmps123
  go_wp2_with (first
    | (go_at_call 183; (with_reducible refine (br_below g z A n c d D m e _ (HX.out.ext (ext_alloc (ext_refl _) _))).mono ?_); rintro e w3 ⟨B3, k3, l3, rfl, hB3, xb3⟩; have hl3 : w.heap.size < w3.heap.size := ext_lt xb3 _ (by simp); have hk3 : k3 ≤ 1000000 := by (have := hB3.out.1.len; omega))
    | (go_at_call 120; (with_reducible refine (bw_copied B3 k3 l3 _ hk3 _ hB3.out.1).mono ?_); rintro e w4 ⟨rfl, hR4, xb4⟩)
    | (go_at_call 117; (with_reducible refine (bi_set w.heap.size 0 false _ k3 k3 (denOf d) _ ((hrm.out.ext xb3).ext xb4) hR4.out (hO w3 hl3 _)).mono ?_); rintro e w5 ⟨rfl, hI5, xt5⟩)
   )
  have hE4 := ext_trans (ext_trans (ext_alloc (ext_refl w) _) xb3) xb4
  have hEE := Lib.hid (xt5.ext hE4 (Nat.le_refl _))
  refine bodyPost_ret (v := .pointer (some ⟨w.heap.size, 0, none⟩)) ?h rfl ⟨_, _, _, _, rfl, ⟨hI5.out, fun q hq => by cases hq; exact Nat.le_of_lt hl3⟩, Nat.le_refl _, hEE.out⟩
  case h => simp [results, Tryz.results123, go_sem]
theorem bi_BitLen (b o : Nat) (z : Int) (A : Option Addr) (n c : Nat) (hn : n ≤ 1000000) (w : World) (hx : IntIs w b o z A n c) :
    Calls Tryz.prog 76 #[.pointer (some ⟨b, o, none⟩)] w fun e w' => e = .returned (.int .i64 (bitsOf z.natAbs : Nat)) ∧ Ext w w' := by
  have HX := Lib.hid hx
  have x1 := hx.words
  clear hx
  go_enter Tryz.func76, Tryz.ntmps76
  go_wp2_with (first
    | (go_at_call 134; (with_reducible refine (bw_bitLen A n c z.natAbs hn _ HX.out.rd).mono ?_); rintro e w2 ⟨rfl, xb2⟩)
   )
  refine bodyPost_ret (v := .int .i64 ↑(bitsOf z.natAbs)) ?h rfl ⟨rfl, xb2⟩
  case h => simp [results, Tryz.results76, go_sem]
theorem ra_long (b o : Nat) (z : Int) (A : Option Addr) (n c : Nat) (hn : n ≤ 1000000) (w : World) (hx : IntIs w b o z A n c) :
    Calls Tryz.prog 121 #[.pointer (some ⟨b, o, none⟩)] w fun e w' => e = .returned (.bool (decide ((524288 : Int) < (bitsOf z.natAbs : Nat)))) ∧ Ext w w' := by
  have HX := Lib.hid hx
  clear hx
  go_enter Tryz.func121, Tryz.ntmps121
  go_wp2_with (first
    | (go_at_call 76; (with_reducible refine (bi_BitLen b o z A n c hn _ HX.out).mono ?_); rintro e w2 ⟨rfl, xb2⟩)
   )
  refine bodyPost_ret (v := .bool (decide ((524288:Int) < ↑(bitsOf z.natAbs)))) ?h rfl ⟨rfl, xb2⟩
  case h => simp [results, Tryz.results121, go_sem]
end Go.Proofs.YtkhkoeibpkglkaaGreatDoor
end
section
/- Rows of limbs of a call's own, whole. -/
namespace Go.Proofs.YtkhkoeibpkglkaaGreatDoor
open Go.RowKit
theorem own_zero {w : World} {base : Nat} {e : TypeId} {size : Nat} {v : Value} {n : Nat} {xs : List Value} (h : w.ownsRow base e size v n xs) : w.ownsRow 0 e size v n xs := by
  obtain ⟨h1, h2⟩ := h
  refine ⟨h1, ?_⟩
  rcases h2 with h2 | ⟨g, cap, cur, rfl, _, h3⟩
  · exact .inl h2
  · exact .inr ⟨g, cap, cur, rfl, Nat.zero_le _, h3⟩
theorem own_still {w w' : World} {e : TypeId} {size : Nat} {A : Option Addr} {c m n : Nat} {xs : List Value} (h : w.ownsRow 0 e size (.slice A m c) n xs) (hb : ∀ a, A = some a → w'.heap[a.block]? = w.heap[a.block]?) : w'.ownsRow 0 e size (.slice A m c) n xs := by
  obtain ⟨h1, h2⟩ := h
  refine ⟨h1, ?_⟩
  rcases h2 with h2 | ⟨g, cap, cur, he, h0, h3, h4⟩
  · exact .inl h2
  · refine .inr ⟨g, cap, cur, he, h0, ?_, h4⟩
    have := hb ⟨g, 0, none⟩ (by simp only [Value.slice.injEq] at he; exact he.1)
    exact this.trans h3
theorem own_lt {w : World} {e : TypeId} {size : Nat} {A : Option Addr} {c m n : Nat} {xs : List Value} (h : w.ownsRow 0 e size (.slice A m c) n xs) {a : Addr} (ha : A = some a) : a.block < w.heap.size := by
  subst ha
  exact (h.lt a.block rfl).2
/-- A slice that reads as these limbs, whose row is nobody else's; its block is none of Z's. -/
structure RdO (w : World) (A : Option Addr) (n c : Nat) (xs : List Nat) (Z : Option Addr) : Prop extends Rd w A n c xs where
  own : w.ownsRow 0 60 1 (.slice A n c) n (xs.map u32V)
  apt : ∀ a z, A = some a → Z = some z → a.block ≠ z.block
  full : c = n
instance rdoRd (w : World) (A : Option Addr) (n c : Nat) (xs : List Nat) (Z : Option Addr) : CoeOut (RdO w A n c xs Z) (Rd w A n c xs) := ⟨RdO.toRd⟩
theorem RdO.ext {w w' : World} {A : Option Addr} {n c : Nat} {xs : List Nat} {Z : Option Addr} (h : RdO w A n c xs Z) (he : Ext w w') : RdO w' A n c xs Z :=
  ⟨h.toRd.ext he, own_still h.own (fun a ha => he.block _ (own_lt h.own ha)), h.apt, h.full⟩
theorem RdO.set {w : World} {A : Option Addr} {n c : Nat} {xs : List Nat} {Z : Option Addr} (h : RdO w A n c xs Z) {p : Addr} (u : Value) (hne : ∀ a, A = some a → p.block < a.block) : RdO (w.setCell p u) A n c xs Z :=
  ⟨h.toRd.set u hne, own_still h.own (fun a ha => Go.Deep.blk_setCell_other w p u a.block (Nat.ne_of_gt (hne a ha))), h.apt, h.full⟩
theorem RdO.tch {b : Nat} {w w' : World} {A : Option Addr} {n c : Nat} {xs : List Nat} {Z : Option Addr} (h : RdO w A n c xs Z) (ht : Tch b w w') (ho : ∀ a, A = some a → a.block ≠ b) : RdO w' A n c xs Z :=
  ⟨h.toRd.tch ht (fun a ha _ => ho a ha), own_still h.own (fun a ha => ht.block _ (own_lt h.own ha) (ho a ha)), h.apt, h.full⟩
theorem RdO.weak {w : World} {A : Option Addr} {n c : Nat} {xs : List Nat} {Z : Option Addr} (h : RdO w A n c xs none) (hz : ∀ a z, A = some a → Z = some z → a.block ≠ z.block) : RdO w A n c xs Z := ⟨h.toRd, h.own, hz, h.full⟩
theorem RdO.set3 {w : World} {A : Option Addr} {n c : Nat} {xs : List Nat} {Z : Option Addr} (h : RdO w A n c xs Z) {b : Nat} (hne : ∀ a, A = some a → b < a.block) (v0 v1 v2 : Value) : RdO (((w.setCell ⟨b, 0, none⟩ v0).setCell ⟨b, 1, none⟩ v1).setCell ⟨b, 2, none⟩ v2) A n c xs Z :=
  ((h.set v0 hne).set v1 hne).set v2 hne
end Go.Proofs.YtkhkoeibpkglkaaGreatDoor
end
section
/- Whole numbers of the library's: told in bytes and in limbs. -/
namespace Go.Proofs.YtkhkoeibpkglkaaGreatDoor
open Go.RowKit
attribute [local go_sem] sz2 sz3 sz4 sz5 sz6 sz7 sz8
set_option maxHeartbeats 4000000
set_option maxRecDepth 100000
attribute [local irreducible] Calls
theorem bi_Bytes (b o : Nat) (z : Int) (A : Option Addr) (n c : Nat) (hn : n ≤ 1000000) (w : World) (hx : IntIs w b o z A n c) :
    Calls Tryz.prog 184 #[.pointer (some ⟨b, o, none⟩)] w fun e w' => ∃ g, e = .returned (.slice (some ⟨g, 0, none⟩) ((bitsOf z.natAbs + 7) / 8) ((bitsOf z.natAbs + 7) / 8)) ∧ Hid (ByAt w' g ((bitsOf z.natAbs + 7) / 8) (beB ((bitsOf z.natAbs + 7) / 8) z.natAbs)) ∧ w.heap.size ≤ g ∧ Ext w w' := by
  obtain ⟨a, ha⟩ : ∃ a, a = z.natAbs := ⟨_, rfl⟩
  obtain ⟨tb, htb⟩ : ∃ t, t = bitsOf a := ⟨_, rfl⟩
  obtain ⟨N, hN⟩ : ∃ N, N = (tb + 7) / 8 := ⟨_, rfl⟩
  have HX := Lib.hid hx
  have x1 := hx.words
  have lx := hx.room.lt
  have hbl : ∀ w', Ext w w' → Calls Tryz.prog 76 #[.pointer (some ⟨b, o, none⟩)] w' fun e w'' => e = .returned (.int .i64 (tb : Int)) ∧ Ext w' w'' := fun w' he => by
    have := bi_BitLen b o z A n c hn w' (HX.out.ext he); rwa [← ha, ← htb] at this
  have hR := Lib.hid hx.rd
  have hlen := hx.rd.len
  rw [← ha] at hR hlen ⊢
  have hlb := lim_bytes a
  rw [← htb, ← hN] at hlb
  rw [← htb, ← hN]
  have hNn : (N + 3) / 4 = n := by rw [← hlen]; exact hlb.1
  have hN2 : N ≤ 4 * n := by omega
  have eN : ((tb : Int) + 7) / 8 = (N : Int) := by omega
  have htb2 : tb ≤ 40000000 := by omega
  clear hx ha htb hN hlb hlen
  go_enter Tryz.func184, Tryz.ntmps184
  go_wp2_with (first
    | (go_at_call 76; (with_reducible refine (hbl _ (ext_refl _)).mono ?_); rintro e w0 ⟨rfl, xb0⟩)
    | (at_make; refine make_u8 rfl _ _ rfl _ _ _ _ N rfl rfl eN eN (by omega) ?_; intro w1 hx1 ho1; have hext1 := Lib.hid hx1; clear hx1)
   )
  have hE1 := Lib.hid (ext_trans xb0 hext1.out)
  have hg0 : w.heap.size ≤ w0.heap.size := ext_size xb0
  obtain ⟨g, hgg⟩ : ∃ g, g = w0.heap.size := ⟨_, rfl⟩
  rw [← hgg] at ho1 hg0 ⊢
  clear xb0 hext1 hgg
  go_loopw [13] (fun vi wr => ∃ (i : Nat) (l : List UInt8), i ≤ N ∧ vi = .int .i64 (i : Int) ∧ Hid (l.length = N ∧ ∀ p, p < i → (l.getD p 0).toNat = a / 256 ^ (N - 1 - p) % 256) ∧
      Hid (wr.ownsRow g 5 1 (.slice (some ⟨g, 0, none⟩) N N) N (l.map bV)) ∧ Hid (Ext w wr))
    (fun vi _ => N - (intOf vi).toNat)
  case atStart => exact ⟨0, List.replicate N 0, Nat.zero_le _, rfl, ⟨by simp, fun p h => by omega⟩, ho1.out, hE1.out⟩
  case round =>
    clear ho1 hE1
    obtain ⟨i, l, hi, rfl, hl, hown, hext⟩ := hrel
    by_cases h1 : i < N
    · obtain ⟨bx, ox, hXe⟩ : ∃ b off, A = some ⟨b, off, none⟩ := by
        rcases hR.out.shape with ⟨_, h, _⟩ | h
        · omega
        · exact h
      subst hXe
      obtain ⟨k, hk⟩ : ∃ k, k = N - 1 - i := ⟨_, rfl⟩
      obtain ⟨q, hq⟩ : ∃ q, q = k / 4 := ⟨_, rfl⟩
      obtain ⟨r, hr4⟩ : ∃ r, r = k % 4 := ⟨_, rfl⟩
      obtain ⟨s, hs⟩ : ∃ s, s = 8 * r := ⟨_, rfl⟩
      have hqn : q < n := by omega
      obtain ⟨x, hx, hxb, hcx1⟩ := (hR.out.ext hext.out).get q hqn
      have xw := (Below.cell (p := ⟨b, o + 1, none⟩) hext.out lx).trans x1
      have hgl : g < wr.heap.size := (hown.out.lt _ rfl).2
      obtain ⟨hc1, hf1⟩ := ownb_at hown.out i h1
      have e1 : (N : Int) - 1 - (i : Int) = (k : Int) := by omega
      have e2 : (k : Int) / 4 = (q : Int) := by omega
      have e3 : (k : Int) % 4 = (r : Int) := by omega
      have e4 : 8 * (r : Int) = (s : Int) := by omega
      have hs24 : s ≤ 24 := by omega
      have hxl : x = a / Bs ^ q % Bs := by rw [← limb_at]; exact hx.out.symm
      have hcc : x / 2 ^ s % 256 = a / 256 ^ k % 256 := by
        rw [hxl, hs, byte_of_limb _ _ _ (by omega), show 4 * q + r = k by omega]
      have HCC := Lib.hid hcc
      have HK := Lib.hid hk
      clear hcc hk hq hr4 hs hxl
      go_wp2
      case roundEnd =>
        have v1 : Value.int IntKind.u8 ((x : Int) / 2 ^ s % 256) = bV (UInt8.ofNat (x / 2 ^ s % 256)) := by rw [bV_ofNat]; simp
        rw [v1]
        refine ⟨⟨i + 1, l.set i (UInt8.ofNat (x / 2 ^ s % 256)), by omega, by simp, ⟨by simp [hl.out.1], fun p hp => ?_⟩, ?_, ?_⟩, ?_⟩
        · rw [getD_set8 (by rw [hl.out.1]; exact h1)]
          by_cases p1 : i = p
          · subst p1
            rw [if_pos rfl, ofNat_byte, HCC.out, HK.out]
          · rw [if_neg p1]
            exact hl.out.2 p (by omega)
        · exact ownb_set hown.out _ _
        · exact ext_setCell hext.out hg0 _
        · simp [intOf]; omega
    · obtain rfl : i = N := by omega
      have hby : Hid (ByAt wr g i (beB i a)) := by
        refine ⟨(hown.out.lt _ rfl).2, fun p hp => ?_⟩
        rw [(ownb_at hown.out p hp).1, hl.out.2 p hp, beB_getD hp]
      go_wp2
      refine bodyPost_ret (v := .slice (some ⟨g, 0, none⟩) i i) ?h rfl ⟨g, rfl, hby, hg0, hext.out⟩
      case h => simp [results, Tryz.results184, go_sem]
theorem ra_limbs (b o : Nat) (z : Int) (A : Option Addr) (nw c : Nat) (hnw : nw ≤ 200000) (w : World) (hx : IntIs w b o z A nw c) :
    Calls Tryz.prog 125 #[.pointer (some ⟨b, o, none⟩)] w fun e w' => ∃ (B : Option Addr) (k l : Nat), e = .returned (natV B k l) ∧ Hid (RdO w' B k l (lim z.natAbs) none ∧ Fr w B) ∧ Ext w w' := by
  have HX := Lib.hid hx
  have hby := fun w' (he : Ext w w') => bi_Bytes b o z A nw c (by omega) w' (HX.out.ext he)
  obtain ⟨a, ha⟩ : ∃ a, a = z.natAbs := ⟨_, rfl⟩
  rw [← ha] at hby ⊢
  have hlb := lim_bytes a
  have hlen := hx.rd.len
  rw [← ha] at hlen
  obtain ⟨n, hn'⟩ : ∃ n, n = (bitsOf a + 7) / 8 := ⟨_, rfl⟩
  rw [← hn'] at hby hlb
  obtain ⟨N, hN⟩ : ∃ N, N = (n + 3) / 4 := ⟨_, rfl⟩
  have e0 : ((n : Int) + 3) / 4 = (N : Int) := by omega
  have hNl : N = nw := by omega
  have HN := Lib.hid (show 4 * N ≥ n ∧ 4 * N ≤ n + 3 ∧ N = (lim a).length by omega)
  have hN1 : N ≤ 200000 := by omega
  have hn : n ≤ 1000000 := by omega
  have HA := Lib.hid hlb.2
  clear hx hn' hN hlb hlen ha hNl
  go_enter Tryz.func125, Tryz.ntmps125
  go_wp2_with (first
    | (go_at_call 184; (with_reducible refine (hby _ (ext_alloc (ext_refl _) _)).mono ?_); rintro e w0 ⟨g, rfl, hB0, hg0, xb0⟩)
    | (at_make; refine make_u32 rfl _ _ rfl _ _ _ _ N rfl rfl e0 e0 (by omega) ?_; intro w1 hx1 ho1; have hext1 := Lib.hid hx1; clear hx1)
   )
  have hE0 := Lib.hid (ext_trans (ext_alloc (ext_refl w) _) xb0)
  have hgl := hB0.out.1
  have hwl : w.heap.size < w0.heap.size := ext_lt xb0 _ (by simp)
  have cb0 : w0.cell? ⟨w.heap.size, 0, none⟩ = some (.slice none 0 0) := (Below.cell (p := ⟨w.heap.size, 0, none⟩) xb0 (by simp)).trans (by simp [go_sem])
  have cf0 : w0.frozen? ⟨w.heap.size, 0, none⟩ = false := (Below.frozen (p := ⟨w.heap.size, 0, none⟩) xb0 (by simp)).trans (by simp [go_sem])
  obtain ⟨G, hGG⟩ : ∃ G, G = w0.heap.size := ⟨_, rfl⟩
  have hG0 : w0.heap.size ≤ G := by omega
  rw [← hGG] at ho1
  simp only [← hGG]
  have hGw : w.heap.size < G := by omega
  clear hGG
  go_loopw [17] (fun vi wr => ∃ (i : Nat) (os : List Nat), i ≤ n ∧ vi = .int .i64 (i : Int) ∧ Hid (os.length = N ∧ Lb os ∧ val os = 256 ^ (n - i) * (a / 256 ^ (n - i))) ∧
      Hid (wr.ownsRow G 60 1 (.slice (some ⟨G, 0, none⟩) N N) N (os.map u32V)) ∧ Hid (Ext w0 wr))
    (fun vi _ => n - (intOf vi).toNat)
  case atStart => exact ⟨0, List.replicate N 0, Nat.zero_le _, rfl, ⟨by simp, lb_replicate _, by rw [val_replicate, Nat.sub_zero, Nat.div_eq_of_lt HA.out, Nat.mul_zero]⟩, ho1.out, hext1.out⟩
  case round =>
    clear ho1 hext1
    obtain ⟨i, os, hi, rfl, hos, hown, hext⟩ := hrel
    by_cases h1 : i < n
    · obtain ⟨k, hk⟩ : ∃ k, k = n - 1 - i := ⟨_, rfl⟩
      obtain ⟨q, hq⟩ : ∃ q, q = k / 4 := ⟨_, rfl⟩
      obtain ⟨r, hr4⟩ : ∃ r, r = k % 4 := ⟨_, rfl⟩
      obtain ⟨c, hc⟩ : ∃ c, c = a / 256 ^ k % 256 := ⟨_, rfl⟩
      obtain ⟨s, hs⟩ : ∃ s, s = 8 * r := ⟨_, rfl⟩
      have hcell := (hB0.out.ext hext.out).2 i h1
      rw [beB_getD h1, ← hk, ← hc] at hcell
      have hc256 : c < 256 := by rw [hc]; exact Nat.mod_lt _ (by decide)
      obtain ⟨x, hx⟩ : ∃ x, os.getD q 0 = x := ⟨_, rfl⟩
      have hqN : q < N := by have := HN.out; omega
      obtain ⟨hc1, hf1⟩ := own_at hown.out q hqN
      rw [hx] at hc1
      have hob := or_byte (V := a / 256 ^ (k + 1)) hos.out.2.1 (show r < 4 by omega) (by rw [hos.out.1]; exact hqN) (by rw [hos.out.2.2, show n - i = 4 * q + r + 1 by omega, show 4 * q + r + 1 = k + 1 by omega]) hc256 hx
      rw [show 4 * q + r = k by omega, hc, byte_next, ← hc, ← hs] at hob
      have e1 : (n : Int) - 1 - (i : Int) = (k : Int) := by omega
      have e2 : (k : Int) / 4 = (q : Int) := by omega
      have e3 : (k : Int) % 4 = (r : Int) := by omega
      have e4 : 8 * (r : Int) = (s : Int) := by omega
      have hs24 : s ≤ 24 := by omega
      have HOB := Lib.hid hob
      have hgl2 : G < wr.heap.size := (hown.out.lt G rfl).2
      clear hob hk hq hr4 hc hs
      go_wp2
      refine wp_aft_tail 13 (by kernel_rfl) (by kernel_rfl) (by kernel_rfl) (fun hq hqf => ?_)
      simp only [List.take_succ_cons, List.take_zero, List.drop_succ_cons, List.drop_zero]
      repeat (go_big_quiet_step (first | fail
        ))
      refine wpQuiet_nil ?_
      rintro _ ⟨nq, rfl⟩
      have xl := ext_lt nq.use
      have xz := ext_size nq.use
      try simp at xz
      have y1 := (hq nq G q hgl2).trans hc1
      have y2 := (hqf nq G q hgl2).trans hf1
      clear hq hqf
      have hE2 := Lib.hid nq.use
      have hor : Hid (bits BinOp.or IntKind.u32 (x : Int) ((c : Int) * 2 ^ s % 4294967296) = ((x + c * 2 ^ s : Nat) : Int)) := by
        obtain ⟨o1, o2, o3, -, -⟩ := HOB.out
        have e5 : (c : Int) * 2 ^ s % 4294967296 = ((c * 2 ^ s : Nat) : Int) := by
          have : (c : Int) * 2 ^ s = ((c * 2 ^ s : Nat) : Int) := by simp
          rw [this]; omega
        show _ = _
        rw [e5, bits_or32 _ _ (by omega) o1, o2]
      go_wp2
      case roundEnd =>
        refine ⟨⟨i + 1, os.set q (x + c * 2 ^ s), by omega, by simp, ⟨by simp [hos.out.1], HOB.out.2.2.2.2, ?_⟩, ?_, ?_⟩, ?_⟩
        · rw [HOB.out.2.2.2.1, show n - (i + 1) = k by omega]
        · show World.ownsRow _ _ _ _ _ _ _
          rw [hor.out]
          exact own_set (own_ext hown.out hE2.out) _ _
        · exact ext_setCell (ext_trans hext.out hE2.out) hG0 _
        · simp [intOf]; omega
    · obtain rfl : i = n := by omega
      have hv : os = lim a := by
        refine val_inj _ _ hos.out.2.1 (lb_lim a) ?_ ?_
        · rw [hos.out.1]; exact HN.out.2.2
        · rw [val_lim, hos.out.2.2, Nat.sub_self, Nat.pow_zero, Nat.div_one, Nat.one_mul]
      subst hv
      have cb := (Below.cell (p := ⟨w.heap.size, 0, none⟩) hext.out hwl).trans cb0
      have cf := (Below.frozen (p := ⟨w.heap.size, 0, none⟩) hext.out hwl).trans cf0
      have hwr : w.heap.size < wr.heap.size := ext_lt hext.out _ hwl
      have hRd : Hid (RdO wr (some ⟨G, 0, none⟩) N N (lim a) none) := by
        obtain ⟨A', c', he, hR⟩ := Rd.own hown.out (lb_lim a)
        cases he
        exact ⟨hR, own_zero hown.out, (fun _ _ _ h => by cases h), rfl⟩
      go_wp2
      have hE9 := Lib.hid (ext_trans hE0.out hext.out)
      have hcr := World.cell?_setCell_same _ _ (.slice (some ⟨G, 0, none⟩) N N) cb
      refine bodyPost_ret (v := natV (some ⟨G, 0, none⟩) N N) ?h rfl ⟨_, _, _, rfl, ⟨hRd.out.set _ (fun x hx => by cases hx; exact hGw), fun x hx => by cases hx; exact Nat.le_of_lt hGw⟩, ext_setCell hE9.out (Nat.le_refl _) _⟩
      case h => simp [results, Tryz.results125, go_sem, hcr, natV]
end Go.Proofs.YtkhkoeibpkglkaaGreatDoor
end
section
/- Rounding a fraction to a float: the model's own floats round as that law. -/
namespace Go.Proofs.YtkhkoeibpkglkaaGreatDoor
open Go.RowKit
set_option maxRecDepth 100000
theorem cut_rdQ (neg : Bool) (x drop : Nat) : Ieee.Toward.even.cut neg x drop = rdQ 0 neg x (2 ^ drop) := by
  have hl : x < 2 ^ (x.log2 + 1) := Nat.lt_log2_self
  have key : ∀ g : Nat, 0 < g → ((decide (g < 2 * (x % g)) || (decide (g = 2 * (x % g)) && decide (x / g % 2 = 1))) = true ↔ x % g ≠ 0 ∧ upM 0 neg (decide (x / g % 2 = 1)) (cmpN (2 * (x % g)) g) = true) := by
    intro g hg
    unfold upM cmpN
    rw [if_pos rfl]
    simp only [Bool.or_eq_true, Bool.and_eq_true, decide_eq_true_eq]
    by_cases h1 : 2 * (x % g) < g
    · rw [if_pos h1]
      constructor
      · rintro (h | ⟨h, _⟩) <;> omega
      · rintro ⟨_, h | ⟨h, _⟩⟩ <;> omega
    · rw [if_neg h1]
      by_cases h2 : g < 2 * (x % g)
      · rw [if_pos h2]
        exact ⟨fun _ => ⟨by omega, .inl (by omega)⟩, fun _ => .inl h2⟩
      · rw [if_neg h2]
        constructor
        · rintro (h | ⟨h, h3⟩)
          · omega
          · exact ⟨by omega, .inr ⟨rfl, h3⟩⟩
        · rintro ⟨_, h | ⟨_, h⟩⟩
          · omega
          · exact .inr ⟨by omega, h⟩
  have fin : ∀ g : Nat, 0 < g → x / g + (decide (g < 2 * (x % g)) || (decide (g = 2 * (x % g)) && decide (x / g % 2 = 1))).toNat = rdQ 0 neg x g := by
    intro g hg
    unfold rdQ
    by_cases h : x % g = 0
    · rw [if_pos h]
      have : (decide (g < 2 * (x % g)) || (decide (g = 2 * (x % g)) && decide (x / g % 2 = 1))) = false := by
        rw [← Bool.not_eq_true, key g hg]; exact fun q => q.1 h
      rw [this]; rfl
    · rw [if_neg h]
      by_cases h2 : upM 0 neg (decide (x / g % 2 = 1)) (cmpN (2 * (x % g)) g) = true
      · rw [if_pos h2, (key g hg).2 ⟨h, h2⟩]; rfl
      · rw [if_neg h2]
        have : (decide (g < 2 * (x % g)) || (decide (g = 2 * (x % g)) && decide (x / g % 2 = 1))) = false := by
          rw [← Bool.not_eq_true, key g hg]; exact fun q => h2 q.2
        rw [this]; rfl
  have hcut : ∀ g : Nat, (x / g + (decide (g < 2 * (x % g)) || (g == 2 * (x % g) && x / g % 2 == 1)).toNat) = x / g + (decide (g < 2 * (x % g)) || (decide (g = 2 * (x % g)) && decide (x / g % 2 = 1))).toNat := by
    intro g
    have e1 : (g == 2 * (x % g)) = decide (g = 2 * (x % g)) := by rw [Bool.eq_iff_iff]; simp
    have e2 : (x / g % 2 == 1) = decide (x / g % 2 = 1) := by rw [Bool.eq_iff_iff]; simp
    rw [e1, e2]
  unfold Ieee.Toward.cut
  simp only [Nat.one_shiftLeft]
  rw [hcut, fin _ (Nat.two_pow_pos _)]
  rcases Nat.le_total drop (x.log2 + 2) with h | h
  · rw [Nat.min_eq_left h]
  · rw [Nat.min_eq_right h]
    have hz : ∀ k, x.log2 + 2 ≤ k → rdQ 0 neg x (2 ^ k) = 0 := by
      intro k hk
      have h1 : 2 ^ (x.log2 + 2) ≤ 2 ^ k := Nat.pow_le_pow_right (by decide) hk
      have h2 : 2 ^ (x.log2 + 2) = 2 * 2 ^ (x.log2 + 1) := by rw [Nat.pow_succ 2 (x.log2 + 1)]; omega
      have h3 : x / 2 ^ k = 0 := Nat.div_eq_of_lt (by omega)
      have h4 : x % 2 ^ k = x := Nat.mod_eq_of_lt (by omega)
      have h5 : 2 * x < 2 ^ k := by omega
      unfold rdQ
      rw [h3, h4]
      have h6 : cmpN (2 * x) (2 ^ k) = -1 := by unfold cmpN; rw [if_pos h5]
      rw [h6]
      split
      · rfl
      · rw [if_neg (by simp [upM])]
    rw [hz _ (Nat.le_refl _), hz _ h]
theorem lgQ_bin {m : Nat} (hm : 0 < m) (p : Int) : lgQ (tA m p) (tD 1 p) = p + m.log2 := by
  have h1 : 2 ^ m.log2 ≤ m := Nat.log2_self_le (by omega)
  have h2 : m < 2 ^ (m.log2 + 1) := Nat.lt_log2_self
  have ha : 0 < tA m p := Nat.mul_pos hm (Nat.two_pow_pos _)
  have hd : 0 < tD 1 p := Nat.mul_pos (by decide) (Nat.two_pow_pos _)
  refine lgQ_eq ha hd ?_ ?_
  · rw [leP_at ((-p).toNat) (by omega)]
    unfold tA tD
    rw [Nat.one_mul, ← Nat.pow_add, Nat.mul_assoc, ← Nat.pow_add]
    have e1 : (-p).toNat + (p + m.log2 + ((-p).toNat : Nat)).toNat = m.log2 + (p.toNat + (-p).toNat) := by omega
    rw [e1, Nat.pow_add]
    exact Nat.mul_le_mul_right _ h1
  · rw [leP_at ((-p).toNat) (by omega)]
    unfold tA tD
    rw [Nat.one_mul, ← Nat.pow_add, Nat.mul_assoc, ← Nat.pow_add]
    have e1 : (-p).toNat + (p + m.log2 + 1 + ((-p).toNat : Nat)).toNat = m.log2 + 1 + (p.toNat + (-p).toNat) := by omega
    rw [e1, Nat.pow_add]
    have := Nat.mul_lt_mul_of_pos_right h2 (Nat.two_pow_pos (p.toNat + (-p).toNat))
    omega
theorem rdQ_bin (mode : Nat) (neg : Bool) (m : Nat) (p l : Int) : rdQ mode neg (m * 2 ^ (p - l).toNat) (2 ^ (l - p).toNat) = rdQ mode neg (tA (tA m p) (-l)) (tD (tD 1 p) (-l)) := by
  unfold tA tD
  obtain ⟨c, c1, c2⟩ : ∃ c : Nat, p.toNat + (-l).toNat = (p - l).toNat + c ∧ (-p).toNat + l.toNat = (l - p).toNat + c := ⟨p.toNat + (-l).toNat - (p - l).toNat, by omega, by omega⟩
  rw [Int.neg_neg, Nat.one_mul, Nat.mul_assoc, ← Nat.pow_add, ← Nat.pow_add, c1, c2, Nat.pow_add, Nat.pow_add, ← Nat.mul_assoc, rdQ_scale (Nat.two_pow_pos c)]
abbrev fmt (E F : Nat) : Ieee.Format := { exponentBits := E, fractionBits := F }
/-- The even rung, cut at infinity. -/
def evenQ (E F a d : Nat) : Nat := min (rungQ E F 0 false a d) (infQ E F)
theorem rdQ_even (neg : Bool) (a d : Nat) : rdQ 0 neg a d = rdQ 0 false a d := rfl
theorem near_even (E F : Nat) (hE : 2 ≤ E) (neg : Bool) (m : Nat) (hm : 0 < m) (p : Int) : (fmt E F).nearest neg m p = (fmt E F).word neg (evenQ E F (tA m p) (tD 1 p)) := by
  have hbias : (fmt E F).leastPlace = 1 - biasF E - F := by
    unfold Ieee.Format.leastPlace biasF
    simp only
    omega
  have hinf : (fmt E F).infRung = infQ E F := by
    unfold Ieee.Format.infRung Ieee.Format.binade infQ
    simp only
    rw [Nat.sub_mul, Nat.pow_add, Nat.one_mul]
  unfold Ieee.Format.nearest
  rw [if_neg (by omega)]
  simp only
  rw [hinf, hbias]
  have hlow : lowQ E (tA m p) (tD 1 p) = max (p + m.log2) (1 - biasF E) := by unfold lowQ; rw [lgQ_bin hm]
  obtain ⟨low, hl⟩ : ∃ low, lowQ E (tA m p) (tD 1 p) = low := ⟨_, rfl⟩
  have hlast : max (p + (m.log2 : Nat) - (F : Nat)) (1 - biasF E - F) = low - F := by rw [← hl, hlow]; omega
  have hlow2 : 1 - biasF E ≤ low := by rw [← hl, hlow]; omega
  rw [hlast]
  congr 1
  unfold evenQ rungQ manQ
  rw [hl, Nat.shiftLeft_eq, cut_rdQ, rdQ_even neg, rdQ_bin, Int.neg_sub, Nat.add_comm]
  congr 2
  unfold Ieee.Format.binade
  simp only
  congr 2
  omega
end Go.Proofs.YtkhkoeibpkglkaaGreatDoor
end
