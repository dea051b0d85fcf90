/- Lemmas of this proof, laid together: K, Drawn, Drawn2. -/
import Derived.WalkKit
import Derived.ProofKit
import Derived.WalkLawsBesides
import Derived.WalkSpells
import Derived.Deep.QuietTactic
import Derived.BigQuiet
import Derived.Deep.Draws
import Derived.Laws.Entries
import Derived.Laws.Externs
import Derived.Laws.StructEq
import Derived.Lib.Hide
import Derived.Test.YtnkajjealkggdaaGreatDoorMg03
set_option linter.unusedSimpArgs false
set_option linter.unusedVariables false
section
namespace Go.Proofs.YtnkajjealkggdaaGreatDoor
open Go.RowKit
/-! ## sizes -/
theorem sz2 (n : Nat) : n < n + 1 + 1 := by omega
theorem sz3 (n : Nat) : n < n + 1 + 1 + 1 := by omega
theorem sz4 (n : Nat) : n < n + 1 + 1 + 1 + 1 := by omega
theorem sz5 (n : Nat) : n < n + 1 + 1 + 1 + 1 + 1 := by omega
theorem sz6 (n : Nat) : n < n + 1 + 1 + 1 + 1 + 1 + 1 := by omega
theorem sz7 (n : Nat) : n < n + 1 + 1 + 1 + 1 + 1 + 1 + 1 := by omega
theorem sz8 (n : Nat) : n < n + 1 + 1 + 1 + 1 + 1 + 1 + 1 + 1 := by omega
theorem sz9 (n : Nat) : n < n + 1 + 1 + 1 + 1 + 1 + 1 + 1 + 1 + 1 := by omega
theorem sz10 (n : Nat) : n < n + 1 + 1 + 1 + 1 + 1 + 1 + 1 + 1 + 1 + 1 := by omega
/-! ## worlds -/
def Ext (w w' : World) : Prop := Below w.heap.size w w'
theorem ext_refl (w : World) : Ext w w := Below.refl _ _
theorem ext_trans {a b c : World} (h : Ext a b) (k : Ext b c) : Ext a c := Below.trans h (Below.mono k h.size)
theorem ext_alloc {a w : World} (h : Ext a w) (o : Obj) : Ext a (w.alloc o) := Below.alloc h h.size o
theorem ext_drew {a w : World} (h : Ext a w) : Ext a w.drew := Below.drew h
theorem ext_drewN {a w : World} (h : Ext a w) (n : Nat) : Ext a (w.drewN n) := ⟨h.os, h.tape, h.output, h.size, h.block⟩
theorem ext_setCell {a w : World} (h : Ext a w) {p : Addr} (hp : a.heap.size ≤ p.block) (u : Value) : Ext a (w.setCell p u) := Below.setCell h hp u
theorem ext_size {w w' : World} (h : Ext w w') : w.heap.size ≤ w'.heap.size := h.size
theorem ext_use {W w1 : World} (h : Ext W w1) : (∀ b o, b < W.heap.size → w1.cell? ⟨b, o, none⟩ = W.cell? ⟨b, o, none⟩) ∧
    (∀ b o, b < W.heap.size → w1.frozen? ⟨b, o, none⟩ = W.frozen? ⟨b, o, none⟩) ∧ (∀ b, b < W.heap.size → b < w1.heap.size) ∧ W.heap.size ≤ w1.heap.size :=
  ⟨fun b o hb => Below.cell (p := ⟨b, o, none⟩) h hb, fun b o hb => Below.frozen (p := ⟨b, o, none⟩) h hb, fun _ hb => Nat.lt_of_lt_of_le hb h.size, h.size⟩
theorem kp {W w1 : World} (h : Ext W w1) (b : Nat) (hb : b < W.heap.size) : b < w1.heap.size ∧ (∀ o, w1.cell? ⟨b, o, none⟩ = W.cell? ⟨b, o, none⟩) ∧ (∀ o, w1.frozen? ⟨b, o, none⟩ = W.frozen? ⟨b, o, none⟩) :=
  ⟨(ext_use h).2.2.1 b hb, fun o => (ext_use h).1 b o hb, fun o => (ext_use h).2.1 b o hb⟩
theorem ext_lt {W w1 : World} (h : Ext W w1) : ∀ b, b < W.heap.size → b < w1.heap.size := fun _ hb => Nat.lt_of_lt_of_le hb h.size
/-- A world that is as 'w' was. -/
structure Aft (w : World) where
  val : World
  ext : Ext w val
instance aftNonempty (w : World) : Nonempty (Aft w) := ⟨⟨w, ext_refl w⟩⟩
def Aft.out {w : World} (x : Aft w) : World := x.val
theorem Aft.use {w : World} (x : Aft w) : Ext w x.out := x.ext
section
variable {P : Program}
theorem wp_aft {id : Nat} {Q : Exit → Act → World → Prop} {a : Act} {w : World} {l : List Oper} (hm : P.follows .mixedOrders = true) (hB : Region.lexB .any l.toArray = true)
    (h : (∀ (n : Aft w) b o, b < w.heap.size → n.out.cell? ⟨b, o, none⟩ = w.cell? ⟨b, o, none⟩) → (∀ (n : Aft w) b o, b < w.heap.size → n.out.frozen? ⟨b, o, none⟩ = w.frozen? ⟨b, o, none⟩) →
      wpQuiet P l.toArray (fun w' => ∃ n : Aft w, w' = n.out) (fun a' => ∀ w', (∃ n : Aft w, w' = n.out) → Q .normal a' w') l a) : (Code.region id l.toArray true).wp P Q a w :=
  wp_region_quiet (C := fun w' => ∃ n : Aft w, w' = n.out) hm hB ⟨⟨_, ext_drew (ext_refl w)⟩, rfl⟩ (by
    simpa using h (fun n b o hb => Below.cell (p := ⟨b, o, none⟩) n.ext hb) (fun n b o hb => Below.frozen (p := ⟨b, o, none⟩) n.ext hb))
theorem wp_aft_tail {id : Nat} {Q : Exit → Act → World → Prop} {a : Act} {w : World} {l : List Oper} (n : Nat) (hm : P.follows .mixedOrders = true) (hB : splitB .any l.toArray n = true) (hL : Region.lexB .any (l.take n).toArray = true)
    (h : (∀ (n : Aft w) b o, b < w.heap.size → n.out.cell? ⟨b, o, none⟩ = w.cell? ⟨b, o, none⟩) → (∀ (n : Aft w) b o, b < w.heap.size → n.out.frozen? ⟨b, o, none⟩ = w.frozen? ⟨b, o, none⟩) →
      wpQuiet P (l.take n).toArray (fun w' => ∃ n : Aft w, w' = n.out) (fun a' => ∀ w', (∃ n : Aft w, w' = n.out) → wpList P l.toArray Q (l.drop n) a' w') (l.take n) a) : (Code.region id l.toArray true).wp P Q a w :=
  wp_region_quiet_tail (C := fun w' => ∃ n : Aft w, w' = n.out) n hm hB hL ⟨⟨_, ext_drew (ext_refl w)⟩, rfl⟩
    (h (fun n b o hb => Below.cell (p := ⟨b, o, none⟩) n.ext hb) (fun n b o hb => Below.frozen (p := ⟨b, o, none⟩) n.ext hb))
theorem aft_of {f : FuncId} {args : Array Value} {w : World} {n : Aft w} {v : Value}
    (h : Calls P f args n.out fun e w' => e = .returned v ∧ Ext n.out w') : Calls P f args n.out fun e w'' => e = .returned v ∧ ∃ m : Aft w, w'' = m.out :=
  h.mono fun _ _ ⟨he, hb⟩ => ⟨he, ⟨_, ext_trans n.ext hb⟩, rfl⟩
end
/-! ## floats -/
section
variable (t : TypeId) (x y : Nat)
end
end Go.Proofs.YtnkajjealkggdaaGreatDoor
end
section
/- A drawn region some of whose operations make memory: one walk in the text's order. What such an operation leaves is told by a relation of its operands, its value and the world, which no later new memory undoes. -/
namespace Go.Proofs.YtnkajjealkggdaaGreatDoor
open Go.RowKit
/-! ## a call that returns comes to one value -/
def stopFrame : Frame := { (default : Frame) with todo := [.code (.cond (.const (.string ⟨#[]⟩)) .ret .ret)], mode := .run }
theorem stop_ends (P : Program) (w : World) : ∃ o w', step P (lone stopFrame [] w) = .ended o w' :=
  ⟨_, _, step_lone_ended (by simp [stepG, stepG.exec, stopFrame, Frame.eval]; exact ⟨rfl, rfl⟩)⟩
theorem runN_add {P : Program} : ∀ (a b : Nat) (m m1 : Machine), runN P a m = .next m1 → runN P (a + b) m = runN P b m1
  | 0, b, m, m1, h => by
    have : m = m1 := by simpa [runN] using h
    subst this; rw [Nat.zero_add]
  | a + 1, b, m, m1, h => by
    rw [show a + 1 + b = (a + b) + 1 by omega]
    simp only [runN] at h ⊢
    cases hs : step P m with
    | next m2 => rw [hs] at h; exact runN_add a b m2 m1 h
    | ended o w => rw [hs] at h; cases h
theorem one_end {P : Program} {m0 : Machine} {fr1 fr2 : Frame} {w1 w2 : World} {u : Value} {n1 n2 : Nat} (h1 : runN P n1 m0 = .next (lone fr1 [stopFrame] w1)) (h2 : runN P n2 m0 = .next (lone fr2 [stopFrame] w2))
    (l1 : fr1.leaving P w1 (.returned u)) (hle : n1 ≤ n2) : lone fr1 [stopFrame] w1 = lone fr2 [stopFrame] w2 := by
  have s1 : step P (lone fr1 [stopFrame] w1) = .next (lone stopFrame [] w1) := step_leave_returned l1
  obtain ⟨o, w3, s2⟩ := stop_ends P w1
  obtain ⟨d, rfl⟩ : ∃ d, n2 = n1 + d := ⟨n2 - n1, by omega⟩
  rw [runN_add n1 d m0 _ h1] at h2
  match d, h2 with
  | 0, h2 => simpa [runN] using h2
  | 1, h2 =>
    simp only [runN, s1] at h2
    have : lone stopFrame [] w1 = lone fr2 [stopFrame] w2 := by simpa using h2
    simp [lone] at this
  | d + 2, h2 =>
    simp only [runN, s1, s2] at h2
    cases h2
theorem calls_det {P : Program} {f : FuncId} {args : Array Value} {w : World} {u v : Value} {S S' : World → Prop}
    (h1 : Calls P f args w fun e w' => e = .returned u ∧ S w') (h2 : Calls P f args w fun e w' => e = .returned v ∧ S' w') : u = v := by
  obtain ⟨e1, w1, fr1, ⟨rfl, _⟩, ⟨n1, c1⟩, hf1, l1⟩ := h1 [stopFrame]
  obtain ⟨e2, w2, fr2, ⟨rfl, _⟩, ⟨n2, c2⟩, hf2, l2⟩ := h2 [stopFrame]
  have e : lone fr1 [stopFrame] w1 = lone fr2 [stopFrame] w2 := by
    rcases Nat.le_total n1 n2 with h | h
    · exact one_end c1 c2 l1 h
    · exact (one_end c2 c1 l2 h).symm
  have e1 : fr1 = fr2 := by simp [lone] at e; exact e.2
  have e2 : w1 = w2 := by simp [lone] at e; exact e.1
  subst e1 e2
  obtain ⟨_, _, _, fn, hfn, hr⟩ := l1
  obtain ⟨_, _, _, fn', hfn', hr'⟩ := l2
  have : fn = fn' := Option.some.inj (hfn.symm.trans hfn')
  subst this
  rw [hr] at hr'
  injection hr'
/-! ## the walk -/
section
variable {P : Program} {ops : Array Oper} {md : Region.Mode} {C : World → Prop}
abbrev Table := Nat → Option (List Value → Value → World → Prop)
/-- A fact: the new block that a value leads to, if it does; what holds of the world. -/
abbrev Fact := Option Nat × (World → Prop)
abbrev Facts := Nat → Fact
def Facts.put (F : Facts) (i : Nat) (R : Fact) : Facts := fun k => if k = i then R else F k
def blk : Value → Option Nat
  | .pointer (some a) => some a.block
  | .slice (some a) _ _ => some a.block
  | _ => none
def Fresh (w : World) (v : Value) (w' : World) : Prop := ∀ b, blk v = some b → w.heap.size ≤ b ∧ b < w'.heap.size
/-- All facts hold, and no two new blocks are one. -/
structure Good (F : Facts) (w : World) : Prop where
  fact : ∀ k, (F k).2 w
  there : ∀ k b, (F k).1 = some b → b < w.heap.size
  apart : ∀ i j b, i ≠ j → (F i).1 = some b → (F j).1 = some b → False
def opVals (o : Oper) (a : Act) : List Value := (o.op.operands.map a.eval).toList
/-- What is asked of an operation that makes memory: a value and a world behind of which R holds. -/
def relUpon (P : Program) (w : World) (R : Value → World → Prop) : Result Next → Prop
  | .ok (.value v) w' => Ext w w' ∧ Fresh w v w' ∧ R v w'
  | .ok .skip w' => Ext w w' ∧ Fresh w undef w' ∧ R undef w'
  | .ok (.enter f args) w' => w' = w ∧ Calls P f args w (fun e w'' => ∃ v, e = .returned v ∧ Ext w w'' ∧ Fresh w v w'' ∧ R v w'')
  | _ => False
def Oper.relAt (P : Program) (o : Oper) (a : Act) (w : World) (R : Value → World → Prop) : Prop := relUpon P w R ((execOp a.eval o).run P w)
/-- One value, whatever else has been made. -/
def detUpon (P : Program) (w : World) (v : Value) : Result Next → Prop
  | .ok (.value u) w' => w' = w ∧ u = v
  | .ok .skip w' => w' = w ∧ v = undef
  | .ok (.enter f args) w' => w' = w ∧ Calls P f args w (fun e w'' => e = .returned v ∧ Ext w w'')
  | _ => False
def Oper.detAt (P : Program) (o : Oper) (a : Act) (w : World) (v : Value) : Prop := detUpon P w v ((execOp a.eval o).run P w)
/-- Some world of the class knows all facts. -/
def Ne (C : World → Prop) (F : Facts) : Prop := ∃ w, C w ∧ Good F w
/-- One operation, wanted. -/
def kOper (P : Program) (md : Region.Mode) (ops : Array Oper) (C : World → Prop) (T : Table) (i : Nat) (o : Oper) (Kt : Act → Facts → Prop) (a : Act) (F : Facts) : Prop :=
  match T i with
  | none => ∃ v, (∀ w, C w → (∀ k, dep md ops i k = true → (F k).2 w) → Oper.detAt P o a w v) ∧ Kt (a.put o.dst v) F
  | some R => (∀ w, C w → (∀ k, dep md ops i k = true → (F k).2 w) → Oper.relAt P o a w (R (opVals o a))) ∧ ∀ v, Ne C (F.put i (blk v, R (opVals o a) v)) → Kt (a.put o.dst v) (F.put i (blk v, R (opVals o a) v))
def kOp (P : Program) (md : Region.Mode) (ops : Array Oper) (C : World → Prop) (T : Table) (i : Nat) (Kt : Act → Facts → Prop) (a : Act) (F : Facts) : Prop :=
  match ops[i]? with
  | none => Kt a F
  | some o => if Region.wanted o (yielded ops a.tmps) then kOper P md ops C T i o Kt a F else Kt (a.put o.dst undef) F
/-- Whatever order is picked. -/
def wpAnyK (P : Program) (md : Region.Mode) (ops : Array Oper) (C : World → Prop) (T : Table) (Q : Act → Facts → Prop) : Nat → Array Bool → Act → Facts → Prop
  | 0, listed, a, F => Region.ready md ops listed = [] ∧ Q a F
  | f + 1, listed, a, F => (Region.ready md ops listed = [] → Q a F) ∧ ∀ i ∈ Region.ready md ops listed, kOp P md ops C T i (wpAnyK P md ops C T Q f (listed.setIfInBounds i true)) a F
/-- The walk in the text's order. -/
def wpK (P : Program) (md : Region.Mode) (ops : Array Oper) (C : World → Prop) (T : Table) (Q : Act → Facts → Prop) : Nat → List Oper → Act → Facts → Prop
  | _, [], a, F => Q a F
  | k, o :: l, a, F => if Region.wanted o (yielded ops a.tmps) then kOper P md ops C T k o (wpK P md ops C T Q (k + 1) l) a F else wpK P md ops C T Q (k + 1) l (a.put o.dst undef) F
variable {T : Table} {Q : Act → Facts → Prop}
theorem kOper_mono {i : Nat} {o : Oper} {a : Act} {F : Facts} {K K' : Act → Facts → Prop} (h : ∀ a F, K a F → K' a F) (hh : kOper P md ops C T i o K a F) : kOper P md ops C T i o K' a F := by
  unfold kOper at *
  split
  · rename_i ht; simp only [ht] at hh; obtain ⟨v, h1, h2⟩ := hh; exact ⟨v, h1, h _ _ h2⟩
  · rename_i R ht; simp only [ht] at hh; exact ⟨hh.1, fun v hn => h _ _ (hh.2 v hn)⟩
theorem facts_comm {F : Facts} {i j : Nat} (h : i ≠ j) (A B : Fact) : (F.put i A).put j B = (F.put j B).put i A := by
  funext k
  unfold Facts.put
  by_cases h1 : k = i
  · subst h1; simp [h]
  · simp [h1]
theorem facts_self (F : Facts) (i : Nat) : F.put i (F i) = F := by
  funext k
  unfold Facts.put
  split
  · rename_i h; rw [h]
  · rfl
theorem facts_ne {F : Facts} {i k : Nat} {A : Fact} (h : k ≠ i) : F.put i A k = F k := by unfold Facts.put; rw [if_neg h]
theorem facts_at {F : Facts} {i : Nat} {A : Fact} : F.put i A i = A := by unfold Facts.put; rw [if_pos rfl]
/-- A fact more, of a new block. -/
theorem good_put {F : Facts} {w w' : World} {i : Nat} {v : Value} {R : World → Prop} (hg : Good F w) (hst : ∀ k w w', (F k).2 w → Ext w w' → (F k).2 w') (he : Ext w w') (hf : Fresh w v w') (hr : R w') : Good (F.put i (blk v, R)) w' := by
  refine ⟨fun k => ?_, fun k b hb => ?_, fun j k b hjk hj hk => ?_⟩
  · by_cases h : k = i
    · subst h; rw [facts_at]; exact hr
    · rw [facts_ne h]; exact hst k _ _ (hg.fact k) he
  · by_cases h : k = i
    · subst h; rw [facts_at] at hb; exact (hf b hb).2
    · rw [facts_ne h] at hb; exact Nat.lt_of_lt_of_le (hg.there k b hb) he.size
  · by_cases h : j = i
    · subst h
      rw [facts_at] at hj
      rw [facts_ne (Ne.symm hjk)] at hk
      have := hg.there k b hk
      have := (hf b hj).1
      omega
    · rw [facts_ne h] at hj
      by_cases h' : k = i
      · subst h'
        rw [facts_at] at hk
        have := hg.there j b hj
        have := (hf b hk).1
        omega
      · rw [facts_ne h'] at hk
        exact hg.apart j k b hjk hj hk
theorem good_ext {F : Facts} {w w' : World} (hg : Good F w) (hst : ∀ k w w', (F k).2 w → Ext w w' → (F k).2 w') (he : Ext w w') : Good F w' :=
  ⟨fun k => hst k _ _ (hg.fact k) he, fun k b hb => Nat.lt_of_lt_of_le (hg.there k b hb) he.size, hg.apart⟩
/-- One fact less, of which nothing was known. -/
theorem good_less {F : Facts} {w : World} {i j : Nat} {A B : Fact} (hij : j ≠ i) (hu : (F j).1 = none ∧ ∀ w, (F j).2 w) (hg : Good ((F.put j B).put i A) w) : Good (F.put i A) w := by
  have at_ : ∀ k, k ≠ j → ((F.put j B).put i A) k = (F.put i A) k := fun k hk => by
    by_cases h : k = i
    · subst h; rw [facts_at, facts_at]
    · rw [facts_ne h, facts_ne h, facts_ne hk]
  have atj : (F.put i A) j = F j := facts_ne hij
  refine ⟨fun k => ?_, fun k b hb => ?_, fun k l b hkl hk hl => ?_⟩
  · by_cases h : k = j
    · subst h; rw [atj]; exact hu.2 w
    · rw [← at_ k h]; exact hg.fact k
  · by_cases h : k = j
    · subst h; rw [atj, hu.1] at hb; cases hb
    · rw [← at_ k h] at hb; exact hg.there k b hb
  · by_cases h : k = j
    · subst h; rw [atj, hu.1] at hk; cases hk
    · by_cases h' : l = j
      · subst h'; rw [atj, hu.1] at hl; cases hl
      · rw [← at_ k h] at hk; rw [← at_ l h'] at hl; exact hg.apart k l b hkl hk hl
theorem quiet_det {o : Oper} {a : Act} {w : World} {u v : Value} (h1 : Oper.detAt P o a w u) (h2 : Oper.detAt P o a w v) : u = v := by
  unfold Oper.detAt at *
  generalize (execOp a.eval o).run P w = r at *
  cases r with
  | ok n w' =>
    cases n <;> simp only [detUpon] at h1 h2
    case value x => rw [← h1.2, ← h2.2]
    case skip => rw [h1.2, h2.2]
    case enter f args => exact calls_det h1.2 h2.2
  | halt x w' => simp only [detUpon] at h1
theorem relAt_ne {o : Oper} {a : Act} {w : World} {R : Value → World → Prop} (h : Oper.relAt P o a w R) : ∃ v w', Ext w w' ∧ Fresh w v w' ∧ R v w' := by
  unfold Oper.relAt at h
  generalize (execOp a.eval o).run P w = r at *
  cases r with
  | ok n w' =>
    cases n <;> simp only [relUpon] at h
    case value x => exact ⟨_, _, h⟩
    case skip => exact ⟨_, _, h⟩
    case enter f args =>
      obtain ⟨e, w1, fr, ⟨v, _, h1, h2⟩, _⟩ := h.2 []
      exact ⟨v, w1, h1, h2⟩
  | halt x w' => simp only [relUpon] at h
/-- A value and a fact that operation i may leave. -/
def Outc (P : Program) (C : World → Prop) (T : Table) (ops : Array Oper) (i : Nat) (oi : Oper) (a : Act) (F : Facts) (v0 : Value) (v : Value) (A : Fact) : Prop :=
  if Region.wanted oi (yielded ops a.tmps) then
    match T i with
    | none => v = v0 ∧ A = F i
    | some R => A = (blk v, R (opVals oi a) v)
  else v = undef ∧ A = F i
theorem opVals_put {o : Oper} {a : Act} {dst : Option Tmp} {v : Value} (h : ∀ d, dst = some d → d ∉ o.looksAt ops) : opVals o (a.put dst v) = opVals o a := by
  unfold opVals
  congr 1
  exact Array.map_congr_left fun x hx => Act.eval_put fun d hd hxd => h d hd (by
    subst hxd
    exact List.mem_append_left _ (List.mem_filterMap.2 ⟨.tmp d, by simpa using hx, rfl⟩))
theorem jpart {j : Nat} {oi oj : Oper} {i : Nat} {O : Value → Fact → Prop} {Kt : Value → Fact → Act → Facts → Prop} {a : Act} {F : Facts}
    (hij : j ≠ i) (hj : ops[j]? = some oj) (hap : oi.apart ops oj = true) (hsi : ∀ cs b, oi.op ≠ .select cs b) (hsj : ∀ cs b, oj.op ≠ .select cs b)
    (hdep : dep md ops j i = false) (hun : (F j).1 = none ∧ ∀ w, (F j).2 w) (hT : ∀ i R vals v w w', T i = some R → R vals v w → Ext w w' → R vals v w') (hne : Ne C F) (hO : ∃ v A, O v A ∧ Ne C (F.put i A))
    (h : ∀ v A, O v A → Ne C (F.put i A) → kOp P md ops C T j (Kt v A) (a.put oi.dst v) (F.put i A)) :
    kOp P md ops C T j (fun a' F' => (∃ u, a' = a.put oj.dst u) ∧ (∃ B : Fact, F' = F.put j B ∧ ∀ w w', B.2 w → Ext w w' → B.2 w') ∧ Ne C F' ∧ ∀ v A, O v A → Ne C (F'.put i A) → Kt v A (a'.put oi.dst v) (F'.put i A)) a F := by
  obtain ⟨h1, h2, h3⟩ := Oper.apart_spec hap
  unfold kOp at h ⊢
  simp only [hj] at h ⊢
  have hwt : ∀ v, Region.wanted oj (yielded ops (a.put oi.dst v).tmps) = Region.wanted oj (yielded ops a.tmps) := fun v => wanted_put oj a oi.dst v h1
  have hop : ∀ v, opVals oj (a.put oi.dst v) = opVals oj a := fun v => opVals_put h1
  by_cases hw : Region.wanted oj (yielded ops a.tmps) = true
  · rw [if_pos hw]
    unfold kOper
    cases ht : T j with
    | none =>
      obtain ⟨v0, A0, o0, n0⟩ := hO
      have k0 := h v0 A0 o0 n0
      rw [if_pos (by rw [hwt]; exact hw)] at k0
      unfold kOper at k0
      simp only [ht] at k0
      obtain ⟨u, q0, _⟩ := k0
      have q0' : ∀ w, C w → (∀ k, dep md ops j k = true → (F k).2 w) → Oper.detAt P oj a w u := fun w hw hF => by
        have := q0 w hw (fun k hk => by rw [facts_ne (by rintro rfl; rw [hdep] at hk; cases hk)]; exact hF k hk)
        unfold Oper.detAt at *
        rwa [execOp_put oj hsj a oi.dst v0 h1] at this
      refine ⟨u, q0', ⟨u, rfl⟩, ⟨F j, (facts_self F j).symm, fun _ w' _ _ => hun.2 w'⟩, hne, fun v A ho hn => ?_⟩
      have kv := h v A ho hn
      rw [if_pos (by rw [hwt]; exact hw)] at kv
      unfold kOper at kv
      simp only [ht] at kv
      obtain ⟨u', q1, q2⟩ := kv
      obtain ⟨ws, hc, hf⟩ := hne
      have : u' = u := by
        refine quiet_det (w := ws) ?_ (q0' ws hc (fun k _ => hf.fact k))
        have := q1 ws hc (fun k hk => by rw [facts_ne (by rintro rfl; rw [hdep] at hk; cases hk)]; exact hf.fact k)
        unfold Oper.detAt at *
        rwa [execOp_put oj hsj a oi.dst v h1] at this
      subst this
      rw [← Act.put_comm a v u' h2]
      exact q2
    | some R =>
      obtain ⟨v0, A0, o0, n0⟩ := hO
      have k0 := h v0 A0 o0 n0
      rw [if_pos (by rw [hwt]; exact hw)] at k0
      unfold kOper at k0
      simp only [ht, hop] at k0
      refine ⟨fun w hw hF => ?_, fun u hu => ⟨⟨u, rfl⟩, ⟨_, rfl, fun w w' hb he => hT _ _ _ _ _ _ ht hb he⟩, hu, fun v A ho hn => ?_⟩⟩
      · have := k0.1 w hw (fun k hk => by rw [facts_ne (by rintro rfl; rw [hdep] at hk; cases hk)]; exact hF k hk)
        unfold Oper.relAt at *
        rwa [execOp_put oj hsj a oi.dst v0 h1] at this
      · have hn' : Ne C (F.put i A) := by
          obtain ⟨ws, hc, hf⟩ := hn
          exact ⟨ws, hc, good_less hij hun hf⟩
        have kv := h v A ho hn'
        rw [if_pos (by rw [hwt]; exact hw)] at kv
        unfold kOper at kv
        simp only [ht, hop] at kv
        have := kv.2 u (by rw [facts_comm (Ne.symm hij)]; exact hn)
        rw [facts_comm (Ne.symm hij), Act.put_comm a v u h2] at this
        exact this
  · rw [if_neg hw]
    refine ⟨⟨undef, rfl⟩, ⟨F j, (facts_self F j).symm, fun _ w' _ _ => hun.2 w'⟩, hne, fun v A ho hn => ?_⟩
    have kv := h v A ho hn
    rw [if_neg (by rw [hwt]; exact hw)] at kv
    rw [← Act.put_comm a v undef h2]
    exact kv
theorem kOp_mono {i : Nat} {a : Act} {F : Facts} {K K' : Act → Facts → Prop} (h : ∀ a F, K a F → K' a F) (hh : kOp P md ops C T i K a F) : kOp P md ops C T i K' a F := by
  unfold kOp at *
  split
  · rename_i ho; simp only [ho] at hh; exact h _ _ hh
  · rename_i o ho
    simp only [ho] at hh
    split
    · rename_i hw; rw [if_pos hw] at hh; exact kOper_mono h hh
    · rename_i hw; rw [if_neg hw] at hh; exact h _ _ hh
/-- What operation i is shown to do. -/
def Spec (P : Program) (md : Region.Mode) (ops : Array Oper) (C : World → Prop) (T : Table) (i : Nat) (oi : Oper) (a : Act) (F : Facts) (v0 : Value) : Prop :=
  Region.wanted oi (yielded ops a.tmps) = true → match T i with
    | none => ∀ w, C w → (∀ k, dep md ops i k = true → (F k).2 w) → Oper.detAt P oi a w v0
    | some R => ∀ w, C w → (∀ k, dep md ops i k = true → (F k).2 w) → Oper.relAt P oi a w (R (opVals oi a))
theorem kOp_out {i : Nat} {oi : Oper} {Kt : Act → Facts → Prop} {a : Act} {F : Facts} (hi : ops[i]? = some oi) (h : kOp P md ops C T i Kt a F) :
    ∃ v0, Spec P md ops C T i oi a F v0 ∧ ∀ v A, Outc P C T ops i oi a F v0 v A → Ne C (F.put i A) → Kt (a.put oi.dst v) (F.put i A) := by
  unfold kOp at h
  simp only [hi] at h
  unfold Spec Outc
  by_cases hw : Region.wanted oi (yielded ops a.tmps) = true
  · rw [if_pos hw] at h
    simp only [if_pos hw]
    unfold kOper at h
    cases ht : T i with
    | none =>
      simp only [ht] at h ⊢
      obtain ⟨v0, h1, h2⟩ := h
      refine ⟨v0, fun _ => h1, ?_⟩
      rintro v A ⟨rfl, rfl⟩ _
      rw [facts_self]; exact h2
    | some R =>
      simp only [ht] at h ⊢
      refine ⟨undef, fun _ => h.1, ?_⟩
      rintro v A rfl hn
      exact h.2 v hn
  · rw [if_neg hw] at h
    refine ⟨undef, fun hh => absurd hh hw, ?_⟩
    simp only [if_neg hw]
    rintro v A ⟨rfl, rfl⟩ _
    rw [facts_self]; exact h
theorem out_ne {i : Nat} {oi : Oper} {a : Act} {F : Facts} {v0 : Value} (hup : ∀ w w', C w → Ext w w' → C w') (hst : ∀ k w w', (F k).2 w → Ext w w' → (F k).2 w') (hne : Ne C F) (hs : Spec P md ops C T i oi a F v0) :
    ∃ v A, Outc P C T ops i oi a F v0 v A ∧ Ne C (F.put i A) := by
  unfold Spec at hs
  unfold Outc
  by_cases hw : Region.wanted oi (yielded ops a.tmps) = true
  · have hs := hs hw
    simp only [if_pos hw]
    cases ht : T i with
    | none => exact ⟨v0, F i, ⟨rfl, rfl⟩, by rw [facts_self]; exact hne⟩
    | some R =>
      simp only [ht] at hs
      obtain ⟨ws, hc, hf⟩ := hne
      obtain ⟨v, w', he, hfr, hr⟩ := relAt_ne (hs ws hc (fun k _ => hf.fact k))
      exact ⟨v, _, rfl, w', hup _ _ hc he, good_put hf hst he hfr hr⟩
  · simp only [if_neg hw]
    exact ⟨undef, F i, ⟨rfl, rfl⟩, by rw [facts_self]; exact hne⟩
theorem kOp_of_out {i : Nat} {oi : Oper} {Kt : Act → Facts → Prop} {a : Act} {F : Facts} {v0 : Value} (hi : ops[i]? = some oi) (hne : Ne C F) (hs : Spec P md ops C T i oi a F v0)
    (h : ∀ v A, Outc P C T ops i oi a F v0 v A → Ne C (F.put i A) → Kt (a.put oi.dst v) (F.put i A)) : kOp P md ops C T i Kt a F := by
  unfold kOp
  simp only [hi]
  unfold Spec at hs
  unfold Outc at h
  by_cases hw : Region.wanted oi (yielded ops a.tmps) = true
  · have hs := hs hw
    rw [if_pos hw]
    simp only [if_pos hw] at h
    unfold kOper
    cases ht : T i with
    | none =>
      simp only [ht] at h hs
      refine ⟨v0, hs, ?_⟩
      have := h v0 (F i) ⟨rfl, rfl⟩ (by rw [facts_self]; exact hne)
      rwa [facts_self] at this
    | some R =>
      simp only [ht] at h hs
      exact ⟨hs, fun v hn => h v _ rfl hn⟩
  · rw [if_neg hw]
    simp only [if_neg hw] at h
    have := h undef (F i) ⟨rfl, rfl⟩ (by rw [facts_self]; exact hne)
    rwa [facts_self] at this
theorem first_K (hup : ∀ w w', C w → Ext w w' → C w') (hT : ∀ i R vals v w w', T i = some R → R vals v w → Ext w w' → R vals v w')
    {i : Nat} {oi : Oper} (hi : ops[i]? = some oi) (hsel : ∀ (j : Nat) (o : Oper) cs b, ops[j]? = some o → o.op ≠ .select cs b) :
    ∀ (f : Nat) (listed : Array Bool) (a : Act) (F : Facts), listed.size = ops.size → Closed md ops listed → (∀ k, listed.getD k false = false → (F k).1 = none ∧ ∀ w, (F k).2 w) → (∀ k w w', (F k).2 w → Ext w w' → (F k).2 w') → Ne C F →
      (∀ j oj, ops[j]? = some oj → j ≠ i → listed.getD j true = false → (∀ e ∈ oj.after, Region.binds md e = true → e.on ≠ i) → oi.apart ops oj = true) →
      i ∈ Region.ready md ops listed → kOp P md ops C T i (wpAnyK P md ops C T Q f (listed.setIfInBounds i true)) a F → wpAnyK P md ops C T Q (f + 1) listed a F := by
  have notdep : ∀ (listed : Array Bool), listed.size = ops.size → Closed md ops listed → ∀ j k, j ∈ Region.ready md ops listed → k ∈ Region.ready md ops listed → dep md ops j k = false := by
    intro listed hsz hcl j k hj hk
    cases hd : dep md ops j k with
    | false => rfl
    | true =>
      obtain ⟨_, oj, hoj, hall⟩ := mem_ready.1 hj
      obtain ⟨h0, ok, hok, _⟩ := mem_ready.1 hk
      have hks : k < ops.size := (Array.getElem?_eq_some_iff.1 hok).1
      have := reach_listed hcl _ _ _ oj hoj hall hd
      rw [getD_sw (by omega) false true, h0] at this
      cases this
  intro f
  induction f with
  | zero =>
    intro listed a F hsz hcl hun hst hne hfree hr h
    refine ⟨fun h0 => (by rw [h0] at hr; cases hr), fun j hj => ?_⟩
    by_cases hji : j = i
    · subst hji; exact h
    · exfalso
      obtain ⟨v0, hs, hK⟩ := kOp_out hi h
      obtain ⟨v, A, ho, hn⟩ := out_ne hup hst hne hs
      have h1 := ready_mono hj hji
      rw [(hK v A ho hn).1] at h1
      cases h1
  | succ f ih =>
    intro listed a F hsz hcl hun hst hne hfree hr h
    refine ⟨fun h0 => (by rw [h0] at hr; cases hr), fun j hj => ?_⟩
    by_cases hji : j = i
    · subst hji; exact h
    · obtain ⟨v0, hs, hK⟩ := kOp_out hi h
      have hO := out_ne hup hst hne hs
      obtain ⟨hjun, oj, hoj, hall⟩ := mem_ready.1 hj
      have hjs : j < ops.size := (Array.getElem?_eq_some_iff.1 hoj).1
      have hnot : ∀ e ∈ oj.after, Region.binds md e = true → e.on ≠ i := fun e he hb heq => by
        have h1 := hall e he hb
        have h0 := (mem_ready.1 hr).1
        have his : i < ops.size := (Array.getElem?_eq_some_iff.1 hi).1
        rw [heq, getD_sw (by omega) false true, h0] at h1
        cases h1
      have hap := hfree j oj hoj hji hjun hnot
      have hji' : i ≠ j := fun e => hji e.symm
      have hdji := notdep listed hsz hcl j i hj hr
      have hdij := notdep listed hsz hcl i j hr hj
      have hjF : (F j).1 = none ∧ ∀ w, (F j).2 w := hun j (by rw [getD_sw (by omega) false true]; exact hjun)
      have h2 := jpart (P := P) (md := md) (C := C) (T := T) (O := Outc P C T ops i oi a F v0) (Kt := fun v A a' F' => wpAnyK P md ops C T Q f ((listed.setIfInBounds i true).setIfInBounds j true) a' F')
        hji hoj hap (fun cs b => hsel i oi cs b hi) (fun cs b => hsel j oj cs b hoj) hdji hjF hT hne hO (fun v A ho hn => (hK v A ho hn).2 j (ready_mono hj hji))
      obtain ⟨p1, p2, p3⟩ := Oper.apart_spec hap
      refine kOp_mono ?_ h2
      rintro a' F' ⟨⟨u, rfl⟩, ⟨B, rfl, hB⟩, hne', hrest⟩
      have hw : Region.wanted oi (yielded ops (a.put oj.dst u).tmps) = Region.wanted oi (yielded ops a.tmps) := wanted_put oi a oj.dst u p3
      have he : execOp (a.put oj.dst u).eval oi = execOp a.eval oi := execOp_put oi (fun cs b => hsel i oi cs b hi) a oj.dst u p3
      have hv : opVals oi (a.put oj.dst u) = opVals oi a := opVals_put p3
      refine ih (listed.setIfInBounds j true) (a.put oj.dst u) (F.put j B) (by simp [hsz]) (closed_set hcl hj) ?_ ?_ hne' ?_ (ready_mono hr hji') ?_
      · intro k hk
        by_cases hkj : k = j
        · subst hkj
          simp [hsz, hjs] at hk
        · rw [getD_set_ne false (fun e => hkj e.symm)] at hk
          rw [facts_ne hkj]; exact hun k hk
      · intro k w w' hf hx
        by_cases hkj : k = j
        · subst hkj; rw [facts_at] at hf ⊢; exact hB _ _ hf hx
        · rw [facts_ne hkj] at hf ⊢; exact hst k _ _ hf hx
      · intro k ok hk hki hku hno
        refine hfree k ok hk hki ?_ hno
        by_cases hjk : j = k
        · subst hjk; exact hjun
        · rw [getD_set_ne true hjk] at hku; exact hku
      · refine kOp_of_out (v0 := v0) hi hne' ?_ (fun v A ho hn => ?_)
        · unfold Spec at hs ⊢
          rw [hw]
          intro hww
          have hs := hs hww
          have hF : ∀ k w, dep md ops i k = true → ((F.put j B k).2 w ↔ (F k).2 w) := fun k w hk => by
            rw [facts_ne (by rintro rfl; rw [hdij] at hk; cases hk)]
          cases ht : T i with
          | none =>
            simp only [ht] at hs ⊢
            intro w hc hd
            have := hs w hc (fun k hk => (hF k w hk).1 (hd k hk))
            unfold Oper.detAt at *
            rwa [he]
          | some R =>
            simp only [ht] at hs ⊢
            intro w hc hd
            have := hs w hc (fun k hk => (hF k w hk).1 (hd k hk))
            unfold Oper.relAt at *
            rwa [he, hv]
        · have ho' : Outc P C T ops i oi a F v0 v A := by
            unfold Outc at ho ⊢
            rw [hw, hv, facts_ne hji'] at ho
            exact ho
          have := hrest v A ho' hn
          rwa [Array.setIfInBounds_comm _ _ hji'] at this
/-- The text's order serves every order. -/
theorem lex_K (hup : ∀ w w', C w → Ext w w' → C w') (hT : ∀ i R vals v w w', T i = some R → R vals v w → Ext w w' → R vals v w') (hs : Region.noSelect ops = true) :
    ∀ (l : List Oper) (k : Nat) (listed : Array Bool) (a : Act) (F : Facts), (∀ j, l[j]? = ops[k + j]?) → listed.size = ops.size → Closed md ops listed → (∀ k, listed.getD k false = false → (F k).1 = none ∧ ∀ w, (F k).2 w) →
    (∀ k w w', (F k).2 w → Ext w w' → (F k).2 w') → Ne C F → Region.lexFrom md ops l.length k listed = true → wpK P md ops C T Q k l a F → wpAnyK P md ops C T Q l.length listed a F
  | [], _, _, _, _, _, _, _, _, _, _, hB, h => ⟨by simpa [Region.lexFrom] using hB, h⟩
  | o :: l, k, listed, a, F, hl, hsz, hcl, hun, hst, hne, hB, h => by
    have h0 : ops[k]? = some o := by simpa using (hl 0).symm
    simp only [List.length_cons, Region.lexFrom, Bool.and_eq_true] at hB
    obtain ⟨⟨hr, hf⟩, hB'⟩ := hB
    have hr' : k ∈ Region.ready md ops listed := by simpa using hr
    have hks : k < ops.size := (Array.getElem?_eq_some_iff.1 h0).1
    refine first_K hup hT h0 (Region.noSelect_spec hs) l.length listed a F hsz hcl hun hst hne (Region.free_spec h0 hf) hr' ?_
    have hk : kOp P md ops C T k (wpK P md ops C T Q (k + 1) l) a F := by unfold kOp; simp only [h0]; exact h
    obtain ⟨v0, hsp, hK⟩ := kOp_out h0 hk
    refine kOp_of_out h0 hne hsp (fun v A ho hn => ?_)
    refine lex_K hup hT hs l (k + 1) _ _ _ (fun j => by have := hl (j + 1); simpa [Nat.add_assoc, Nat.add_comm 1 j] using this) (by simp [hsz]) (closed_set hcl hr') ?_ ?_ hn hB' (hK v A ho hn)
    · intro j hj
      by_cases hjk : j = k
      · subst hjk
        simp [hsz, hks] at hj
      · rw [getD_set_ne false (fun e => hjk e.symm)] at hj
        rw [facts_ne hjk]; exact hun j hj
    · intro j w w' hf hx
      by_cases hjk : j = k
      · subst hjk
        rw [facts_at] at hf ⊢
        unfold Outc at ho
        split at ho
        · cases ht : T j with
          | none => simp only [ht] at ho; rw [ho.2] at hf ⊢; exact hst j _ _ hf hx
          | some R => simp only [ht] at ho; rw [ho] at hf ⊢; exact hT _ _ _ _ _ _ ht hf hx
        · rw [ho.2] at hf ⊢; exact hst j _ _ hf hx
      · rw [facts_ne hjk] at hf ⊢; exact hst j _ _ hf hx
theorem wp_of_relAt {o : Oper} {a : Act} {w : World} {R : Value → World → Prop} {K' : Act → World → Prop} {Q' : Exit → Act → World → Prop} (hh : Oper.relAt P o a w R)
    (h : ∀ v w', Ext w w' → Fresh w v w' → R v w' → K' (a.put o.dst v) w') : o.wp P a w K' Q' := by
  unfold Oper.relAt at hh
  unfold Oper.wp
  generalize (execOp a.eval o).run P w = r at *
  cases r with
  | ok n w' =>
    cases n <;> simp only [relUpon] at hh <;> simp only [Oper.upon]
    case value u => exact h _ _ hh.1 hh.2.1 hh.2.2
    case skip => exact h _ _ hh.1 hh.2.1 hh.2.2
    case enter f args =>
      rw [hh.1]
      exact hh.2.mono fun e w'' ⟨v, he, h1, h2, h3⟩ => by subst he; exact h _ _ h1 h2 h3
  | halt x w' => simp only [relUpon] at hh
theorem any_of_K (hup : ∀ w w', C w → Ext w w' → C w') (hT : ∀ i R vals v w w', T i = some R → R vals v w → Ext w w' → R vals v w') {Q' : Exit → Act → World → Prop} (hQ : ∀ a F w, C w → Good F w → Q a F → Q' .normal a w) :
    ∀ (fuel : Nat) (listed : Array Bool) (a : Act) (F : Facts) (w : World), C w → Good F w → (∀ k w w', (F k).2 w → Ext w w' → (F k).2 w') →
      wpAnyK P md ops C T Q fuel listed a F → wpAny P md ops Q' fuel listed a w
  | 0, _, _, _, _, hw, hF, _, h => ⟨h.1, hQ _ _ _ hw hF h.2⟩
  | fuel + 1, listed, a, F, w, hw, hF, hst, h => by
    refine ⟨fun h0 => hQ _ _ _ hw hF (h.1 h0), fun i hi => ?_⟩
    have hk := h.2 i hi
    unfold kOp at hk
    unfold wpOp
    split
    · rename_i ho; simp only [ho] at hk; exact any_of_K hup hT hQ fuel _ a F w hw hF hst hk
    · rename_i o ho
      simp only [ho] at hk
      split
      · rename_i hwt
        rw [if_pos hwt] at hk
        unfold kOper at hk
        left
        cases ht : T i with
        | none =>
          simp only [ht] at hk
          obtain ⟨v, h1, h2⟩ := hk
          have hq := h1 w hw (fun k _ => hF.fact k)
          unfold Oper.detAt at hq
          unfold Oper.wp
          generalize (execOp a.eval o).run P w = r at *
          cases r with
          | ok n w' =>
            cases n <;> simp only [detUpon] at hq <;> simp only [Oper.upon]
            case value u => rw [hq.1, hq.2]; exact any_of_K hup hT hQ fuel _ _ F w hw hF hst h2
            case skip => rw [hq.1, ← hq.2]; exact any_of_K hup hT hQ fuel _ _ F w hw hF hst h2
            case enter f args =>
              rw [hq.1]
              refine hq.2.mono fun e w'' ⟨he, hx⟩ => ?_
              subst he
              exact any_of_K hup hT hQ fuel _ _ F w'' (hup _ _ hw hx) (good_ext hF hst hx) hst h2
          | halt x w' => simp only [detUpon] at hq
        | some R =>
          simp only [ht] at hk
          refine wp_of_relAt (hk.1 w hw (fun k _ => hF.fact k)) (fun v w' he hfr hr => ?_)
          have hF' : Good (F.put i (blk v, R (opVals o a) v)) w' := good_put hF hst he hfr hr
          refine any_of_K hup hT hQ fuel _ _ _ w' (hup _ _ hw he) hF' ?_ (hk.2 v ⟨w', hup _ _ hw he, hF'⟩)
          intro k x x' hf hx
          by_cases hki : k = i
          · subst hki; rw [facts_at] at hf ⊢; exact hT _ _ _ _ _ _ ht hf hx
          · rw [facts_ne hki] at hf ⊢; exact hst k _ _ hf hx
      · rename_i hwt
        rw [if_neg hwt] at hk
        exact any_of_K hup hT hQ fuel _ _ F w hw hF hst hk
end
def noFacts : Facts := fun _ => (none, fun _ => True)
theorem noFacts_good (w : World) : Good noFacts w := ⟨fun _ => trivial, fun _ _ hb => (by simp [noFacts] at hb), fun _ _ _ _ hb => (by simp [noFacts] at hb)⟩
section
variable {P : Program} {md : Region.Mode} {T : Table} {Q : Act → Facts → Prop} {ops : Array Oper} {C : World → Prop}
theorem wpK_nil {k : Nat} {a : Act} {F : Facts} (h : Q a F) : wpK P md ops C T Q k [] a F := h
theorem wpK_det {k : Nat} {o : Oper} {l : List Oper} {a : Act} {F : Facts} (ht : T k = none)
    (h : ∀ Kt : Act → Prop, (∀ a, wpK P md ops C T Q (k + 1) l a F → Kt a) → if Region.wanted o (yielded ops a.tmps) = true then ∃ v, (∀ w, C w → Oper.detAt P o a w v) ∧ Kt (a.put o.dst v) else Kt (a.put o.dst undef)) :
    wpK P md ops C T Q k (o :: l) a F := by
  have h := h _ (fun _ hh => hh)
  unfold wpK
  split
  · rename_i hw
    rw [if_pos hw] at h
    unfold kOper
    simp only [ht]
    obtain ⟨v, h1, h2⟩ := h
    exact ⟨v, fun w hw _ => h1 w hw, h2⟩
  · rename_i hw
    rw [if_neg hw] at h
    exact h
theorem wpK_rel {k : Nat} {o : Oper} {l : List Oper} {a : Act} {F : Facts} (R : List Value → Value → World → Prop) (ht : T k = some R) (hw : Region.wanted o (yielded ops a.tmps) = true)
    (h1 : ∀ w, C w → (∀ j, dep md ops k j = true → (F j).2 w) → Oper.relAt P o a w (R (opVals o a)))
    (h2 : ∀ v, (∃ w, C w ∧ R (opVals o a) v w) → wpK P md ops C T Q (k + 1) l (a.put o.dst v) (F.put k (blk v, R (opVals o a) v))) : wpK P md ops C T Q k (o :: l) a F := by
  unfold wpK
  rw [if_pos hw]
  unfold kOper
  simp only [ht]
  refine ⟨h1, fun v hn => h2 v ?_⟩
  obtain ⟨w, hc, hg⟩ := hn
  have := hg.fact k
  rw [facts_at] at this
  exact ⟨w, hc, this⟩
end
theorem wp_drawn_tail {P : Program} {id : Nat} {Q : Exit → Act → World → Prop} {a : Act} {w : World} {l : List Oper} (n : Nat) (T : Table) (hm : P.follows .mixedOrders = true) (hS : splitB .any l.toArray n = true) (hB : Region.lexB .any (l.take n).toArray = true)
    (hT : ∀ i R vals v w w', T i = some R → R vals v w → Ext w w' → R vals v w')
    (h : (∀ (n : Aft w) b o, b < w.heap.size → n.out.cell? ⟨b, o, none⟩ = w.cell? ⟨b, o, none⟩) → (∀ (n : Aft w) b o, b < w.heap.size → n.out.frozen? ⟨b, o, none⟩ = w.frozen? ⟨b, o, none⟩) →
      wpK P .any (l.take n).toArray (fun w' => ∃ n : Aft w, w' = n.out) T (fun a' F => ∀ m : Aft w, Good F m.out → wpList P l.toArray Q (l.drop n) a' m.out) 0 (l.take n) a noFacts) : (Code.region id l.toArray true).wp P Q a w := by
  have hn : n < l.length := by simp only [splitB, Bool.and_eq_true, decide_eq_true_eq] at hS; simpa using hS.1.1.1
  refine wp_region_split n hm hS ?_
  have e : l.toArray.extract 0 n = (l.take n).toArray := by simp
  rw [e]
  simp only [Region.lexB, Bool.and_eq_true] at hB
  have hC : ∃ n : Aft w, w.drew = n.out := ⟨⟨_, ext_drew (ext_refl w)⟩, rfl⟩
  have hup : ∀ w' w'', (∃ n : Aft w, w' = n.out) → Ext w' w'' → ∃ n : Aft w, w'' = n.out := by
    rintro _ w'' ⟨n, rfl⟩ he
    exact ⟨⟨w'', ext_trans n.ext he⟩, rfl⟩
  have hg := noFacts_good
  have h := h (fun n b o hb => Below.cell (p := ⟨b, o, none⟩) n.ext hb) (fun n b o hb => Below.frozen (p := ⟨b, o, none⟩) n.ext hb)
  have hlen : (l.take n).toArray.size = n := by simp; omega
  refine any_of_K (T := T) hup hT (Q := fun a' F => ∀ m : Aft w, Good F m.out → wpList P l.toArray Q (l.drop n) a' m.out) ?_ _ _ _ noFacts _ hC (hg _) (fun _ _ _ _ _ => trivial) ?_
  · rintro a F _ ⟨m, rfl⟩ hgd hq
    exact hq m hgd
  · have := lex_K (P := P) (md := .any) (ops := (l.take n).toArray) (Q := fun a' F => ∀ m : Aft w, Good F m.out → wpList P l.toArray Q (l.drop n) a' m.out) hup hT hB.1 (l.take n) 0 (Array.replicate n false) a noFacts (by simp) (by simp; omega)
      (by intro j o ho hl; simp [Array.getD_eq_getD_getElem?, Array.getElem?_replicate] at hl; split at hl <;> simp at hl) (fun _ _ => ⟨rfl, fun _ => trivial⟩) (fun _ _ _ _ _ => trivial) ⟨_, hC, hg _⟩ (by have := hB.2; rw [hlen] at this; simpa [Nat.min_eq_left (Nat.le_of_lt hn)] using this) h
    simpa [Nat.min_eq_left (Nat.le_of_lt hn)] using this
/-! ## new variables -/
def Stays (R : List Value → Value → World → Prop) : Prop := ∀ vals v w w', R vals v w → Ext w w' → R vals v w'
def tab (l : List (Nat × (List Value → Value → World → Prop))) : Table := fun k => (l.find? (fun e => e.1 == k)).map (·.2)
theorem tab_stays {l : List (Nat × (List Value → Value → World → Prop))} (h : ∀ e ∈ l, Stays e.2) : ∀ i R vals v w w', tab l i = some R → R vals v w → Ext w w' → R vals v w' := by
  intro i R vals v w w' ht hr he
  unfold tab at ht
  cases hf : l.find? (fun e => e.1 == i) with
  | none => rw [hf] at ht; cases ht
  | some e =>
    rw [hf] at ht
    obtain rfl : e.2 = R := by simpa using ht
    exact h e (List.mem_of_find?_eq_some hf) vals v w w' hr he
end Go.Proofs.YtnkajjealkggdaaGreatDoor
end
section
/- A drawn region some of whose operations make memory, or hand on what they were given: the walk of Drawn, where only the blocks of pointers are held apart (a row that a call answered may be an old one). -/
namespace Go.Proofs.YtnkajjealkggdaaGreatDoor.D2
open Go.RowKit
/-! ## the walk -/
section
variable {P : Program} {ops : Array Oper} {md : Region.Mode} {C : World → Prop}
abbrev Table := Nat → Option (List Value → Value → World → Prop)
/-- A fact: the new block that a value leads to, if it does; what holds of the world. -/
abbrev Fact := Option Nat × (World → Prop)
abbrev Facts := Nat → Fact
def Facts.put (F : Facts) (i : Nat) (R : Fact) : Facts := fun k => if k = i then R else F k
def blk : Value → Option Nat
  | .pointer (some a) => some a.block
  | _ => none
def Fresh (w : World) (v : Value) (w' : World) : Prop := ∀ b, blk v = some b → w.heap.size ≤ b ∧ b < w'.heap.size
/-- All facts hold, and no two new blocks are one. -/
structure Good (F : Facts) (w : World) : Prop where
  fact : ∀ k, (F k).2 w
  there : ∀ k b, (F k).1 = some b → b < w.heap.size
  apart : ∀ i j b, i ≠ j → (F i).1 = some b → (F j).1 = some b → False
def opVals (o : Oper) (a : Act) : List Value := (o.op.operands.map a.eval).toList
/-- What is asked of an operation that makes memory: a value and a world behind of which R holds. -/
def relUpon (P : Program) (w : World) (R : Value → World → Prop) : Result Next → Prop
  | .ok (.value v) w' => Ext w w' ∧ Fresh w v w' ∧ R v w'
  | .ok .skip w' => Ext w w' ∧ Fresh w undef w' ∧ R undef w'
  | .ok (.enter f args) w' => w' = w ∧ Calls P f args w (fun e w'' => ∃ v, e = .returned v ∧ Ext w w'' ∧ Fresh w v w'' ∧ R v w'')
  | _ => False
def Oper.relAt (P : Program) (o : Oper) (a : Act) (w : World) (R : Value → World → Prop) : Prop := relUpon P w R ((execOp a.eval o).run P w)
/-- One value, whatever else has been made. -/
def detUpon (P : Program) (w : World) (v : Value) : Result Next → Prop
  | .ok (.value u) w' => w' = w ∧ u = v
  | .ok .skip w' => w' = w ∧ v = undef
  | .ok (.enter f args) w' => w' = w ∧ Calls P f args w (fun e w'' => e = .returned v ∧ Ext w w'')
  | _ => False
def Oper.detAt (P : Program) (o : Oper) (a : Act) (w : World) (v : Value) : Prop := detUpon P w v ((execOp a.eval o).run P w)
/-- Some world of the class knows all facts. -/
def Ne (C : World → Prop) (F : Facts) : Prop := ∃ w, C w ∧ Good F w
/-- One operation, wanted. -/
def kOper (P : Program) (md : Region.Mode) (ops : Array Oper) (C : World → Prop) (T : Table) (i : Nat) (o : Oper) (Kt : Act → Facts → Prop) (a : Act) (F : Facts) : Prop :=
  match T i with
  | none => ∃ v, (∀ w, C w → (∀ k, dep md ops i k = true → (F k).2 w) → Oper.detAt P o a w v) ∧ Kt (a.put o.dst v) F
  | some R => (∀ w, C w → (∀ k, dep md ops i k = true → (F k).2 w) → Oper.relAt P o a w (R (opVals o a))) ∧ ∀ v, Ne C (F.put i (blk v, R (opVals o a) v)) → Kt (a.put o.dst v) (F.put i (blk v, R (opVals o a) v))
def kOp (P : Program) (md : Region.Mode) (ops : Array Oper) (C : World → Prop) (T : Table) (i : Nat) (Kt : Act → Facts → Prop) (a : Act) (F : Facts) : Prop :=
  match ops[i]? with
  | none => Kt a F
  | some o => if Region.wanted o (yielded ops a.tmps) then kOper P md ops C T i o Kt a F else Kt (a.put o.dst undef) F
/-- Whatever order is picked. -/
def wpAnyK (P : Program) (md : Region.Mode) (ops : Array Oper) (C : World → Prop) (T : Table) (Q : Act → Facts → Prop) : Nat → Array Bool → Act → Facts → Prop
  | 0, listed, a, F => Region.ready md ops listed = [] ∧ Q a F
  | f + 1, listed, a, F => (Region.ready md ops listed = [] → Q a F) ∧ ∀ i ∈ Region.ready md ops listed, kOp P md ops C T i (wpAnyK P md ops C T Q f (listed.setIfInBounds i true)) a F
/-- The walk in the text's order. -/
def wpK (P : Program) (md : Region.Mode) (ops : Array Oper) (C : World → Prop) (T : Table) (Q : Act → Facts → Prop) : Nat → List Oper → Act → Facts → Prop
  | _, [], a, F => Q a F
  | k, o :: l, a, F => if Region.wanted o (yielded ops a.tmps) then kOper P md ops C T k o (wpK P md ops C T Q (k + 1) l) a F else wpK P md ops C T Q (k + 1) l (a.put o.dst undef) F
variable {T : Table} {Q : Act → Facts → Prop}
theorem kOper_mono {i : Nat} {o : Oper} {a : Act} {F : Facts} {K K' : Act → Facts → Prop} (h : ∀ a F, K a F → K' a F) (hh : kOper P md ops C T i o K a F) : kOper P md ops C T i o K' a F := by
  unfold kOper at *
  split
  · rename_i ht; simp only [ht] at hh; obtain ⟨v, h1, h2⟩ := hh; exact ⟨v, h1, h _ _ h2⟩
  · rename_i R ht; simp only [ht] at hh; exact ⟨hh.1, fun v hn => h _ _ (hh.2 v hn)⟩
theorem facts_comm {F : Facts} {i j : Nat} (h : i ≠ j) (A B : Fact) : (F.put i A).put j B = (F.put j B).put i A := by
  funext k
  unfold Facts.put
  by_cases h1 : k = i
  · subst h1; simp [h]
  · simp [h1]
theorem facts_self (F : Facts) (i : Nat) : F.put i (F i) = F := by
  funext k
  unfold Facts.put
  split
  · rename_i h; rw [h]
  · rfl
theorem facts_ne {F : Facts} {i k : Nat} {A : Fact} (h : k ≠ i) : F.put i A k = F k := by unfold Facts.put; rw [if_neg h]
theorem facts_at {F : Facts} {i : Nat} {A : Fact} : F.put i A i = A := by unfold Facts.put; rw [if_pos rfl]
/-- A fact more, of a new block. -/
theorem good_put {F : Facts} {w w' : World} {i : Nat} {v : Value} {R : World → Prop} (hg : Good F w) (hst : ∀ k w w', (F k).2 w → Ext w w' → (F k).2 w') (he : Ext w w') (hf : Fresh w v w') (hr : R w') : Good (F.put i (blk v, R)) w' := by
  refine ⟨fun k => ?_, fun k b hb => ?_, fun j k b hjk hj hk => ?_⟩
  · by_cases h : k = i
    · subst h; rw [facts_at]; exact hr
    · rw [facts_ne h]; exact hst k _ _ (hg.fact k) he
  · by_cases h : k = i
    · subst h; rw [facts_at] at hb; exact (hf b hb).2
    · rw [facts_ne h] at hb; exact Nat.lt_of_lt_of_le (hg.there k b hb) he.size
  · by_cases h : j = i
    · subst h
      rw [facts_at] at hj
      rw [facts_ne (Ne.symm hjk)] at hk
      have := hg.there k b hk
      have := (hf b hj).1
      omega
    · rw [facts_ne h] at hj
      by_cases h' : k = i
      · subst h'
        rw [facts_at] at hk
        have := hg.there j b hj
        have := (hf b hk).1
        omega
      · rw [facts_ne h'] at hk
        exact hg.apart j k b hjk hj hk
theorem good_ext {F : Facts} {w w' : World} (hg : Good F w) (hst : ∀ k w w', (F k).2 w → Ext w w' → (F k).2 w') (he : Ext w w') : Good F w' :=
  ⟨fun k => hst k _ _ (hg.fact k) he, fun k b hb => Nat.lt_of_lt_of_le (hg.there k b hb) he.size, hg.apart⟩
/-- One fact less, of which nothing was known. -/
theorem good_less {F : Facts} {w : World} {i j : Nat} {A B : Fact} (hij : j ≠ i) (hu : (F j).1 = none ∧ ∀ w, (F j).2 w) (hg : Good ((F.put j B).put i A) w) : Good (F.put i A) w := by
  have at_ : ∀ k, k ≠ j → ((F.put j B).put i A) k = (F.put i A) k := fun k hk => by
    by_cases h : k = i
    · subst h; rw [facts_at, facts_at]
    · rw [facts_ne h, facts_ne h, facts_ne hk]
  have atj : (F.put i A) j = F j := facts_ne hij
  refine ⟨fun k => ?_, fun k b hb => ?_, fun k l b hkl hk hl => ?_⟩
  · by_cases h : k = j
    · subst h; rw [atj]; exact hu.2 w
    · rw [← at_ k h]; exact hg.fact k
  · by_cases h : k = j
    · subst h; rw [atj, hu.1] at hb; cases hb
    · rw [← at_ k h] at hb; exact hg.there k b hb
  · by_cases h : k = j
    · subst h; rw [atj, hu.1] at hk; cases hk
    · by_cases h' : l = j
      · subst h'; rw [atj, hu.1] at hl; cases hl
      · rw [← at_ k h] at hk; rw [← at_ l h'] at hl; exact hg.apart k l b hkl hk hl
theorem quiet_det {o : Oper} {a : Act} {w : World} {u v : Value} (h1 : Oper.detAt P o a w u) (h2 : Oper.detAt P o a w v) : u = v := by
  unfold Oper.detAt at *
  generalize (execOp a.eval o).run P w = r at *
  cases r with
  | ok n w' =>
    cases n <;> simp only [detUpon] at h1 h2
    case value x => rw [← h1.2, ← h2.2]
    case skip => rw [h1.2, h2.2]
    case enter f args => exact calls_det h1.2 h2.2
  | halt x w' => simp only [detUpon] at h1
theorem relAt_ne {o : Oper} {a : Act} {w : World} {R : Value → World → Prop} (h : Oper.relAt P o a w R) : ∃ v w', Ext w w' ∧ Fresh w v w' ∧ R v w' := by
  unfold Oper.relAt at h
  generalize (execOp a.eval o).run P w = r at *
  cases r with
  | ok n w' =>
    cases n <;> simp only [relUpon] at h
    case value x => exact ⟨_, _, h⟩
    case skip => exact ⟨_, _, h⟩
    case enter f args =>
      obtain ⟨e, w1, fr, ⟨v, _, h1, h2⟩, _⟩ := h.2 []
      exact ⟨v, w1, h1, h2⟩
  | halt x w' => simp only [relUpon] at h
/-- A value and a fact that operation i may leave. -/
def Outc (P : Program) (C : World → Prop) (T : Table) (ops : Array Oper) (i : Nat) (oi : Oper) (a : Act) (F : Facts) (v0 : Value) (v : Value) (A : Fact) : Prop :=
  if Region.wanted oi (yielded ops a.tmps) then
    match T i with
    | none => v = v0 ∧ A = F i
    | some R => A = (blk v, R (opVals oi a) v)
  else v = undef ∧ A = F i
theorem opVals_put {o : Oper} {a : Act} {dst : Option Tmp} {v : Value} (h : ∀ d, dst = some d → d ∉ o.looksAt ops) : opVals o (a.put dst v) = opVals o a := by
  unfold opVals
  congr 1
  exact Array.map_congr_left fun x hx => Act.eval_put fun d hd hxd => h d hd (by
    subst hxd
    exact List.mem_append_left _ (List.mem_filterMap.2 ⟨.tmp d, by simpa using hx, rfl⟩))
theorem jpart {j : Nat} {oi oj : Oper} {i : Nat} {O : Value → Fact → Prop} {Kt : Value → Fact → Act → Facts → Prop} {a : Act} {F : Facts}
    (hij : j ≠ i) (hj : ops[j]? = some oj) (hap : oi.apart ops oj = true) (hsi : ∀ cs b, oi.op ≠ .select cs b) (hsj : ∀ cs b, oj.op ≠ .select cs b)
    (hdep : dep md ops j i = false) (hun : (F j).1 = none ∧ ∀ w, (F j).2 w) (hT : ∀ i R vals v w w', T i = some R → R vals v w → Ext w w' → R vals v w') (hne : Ne C F) (hO : ∃ v A, O v A ∧ Ne C (F.put i A))
    (h : ∀ v A, O v A → Ne C (F.put i A) → kOp P md ops C T j (Kt v A) (a.put oi.dst v) (F.put i A)) :
    kOp P md ops C T j (fun a' F' => (∃ u, a' = a.put oj.dst u) ∧ (∃ B : Fact, F' = F.put j B ∧ ∀ w w', B.2 w → Ext w w' → B.2 w') ∧ Ne C F' ∧ ∀ v A, O v A → Ne C (F'.put i A) → Kt v A (a'.put oi.dst v) (F'.put i A)) a F := by
  obtain ⟨h1, h2, h3⟩ := Oper.apart_spec hap
  unfold kOp at h ⊢
  simp only [hj] at h ⊢
  have hwt : ∀ v, Region.wanted oj (yielded ops (a.put oi.dst v).tmps) = Region.wanted oj (yielded ops a.tmps) := fun v => wanted_put oj a oi.dst v h1
  have hop : ∀ v, opVals oj (a.put oi.dst v) = opVals oj a := fun v => opVals_put h1
  by_cases hw : Region.wanted oj (yielded ops a.tmps) = true
  · rw [if_pos hw]
    unfold kOper
    cases ht : T j with
    | none =>
      obtain ⟨v0, A0, o0, n0⟩ := hO
      have k0 := h v0 A0 o0 n0
      rw [if_pos (by rw [hwt]; exact hw)] at k0
      unfold kOper at k0
      simp only [ht] at k0
      obtain ⟨u, q0, _⟩ := k0
      have q0' : ∀ w, C w → (∀ k, dep md ops j k = true → (F k).2 w) → Oper.detAt P oj a w u := fun w hw hF => by
        have := q0 w hw (fun k hk => by rw [facts_ne (by rintro rfl; rw [hdep] at hk; cases hk)]; exact hF k hk)
        unfold Oper.detAt at *
        rwa [execOp_put oj hsj a oi.dst v0 h1] at this
      refine ⟨u, q0', ⟨u, rfl⟩, ⟨F j, (facts_self F j).symm, fun _ w' _ _ => hun.2 w'⟩, hne, fun v A ho hn => ?_⟩
      have kv := h v A ho hn
      rw [if_pos (by rw [hwt]; exact hw)] at kv
      unfold kOper at kv
      simp only [ht] at kv
      obtain ⟨u', q1, q2⟩ := kv
      obtain ⟨ws, hc, hf⟩ := hne
      have : u' = u := by
        refine quiet_det (w := ws) ?_ (q0' ws hc (fun k _ => hf.fact k))
        have := q1 ws hc (fun k hk => by rw [facts_ne (by rintro rfl; rw [hdep] at hk; cases hk)]; exact hf.fact k)
        unfold Oper.detAt at *
        rwa [execOp_put oj hsj a oi.dst v h1] at this
      subst this
      rw [← Act.put_comm a v u' h2]
      exact q2
    | some R =>
      obtain ⟨v0, A0, o0, n0⟩ := hO
      have k0 := h v0 A0 o0 n0
      rw [if_pos (by rw [hwt]; exact hw)] at k0
      unfold kOper at k0
      simp only [ht, hop] at k0
      refine ⟨fun w hw hF => ?_, fun u hu => ⟨⟨u, rfl⟩, ⟨_, rfl, fun w w' hb he => hT _ _ _ _ _ _ ht hb he⟩, hu, fun v A ho hn => ?_⟩⟩
      · have := k0.1 w hw (fun k hk => by rw [facts_ne (by rintro rfl; rw [hdep] at hk; cases hk)]; exact hF k hk)
        unfold Oper.relAt at *
        rwa [execOp_put oj hsj a oi.dst v0 h1] at this
      · have hn' : Ne C (F.put i A) := by
          obtain ⟨ws, hc, hf⟩ := hn
          exact ⟨ws, hc, good_less hij hun hf⟩
        have kv := h v A ho hn'
        rw [if_pos (by rw [hwt]; exact hw)] at kv
        unfold kOper at kv
        simp only [ht, hop] at kv
        have := kv.2 u (by rw [facts_comm (Ne.symm hij)]; exact hn)
        rw [facts_comm (Ne.symm hij), Act.put_comm a v u h2] at this
        exact this
  · rw [if_neg hw]
    refine ⟨⟨undef, rfl⟩, ⟨F j, (facts_self F j).symm, fun _ w' _ _ => hun.2 w'⟩, hne, fun v A ho hn => ?_⟩
    have kv := h v A ho hn
    rw [if_neg (by rw [hwt]; exact hw)] at kv
    rw [← Act.put_comm a v undef h2]
    exact kv
theorem kOp_mono {i : Nat} {a : Act} {F : Facts} {K K' : Act → Facts → Prop} (h : ∀ a F, K a F → K' a F) (hh : kOp P md ops C T i K a F) : kOp P md ops C T i K' a F := by
  unfold kOp at *
  split
  · rename_i ho; simp only [ho] at hh; exact h _ _ hh
  · rename_i o ho
    simp only [ho] at hh
    split
    · rename_i hw; rw [if_pos hw] at hh; exact kOper_mono h hh
    · rename_i hw; rw [if_neg hw] at hh; exact h _ _ hh
/-- What operation i is shown to do. -/
def Spec (P : Program) (md : Region.Mode) (ops : Array Oper) (C : World → Prop) (T : Table) (i : Nat) (oi : Oper) (a : Act) (F : Facts) (v0 : Value) : Prop :=
  Region.wanted oi (yielded ops a.tmps) = true → match T i with
    | none => ∀ w, C w → (∀ k, dep md ops i k = true → (F k).2 w) → Oper.detAt P oi a w v0
    | some R => ∀ w, C w → (∀ k, dep md ops i k = true → (F k).2 w) → Oper.relAt P oi a w (R (opVals oi a))
theorem kOp_out {i : Nat} {oi : Oper} {Kt : Act → Facts → Prop} {a : Act} {F : Facts} (hi : ops[i]? = some oi) (h : kOp P md ops C T i Kt a F) :
    ∃ v0, Spec P md ops C T i oi a F v0 ∧ ∀ v A, Outc P C T ops i oi a F v0 v A → Ne C (F.put i A) → Kt (a.put oi.dst v) (F.put i A) := by
  unfold kOp at h
  simp only [hi] at h
  unfold Spec Outc
  by_cases hw : Region.wanted oi (yielded ops a.tmps) = true
  · rw [if_pos hw] at h
    simp only [if_pos hw]
    unfold kOper at h
    cases ht : T i with
    | none =>
      simp only [ht] at h ⊢
      obtain ⟨v0, h1, h2⟩ := h
      refine ⟨v0, fun _ => h1, ?_⟩
      rintro v A ⟨rfl, rfl⟩ _
      rw [facts_self]; exact h2
    | some R =>
      simp only [ht] at h ⊢
      refine ⟨undef, fun _ => h.1, ?_⟩
      rintro v A rfl hn
      exact h.2 v hn
  · rw [if_neg hw] at h
    refine ⟨undef, fun hh => absurd hh hw, ?_⟩
    simp only [if_neg hw]
    rintro v A ⟨rfl, rfl⟩ _
    rw [facts_self]; exact h
theorem out_ne {i : Nat} {oi : Oper} {a : Act} {F : Facts} {v0 : Value} (hup : ∀ w w', C w → Ext w w' → C w') (hst : ∀ k w w', (F k).2 w → Ext w w' → (F k).2 w') (hne : Ne C F) (hs : Spec P md ops C T i oi a F v0) :
    ∃ v A, Outc P C T ops i oi a F v0 v A ∧ Ne C (F.put i A) := by
  unfold Spec at hs
  unfold Outc
  by_cases hw : Region.wanted oi (yielded ops a.tmps) = true
  · have hs := hs hw
    simp only [if_pos hw]
    cases ht : T i with
    | none => exact ⟨v0, F i, ⟨rfl, rfl⟩, by rw [facts_self]; exact hne⟩
    | some R =>
      simp only [ht] at hs
      obtain ⟨ws, hc, hf⟩ := hne
      obtain ⟨v, w', he, hfr, hr⟩ := relAt_ne (hs ws hc (fun k _ => hf.fact k))
      exact ⟨v, _, rfl, w', hup _ _ hc he, good_put hf hst he hfr hr⟩
  · simp only [if_neg hw]
    exact ⟨undef, F i, ⟨rfl, rfl⟩, by rw [facts_self]; exact hne⟩
theorem kOp_of_out {i : Nat} {oi : Oper} {Kt : Act → Facts → Prop} {a : Act} {F : Facts} {v0 : Value} (hi : ops[i]? = some oi) (hne : Ne C F) (hs : Spec P md ops C T i oi a F v0)
    (h : ∀ v A, Outc P C T ops i oi a F v0 v A → Ne C (F.put i A) → Kt (a.put oi.dst v) (F.put i A)) : kOp P md ops C T i Kt a F := by
  unfold kOp
  simp only [hi]
  unfold Spec at hs
  unfold Outc at h
  by_cases hw : Region.wanted oi (yielded ops a.tmps) = true
  · have hs := hs hw
    rw [if_pos hw]
    simp only [if_pos hw] at h
    unfold kOper
    cases ht : T i with
    | none =>
      simp only [ht] at h hs
      refine ⟨v0, hs, ?_⟩
      have := h v0 (F i) ⟨rfl, rfl⟩ (by rw [facts_self]; exact hne)
      rwa [facts_self] at this
    | some R =>
      simp only [ht] at h hs
      exact ⟨hs, fun v hn => h v _ rfl hn⟩
  · rw [if_neg hw]
    simp only [if_neg hw] at h
    have := h undef (F i) ⟨rfl, rfl⟩ (by rw [facts_self]; exact hne)
    rwa [facts_self] at this
theorem first_K (hup : ∀ w w', C w → Ext w w' → C w') (hT : ∀ i R vals v w w', T i = some R → R vals v w → Ext w w' → R vals v w')
    {i : Nat} {oi : Oper} (hi : ops[i]? = some oi) (hsel : ∀ (j : Nat) (o : Oper) cs b, ops[j]? = some o → o.op ≠ .select cs b) :
    ∀ (f : Nat) (listed : Array Bool) (a : Act) (F : Facts), listed.size = ops.size → Closed md ops listed → (∀ k, listed.getD k false = false → (F k).1 = none ∧ ∀ w, (F k).2 w) → (∀ k w w', (F k).2 w → Ext w w' → (F k).2 w') → Ne C F →
      (∀ j oj, ops[j]? = some oj → j ≠ i → listed.getD j true = false → (∀ e ∈ oj.after, Region.binds md e = true → e.on ≠ i) → oi.apart ops oj = true) →
      i ∈ Region.ready md ops listed → kOp P md ops C T i (wpAnyK P md ops C T Q f (listed.setIfInBounds i true)) a F → wpAnyK P md ops C T Q (f + 1) listed a F := by
  have notdep : ∀ (listed : Array Bool), listed.size = ops.size → Closed md ops listed → ∀ j k, j ∈ Region.ready md ops listed → k ∈ Region.ready md ops listed → dep md ops j k = false := by
    intro listed hsz hcl j k hj hk
    cases hd : dep md ops j k with
    | false => rfl
    | true =>
      obtain ⟨_, oj, hoj, hall⟩ := mem_ready.1 hj
      obtain ⟨h0, ok, hok, _⟩ := mem_ready.1 hk
      have hks : k < ops.size := (Array.getElem?_eq_some_iff.1 hok).1
      have := reach_listed hcl _ _ _ oj hoj hall hd
      rw [getD_sw (by omega) false true, h0] at this
      cases this
  intro f
  induction f with
  | zero =>
    intro listed a F hsz hcl hun hst hne hfree hr h
    refine ⟨fun h0 => (by rw [h0] at hr; cases hr), fun j hj => ?_⟩
    by_cases hji : j = i
    · subst hji; exact h
    · exfalso
      obtain ⟨v0, hs, hK⟩ := kOp_out hi h
      obtain ⟨v, A, ho, hn⟩ := out_ne hup hst hne hs
      have h1 := ready_mono hj hji
      rw [(hK v A ho hn).1] at h1
      cases h1
  | succ f ih =>
    intro listed a F hsz hcl hun hst hne hfree hr h
    refine ⟨fun h0 => (by rw [h0] at hr; cases hr), fun j hj => ?_⟩
    by_cases hji : j = i
    · subst hji; exact h
    · obtain ⟨v0, hs, hK⟩ := kOp_out hi h
      have hO := out_ne hup hst hne hs
      obtain ⟨hjun, oj, hoj, hall⟩ := mem_ready.1 hj
      have hjs : j < ops.size := (Array.getElem?_eq_some_iff.1 hoj).1
      have hnot : ∀ e ∈ oj.after, Region.binds md e = true → e.on ≠ i := fun e he hb heq => by
        have h1 := hall e he hb
        have h0 := (mem_ready.1 hr).1
        have his : i < ops.size := (Array.getElem?_eq_some_iff.1 hi).1
        rw [heq, getD_sw (by omega) false true, h0] at h1
        cases h1
      have hap := hfree j oj hoj hji hjun hnot
      have hji' : i ≠ j := fun e => hji e.symm
      have hdji := notdep listed hsz hcl j i hj hr
      have hdij := notdep listed hsz hcl i j hr hj
      have hjF : (F j).1 = none ∧ ∀ w, (F j).2 w := hun j (by rw [getD_sw (by omega) false true]; exact hjun)
      have h2 := jpart (P := P) (md := md) (C := C) (T := T) (O := Outc P C T ops i oi a F v0) (Kt := fun v A a' F' => wpAnyK P md ops C T Q f ((listed.setIfInBounds i true).setIfInBounds j true) a' F')
        hji hoj hap (fun cs b => hsel i oi cs b hi) (fun cs b => hsel j oj cs b hoj) hdji hjF hT hne hO (fun v A ho hn => (hK v A ho hn).2 j (ready_mono hj hji))
      obtain ⟨p1, p2, p3⟩ := Oper.apart_spec hap
      refine kOp_mono ?_ h2
      rintro a' F' ⟨⟨u, rfl⟩, ⟨B, rfl, hB⟩, hne', hrest⟩
      have hw : Region.wanted oi (yielded ops (a.put oj.dst u).tmps) = Region.wanted oi (yielded ops a.tmps) := wanted_put oi a oj.dst u p3
      have he : execOp (a.put oj.dst u).eval oi = execOp a.eval oi := execOp_put oi (fun cs b => hsel i oi cs b hi) a oj.dst u p3
      have hv : opVals oi (a.put oj.dst u) = opVals oi a := opVals_put p3
      refine ih (listed.setIfInBounds j true) (a.put oj.dst u) (F.put j B) (by simp [hsz]) (closed_set hcl hj) ?_ ?_ hne' ?_ (ready_mono hr hji') ?_
      · intro k hk
        by_cases hkj : k = j
        · subst hkj
          simp [hsz, hjs] at hk
        · rw [getD_set_ne false (fun e => hkj e.symm)] at hk
          rw [facts_ne hkj]; exact hun k hk
      · intro k w w' hf hx
        by_cases hkj : k = j
        · subst hkj; rw [facts_at] at hf ⊢; exact hB _ _ hf hx
        · rw [facts_ne hkj] at hf ⊢; exact hst k _ _ hf hx
      · intro k ok hk hki hku hno
        refine hfree k ok hk hki ?_ hno
        by_cases hjk : j = k
        · subst hjk; exact hjun
        · rw [getD_set_ne true hjk] at hku; exact hku
      · refine kOp_of_out (v0 := v0) hi hne' ?_ (fun v A ho hn => ?_)
        · unfold Spec at hs ⊢
          rw [hw]
          intro hww
          have hs := hs hww
          have hF : ∀ k w, dep md ops i k = true → ((F.put j B k).2 w ↔ (F k).2 w) := fun k w hk => by
            rw [facts_ne (by rintro rfl; rw [hdij] at hk; cases hk)]
          cases ht : T i with
          | none =>
            simp only [ht] at hs ⊢
            intro w hc hd
            have := hs w hc (fun k hk => (hF k w hk).1 (hd k hk))
            unfold Oper.detAt at *
            rwa [he]
          | some R =>
            simp only [ht] at hs ⊢
            intro w hc hd
            have := hs w hc (fun k hk => (hF k w hk).1 (hd k hk))
            unfold Oper.relAt at *
            rwa [he, hv]
        · have ho' : Outc P C T ops i oi a F v0 v A := by
            unfold Outc at ho ⊢
            rw [hw, hv, facts_ne hji'] at ho
            exact ho
          have := hrest v A ho' hn
          rwa [Array.setIfInBounds_comm _ _ hji'] at this
/-- The text's order serves every order. -/
theorem lex_K (hup : ∀ w w', C w → Ext w w' → C w') (hT : ∀ i R vals v w w', T i = some R → R vals v w → Ext w w' → R vals v w') (hs : Region.noSelect ops = true) :
    ∀ (l : List Oper) (k : Nat) (listed : Array Bool) (a : Act) (F : Facts), (∀ j, l[j]? = ops[k + j]?) → listed.size = ops.size → Closed md ops listed → (∀ k, listed.getD k false = false → (F k).1 = none ∧ ∀ w, (F k).2 w) →
    (∀ k w w', (F k).2 w → Ext w w' → (F k).2 w') → Ne C F → Region.lexFrom md ops l.length k listed = true → wpK P md ops C T Q k l a F → wpAnyK P md ops C T Q l.length listed a F
  | [], _, _, _, _, _, _, _, _, _, _, hB, h => ⟨by simpa [Region.lexFrom] using hB, h⟩
  | o :: l, k, listed, a, F, hl, hsz, hcl, hun, hst, hne, hB, h => by
    have h0 : ops[k]? = some o := by simpa using (hl 0).symm
    simp only [List.length_cons, Region.lexFrom, Bool.and_eq_true] at hB
    obtain ⟨⟨hr, hf⟩, hB'⟩ := hB
    have hr' : k ∈ Region.ready md ops listed := by simpa using hr
    have hks : k < ops.size := (Array.getElem?_eq_some_iff.1 h0).1
    refine first_K hup hT h0 (Region.noSelect_spec hs) l.length listed a F hsz hcl hun hst hne (Region.free_spec h0 hf) hr' ?_
    have hk : kOp P md ops C T k (wpK P md ops C T Q (k + 1) l) a F := by unfold kOp; simp only [h0]; exact h
    obtain ⟨v0, hsp, hK⟩ := kOp_out h0 hk
    refine kOp_of_out h0 hne hsp (fun v A ho hn => ?_)
    refine lex_K hup hT hs l (k + 1) _ _ _ (fun j => by have := hl (j + 1); simpa [Nat.add_assoc, Nat.add_comm 1 j] using this) (by simp [hsz]) (closed_set hcl hr') ?_ ?_ hn hB' (hK v A ho hn)
    · intro j hj
      by_cases hjk : j = k
      · subst hjk
        simp [hsz, hks] at hj
      · rw [getD_set_ne false (fun e => hjk e.symm)] at hj
        rw [facts_ne hjk]; exact hun j hj
    · intro j w w' hf hx
      by_cases hjk : j = k
      · subst hjk
        rw [facts_at] at hf ⊢
        unfold Outc at ho
        split at ho
        · cases ht : T j with
          | none => simp only [ht] at ho; rw [ho.2] at hf ⊢; exact hst j _ _ hf hx
          | some R => simp only [ht] at ho; rw [ho] at hf ⊢; exact hT _ _ _ _ _ _ ht hf hx
        · rw [ho.2] at hf ⊢; exact hst j _ _ hf hx
      · rw [facts_ne hjk] at hf ⊢; exact hst j _ _ hf hx
theorem wp_of_relAt {o : Oper} {a : Act} {w : World} {R : Value → World → Prop} {K' : Act → World → Prop} {Q' : Exit → Act → World → Prop} (hh : Oper.relAt P o a w R)
    (h : ∀ v w', Ext w w' → Fresh w v w' → R v w' → K' (a.put o.dst v) w') : o.wp P a w K' Q' := by
  unfold Oper.relAt at hh
  unfold Oper.wp
  generalize (execOp a.eval o).run P w = r at *
  cases r with
  | ok n w' =>
    cases n <;> simp only [relUpon] at hh <;> simp only [Oper.upon]
    case value u => exact h _ _ hh.1 hh.2.1 hh.2.2
    case skip => exact h _ _ hh.1 hh.2.1 hh.2.2
    case enter f args =>
      rw [hh.1]
      exact hh.2.mono fun e w'' ⟨v, he, h1, h2, h3⟩ => by subst he; exact h _ _ h1 h2 h3
  | halt x w' => simp only [relUpon] at hh
theorem any_of_K (hup : ∀ w w', C w → Ext w w' → C w') (hT : ∀ i R vals v w w', T i = some R → R vals v w → Ext w w' → R vals v w') {Q' : Exit → Act → World → Prop} (hQ : ∀ a F w, C w → Good F w → Q a F → Q' .normal a w) :
    ∀ (fuel : Nat) (listed : Array Bool) (a : Act) (F : Facts) (w : World), C w → Good F w → (∀ k w w', (F k).2 w → Ext w w' → (F k).2 w') →
      wpAnyK P md ops C T Q fuel listed a F → wpAny P md ops Q' fuel listed a w
  | 0, _, _, _, _, hw, hF, _, h => ⟨h.1, hQ _ _ _ hw hF h.2⟩
  | fuel + 1, listed, a, F, w, hw, hF, hst, h => by
    refine ⟨fun h0 => hQ _ _ _ hw hF (h.1 h0), fun i hi => ?_⟩
    have hk := h.2 i hi
    unfold kOp at hk
    unfold wpOp
    split
    · rename_i ho; simp only [ho] at hk; exact any_of_K hup hT hQ fuel _ a F w hw hF hst hk
    · rename_i o ho
      simp only [ho] at hk
      split
      · rename_i hwt
        rw [if_pos hwt] at hk
        unfold kOper at hk
        left
        cases ht : T i with
        | none =>
          simp only [ht] at hk
          obtain ⟨v, h1, h2⟩ := hk
          have hq := h1 w hw (fun k _ => hF.fact k)
          unfold Oper.detAt at hq
          unfold Oper.wp
          generalize (execOp a.eval o).run P w = r at *
          cases r with
          | ok n w' =>
            cases n <;> simp only [detUpon] at hq <;> simp only [Oper.upon]
            case value u => rw [hq.1, hq.2]; exact any_of_K hup hT hQ fuel _ _ F w hw hF hst h2
            case skip => rw [hq.1, ← hq.2]; exact any_of_K hup hT hQ fuel _ _ F w hw hF hst h2
            case enter f args =>
              rw [hq.1]
              refine hq.2.mono fun e w'' ⟨he, hx⟩ => ?_
              subst he
              exact any_of_K hup hT hQ fuel _ _ F w'' (hup _ _ hw hx) (good_ext hF hst hx) hst h2
          | halt x w' => simp only [detUpon] at hq
        | some R =>
          simp only [ht] at hk
          refine wp_of_relAt (hk.1 w hw (fun k _ => hF.fact k)) (fun v w' he hfr hr => ?_)
          have hF' : Good (F.put i (blk v, R (opVals o a) v)) w' := good_put hF hst he hfr hr
          refine any_of_K hup hT hQ fuel _ _ _ w' (hup _ _ hw he) hF' ?_ (hk.2 v ⟨w', hup _ _ hw he, hF'⟩)
          intro k x x' hf hx
          by_cases hki : k = i
          · subst hki; rw [facts_at] at hf ⊢; exact hT _ _ _ _ _ _ ht hf hx
          · rw [facts_ne hki] at hf ⊢; exact hst k _ _ hf hx
      · rename_i hwt
        rw [if_neg hwt] at hk
        exact any_of_K hup hT hQ fuel _ _ F w hw hF hst hk
end
def noFacts : Facts := fun _ => (none, fun _ => True)
theorem noFacts_good (w : World) : Good noFacts w := ⟨fun _ => trivial, fun _ _ hb => (by simp [noFacts] at hb), fun _ _ _ _ hb => (by simp [noFacts] at hb)⟩
section
variable {P : Program} {md : Region.Mode} {T : Table} {Q : Act → Facts → Prop} {ops : Array Oper} {C : World → Prop}
theorem wpK_nil {k : Nat} {a : Act} {F : Facts} (h : Q a F) : wpK P md ops C T Q k [] a F := h
theorem wpK_det {k : Nat} {o : Oper} {l : List Oper} {a : Act} {F : Facts} (ht : T k = none)
    (h : ∀ Kt : Act → Prop, (∀ a, wpK P md ops C T Q (k + 1) l a F → Kt a) → if Region.wanted o (yielded ops a.tmps) = true then ∃ v, (∀ w, C w → Oper.detAt P o a w v) ∧ Kt (a.put o.dst v) else Kt (a.put o.dst undef)) :
    wpK P md ops C T Q k (o :: l) a F := by
  have h := h _ (fun _ hh => hh)
  unfold wpK
  split
  · rename_i hw
    rw [if_pos hw] at h
    unfold kOper
    simp only [ht]
    obtain ⟨v, h1, h2⟩ := h
    exact ⟨v, fun w hw _ => h1 w hw, h2⟩
  · rename_i hw
    rw [if_neg hw] at h
    exact h
theorem wpK_rel {k : Nat} {o : Oper} {l : List Oper} {a : Act} {F : Facts} (R : List Value → Value → World → Prop) (ht : T k = some R) (hw : Region.wanted o (yielded ops a.tmps) = true)
    (h1 : ∀ w, C w → (∀ j, dep md ops k j = true → (F j).2 w) → Oper.relAt P o a w (R (opVals o a)))
    (h2 : ∀ v, (∃ w, C w ∧ R (opVals o a) v w) → wpK P md ops C T Q (k + 1) l (a.put o.dst v) (F.put k (blk v, R (opVals o a) v))) : wpK P md ops C T Q k (o :: l) a F := by
  unfold wpK
  rw [if_pos hw]
  unfold kOper
  simp only [ht]
  refine ⟨h1, fun v hn => h2 v ?_⟩
  obtain ⟨w, hc, hg⟩ := hn
  have := hg.fact k
  rw [facts_at] at this
  exact ⟨w, hc, this⟩
end
theorem wp_drawn_tail {P : Program} {id : Nat} {Q : Exit → Act → World → Prop} {a : Act} {w : World} {l : List Oper} (n : Nat) (T : Table) (hm : P.follows .mixedOrders = true) (hS : splitB .any l.toArray n = true) (hB : Region.lexB .any (l.take n).toArray = true)
    (hT : ∀ i R vals v w w', T i = some R → R vals v w → Ext w w' → R vals v w')
    (h : (∀ (n : Aft w) b o, b < w.heap.size → n.out.cell? ⟨b, o, none⟩ = w.cell? ⟨b, o, none⟩) → (∀ (n : Aft w) b o, b < w.heap.size → n.out.frozen? ⟨b, o, none⟩ = w.frozen? ⟨b, o, none⟩) →
      wpK P .any (l.take n).toArray (fun w' => ∃ n : Aft w, w' = n.out) T (fun a' F => ∀ m : Aft w, Good F m.out → wpList P l.toArray Q (l.drop n) a' m.out) 0 (l.take n) a noFacts) : (Code.region id l.toArray true).wp P Q a w := by
  have hn : n < l.length := by simp only [splitB, Bool.and_eq_true, decide_eq_true_eq] at hS; simpa using hS.1.1.1
  refine wp_region_split n hm hS ?_
  have e : l.toArray.extract 0 n = (l.take n).toArray := by simp
  rw [e]
  simp only [Region.lexB, Bool.and_eq_true] at hB
  have hC : ∃ n : Aft w, w.drew = n.out := ⟨⟨_, ext_drew (ext_refl w)⟩, rfl⟩
  have hup : ∀ w' w'', (∃ n : Aft w, w' = n.out) → Ext w' w'' → ∃ n : Aft w, w'' = n.out := by
    rintro _ w'' ⟨n, rfl⟩ he
    exact ⟨⟨w'', ext_trans n.ext he⟩, rfl⟩
  have hg := noFacts_good
  have h := h (fun n b o hb => Below.cell (p := ⟨b, o, none⟩) n.ext hb) (fun n b o hb => Below.frozen (p := ⟨b, o, none⟩) n.ext hb)
  have hlen : (l.take n).toArray.size = n := by simp; omega
  refine any_of_K (T := T) hup hT (Q := fun a' F => ∀ m : Aft w, Good F m.out → wpList P l.toArray Q (l.drop n) a' m.out) ?_ _ _ _ noFacts _ hC (hg _) (fun _ _ _ _ _ => trivial) ?_
  · rintro a F _ ⟨m, rfl⟩ hgd hq
    exact hq m hgd
  · have := lex_K (P := P) (md := .any) (ops := (l.take n).toArray) (Q := fun a' F => ∀ m : Aft w, Good F m.out → wpList P l.toArray Q (l.drop n) a' m.out) hup hT hB.1 (l.take n) 0 (Array.replicate n false) a noFacts (by simp) (by simp; omega)
      (by intro j o ho hl; simp [Array.getD_eq_getD_getElem?, Array.getElem?_replicate] at hl; split at hl <;> simp at hl) (fun _ _ => ⟨rfl, fun _ => trivial⟩) (fun _ _ _ _ _ => trivial) ⟨_, hC, hg _⟩ (by have := hB.2; rw [hlen] at this; simpa [Nat.min_eq_left (Nat.le_of_lt hn)] using this) h
    simpa [Nat.min_eq_left (Nat.le_of_lt hn)] using this
/-! ## new variables -/
def Stays (R : List Value → Value → World → Prop) : Prop := ∀ vals v w w', R vals v w → Ext w w' → R vals v w'
def tab (l : List (Nat × (List Value → Value → World → Prop))) : Table := fun k => (l.find? (fun e => e.1 == k)).map (·.2)
theorem tab_stays {l : List (Nat × (List Value → Value → World → Prop))} (h : ∀ e ∈ l, Stays e.2) : ∀ i R vals v w w', tab l i = some R → R vals v w → Ext w w' → R vals v w' := by
  intro i R vals v w w' ht hr he
  unfold tab at ht
  cases hf : l.find? (fun e => e.1 == i) with
  | none => rw [hf] at ht; cases ht
  | some e =>
    rw [hf] at ht
    obtain rfl : e.2 = R := by simpa using ht
    exact h e (List.mem_of_find?_eq_some hf) vals v w w' hr he
end Go.Proofs.YtnkajjealkggdaaGreatDoor.D2
end
