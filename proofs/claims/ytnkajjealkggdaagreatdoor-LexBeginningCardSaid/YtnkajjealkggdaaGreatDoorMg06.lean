/- Lemmas of this proof, laid together: Sl. -/
import Derived.Test.YtnkajjealkggdaaGreatDoorRows
import Derived.Test.YtnkajjealkggdaaGreatDoorMg04
import Derived.Test.YtnkajjealkggdaaGreatDoorMg01
import Derived.OwnWalk
import Derived.Deep.RegionHeld
import Derived.Laws.MakeOwn
import Derived.Laws.OwnMore
set_option linter.unusedSimpArgs false
set_option linter.unusedVariables false
section
/- Slices of limbs in memory. -/
namespace Go.Proofs.YtnkajjealkggdaaGreatDoor
open Go.RowKit
abbrev u32V (x : Nat) : Value := .int .u32 (x : Int)
/-- A slice that reads as these limbs. -/
structure Rd (w : World) (A : Option Addr) (n c : Nat) (xs : List Nat) : Prop where
  len : xs.length = n
  cap : n ≤ c
  mx : c ≤ 9223372036854775807
  lb : Lb xs
  none_ : A = none → c = 0
  at_ : ∀ a, A = some a → a.spot = none
  cells : ∀ b off, A = some ⟨b, off, none⟩ → ∀ i (h : i < xs.length), b < w.heap.size ∧ w.cell? ⟨b, off + i, none⟩ = some (u32V xs[i])
theorem Rd.shape {w : World} {A : Option Addr} {n c : Nat} {xs : List Nat} (h : Rd w A n c xs) : (A = none ∧ n = 0 ∧ c = 0 ∧ xs = []) ∨ ∃ b off, A = some ⟨b, off, none⟩ := by
  cases A with
  | none =>
    have h1 := h.none_ rfl
    have h2 := h.cap
    have h3 := h.len
    refine .inl ⟨rfl, by omega, h1, List.eq_nil_of_length_eq_zero (by omega)⟩
  | some a =>
    have := h.at_ a rfl
    obtain ⟨b, off, s⟩ := a
    simp only at this
    subst this
    exact .inr ⟨b, off, rfl⟩
theorem Rd.ext {w w' : World} {A : Option Addr} {n c : Nat} {xs : List Nat} (h : Rd w A n c xs) (he : Ext w w') : Rd w' A n c xs :=
  ⟨h.len, h.cap, h.mx, h.lb, h.none_, h.at_, fun b off hA i hi => by
    obtain ⟨h1, h2⟩ := h.cells b off hA i hi
    exact ⟨Nat.lt_of_lt_of_le h1 he.size, (Below.cell (p := ⟨b, off + i, none⟩) he h1).trans h2⟩⟩
theorem Rd.nil (w : World) : Rd w none 0 0 [] := ⟨rfl, Nat.le_refl _, by omega, (fun x hx => by cases hx), fun _ => rfl, (fun _ h => by cases h), (fun _ _ h => by cases h)⟩
theorem Rd.take {w : World} {A : Option Addr} {n c : Nat} {xs : List Nat} (h : Rd w A n c xs) {k : Nat} (hk : k ≤ n) : Rd w A k c (xs.take k) :=
  ⟨by rw [List.length_take, h.len]; omega, Nat.le_trans hk h.cap, h.mx, fun x hx => h.lb x (List.mem_of_mem_take hx), h.none_, h.at_, fun b off hA i hi => by
    rw [List.length_take] at hi
    obtain ⟨h1, h2⟩ := h.cells b off hA i (by omega)
    exact ⟨h1, by rw [h2, List.getElem_take]⟩⟩
theorem Rd.cell {w : World} {b off : Nat} {n c : Nat} {xs : List Nat} (h : Rd w (some ⟨b, off, none⟩) n c xs) (i : Nat) (hi : i < n) : w.cell? ⟨b, off + i, none⟩ = some (u32V (xs[i]'(by rw [h.len]; exact hi))) := (h.cells b off rfl i (by rw [h.len]; exact hi)).2
/-- A limb by a name of its own. -/
theorem Rd.get {w : World} {b off : Nat} {n c : Nat} {xs : List Nat} (h : Rd w (some ⟨b, off, none⟩) n c xs) (i : Nat) (hi : i < n) : ∃ x : Nat, Hid (xs.getD i 0 = x) ∧ x < 4294967296 ∧ w.cell? ⟨b, off + i, none⟩ = some (.int .u32 (x : Int)) := by
  have hl : i < xs.length := by rw [h.len]; exact hi
  refine ⟨xs[i], ?_, h.lb _ (List.getElem_mem hl), (h.cells b off rfl i hl).2⟩
  rw [List.getD_eq_getElem?_getD, List.getElem?_eq_getElem hl]; rfl
/-- A row of the call's own reads as its limbs. -/
theorem Rd.own {w : World} {base : Nat} {e : TypeId} {v : Value} {n : Nat} {xs : List Nat} (h : w.ownsRow base e 1 v n (xs.map u32V)) (hb : Lb xs) : ∃ A c, v = .slice A n c ∧ Rd w A n c xs := by
  have hl : xs.length = n := by have := h.1; simpa using this
  rcases h.2 with ⟨rfl, rfl⟩ | ⟨g, cap, cur, rfl, _, hh, hnc, hcm, hcs, htake⟩
  · obtain rfl : xs = [] := List.eq_nil_of_length_eq_zero hl
    exact ⟨none, 0, rfl, Rd.nil w⟩
  · refine ⟨_, _, rfl, hl, hnc, hcm, hb, (fun h => by cases h), (fun a ha => by cases ha; rfl), fun b off hA i hi => ?_⟩
    cases hA
    have hlt : g < w.heap.size := by
      rcases Nat.lt_or_ge g w.heap.size with h1 | h1
      · exact h1
      · rw [Array.getElem?_eq_none h1] at hh; cases hh
    refine ⟨hlt, ?_⟩
    rw [Nat.zero_add, cell_of_row w g i cur e (0, 0) hh]
    have h1 : (cur.toList.take (n * 1))[i]? = (xs.map u32V)[i]? := by rw [htake]
    rw [List.getElem?_take_of_lt (by omega), List.getElem?_map, List.getElem?_eq_getElem hi] at h1
    simpa using h1
theorem ext_grown {W w w' : World} {base : Nat} {e : TypeId} {size : Nat} {v : Value} {n : Nat} {xs : List Value} (h : Ext W w) (ho : w.ownsRow base e size v n xs) (hb : W.heap.size ≤ base) (hg : w.grownBy w' v.ownBlock) : Ext W w' := by
  refine ⟨hg.os.trans h.os, hg.tape.trans h.tape, hg.output.trans h.output, Nat.le_trans h.size hg.size, fun i hi => ?_⟩
  refine (hg.block i (Nat.lt_of_lt_of_le hi h.size) (fun e => ?_)).trans (h.block i hi)
  have := (ho.lt i e.symm).1
  omega
theorem u32_under : Tryz.prog.underlying 26 = some (.slice 48) := by kernel_rfl
theorem u32_info : (Tryz.prog.info? 48).map (fun i => (i.zero, i.size, i.bytes)) = some (some (.int .u32 0), 1, 4) := by kernel_rfl
theorem push_u32 {ops : Array Oper} {rest : List Oper} {o : Oper} {a : Act} {Q : Exit → Act → World → Prop} {w : World} (hgd : o.guard = none) (s x : Operand)
    (ho : o.op = .call { callee := .builtin .append, args := #[s, x], argTypes := #[26, 26] })
    {W : World} {w0 : World} (ob : Obj) (hw : w = w0.alloc ob) (hW : Ext W w0) {v : Value} {n : Nat} {xs : List Nat} (hown : w0.ownsRow W.heap.size 48 1 v n (xs.map u32V)) (hs : a.eval s = v)
    (y : Nat) (ad : Addr) (c : Nat) (hx : a.eval x = .slice (some ad) 1 c) (hnew : w.cell? ad = some (u32V y)) (hn : n ≤ 1000000000)
    (h : ∀ v' w', Ext W w' → w'.ownsRow W.heap.size 48 1 v' (n + 1) ((xs ++ [y]).map u32V) → wpList Tryz.prog ops Q rest (a.put o.dst v') w') : wpList Tryz.prog ops Q (o :: rest) a w := by
  obtain ⟨i, hi, hz, hsz, hby⟩ := info_parts u32_info
  subst hw
  refine wpList_append_own _ hgd s x _ ho W.heap.size 48 i _ 1 4 u32_under hi hz hsz hby rfl (by decide) v n _ hs (hown.alloc _) ad 1 c [u32V y] hx rfl ?_ ?_ ?_ ?_ ?_ ?_
  · intro j u hj
    match j, hj with
    | 0, hj => simp at hj; subst hj; simpa [Addr.add] using hnew
  · intro u hu; simp at hu; subst hu; rfl
  · unfold maxLen; omega
  · omega
  · have := hW.size; simp; omega
  · intro v' w' ho' hg _
    refine h v' w' (ext_grown (ext_alloc hW _) (hown.alloc _) (Nat.le_refl _) hg) ?_
    simpa using ho'
/-- The slice lies in blocks that came behind W. -/
def Fr (W : World) (A : Option Addr) : Prop := ∀ a, A = some a → W.heap.size ≤ a.block
theorem Fr.mono {W W' : World} {A : Option Addr} (h : Fr W' A) (he : Ext W W') : Fr W A := fun a ha => Nat.le_trans he.size (h a ha)
theorem own_fr {w W : World} {e : TypeId} {A : Option Addr} {n c k : Nat} {l : List Value} (h : w.ownsRow W.heap.size e 1 (.slice A n c) k l) : Fr W A := by
  intro a ha
  subst ha
  exact (h.lt a.block rfl).1
theorem Rd.set {w : World} {A : Option Addr} {n c : Nat} {xs : List Nat} (h : Rd w A n c xs) {p : Addr} (u : Value) (hne : ∀ a, A = some a → p.block < a.block) : Rd (w.setCell p u) A n c xs :=
  ⟨h.len, h.cap, h.mx, h.lb, h.none_, h.at_, fun b off hA i hi => by
    obtain ⟨h1, h2⟩ := h.cells b off hA i hi
    have h3 := hne _ hA
    refine ⟨by simpa using h1, ?_⟩
    rw [World.cell?_setCell_far _ _ _ _ (by intro e; simp at h3; simp at e; omega)]; exact h2⟩
theorem Rd.made (w : World) (arr : Array Value) (e : TypeId) (xs : List Nat) (hb : Lb xs) (h : arr.toList = xs.map u32V) (hl : xs.length ≤ 9223372036854775807) {B : Nat} (hB : B = w.heap.size) {n : Nat} (hn : n = xs.length) :
    Rd (w.alloc (.cells arr e)) (some ⟨B, 0, none⟩) n n xs := by
  subst hB hn
  refine ⟨rfl, Nat.le_refl _, hl, hb, (fun h => by cases h), (fun a ha => by cases ha; rfl), fun b off hA i hi => ?_⟩
  cases hA
  refine ⟨by simp, ?_⟩
  rw [Nat.zero_add, cell_of_row _ w.heap.size i arr e (0, 0) (heap_alloc_new w _)]
  rw [← Array.getElem?_toList, h, List.getElem?_map, List.getElem?_eq_getElem hi]
  rfl
theorem ext_grown_none {W w w' : World} (h : Ext W w) (hg : w.grownBy w' none) : Ext W w' :=
  ⟨hg.os.trans h.os, hg.tape.trans h.tape, hg.output.trans h.output, Nat.le_trans h.size hg.size, fun i hi =>
    (hg.block i (Nat.lt_of_lt_of_le hi h.size) (by simp)).trans (h.block i hi)⟩
theorem made_zero (n : Nat) : (madeCells (Value.int .u32 0).cells (n * 1)).toList = (List.replicate n 0).map u32V := by
  unfold madeCells
  refine List.ext_getElem (by simp) fun i h1 h2 => ?_
  simp [Value.cells, u32V, Nat.mod_one]
theorem make_u32 {ops : Array Oper} {rest : List Oper} {o : Oper} {a : Act} {Q : Exit → Act → World → Prop} {w : World} (hg : o.guard = none) (l c : Operand) (hop : o.op = Op.makeSlice 26 l c)
    (kl kc : IntKind) (L C : Int) (n : Nat) (hl : a.eval l = .int kl L) (hc : a.eval c = .int kc C) (hL : L = (n : Int)) (hC : C = (n : Int)) (hn : n ≤ 1000000000)
    (hK : ∀ w', Ext w w' → Hid (w'.ownsRow w.heap.size 48 1 (.slice (some ⟨w.heap.size, 0, none⟩) n n) n ((List.replicate n 0).map u32V)) → wpList Tryz.prog ops Q rest (a.put o.dst (.slice (some ⟨w.heap.size, 0, none⟩) n n)) w') :
    wpList Tryz.prog ops Q (o :: rest) a w := by
  obtain ⟨i, hi, hz, hsz, hby⟩ := info_parts u32_info
  refine wpList_make_full w hg l c _ hop w.heap.size 48 i _ 1 u32_under hi hz hsz kl kc L C n hl hc hL hC (by rw [hby]; omega) (by unfold maxLen; omega) (Nat.le_refl _) fun w' h1 h2 => ?_
  rw [made_zero] at h1
  exact hK w' (ext_grown_none (ext_refl _) h2) h1
theorem own_at {w : World} {base : Nat} {e : TypeId} {g n cap : Nat} {xs : List Nat} (h : w.ownsRow base e 1 (.slice (some ⟨g, 0, none⟩) n cap) n (xs.map u32V)) (i : Nat) (hi : i < n) :
    w.cell? ⟨g, i, none⟩ = some (.int .u32 ((xs.getD i 0 : Nat) : Int)) ∧ w.frozen? ⟨g, i, none⟩ = false := by
  have hl : xs.length = n := by have := h.1; simpa using this
  rcases h.2 with ⟨h', _⟩ | ⟨g', cap', cur, h', hb, hg, hnc, hcm, hcs, htake⟩
  · simp at h'
  · simp only [Value.slice.injEq, Option.some.injEq, Addr.mk.injEq, and_true, true_and] at h'
    obtain ⟨rfl, rfl⟩ := h'
    refine ⟨?_, ?_⟩
    · rw [cell_of_row w g i cur e (0, 0) hg]
      have h1 : (cur.toList.take (n * 1))[i]? = (xs.map u32V)[i]? := by rw [htake]
      rw [List.getElem?_take_of_lt (by omega), List.getElem?_map, List.getElem?_eq_getElem (show i < xs.length by omega)] at h1
      rw [List.getD_eq_getElem?_getD, List.getElem?_eq_getElem (show i < xs.length by omega)]
      simpa using h1
    · simp [World.frozen?, hg]
theorem own_set {w : World} {base : Nat} {e : TypeId} {g n cap : Nat} {xs : List Nat} (h : w.ownsRow base e 1 (.slice (some ⟨g, 0, none⟩) n cap) n (xs.map u32V)) (j y : Nat) :
    (w.setCell ⟨g, j, none⟩ (.int .u32 (y : Int))).ownsRow base e 1 (.slice (some ⟨g, 0, none⟩) n cap) n ((xs.set j y).map u32V) := by
  have := (h.stored j (u32V y)).1
  rw [List.map_set]
  exact this
end Go.Proofs.YtnkajjealkggdaaGreatDoor
end
