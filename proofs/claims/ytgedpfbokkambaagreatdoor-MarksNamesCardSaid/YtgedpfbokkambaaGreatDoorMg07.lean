/- Lemmas of this proof, laid together: SlB, FrmA. -/
import Derived.Test.YtgedpfbokkambaaGreatDoorRows
import Derived.Test.YtgedpfbokkambaaGreatDoorMg04
import Derived.Test.YtgedpfbokkambaaGreatDoorMg02
import Derived.Test.YtgedpfbokkambaaGreatDoorMg06
import Derived.Laws.IdiomStrings
import Derived.Laws.BytesArg
import Derived.Laws.CopyRow
import Derived.Laws.CopyOwn
import Derived.Maps.AppendAt
import Derived.Deep.Heap
set_option linter.unusedSimpArgs false
set_option linter.unusedVariables false
section
/- Slices of bytes in memory. -/
namespace Go.Proofs.YtgedpfbokkambaaGreatDoor
open Go.RowKit
abbrev bV (b : UInt8) : Value := .int .u8 (b.toNat : Int)
theorem u8_under : Tryz.prog.underlying 46 = some (.slice 5) := by kernel_rfl
theorem u8_kind : Tryz.prog.underlying 5 = some (.int .u8) := by kernel_rfl
theorem str_kind : Tryz.prog.underlying 9 = some .string := by kernel_rfl
theorem u8_info : (Tryz.prog.info? 5).map (fun i => (i.zero, i.size, i.bytes)) = some (some (.int .u8 0), 1, 1) := by kernel_rfl
/-- A row of the call's own and a slice that lie in blocks of their own. -/
def Apt (v : Value) (A : Option Addr) (zs : List Nat) : Prop := ∀ a, A = some a → zs ≠ [] → v.ownBlock ≠ some a.block
theorem rd_lt {w : World} {A : Option Addr} {n c : Nat} {xs : List Nat} (h : Rd w A n c xs) {a : Addr} (ha : A = some a) (hne : xs ≠ []) : a.block < w.heap.size := by
  subst ha
  have h1 := h.at_ a rfl
  obtain ⟨b, off, s⟩ := a
  simp only at h1
  subst h1
  exact (h.cells b off rfl 0 (List.length_pos_iff.2 hne)).1
theorem rd_grown {w w' : World} {A : Option Addr} {n c : Nat} {xs : List Nat} {row : Option Nat} (h : Rd w A n c xs) (hg : w.grownBy w' row) (hne : ∀ a, A = some a → xs ≠ [] → row ≠ some a.block) : Rd w' A n c xs :=
  ⟨h.len, h.cap, h.mx, h.lb, h.none_, h.at_, fun b off hA i hi => by
    obtain ⟨h1, h2⟩ := h.cells b off hA i hi
    refine ⟨Nat.lt_of_lt_of_le h1 hg.size, ?_⟩
    rw [World.cell?_of_block (hg.block b h1 (fun e => hne _ hA (by intro e2; rw [e2] at hi; simp at hi) e.symm))]
    exact h2⟩
theorem own_ext {w w' : World} {base : Nat} {e : TypeId} {size : Nat} {v : Value} {n : Nat} {xs : List Value} (h : w.ownsRow base e size v n xs) (he : Ext w w') : w'.ownsRow base e size v n xs :=
  h.kept (row := none) ⟨he.os, he.tape, he.output, he.size, fun k hk _ => he.block k hk⟩ (by cases hv : v.ownBlock <;> simp)
theorem own_far {w : World} {base : Nat} {e : TypeId} {size : Nat} {v : Value} {n : Nat} {xs : List Value} (h : w.ownsRow base e size v n xs) (p : Addr) (u : Value) (hne : v.ownBlock ≠ some p.block) : (w.setCell p u).ownsRow base e size v n xs := by
  refine h.kept (row := some p.block) ⟨rfl, rfl, rfl, by simp, fun k _ hk => Go.Deep.blk_setCell_other w p u k (fun e => hk (by rw [e]))⟩ (.inr hne)
theorem push_u8 {ops : Array Oper} {rest : List Oper} {o : Oper} {a : Act} {Q : Exit → Act → World → Prop} {w : World} (hgd : o.guard = none) (s x : Operand)
    (ho : o.op = .call { callee := .builtin .append, args := #[s, x], argTypes := #[46, 46] })
    {W : World} {w0 : World} (ob : Obj) (hw : w = w0.alloc ob) (hW : Ext W w0) {base : Nat} (hbase : W.heap.size ≤ base) (hsz0 : base ≤ w0.heap.size) {v : Value} {n : Nat} {xs : List UInt8} (hown : w0.ownsRow base 5 1 v n (xs.map bV)) (hs : a.eval s = v)
    (y : UInt8) (ad : Addr) (c : Nat) (hx : a.eval x = .slice (some ad) 1 c) (hnew : w.cell? ad = some (bV y)) (hn : n ≤ 1000000000)
    (h : ∀ v' w', Ext W w' → Hid (w'.ownsRow base 5 1 v' (n + 1) ((xs ++ [y]).map bV)) → Hid (∀ A n' c' zs, Rd w0 A n' c' zs → Apt v A zs → Rd w' A n' c' zs ∧ Apt v' A zs) → wpList Tryz.prog ops Q rest (a.put o.dst v') w') : wpList Tryz.prog ops Q (o :: rest) a w := by
  obtain ⟨i, hi, hz, hsz, hby⟩ := info_parts u8_info
  subst hw
  refine wpList_append_own_at _ hgd s x _ ho base 5 i _ 1 1 u8_under hi hz hsz hby rfl (by decide) v n _ hs (hown.alloc _) ad 1 c [bV y] hx rfl ?_ ?_ ?_ ?_ ?_ ?_
  · intro j u hj
    match j, hj with
    | 0, hj => simp at hj; subst hj; simpa [Addr.add] using hnew
  · intro u hu; simp at hu; subst hu; rfl
  · unfold maxLen; omega
  · omega
  · simp; omega
  · intro v' w' ho' hg _ hat
    refine h v' w' (ext_grown (ext_alloc hW _) (hown.alloc _) hbase hg) ?_ ?_
    · show World.ownsRow _ _ _ _ _ _ _
      simpa using ho'
    · intro A n' c' zs hR hA
      have hR1 : Rd (w0.alloc ob) A n' c' zs := hR.ext (ext_alloc (ext_refl _) _)
      refine ⟨rd_grown hR1 hg hA, fun q hq hne => ?_⟩
      have hlt := rd_lt hR hq hne
      rcases hat with e | e
      · rw [e]; exact hA q hq hne
      · rw [e]; intro e2; simp at e2; omega
theorem made_zero8 (n : Nat) : (madeCells (Value.int .u8 0).cells (n * 1)).toList = (List.replicate n (0 : UInt8)).map bV := by
  unfold madeCells
  refine List.ext_getElem (by simp) fun i h1 h2 => ?_
  simp [Value.cells, bV, Nat.mod_one]
theorem make_u8 {ops : Array Oper} {rest : List Oper} {o : Oper} {a : Act} {Q : Exit → Act → World → Prop} {w : World} (hg : o.guard = none) (l c : Operand) (hop : o.op = Op.makeSlice 46 l c)
    (kl kc : IntKind) (L C : Int) (n : Nat) (hl : a.eval l = .int kl L) (hc : a.eval c = .int kc C) (hL : L = (n : Int)) (hC : C = (n : Int)) (hn : n ≤ 1000000000)
    (hK : ∀ w', Ext w w' → Hid (w'.ownsRow w.heap.size 5 1 (.slice (some ⟨w.heap.size, 0, none⟩) n n) n ((List.replicate n (0 : UInt8)).map bV)) → wpList Tryz.prog ops Q rest (a.put o.dst (.slice (some ⟨w.heap.size, 0, none⟩) n n)) w') :
    wpList Tryz.prog ops Q (o :: rest) a w := by
  obtain ⟨i, hi, hz, hsz, hby⟩ := info_parts u8_info
  refine wpList_make_full w hg l c _ hop w.heap.size 5 i _ 1 u8_under hi hz hsz kl kc L C n hl hc hL hC (by rw [hby]; omega) (by unfold maxLen; omega) (Nat.le_refl _) fun w' h1 h2 => ?_
  rw [made_zero8] at h1
  exact hK w' (ext_grown_none (ext_refl _) h2) h1
theorem ownb_at {w : World} {base : Nat} {e : TypeId} {g n cap : Nat} {xs : List UInt8} (h : w.ownsRow base e 1 (.slice (some ⟨g, 0, none⟩) n cap) n (xs.map bV)) (i : Nat) (hi : i < n) :
    w.cell? ⟨g, i, none⟩ = some (.int .u8 ((xs.getD i 0).toNat : Int)) ∧ w.frozen? ⟨g, i, none⟩ = false := by
  have hl : xs.length = n := by have := h.1; simpa using this
  rcases h.2 with ⟨h', _⟩ | ⟨g', cap', cur, h', hb, hg, hnc, hcm, hcs, htake⟩
  · simp at h'
  · simp only [Value.slice.injEq, Option.some.injEq, Addr.mk.injEq, and_true, true_and] at h'
    obtain ⟨rfl, rfl⟩ := h'
    refine ⟨?_, ?_⟩
    · rw [cell_of_row w g i cur e (0, 0) hg]
      have h1 : (cur.toList.take (n * 1))[i]? = (xs.map bV)[i]? := by rw [htake]
      rw [List.getElem?_take_of_lt (by omega), List.getElem?_map, List.getElem?_eq_getElem (show i < xs.length by omega)] at h1
      rw [List.getD_eq_getElem?_getD, List.getElem?_eq_getElem (show i < xs.length by omega)]
      simpa using h1
    · simp [World.frozen?, hg]
theorem ownb_set {w : World} {base : Nat} {e : TypeId} {g n cap : Nat} {xs : List UInt8} (h : w.ownsRow base e 1 (.slice (some ⟨g, 0, none⟩) n cap) n (xs.map bV)) (j : Nat) (y : UInt8) :
    (w.setCell ⟨g, j, none⟩ (bV y)).ownsRow base e 1 (.slice (some ⟨g, 0, none⟩) n cap) n ((xs.set j y).map bV) := by
  have := (h.stored j (bV y)).1
  rw [List.map_set]
  exact this
/-- 'string(b)' of a row of the call's own, cut or not. -/
theorem ownb_str {w : World} {base : Nat} {e : TypeId} {g n cap : Nat} {xs : List UInt8} (h : w.ownsRow base e 1 (.slice (some ⟨g, 0, none⟩) n cap) n (xs.map bV)) (i k c : Nat) (hk : i + k ≤ n) (l : List UInt8) (hl : l = (xs.drop i).take k) :
    (convert 46 9 (.slice (some ⟨g, i, none⟩) k c)).run Tryz.prog w = .ok (.string (bs l)) w := by
  have hx : xs.length = n := by have := h.1; simpa using this
  have hlen : l.length = k := by rw [hl, List.length_take, List.length_drop]; omega
  have := run_convert_bytes_back (P := Tryz.prog) w 46 9 5 ⟨g, i, none⟩ c l u8_under u8_kind str_kind (fun j hj => by
    have h1 := (ownb_at h (i + j) (by omega)).1
    rw [Addr.add_lit, h1, List.getD_eq_getElem?_getD, List.getElem?_eq_getElem (by omega)]
    have e1 : l[j] = xs[i + j]'(by omega) := by simp only [hl, List.getElem_take, List.getElem_drop]
    rw [e1]; rfl)
  rw [hlen] at this
  exact this
theorem nil_str (w : World) (k c : Nat) : (convert 46 9 (.slice none k c)).run Tryz.prog w = .ok (.string (bs [])) w :=
  run_convert_bytes_nil (P := Tryz.prog) w 46 5 u8_under u8_kind k c 9 str_kind
/-- 'copy' of a string into a row of the call's own. -/
theorem copy_str {w : World} {base : Nat} {g n cap : Nat} {xs : List UInt8} (h : w.ownsRow base 5 1 (.slice (some ⟨g, 0, none⟩) n cap) n (xs.map bV)) (i k c : Nat) (l : List UInt8) (hk : l.length = k) (hik : i + k ≤ n) (sT ty : TypeId) :
    ∃ w', (Builtin.copy_ #[46, sT] ty #[.slice (some ⟨g, i, none⟩) k c, .string (bs l)]).run Tryz.prog w = .ok (goInt k) w' ∧
      w'.ownsRow base 5 1 (.slice (some ⟨g, 0, none⟩) n cap) n ((xs.take i ++ l ++ xs.drop (i + k)).map bV) ∧ (∀ W, Ext W w → W.heap.size ≤ base → Ext W w') := by
  obtain ⟨hx, h2⟩ := h
  rcases h2 with ⟨h', _⟩ | ⟨g', cap', cur, h', hb, hg, hnc, hcm, hcs, htake⟩
  · simp at h'
  simp only [Value.slice.injEq, Option.some.injEq, Addr.mk.injEq, and_true, true_and] at h'
  obtain ⟨rfl, rfl⟩ := h'
  have hx' : xs.length = n := by simpa using hx
  have hcl : cur.toList.length = cap := by simpa using hcs
  obtain ⟨ii, hi, hz, hsz, hby⟩ := info_parts u8_info
  refine ⟨w.setRow g (cur.toList.take i ++ l.map bV ++ cur.toList.drop (i + k)).toArray, ?_, ?_, ?_⟩
  · have hst := run_storeCells_at Tryz.prog g i 5 (l.map bV) 0 cur w hg (by simp at hcl ⊢; omega) (fun v hv => by obtain ⟨b, _, rfl⟩ := List.mem_map.1 hv; rfl)
    simp only [Nat.add_zero, List.length_map, hk] at hst
    simp [Builtin.copy_, run_underlying u8_under, Builtin.lenOf, Builtin.firstCells, sizeOf, typeInfo, hi, bs_size, hk]
    have he2 : List.take k (List.map (fun b => Value.int .u8 (b.toNat : Int)) (bs l).data.toList) = l.map bV := by
      rw [bs_data, ← hk, List.take_of_length_le (by simp)]
    rw [he2]
    simp [hst]
  · refine ⟨by simp; omega, .inr ⟨g, cap, _, rfl, hb, setRow_heap w g cur _ _ _ hg, hnc, hcm, by simp at hcl ⊢; omega, ?_⟩⟩
    simp only [Nat.mul_one] at htake ⊢
    have e1 : cur.toList.take i = (xs.map bV).take i := by rw [← htake, List.take_take, Nat.min_eq_left (by omega)]
    have e2 : (cur.toList.drop (i + k)).take (n - (i + k)) = (xs.map bV).drop (i + k) := by rw [← htake, List.drop_take]
    have l1 : (cur.toList.take i ++ l.map bV).length = i + k := by simp at hcl ⊢; omega
    rw [List.toList_toArray, List.take_append, l1, List.take_of_length_le (by omega), e2, e1, List.map_append, List.map_append, List.map_take, List.map_drop]
  · intro W he hW
    have : Below W.heap.size W w := he
    exact below_setRow this (by omega) _
end Go.Proofs.YtgedpfbokkambaaGreatDoor
end
section
/- Worlds in which some blocks only have turned (BkA's frame, for programs without words). -/
namespace Go.Proofs.YtgedpfbokkambaaGreatDoor
open Go.RowKit
theorem own_zero {w : World} {base : Nat} {e : TypeId} {size : Nat} {v : Value} {n : Nat} {xs : List Value} (h : w.ownsRow base e size v n xs) : w.ownsRow 0 e size v n xs := by
  obtain ⟨h1, h2⟩ := h
  refine ⟨h1, ?_⟩
  rcases h2 with h2 | ⟨g, cap, cur, rfl, _, h3⟩
  · exact .inl h2
  · exact .inr ⟨g, cap, cur, rfl, Nat.zero_le _, h3⟩
theorem own_still {w w' : World} {e : TypeId} {size : Nat} {A : Option Addr} {c m n : Nat} {xs : List Value} (h : w.ownsRow 0 e size (.slice A m c) n xs) (hb : ∀ a, A = some a → w'.heap[a.block]? = w.heap[a.block]?) : w'.ownsRow 0 e size (.slice A m c) n xs := by
  obtain ⟨h1, h2⟩ := h
  refine ⟨h1, ?_⟩
  rcases h2 with h2 | ⟨g, cap, cur, he, h0, h3, h4⟩
  · exact .inl h2
  · refine .inr ⟨g, cap, cur, he, h0, ?_, h4⟩
    have := hb ⟨g, 0, none⟩ (by simp only [Value.slice.injEq] at he; exact he.1)
    exact this.trans h3
theorem own_lt {w : World} {e : TypeId} {size : Nat} {A : Option Addr} {c m n : Nat} {xs : List Value} (h : w.ownsRow 0 e size (.slice A m c) n xs) {a : Addr} (ha : A = some a) : a.block < w.heap.size := by
  subst ha
  exact (h.lt a.block rfl).2
/-- Only blocks that S names have turned, and new ones have come. -/
structure Frm (S : Nat → Prop) (w w' : World) : Prop where
  os : w'.os = w.os
  tape : w'.tape = w.tape
  output : w'.output = w.output
  size : w.heap.size ≤ w'.heap.size
  block : ∀ k, k < w.heap.size → ¬ S k → w'.heap[k]? = w.heap[k]?
theorem Frm.refl (S : Nat → Prop) (w : World) : Frm S w w := ⟨rfl, rfl, rfl, Nat.le_refl _, fun _ _ _ => rfl⟩
theorem Frm.trans {S : Nat → Prop} {u v w : World} (h : Frm S u v) (k : Frm S v w) : Frm S u w :=
  ⟨k.os.trans h.os, k.tape.trans h.tape, k.output.trans h.output, Nat.le_trans h.size k.size, fun i hi hs => (k.block i (Nat.lt_of_lt_of_le hi h.size) hs).trans (h.block i hi hs)⟩
/-- The second one may turn what is new to the first, too. -/
theorem Frm.trans' {S T : Nat → Prop} {u v w : World} (h : Frm S u v) (k : Frm T v w) (hT : ∀ i, T i → S i ∨ u.heap.size ≤ i) : Frm S u w :=
  ⟨k.os.trans h.os, k.tape.trans h.tape, k.output.trans h.output, Nat.le_trans h.size k.size, fun i hi hs => (k.block i (Nat.lt_of_lt_of_le hi h.size) (fun ht => by rcases hT i ht with h1 | h1; exact hs h1; omega)).trans (h.block i hi hs)⟩
theorem Frm.of {S : Nat → Prop} {w w' : World} (h : Ext w w') : Frm S w w' := ⟨h.os, h.tape, h.output, h.size, fun i hi _ => h.block i hi⟩
theorem Frm.mono {S T : Nat → Prop} {w w' : World} (h : Frm S w w') (hT : ∀ k, S k → T k) : Frm T w w' := ⟨h.os, h.tape, h.output, h.size, fun i hi hs => h.block i hi (fun h1 => hs (hT i h1))⟩
theorem Frm.grown {S : Nat → Prop} {w w' : World} {r : Option Nat} (h : w.grownBy w' r) (hr : ∀ k, r = some k → S k) : Frm S w w' := ⟨h.os, h.tape, h.output, h.size, fun i hi hs => h.block i hi (fun e => hs (hr i e.symm))⟩
theorem Frm.set {S : Nat → Prop} {w : World} {b o : Nat} (v : Value) (hb : S b ∨ w.heap.size ≤ b) : Frm S w (w.setCell ⟨b, o, none⟩ v) :=
  ⟨rfl, rfl, rfl, by simp, fun i hi hs => Go.Deep.blk_setCell_other w ⟨b, o, none⟩ v i (fun e => by rcases hb with h1 | h1; exact hs (e ▸ h1); simp only at e; omega)⟩
theorem Frm.ext {S : Nat → Prop} {W w w' : World} (h : Frm S w w') (hE : Ext W w) (hS : ∀ k, S k → W.heap.size ≤ k) : Ext W w' :=
  ⟨h.os.trans hE.os, h.tape.trans hE.tape, h.output.trans hE.output, Nat.le_trans hE.size h.size, fun i hi => (h.block i (Nat.lt_of_lt_of_le hi hE.size) (fun hs => by have := hS i hs; omega)).trans (hE.block i hi)⟩
theorem Frm.cell {S : Nat → Prop} {w w' : World} (h : Frm S w w') {p : Addr} (hp : p.block < w.heap.size) (hs : ¬ S p.block) : w'.cell? p = w.cell? p := World.cell?_of_block (w := w) (h.block p.block hp hs)
theorem Frm.frozen {S : Nat → Prop} {w w' : World} (h : Frm S w w') {p : Addr} (hp : p.block < w.heap.size) (hs : ¬ S p.block) : w'.frozen? p = w.frozen? p := World.frozen?_of_block (w := w) (h.block p.block hp hs)
theorem own_frm {S : Nat → Prop} {w w' : World} {e : TypeId} {size : Nat} {A : Option Addr} {c m n : Nat} {xs : List Value} (h : w.ownsRow 0 e size (.slice A m c) n xs) (hf : Frm S w w') (ho : ∀ a, A = some a → ¬ S a.block) : w'.ownsRow 0 e size (.slice A m c) n xs :=
  own_still h (fun a ha => hf.block _ (own_lt h ha) (ho a ha))
end Go.Proofs.YtgedpfbokkambaaGreatDoor
end
