/- Lemmas of this proof, laid together: MkN, MkO, MkP, MkQ. -/
import Derived.Test.YtebgmicpecekgaaGreatDoorMg14
import Derived.Shelf.Unicode.DecodeSlow
import Derived.Lib.MapLaws
import Derived.Laws.Rows
import Derived.Lib.Builder
set_option linter.unusedSimpArgs false
set_option linter.unusedVariables false
section
/- Marks: runes out of a text; rows of ints and of bytes that grow; what was taken lies in one block. -/
namespace Go.Proofs.YtebgmicpecekgaaGreatDoor
open Go.RowKit
attribute [local go_sem] bs_size bs_extract bs_get bs_append bs_toList const_get
set_option maxHeartbeats 4000000
set_option maxRecDepth 100000
attribute [local irreducible] Calls
theorem decodeGo_bs (l : List UInt8) (h : l ≠ []) : Lib.decodeGo (bs l) = Lib.decodeL l := by
  unfold Lib.decodeGo Lib.decodeL
  rw [bs_size, if_neg (fun e => h (List.eq_nil_of_length_eq_zero e))]
  rfl
theorem decodeL_ascii (x : UInt8) (t : List UInt8) (hx : x.toNat < 128) : Lib.decodeL (x :: t) = (x.toNat, 1) := by
  have h : 0 < (bs (x :: t)).size := by rw [bs_size]; simp
  have e : (bs (x :: t))[0]'h = x := by rw [bs_get]; rfl
  have := decode_ascii (bs (x :: t)) 0 h (by rw [e]; exact hx)
  rw [e] at this
  exact this
theorem mk_decode (l : List UInt8) (hl : l ≠ []) (w : World) (hT : Lib.Utf8Tabs 1 2 w) :
    Calls Tryz.prog 42 #[.string (bs l)] w fun e w' => e = .returned (.tuple #[.int .i32 (Lib.decodeL l).1, .int .i64 (Lib.decodeL l).2]) ∧ Ext w w' := by
  obtain ⟨x, t, rfl⟩ := List.exists_cons_of_ne_nil hl
  have kS := Lib.hid (fun w' h => Tryz.utf8_decodeRuneInStringSlow (bs (x :: t)) w' h)
  have HT := Lib.hid hT
  clear hT
  by_cases hx : x.toNat < 128
  · rw [decodeL_ascii x t hx]
    have hx' : (x.toNat : Int) < 128 := by omega
    go_enter Tryz.func42, Tryz.ntmps42
    go_wp2
    refine bodyPost_ret (v := .tuple #[.int .i32 ↑x.toNat, .int .i64 1]) ?h rfl ⟨rfl, ext_refl _⟩
    case h => simp [results, Tryz.results42, go_sem]
  · have hx' : ¬ (x.toNat : Int) < 128 := by omega
    have hg := decodeGo_bs (x :: t) (by simp)
    go_enter Tryz.func42, Tryz.ntmps42
    go_wp2_with (first
      | (go_at_call 54; (with_reducible refine (kS.out _ HT.out).mono ?_); rintro e w1 ⟨rfl, hE⟩))
    refine bodyPost_ret (v := .tuple #[.int .i32 ↑(Lib.decodeL (x :: t)).1, .int .i64 ↑(Lib.decodeL (x :: t)).2]) ?h rfl ⟨rfl, hE⟩
    case h => simp [results, Tryz.results42, go_sem]
abbrev iV (x : Int) : Value := .int .i64 x
theorem ints_under : Tryz.prog.underlying 22 = some (.slice 3) := by kernel_rfl
theorem ints_info : (Tryz.prog.info? 3).map (fun i => (i.zero, i.size, i.bytes)) = some (some (.int .i64 0), 1, 8) := by kernel_rfl
abbrev OwnI (w : World) (base : Nat) (v : Value) (n : Nat) (xs : List Int) : Prop := w.ownsRow base 3 1 v n (xs.map iV)
abbrev OwnB (w : World) (base : Nat) (v : Value) (n : Nat) (xs : List UInt8) : Prop := w.ownsRow base 5 1 v n (xs.map bV)
theorem push_intg {ops : Array Oper} {rest : List Oper} {o : Oper} {a : Act} {Q : Exit → Act → World → Prop} {w : World} (hgd : o.guard = none) (s x : Operand)
    (ho : o.op = .call { callee := .builtin .append, args := #[s, x], argTypes := #[22, 22] })
    {W : World} {w0 : World} (ob : Obj) (hw : w = w0.alloc ob) (hW : Ext W w0) {base : Nat} (hbase : W.heap.size ≤ base) (hsz0 : base ≤ w0.heap.size) {v : Value} {n : Nat} {xs : List Int} (hown : OwnI w0 base v n xs) (hs : a.eval s = v)
    (y : Int) (ad : Addr) (c : Nat) (hx : a.eval x = .slice (some ad) 1 c) (hnew : w.cell? ad = some (iV y)) (hn : n ≤ 1000000000)
    (h : ∀ v' w', Ext W w' → Hid (OwnI w' base v' (n + 1) (xs ++ [y])) → Hid (∀ k q, w0.heap[k]? = some q → v.ownBlock ≠ some k → w'.heap[k]? = some q) → Hid (∀ b, v'.ownBlock = some b → v.ownBlock = some b ∨ w0.heap.size ≤ b) → wpList Tryz.prog ops Q rest (a.put o.dst v') w') : wpList Tryz.prog ops Q (o :: rest) a w := by
  obtain ⟨i, hi, hz, hsz, hby⟩ := info_parts ints_info
  subst hw
  refine wpList_append_own_at _ hgd s x _ ho base 3 i _ 1 8 ints_under hi hz hsz hby rfl (by decide) v n _ hs (hown.alloc _) ad 1 c [iV y] hx rfl ?_ ?_ ?_ ?_ ?_ ?_
  · intro j u hj
    match j, hj with
    | 0, hj => simp at hj; subst hj; simpa [Addr.add] using hnew
  · intro u hu; simp at hu; subst hu; rfl
  · unfold maxLen; omega
  · omega
  · simp; omega
  · intro v' w' ho' hg _ hat
    refine h v' w' (ext_grown (ext_alloc hW _) (hown.alloc _) hbase hg) ?_ ?_ ?_
    · show World.ownsRow _ _ _ _ _ _ _
      simpa using ho'
    · intro k q hk hne
      have hlt : k < w0.heap.size := (Array.getElem?_eq_some_iff.1 hk).1
      rw [hg.block k (by simp; omega) (fun e => hne e.symm)]
      rw [(ext_alloc (ext_refl w0) ob).block k hlt]
      exact hk
    · intro b hb
      rcases hat with e | e
      · exact .inl (by rw [← e]; exact hb)
      · rw [hb] at e
        simp at e
        exact .inr (by omega)
theorem push_u8g {ops : Array Oper} {rest : List Oper} {o : Oper} {a : Act} {Q : Exit → Act → World → Prop} {w : World} (hgd : o.guard = none) (s x : Operand)
    (ho : o.op = .call { callee := .builtin .append, args := #[s, x], argTypes := #[60, 60] })
    {W : World} {w0 : World} (ob : Obj) (hw : w = w0.alloc ob) (hW : Ext W w0) {base : Nat} (hbase : W.heap.size ≤ base) (hsz0 : base ≤ w0.heap.size) {v : Value} {n : Nat} {xs : List UInt8} (hown : OwnB w0 base v n xs) (hs : a.eval s = v)
    (y : UInt8) (ad : Addr) (c : Nat) (hx : a.eval x = .slice (some ad) 1 c) (hnew : w.cell? ad = some (bV y)) (hn : n ≤ 1000000000)
    (h : ∀ v' w', Ext W w' → Hid (OwnB w' base v' (n + 1) (xs ++ [y])) → Hid (∀ k q, w0.heap[k]? = some q → v.ownBlock ≠ some k → w'.heap[k]? = some q) → Hid (∀ b, v'.ownBlock = some b → v.ownBlock = some b ∨ w0.heap.size ≤ b) → wpList Tryz.prog ops Q rest (a.put o.dst v') w') : wpList Tryz.prog ops Q (o :: rest) a w := by
  obtain ⟨i, hi, hz, hsz, hby⟩ := info_parts u8_info
  subst hw
  refine wpList_append_own_at _ hgd s x _ ho base 5 i _ 1 1 u8_under hi hz hsz hby rfl (by decide) v n _ hs (hown.alloc _) ad 1 c [bV y] hx rfl ?_ ?_ ?_ ?_ ?_ ?_
  · intro j u hj
    match j, hj with
    | 0, hj => simp at hj; subst hj; simpa [Addr.add] using hnew
  · intro u hu; simp at hu; subst hu; rfl
  · unfold maxLen; omega
  · omega
  · simp; omega
  · intro v' w' ho' hg _ hat
    refine h v' w' (ext_grown (ext_alloc hW _) (hown.alloc _) hbase hg) ?_ ?_ ?_
    · show World.ownsRow _ _ _ _ _ _ _
      simpa using ho'
    · intro k q hk hne
      have hlt : k < w0.heap.size := (Array.getElem?_eq_some_iff.1 hk).1
      rw [hg.block k (by simp; omega) (fun e => hne e.symm)]
      rw [(ext_alloc (ext_refl w0) ob).block k hlt]
      exact hk
    · intro b hb
      rcases hat with e | e
      · exact .inl (by rw [← e]; exact hb)
      · rw [hb] at e
        simp at e
        exact .inr (by omega)
theorem push_i32h {ops : Array Oper} {rest : List Oper} {o : Oper} {a : Act} {Q : Exit → Act → World → Prop} {w : World} (hgd : o.guard = none) (s x : Operand)
    (ho : o.op = .call { callee := .builtin .append, args := #[s, x], argTypes := #[47, 47] })
    {W : World} {w0 : World} (ob : Obj) (hw : w = w0.alloc ob) (hW : Ext W w0) {base : Nat} (hbase : W.heap.size ≤ base) (hsz0 : base ≤ w0.heap.size) {v : Value} {n : Nat} {xs : List Int} (hown : OwnR w0 base v n xs) (hs : a.eval s = v)
    (y : Int) (ad : Addr) (c : Nat) (hx : a.eval x = .slice (some ad) 1 c) (hnew : w.cell? ad = some (rV y)) (hn : n ≤ 1000000000)
    (h : ∀ v' w', Ext W w' → Hid (OwnR w' base v' (n + 1) (xs ++ [y])) → Hid (∀ k q, w0.heap[k]? = some q → v.ownBlock ≠ some k → w'.heap[k]? = some q) → Hid (∀ b, v'.ownBlock = some b → v.ownBlock = some b ∨ w0.heap.size ≤ b) → wpList Tryz.prog ops Q rest (a.put o.dst v') w') : wpList Tryz.prog ops Q (o :: rest) a w := by
  obtain ⟨i, hi, hz, hsz, hby⟩ := info_parts i32_info
  subst hw
  refine wpList_append_own_at _ hgd s x _ ho base 21 i _ 1 4 i32_under hi hz hsz hby rfl (by decide) v n _ hs (hown.alloc _) ad 1 c [rV y] hx rfl ?_ ?_ ?_ ?_ ?_ ?_
  · intro j u hj
    match j, hj with
    | 0, hj => simp at hj; subst hj; simpa [Addr.add] using hnew
  · intro u hu; simp at hu; subst hu; rfl
  · unfold maxLen; omega
  · omega
  · simp; omega
  · intro v' w' ho' hg _ hat
    refine h v' w' (ext_grown (ext_alloc hW _) (hown.alloc _) hbase hg) ?_ ?_ ?_
    · show World.ownsRow _ _ _ _ _ _ _
      simpa using ho'
    · intro k q hk hne
      have hlt : k < w0.heap.size := (Array.getElem?_eq_some_iff.1 hk).1
      rw [hg.block k (by simp; omega) (fun e => hne e.symm)]
      rw [(ext_alloc (ext_refl w0) ob).block k hlt]
      exact hk
    · intro b hb
      rcases hat with e | e
      · exact .inl (by rw [← e]; exact hb)
      · rw [hb] at e
        simp at e
        exact .inr (by omega)
end Go.Proofs.YtebgmicpecekgaaGreatDoor
end
section
/- Marks: what was taken, in one block: a builder's two cells, places, runes, their places, a map. -/
namespace Go.Proofs.YtebgmicpecekgaaGreatDoor
open Go.RowKit Go.Maps
attribute [local go_sem] bs_size bs_extract bs_get bs_append bs_toList const_get
set_option maxHeartbeats 4000000
set_option maxRecDepth 100000
attribute [local irreducible] Calls
theorem own_at_block {w : World} {base : Nat} {e : TypeId} {size n : Nat} {v : Value} {xs : List Value} (h : w.ownsRow base e size v n xs) {g : Nat} (hg : v.ownBlock = some g) : base ≤ g ∧ ∃ cur, w.heap[g]? = some (.cells cur e (0, 0)) := by
  rcases h.2 with ⟨rfl, _⟩ | ⟨g', cap, cur, rfl, h0, h1, _⟩
  · cases hg
  · obtain rfl : g' = g := by simpa [Value.ownBlock] using hg
    exact ⟨h0, cur, h1⟩
theorem own_keep {w w' : World} {base : Nat} {e : TypeId} {size n : Nat} {v : Value} {xs : List Value} (h : w.ownsRow base e size v n xs) (hk : ∀ g, v.ownBlock = some g → w'.heap[g]? = w.heap[g]?) : w'.ownsRow base e size v n xs := by
  obtain ⟨h1, h2⟩ := h
  refine ⟨h1, ?_⟩
  rcases h2 with h2 | ⟨g, cap, cur, rfl, h0, h3, r⟩
  · exact .inl h2
  · exact .inr ⟨g, cap, cur, rfl, h0, (hk g rfl).trans h3, r⟩
/-- What was taken lies in block t; 'base': its rows are new. -/
structure Tak (W : World) (base t : Nat) (vb vp vr va : Value) (B mB : Nat) (nb : List UInt8) (ps rs qs : List Int) (C : Int → Prop) : Prop where
  blk : ∃ v0, (v0 = Value.pointer none ∨ v0 = .pointer (some ⟨t, 0, none⟩)) ∧ W.heap[t]? = some (.cells #[v0, vb, vp, vr, va, .map (some B)] 65 (0, 0))
  ob : OwnB W base vb nb.length nb
  op : OwnI W base vp ps.length ps
  or : OwnR W base vr rs.length rs
  oa : OwnI W base va qs.length qs
  om : MapC W B mB C
  ap : ∀ g, vp.ownBlock = some g → va.ownBlock ≠ some g
  tb : base ≤ t
  bb : base ≤ B
theorem Tak.lt {W : World} {base t : Nat} {vb vp vr va : Value} {B mB : Nat} {nb : List UInt8} {ps rs qs : List Int} {C : Int → Prop} (h : Tak W base t vb vp vr va B mB nb ps rs qs C) : t < W.heap.size := by
  obtain ⟨v0, _, hb⟩ := h.blk
  exact (Array.getElem?_eq_some_iff.1 hb).1
theorem MapC.blk {w : World} {b n : Nat} {C : Int → Prop} (h : MapC w b n C) : ∃ es c, w.heap[b]? = some (.map es c) := by
  obtain ⟨D, ⟨es, clock, hb, _⟩, _⟩ := h
  exact ⟨es, clock, hb⟩
theorem MapC.keep {w w' : World} {b n : Nat} {C : Int → Prop} (h : MapC w b n C) (hk : w'.heap[b]? = w.heap[b]?) : MapC w' b n C := by
  obtain ⟨D, ⟨es, clock, hb, r⟩, h2⟩ := h
  exact ⟨D, ⟨es, clock, hk.trans hb, r⟩, h2⟩
section
variable {W W' : World} {base t : Nat} {vb vp vr va : Value} {B mB : Nat} {nb : List UInt8} {ps rs qs : List Int} {C : Int → Prop}
theorem Tak.cells (h : Tak W base t vb vp vr va B mB nb ps rs qs C) : W.cell? ⟨t, 1, none⟩ = some vb ∧ W.cell? ⟨t, 2, none⟩ = some vp ∧ W.cell? ⟨t, 3, none⟩ = some vr ∧ W.cell? ⟨t, 4, none⟩ = some va ∧ W.cell? ⟨t, 5, none⟩ = some (.map (some B)) ∧ ∀ i, W.frozen? ⟨t, i, none⟩ = false := by
  obtain ⟨v0, _, hb⟩ := h.blk
  refine ⟨?_, ?_, ?_, ?_, ?_, fun i => ?_⟩
  · rw [D2.cell_of_block hb]; rfl
  · rw [D2.cell_of_block hb]; rfl
  · rw [D2.cell_of_block hb]; rfl
  · rw [D2.cell_of_block hb]; rfl
  · rw [D2.cell_of_block hb]; rfl
  · exact D2.frozen_of_block hb i
/-- All that is kept where one row's block alone has turned (or none): 'u': that row. -/
theorem Tak.frame (h : Tak W base t vb vp vr va B mB nb ps rs qs C) {u : Value} {e : TypeId} {n : Nat} {xs : List Value} (hu : W.ownsRow base e 1 u n xs) (het : e ≠ 65) (hk : ∀ k q, W.heap[k]? = some q → u.ownBlock ≠ some k → W'.heap[k]? = some q) :
    (∃ v0, (v0 = Value.pointer none ∨ v0 = .pointer (some ⟨t, 0, none⟩)) ∧ W'.heap[t]? = some (.cells #[v0, vb, vp, vr, va, .map (some B)] 65 (0, 0))) ∧ MapC W' B mB C ∧
    (∀ {e2 : TypeId} {v2 : Value} {n2 : Nat} {ys : List Value}, W.ownsRow base e2 1 v2 n2 ys → (e2 ≠ e ∨ ∀ g, v2.ownBlock = some g → u.ownBlock ≠ some g) → W'.ownsRow base e2 1 v2 n2 ys) := by
  have hne : ∀ g o, u.ownBlock = some g → W.heap[g]? = some o → ∃ cur, o = .cells cur e (0, 0) := fun g o h1 h2 => by
    obtain ⟨_, cur, h3⟩ := own_at_block hu h1
    rw [h2] at h3
    exact ⟨cur, by cases h3; rfl⟩
  refine ⟨?_, ?_, ?_⟩
  · obtain ⟨v0, h0, hb⟩ := h.blk
    refine ⟨v0, h0, hk t _ hb (fun e1 => ?_)⟩
    obtain ⟨cur, h3⟩ := hne t _ e1 hb
    cases h3
    exact het rfl
  · obtain ⟨es, c, hb⟩ := h.om.blk
    refine h.om.keep ?_
    rw [hb]
    refine hk B _ hb (fun e1 => ?_)
    obtain ⟨cur, h3⟩ := hne B _ e1 hb
    cases h3
  · intro e2 v2 n2 ys h2 h3
    refine own_keep h2 (fun g hg => ?_)
    obtain ⟨_, cur, h4⟩ := own_at_block h2 hg
    rw [h4]
    refine hk g _ h4 (fun e1 => ?_)
    obtain ⟨cur2, h5⟩ := hne g _ e1 h4
    rcases h3 with h3 | h3
    · cases h5; exact h3 rfl
    · exact h3 g hg e1
/-- A store into the block. -/
theorem blk_set {w : World} {t i : Nat} {cs : Array Value} {e : TypeId} (h : w.heap[t]? = some (.cells cs e (0, 0))) (v : Value) : (w.setCell ⟨t, i, none⟩ v).heap[t]? = some (.cells (cs.setIfInBounds i v) e (0, 0)) := heap_setCell_same w t i cs e v h
theorem own_set_far {w : World} {base : Nat} {e e2 : TypeId} {size n t i : Nat} {v : Value} {xs : List Value} {cs : Array Value} (h : w.ownsRow base e size v n xs) (hb : w.heap[t]? = some (.cells cs e2 (0, 0))) (hne : e ≠ e2) (u : Value) : (w.setCell ⟨t, i, none⟩ u).ownsRow base e size v n xs :=
  own_keep h (fun g hg => Go.Deep.blk_setCell_other w ⟨t, i, none⟩ u g (fun e1 => by
    obtain ⟨_, cur, h1⟩ := own_at_block h hg
    simp only at e1
    rw [← e1, h1] at hb
    cases hb
    exact hne rfl))
end
end Go.Proofs.YtebgmicpecekgaaGreatDoor
end
section
/- Marks: what was taken: a field each. (Written by mktak.py.) -/
namespace Go.Proofs.YtebgmicpecekgaaGreatDoor
open Go.RowKit Go.Maps
set_option maxHeartbeats 4000000
theorem MapC.set {w : World} {b n t i : Nat} {C : Int → Prop} {cs : Array Value} {e : TypeId} (h : MapC w b n C) (hb : w.heap[t]? = some (.cells cs e (0, 0))) (u : Value) : MapC (w.setCell ⟨t, i, none⟩ u) b n C :=
  h.keep (Go.Deep.blk_setCell_other w ⟨t, i, none⟩ u b (fun e1 => by
    obtain ⟨es, c, h1⟩ := h.blk
    simp only at e1
    rw [e1, hb] at h1
    cases h1))
theorem own_blk_lt {w : World} {base : Nat} {e : TypeId} {size n : Nat} {v : Value} {xs : List Value} (h : w.ownsRow base e size v n xs) {g : Nat} (hg : v.ownBlock = some g) : g < w.heap.size := by
  obtain ⟨_, cur, h1⟩ := own_at_block h hg
  exact (Array.getElem?_eq_some_iff.1 h1).1
section
variable {W W' : World} {base t : Nat} {vb vp vr va : Value} {B mB : Nat} {nb : List UInt8} {ps rs qs : List Int} {C : Int → Prop}
theorem Tak.buf (h : Tak W base t vb vp vr va B mB nb ps rs qs C) {v' : Value} {y : UInt8} (hO : OwnB W' base v' (nb.length + 1) (nb ++ [y])) (hk : ∀ k q, W.heap[k]? = some q → vb.ownBlock ≠ some k → W'.heap[k]? = some q)
    (hloc : ∀ b, v'.ownBlock = some b → vb.ownBlock = some b ∨ W.heap.size ≤ b) : Tak (W'.setCell ⟨t, 1, none⟩ v') base t v' vp vr va B mB (nb ++ [y]) ps rs qs C := by
  have hO1 : OwnB W' base v' (nb ++ [y]).length (nb ++ [y]) := by rw [List.length_append]; exact hO
  obtain ⟨⟨v0, h0, hb1⟩, hm, hr⟩ := h.frame (W' := W') h.ob (by decide) hk
  refine ⟨⟨v0, h0, ?_⟩, own_set_far hO1 hb1 (by decide) _, own_set_far (hr h.op (.inl (by decide))) hb1 (by decide) _, own_set_far (hr h.or (.inl (by decide))) hb1 (by decide) _, own_set_far (hr h.oa (.inl (by decide))) hb1 (by decide) _, hm.set hb1 _, h.ap, h.tb, h.bb⟩
  have := blk_set (i := 1) hb1 v'
  simpa using this
theorem Tak.places (h : Tak W base t vb vp vr va B mB nb ps rs qs C) {v' : Value} {y : Int} (hO : OwnI W' base v' (ps.length + 1) (ps ++ [y])) (hk : ∀ k q, W.heap[k]? = some q → vp.ownBlock ≠ some k → W'.heap[k]? = some q)
    (hloc : ∀ b, v'.ownBlock = some b → vp.ownBlock = some b ∨ W.heap.size ≤ b) : Tak (W'.setCell ⟨t, 2, none⟩ v') base t vb v' vr va B mB nb (ps ++ [y]) rs qs C := by
  have hO1 : OwnI W' base v' (ps ++ [y]).length (ps ++ [y]) := by rw [List.length_append]; exact hO
  obtain ⟨⟨v0, h0, hb1⟩, hm, hr⟩ := h.frame (W' := W') h.op (by decide) hk
  refine ⟨⟨v0, h0, ?_⟩, own_set_far (hr h.ob (.inl (by decide))) hb1 (by decide) _, own_set_far hO1 hb1 (by decide) _, own_set_far (hr h.or (.inl (by decide))) hb1 (by decide) _, own_set_far (hr h.oa (.inr (fun g h1 h2 => h.ap g h2 h1))) hb1 (by decide) _, hm.set hb1 _, fun g hg hg2 => by
      rcases hloc g hg with h1 | h1
      · exact h.ap g h1 hg2
      · have := own_blk_lt h.oa hg2; omega, h.tb, h.bb⟩
  have := blk_set (i := 2) hb1 v'
  simpa using this
theorem Tak.runes (h : Tak W base t vb vp vr va B mB nb ps rs qs C) {v' : Value} {y : Int} (hO : OwnR W' base v' (rs.length + 1) (rs ++ [y])) (hk : ∀ k q, W.heap[k]? = some q → vr.ownBlock ≠ some k → W'.heap[k]? = some q)
    (hloc : ∀ b, v'.ownBlock = some b → vr.ownBlock = some b ∨ W.heap.size ≤ b) : Tak (W'.setCell ⟨t, 3, none⟩ v') base t vb vp v' va B mB nb ps (rs ++ [y]) qs C := by
  have hO1 : OwnR W' base v' (rs ++ [y]).length (rs ++ [y]) := by rw [List.length_append]; exact hO
  obtain ⟨⟨v0, h0, hb1⟩, hm, hr⟩ := h.frame (W' := W') h.or (by decide) hk
  refine ⟨⟨v0, h0, ?_⟩, own_set_far (hr h.ob (.inl (by decide))) hb1 (by decide) _, own_set_far (hr h.op (.inl (by decide))) hb1 (by decide) _, own_set_far hO1 hb1 (by decide) _, own_set_far (hr h.oa (.inl (by decide))) hb1 (by decide) _, hm.set hb1 _, h.ap, h.tb, h.bb⟩
  have := blk_set (i := 3) hb1 v'
  simpa using this
theorem Tak.at (h : Tak W base t vb vp vr va B mB nb ps rs qs C) {v' : Value} {y : Int} (hO : OwnI W' base v' (qs.length + 1) (qs ++ [y])) (hk : ∀ k q, W.heap[k]? = some q → va.ownBlock ≠ some k → W'.heap[k]? = some q)
    (hloc : ∀ b, v'.ownBlock = some b → va.ownBlock = some b ∨ W.heap.size ≤ b) : Tak (W'.setCell ⟨t, 4, none⟩ v') base t vb vp vr v' B mB nb ps rs (qs ++ [y]) C := by
  have hO1 : OwnI W' base v' (qs ++ [y]).length (qs ++ [y]) := by rw [List.length_append]; exact hO
  obtain ⟨⟨v0, h0, hb1⟩, hm, hr⟩ := h.frame (W' := W') h.oa (by decide) hk
  refine ⟨⟨v0, h0, ?_⟩, own_set_far (hr h.ob (.inl (by decide))) hb1 (by decide) _, own_set_far (hr h.op (.inr (fun g h1 h2 => h.ap g h1 h2))) hb1 (by decide) _, own_set_far (hr h.or (.inl (by decide))) hb1 (by decide) _, own_set_far hO1 hb1 (by decide) _, hm.set hb1 _, fun g hg hg2 => by
      rcases hloc g hg2 with h1 | h1
      · exact h.ap g hg h1
      · have := own_blk_lt h.op hg; omega, h.tb, h.bb⟩
  have := blk_set (i := 4) hb1 v'
  simpa using this
/-- The builder has been used. -/
theorem Tak.used (h : Tak W base t vb vp vr va B mB nb ps rs qs C) : Tak (W.setCell ⟨t, 0, none⟩ (.pointer (some ⟨t, 0, none⟩))) base t vb vp vr va B mB nb ps rs qs C := by
  obtain ⟨v0, h0, hb1⟩ := h.blk
  refine ⟨⟨_, .inr rfl, ?_⟩, own_set_far h.ob hb1 (by decide) _, own_set_far h.op hb1 (by decide) _, own_set_far h.or hb1 (by decide) _, own_set_far h.oa hb1 (by decide) _, h.om.set hb1 _, h.ap, h.tb, h.bb⟩
  have := blk_set (i := 0) hb1 (.pointer (some ⟨t, 0, none⟩))
  simpa using this
theorem Tak.ext (h : Tak W base t vb vp vr va B mB nb ps rs qs C) (he : Ext W W') : Tak W' base t vb vp vr va B mB nb ps rs qs C := by
  obtain ⟨v0, h0, hb1⟩ := h.blk
  exact ⟨⟨v0, h0, (he.block t h.lt).trans hb1⟩, own_ext h.ob he, own_ext h.op he, own_ext h.or he, own_ext h.oa he, h.om.ext he, h.ap, h.tb, h.bb⟩
end
end Go.Proofs.YtebgmicpecekgaaGreatDoor
end
section
/- Marks: a builder that is a struct's first field: copyCheck, WriteByte, String. -/
namespace Go.Proofs.YtebgmicpecekgaaGreatDoor
open Go.RowKit Go.Maps
attribute [local go_sem] bs_size bs_extract bs_get bs_append bs_toList const_get
set_option maxHeartbeats 4000000
set_option maxRecDepth 100000
attribute [local irreducible] Calls
theorem bld_under : Tryz.prog.underlying 59 = some (.pointer 62) := by kernel_rfl
theorem unsafe_under : Tryz.prog.underlying 74 = some .unsafePointer := by kernel_rfl
theorem bld_size : (Tryz.prog.info? 62).map (·.size) = some 2 := by kernel_rfl
theorem bld_lies : liesAt Tryz.prog Tryz.prog.depth 65 (6 / Tryz.prog.cellsOf 65) 0 62 1 = true := by kernel_rfl
section
variable {W0 W : World} {base t : Nat} {vb vp vr va : Value} {B mB : Nat} {nb : List UInt8} {ps rs qs : List Int} {C : Int → Prop}
theorem bl_copyCheck (h : Tak W base t vb vp vr va B mB nb ps rs qs C) (hE : Ext W0 W) (hb : W0.heap.size ≤ base) :
    Calls Tryz.prog 55 #[.pointer (some ⟨t, 0, none⟩)] W fun e w' => e = .returned (.tuple #[]) ∧ Ext W0 w' ∧ Hid (Tak w' base t vb vp vr va B mB nb ps rs qs C) := by
  obtain ⟨j, hj, hjs⟩ := Option.map_eq_some_iff.1 bld_size
  obtain ⟨v0, h0, hblk⟩ := h.blk
  have c0 : W.cell? ⟨t, 0, none⟩ = some v0 := by rw [D2.cell_of_block hblk]; rfl
  have f0 : W.frozen? ⟨t, 0, none⟩ = false := D2.frozen_of_block hblk 0
  have hsh : W.shape? t = some (65, 6) := by simp [World.shape?, hblk]
  have H := Lib.hid h
  have HE := Lib.hid hE
  have htb := h.tb
  clear h hE hblk
  rcases h0 with rfl | rfl
  · skip
    go_enter Tryz.func55, Tryz.ntmps55
    go_wp2
    rw [Lib.run_to_unsafe W ⟨t, 0, none⟩ bld_under unsafe_under hj (by rw [hjs]; decide) hsh (show (0 : Nat) < 6 by decide)]
    simp only [Result.andThen]
    rw [Oper.upon_value]
    go_wp2
    rw [run_callFunc_extern Tryz.func62 (by kernel_rfl) (by kernel_rfl) (by kernel_rfl) (e := Extern.AbiNoEscape.same) (by kernel_rfl)]
    rw [Lib.run_noEscape]
    simp only [Result.andThen]
    rw [Oper.upon_value]
    go_wp2
    rw [Lib.run_from_unsafe W ⟨t, 0, none⟩ unsafe_under bld_under hj hsh bld_lies]
    simp only [Result.andThen]
    rw [Oper.upon_value]
    go_wp2
    go_end0
    exact ⟨rfl, ext_setCell HE.out (by simp; omega) _, H.out.used⟩
  · skip
    go_enter Tryz.func55, Tryz.ntmps55
    go_wp2
    rw [Lib.run_neq_ptr_same W _ bld_under hj]
    go_wp2
    go_end0
    exact ⟨rfl, HE.out, H⟩
theorem bl_WriteByte (h : Tak W base t vb vp vr va B mB nb ps rs qs C) (hE : Ext W0 W) (hb : W0.heap.size ≤ base) (hn : nb.length ≤ 1000000) (x : UInt8) :
    Calls Tryz.prog 43 #[.pointer (some ⟨t, 0, none⟩), .int .u8 (x.toNat : Int)] W fun e w' => e = .returned .nilIface ∧ Ext W0 w' ∧ ∃ vb', Hid (Tak w' base t vb' vp vr va B mB (nb ++ [x]) ps rs qs C) := by
  have kc := Lib.hid (bl_copyCheck h hE hb)
  clear h hE
  go_enter Tryz.func43, Tryz.ntmps43
  go_upto_region 2 with (first
    | (go_at_call 55; (with_reducible refine (kc.out).mono ?_); rintro e w1 ⟨rfl, hE1, hT1⟩))
  obtain ⟨c1, c2, c3, c4, c5, fz⟩ := hT1.out.cells
  have f1 := fz 1
  have hbs : base ≤ w1.heap.size := by have := hT1.out.tb; have := hT1.out.lt; omega
  clear fz
  go_wp2_with (first
    | (at_builtin; refine push_u8g rfl _ _ rfl _ rfl hE1 hb hbs hT1.out.ob rfl x ⟨_, 0, none⟩ 1 rfl (by simp [go_sem, bV]) (by omega) (fun v9 w9 hE9 hO9 hK9 hL9 => ?_); obtain ⟨A9, k9, rfl⟩ := own_shape hO9.out; obtain ⟨⟨v0, h0, hb9⟩, hq1, hq2⟩ := hT1.out.frame (W' := w9) hT1.out.ob (by decide) hK9.out; have f9 : w9.frozen? ⟨t, 1, none⟩ = false := (D2.frozen_of_block hb9 1); have c9 : w9.cell? ⟨t, 1, none⟩ = some vb := (by rw [D2.cell_of_block hb9]; rfl); clear hq1 hq2))
  have htb := hT1.out.tb
  refine bodyPost_ret (v := .nilIface) ?h rfl ⟨rfl, ext_setCell hE9 (by simp; omega) _, _, hT1.out.buf hO9.out hK9.out hL9.out⟩
  case h => simp [results, Tryz.results43, go_sem]
/-- What is left to read behind String. -/
structure TakR (W : World) (t : Nat) (vp vr va : Value) (base B mB : Nat) (ps rs qs : List Int) (C : Int → Prop) : Prop where
  lt : t < W.heap.size
  c2 : W.cell? ⟨t, 2, none⟩ = some vp
  c3 : W.cell? ⟨t, 3, none⟩ = some vr
  c4 : W.cell? ⟨t, 4, none⟩ = some va
  c5 : W.cell? ⟨t, 5, none⟩ = some (.map (some B))
  op : OwnI W base vp ps.length ps
  or : OwnR W base vr rs.length rs
  oa : OwnI W base va qs.length qs
  om : MapC W B mB C
theorem TakR.of (h : Tak W base t vb vp vr va B mB nb ps rs qs C) {W' : World} (hk : ∀ k q, W.heap[k]? = some q → vb.ownBlock ≠ some k → W'.heap[k]? = some q) : TakR W' t vp vr va base B mB ps rs qs C := by
  obtain ⟨⟨v0, h0, hb⟩, hm, hr⟩ := h.frame (W' := W') h.ob (by decide) hk
  refine ⟨(Array.getElem?_eq_some_iff.1 hb).1, ?_, ?_, ?_, ?_, hr h.op (.inl (by decide)), hr h.or (.inl (by decide)), hr h.oa (.inl (by decide)), hm⟩
  · rw [D2.cell_of_block hb]; rfl
  · rw [D2.cell_of_block hb]; rfl
  · rw [D2.cell_of_block hb]; rfl
  · rw [D2.cell_of_block hb]; rfl
theorem bp_under : Tryz.prog.underlying 91 = some (.pointer 5) := by kernel_rfl
theorem bytes_cells : Tryz.prog.cellsOf 5 = 1 := by kernel_rfl
theorem bl_String (h : Tak W base t vb vp vr va B mB nb ps rs qs C) (hE : Ext W0 W) (hb : W0.heap.size ≤ base) (hn : nb.length ≤ 1000000) (h0 : nb = [] → vb = .slice none 0 0) :
    Calls Tryz.prog 28 #[.pointer (some ⟨t, 0, none⟩)] W fun e w' => e = .returned (.string (bs nb)) ∧ Ext W0 w' ∧ Hid (TakR w' t vp vr va base B mB ps rs qs C) := by
  obtain ⟨c1, -⟩ := h.cells
  have H := Lib.hid h
  have HE := Lib.hid hE
  by_cases hne : nb = []
  · subst hne
    obtain rfl := h0 rfl
    have c1' : W.drew.cell? ⟨t, 1, none⟩ = some (.slice none 0 0) := c1
    have hSD : ∀ (ts : Array TypeId) (ty : TypeId), (Builtin.unsafeSliceData_ ts ty #[.slice none 0 0]).run Tryz.prog W.drew = .ok (.pointer none) W.drew := fun ts ty => Lib.run_unsafeSliceData_nil W.drew ts ty 0 0
    have hUS : ∀ (pt it ty : TypeId), (Builtin.unsafeString_ #[pt, it] ty #[.pointer none, .int .i64 0]).run Tryz.prog W.drew = .ok (.string .empty) W.drew := fun pt it ty => Lib.run_unsafeString_none _ pt it ty none
    have hR := Lib.hid (TakR.of h (W' := W.drew) (fun k q hk _ => hk))
    have hEd := Lib.hid (ext_drew hE)
    have mixed : Tryz.prog.follows .mixedOrders = true := by kernel_rfl
    clear h hE h0 H HE
    go_enter Tryz.func28, Tryz.ntmps28
    go_wp2
    go_region_o
    all_goals (go_wp2; go_ret; exact ⟨rfl, hEd.out, hR⟩)
  · have hl0 : nb.length ≠ 0 := fun e => hne (List.eq_nil_of_length_eq_zero e)
    obtain ⟨g, cap, cur, rfl, hbg, hg, hnc, hcm, hcs, htake⟩ : ∃ g cap cur, vb = .slice (some ⟨g, 0, none⟩) nb.length cap ∧ base ≤ g ∧ W.heap[g]? = some (.cells cur 5 (0, 0)) ∧ nb.length ≤ cap ∧ cap ≤ maxLen ∧ cur.size = cap * 1 ∧ cur.toList.take (nb.length * 1) = nb.map bV := by
      rcases h.ob.2 with ⟨_, hz⟩ | ⟨g, cap, cur, hv, r⟩
      · exact absurd hz hl0
      · exact ⟨g, cap, cur, hv, r⟩
    have c1' : W.drew.cell? ⟨t, 1, none⟩ = some (.slice (some ⟨g, 0, none⟩) nb.length cap) := c1
    have hSD : ∀ (ts : Array TypeId) (ty : TypeId), (Builtin.unsafeSliceData_ ts ty #[.slice (some ⟨g, 0, none⟩) nb.length cap]).run Tryz.prog W.drew = .ok (.pointer (some ⟨g, 0, none⟩)) W.drew := fun ts ty =>
      Lib.run_unsafeSliceData_row W.drew ts ty ⟨g, 0, none⟩ nb.length cap (by omega)
    have hUS : (Builtin.unsafeString_ #[91, 3] 9 #[.pointer (some ⟨g, 0, none⟩), .int .i64 nb.length]).run Tryz.prog W.drew = .ok (.string (bs nb)) (W.drew.freeze ⟨g, 0, none⟩ nb.length) := by
      refine Lib.run_unsafeString_row W.drew 91 3 9 5 bp_under bytes_cells g cur.size (by have hg' : W.drew.heap[g]? = some (.cells cur 5 (0, 0)) := hg; simp [World.shape?, hg']) nb hne (by omega) (by unfold maxLen at hcm; omega) ?_
      intro j x hx
      exact h.ob.cells (g := g) rfl j (.int .u8 x.toNat) (by simp [hx, bV])
    have hR := Lib.hid (TakR.of h (W' := W.drew.freeze ⟨g, 0, none⟩ nb.length) (fun k q hk hne2 => by
      have hkg : g ≠ k := fun e => hne2 (by rw [← e]; rfl)
      unfold World.freeze
      rw [if_neg hl0]
      show (W.heap.modify g _)[k]? = _
      rw [Array.getElem?_modify, if_neg hkg]
      exact hk))
    have hEd := Lib.hid (show Ext W0 (W.drew.freeze ⟨g, 0, none⟩ nb.length) from Lib.below_freeze (ext_drew hE) (by show W0.heap.size ≤ g; omega) _)
    have mixed : Tryz.prog.follows .mixedOrders = true := by kernel_rfl
    clear h hE h0 H HE c1 htake hg
    go_enter Tryz.func28, Tryz.ntmps28
    go_wp2
    go_region_o
    all_goals (go_wp2; go_ret; exact ⟨rfl, hEd.out, hR⟩)
end
end Go.Proofs.YtebgmicpecekgaaGreatDoor
end
