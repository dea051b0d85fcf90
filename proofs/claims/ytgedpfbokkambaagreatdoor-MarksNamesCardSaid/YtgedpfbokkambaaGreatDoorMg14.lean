/- Lemmas of this proof, laid together: MkN, MkO, MkP, MkQ, MkR, MkS. -/
import Derived.Test.YtgedpfbokkambaaGreatDoorMg13
import Derived.Shelf.Unicode.DecodeSlow
import Derived.Lib.MapLaws
import Derived.Laws.Rows
import Derived.Lib.Builder
import Derived.Deep.CutBlock
set_option linter.unusedSimpArgs false
set_option linter.unusedVariables false
section
/- Marks: runes out of a text; rows of ints and of bytes that grow; what was taken lies in one block. -/
namespace Go.Proofs.YtgedpfbokkambaaGreatDoor
open Go.RowKit
attribute [local go_sem] bs_size bs_extract bs_get bs_append bs_toList const_get
set_option maxHeartbeats 4000000
set_option maxRecDepth 100000
attribute [local irreducible] Calls
theorem decodeGo_bs (l : List UInt8) (h : l ≠ []) : Lib.decodeGo (bs l) = Lib.decodeL l := by
  unfold Lib.decodeGo Lib.decodeL
  rw [bs_size, if_neg (fun e => h (List.eq_nil_of_length_eq_zero e))]
  rfl
theorem decodeL_ascii (x : UInt8) (t : List UInt8) (hx : x.toNat < 128) : Lib.decodeL (x :: t) = (x.toNat, 1) := by
  have h : 0 < (bs (x :: t)).size := by rw [bs_size]; simp
  have e : (bs (x :: t))[0]'h = x := by rw [bs_get]; rfl
  have := decode_ascii (bs (x :: t)) 0 h (by rw [e]; exact hx)
  rw [e] at this
  exact this
theorem mk_decode (l : List UInt8) (hl : l ≠ []) (w : World) (hT : Lib.Utf8Tabs 1 2 w) :
    Calls Tryz.prog 42 #[.string (bs l)] w fun e w' => e = .returned (.tuple #[.int .i32 (Lib.decodeL l).1, .int .i64 (Lib.decodeL l).2]) ∧ Ext w w' := by
  obtain ⟨x, t, rfl⟩ := List.exists_cons_of_ne_nil hl
  have kS := Lib.hid (fun w' h => Tryz.utf8_decodeRuneInStringSlow (bs (x :: t)) w' h)
  have HT := Lib.hid hT
  clear hT
  by_cases hx : x.toNat < 128
  · rw [decodeL_ascii x t hx]
    have hx' : (x.toNat : Int) < 128 := by omega
    go_enter Tryz.func42, Tryz.ntmps42
    go_wp2
    refine bodyPost_ret (v := .tuple #[.int .i32 ↑x.toNat, .int .i64 1]) ?h rfl ⟨rfl, ext_refl _⟩
    case h => simp [results, Tryz.results42, go_sem]
  · have hx' : ¬ (x.toNat : Int) < 128 := by omega
    have hg := decodeGo_bs (x :: t) (by simp)
    go_enter Tryz.func42, Tryz.ntmps42
    go_wp2_with (first
      | (go_at_call 59; (with_reducible refine (kS.out _ HT.out).mono ?_); rintro e w1 ⟨rfl, hE⟩))
    refine bodyPost_ret (v := .tuple #[.int .i32 ↑(Lib.decodeL (x :: t)).1, .int .i64 ↑(Lib.decodeL (x :: t)).2]) ?h rfl ⟨rfl, hE⟩
    case h => simp [results, Tryz.results42, go_sem]
abbrev iV (x : Int) : Value := .int .i64 x
theorem ints_under : Tryz.prog.underlying 22 = some (.slice 3) := by kernel_rfl
theorem ints_info : (Tryz.prog.info? 3).map (fun i => (i.zero, i.size, i.bytes)) = some (some (.int .i64 0), 1, 8) := by kernel_rfl
abbrev OwnI (w : World) (base : Nat) (v : Value) (n : Nat) (xs : List Int) : Prop := w.ownsRow base 3 1 v n (xs.map iV)
abbrev OwnB (w : World) (base : Nat) (v : Value) (n : Nat) (xs : List UInt8) : Prop := w.ownsRow base 5 1 v n (xs.map bV)
theorem push_intg {ops : Array Oper} {rest : List Oper} {o : Oper} {a : Act} {Q : Exit → Act → World → Prop} {w : World} (hgd : o.guard = none) (s x : Operand)
    (ho : o.op = .call { callee := .builtin .append, args := #[s, x], argTypes := #[22, 22] })
    {W : World} {w0 : World} (ob : Obj) (hw : w = w0.alloc ob) (hW : Ext W w0) {base : Nat} (hbase : W.heap.size ≤ base) (hsz0 : base ≤ w0.heap.size) {v : Value} {n : Nat} {xs : List Int} (hown : OwnI w0 base v n xs) (hs : a.eval s = v)
    (y : Int) (ad : Addr) (c : Nat) (hx : a.eval x = .slice (some ad) 1 c) (hnew : w.cell? ad = some (iV y)) (hn : n ≤ 1000000000)
    (h : ∀ v' w', Ext W w' → Hid (OwnI w' base v' (n + 1) (xs ++ [y])) → Hid (∀ k q, w0.heap[k]? = some q → v.ownBlock ≠ some k → w'.heap[k]? = some q) → Hid (∀ b, v'.ownBlock = some b → v.ownBlock = some b ∨ w0.heap.size ≤ b) → wpList Tryz.prog ops Q rest (a.put o.dst v') w') : wpList Tryz.prog ops Q (o :: rest) a w := by
  obtain ⟨i, hi, hz, hsz, hby⟩ := info_parts ints_info
  subst hw
  refine wpList_append_own_at _ hgd s x _ ho base 3 i _ 1 8 ints_under hi hz hsz hby rfl (by decide) v n _ hs (hown.alloc _) ad 1 c [iV y] hx rfl ?_ ?_ ?_ ?_ ?_ ?_
  · intro j u hj
    match j, hj with
    | 0, hj => simp at hj; subst hj; simpa [Addr.add] using hnew
  · intro u hu; simp at hu; subst hu; rfl
  · unfold maxLen; omega
  · omega
  · simp; omega
  · intro v' w' ho' hg _ hat
    refine h v' w' (ext_grown (ext_alloc hW _) (hown.alloc _) hbase hg) ?_ ?_ ?_
    · show World.ownsRow _ _ _ _ _ _ _
      simpa using ho'
    · intro k q hk hne
      have hlt : k < w0.heap.size := (Array.getElem?_eq_some_iff.1 hk).1
      rw [hg.block k (by simp; omega) (fun e => hne e.symm)]
      rw [(ext_alloc (ext_refl w0) ob).block k hlt]
      exact hk
    · intro b hb
      rcases hat with e | e
      · exact .inl (by rw [← e]; exact hb)
      · rw [hb] at e
        simp at e
        exact .inr (by omega)
theorem push_u8g {ops : Array Oper} {rest : List Oper} {o : Oper} {a : Act} {Q : Exit → Act → World → Prop} {w : World} (hgd : o.guard = none) (s x : Operand)
    (ho : o.op = .call { callee := .builtin .append, args := #[s, x], argTypes := #[46, 46] })
    {W : World} {w0 : World} (ob : Obj) (hw : w = w0.alloc ob) (hW : Ext W w0) {base : Nat} (hbase : W.heap.size ≤ base) (hsz0 : base ≤ w0.heap.size) {v : Value} {n : Nat} {xs : List UInt8} (hown : OwnB w0 base v n xs) (hs : a.eval s = v)
    (y : UInt8) (ad : Addr) (c : Nat) (hx : a.eval x = .slice (some ad) 1 c) (hnew : w.cell? ad = some (bV y)) (hn : n ≤ 1000000000)
    (h : ∀ v' w', Ext W w' → Hid (OwnB w' base v' (n + 1) (xs ++ [y])) → Hid (∀ k q, w0.heap[k]? = some q → v.ownBlock ≠ some k → w'.heap[k]? = some q) → Hid (∀ b, v'.ownBlock = some b → v.ownBlock = some b ∨ w0.heap.size ≤ b) → wpList Tryz.prog ops Q rest (a.put o.dst v') w') : wpList Tryz.prog ops Q (o :: rest) a w := by
  obtain ⟨i, hi, hz, hsz, hby⟩ := info_parts u8_info
  subst hw
  refine wpList_append_own_at _ hgd s x _ ho base 5 i _ 1 1 u8_under hi hz hsz hby rfl (by decide) v n _ hs (hown.alloc _) ad 1 c [bV y] hx rfl ?_ ?_ ?_ ?_ ?_ ?_
  · intro j u hj
    match j, hj with
    | 0, hj => simp at hj; subst hj; simpa [Addr.add] using hnew
  · intro u hu; simp at hu; subst hu; rfl
  · unfold maxLen; omega
  · omega
  · simp; omega
  · intro v' w' ho' hg _ hat
    refine h v' w' (ext_grown (ext_alloc hW _) (hown.alloc _) hbase hg) ?_ ?_ ?_
    · show World.ownsRow _ _ _ _ _ _ _
      simpa using ho'
    · intro k q hk hne
      have hlt : k < w0.heap.size := (Array.getElem?_eq_some_iff.1 hk).1
      rw [hg.block k (by simp; omega) (fun e => hne e.symm)]
      rw [(ext_alloc (ext_refl w0) ob).block k hlt]
      exact hk
    · intro b hb
      rcases hat with e | e
      · exact .inl (by rw [← e]; exact hb)
      · rw [hb] at e
        simp at e
        exact .inr (by omega)
theorem push_i32h {ops : Array Oper} {rest : List Oper} {o : Oper} {a : Act} {Q : Exit → Act → World → Prop} {w : World} (hgd : o.guard = none) (s x : Operand)
    (ho : o.op = .call { callee := .builtin .append, args := #[s, x], argTypes := #[54, 54] })
    {W : World} {w0 : World} (ob : Obj) (hw : w = w0.alloc ob) (hW : Ext W w0) {base : Nat} (hbase : W.heap.size ≤ base) (hsz0 : base ≤ w0.heap.size) {v : Value} {n : Nat} {xs : List Int} (hown : OwnR w0 base v n xs) (hs : a.eval s = v)
    (y : Int) (ad : Addr) (c : Nat) (hx : a.eval x = .slice (some ad) 1 c) (hnew : w.cell? ad = some (rV y)) (hn : n ≤ 1000000000)
    (h : ∀ v' w', Ext W w' → Hid (OwnR w' base v' (n + 1) (xs ++ [y])) → Hid (∀ k q, w0.heap[k]? = some q → v.ownBlock ≠ some k → w'.heap[k]? = some q) → Hid (∀ b, v'.ownBlock = some b → v.ownBlock = some b ∨ w0.heap.size ≤ b) → wpList Tryz.prog ops Q rest (a.put o.dst v') w') : wpList Tryz.prog ops Q (o :: rest) a w := by
  obtain ⟨i, hi, hz, hsz, hby⟩ := info_parts i32_info
  subst hw
  refine wpList_append_own_at _ hgd s x _ ho base 21 i _ 1 4 i32_under hi hz hsz hby rfl (by decide) v n _ hs (hown.alloc _) ad 1 c [rV y] hx rfl ?_ ?_ ?_ ?_ ?_ ?_
  · intro j u hj
    match j, hj with
    | 0, hj => simp at hj; subst hj; simpa [Addr.add] using hnew
  · intro u hu; simp at hu; subst hu; rfl
  · unfold maxLen; omega
  · omega
  · simp; omega
  · intro v' w' ho' hg _ hat
    refine h v' w' (ext_grown (ext_alloc hW _) (hown.alloc _) hbase hg) ?_ ?_ ?_
    · show World.ownsRow _ _ _ _ _ _ _
      simpa using ho'
    · intro k q hk hne
      have hlt : k < w0.heap.size := (Array.getElem?_eq_some_iff.1 hk).1
      rw [hg.block k (by simp; omega) (fun e => hne e.symm)]
      rw [(ext_alloc (ext_refl w0) ob).block k hlt]
      exact hk
    · intro b hb
      rcases hat with e | e
      · exact .inl (by rw [← e]; exact hb)
      · rw [hb] at e
        simp at e
        exact .inr (by omega)
end Go.Proofs.YtgedpfbokkambaaGreatDoor
end
section
/- Marks: what was taken, in one block: a builder's two cells, places, runes, their places, a map. -/
namespace Go.Proofs.YtgedpfbokkambaaGreatDoor
open Go.RowKit Go.Maps
attribute [local go_sem] bs_size bs_extract bs_get bs_append bs_toList const_get
set_option maxHeartbeats 4000000
set_option maxRecDepth 100000
attribute [local irreducible] Calls
theorem own_at_block {w : World} {base : Nat} {e : TypeId} {size n : Nat} {v : Value} {xs : List Value} (h : w.ownsRow base e size v n xs) {g : Nat} (hg : v.ownBlock = some g) : base ≤ g ∧ ∃ cur, w.heap[g]? = some (.cells cur e (0, 0)) := by
  rcases h.2 with ⟨rfl, _⟩ | ⟨g', cap, cur, rfl, h0, h1, _⟩
  · cases hg
  · obtain rfl : g' = g := by simpa [Value.ownBlock] using hg
    exact ⟨h0, cur, h1⟩
theorem own_keep {w w' : World} {base : Nat} {e : TypeId} {size n : Nat} {v : Value} {xs : List Value} (h : w.ownsRow base e size v n xs) (hk : ∀ g, v.ownBlock = some g → w'.heap[g]? = w.heap[g]?) : w'.ownsRow base e size v n xs := by
  obtain ⟨h1, h2⟩ := h
  refine ⟨h1, ?_⟩
  rcases h2 with h2 | ⟨g, cap, cur, rfl, h0, h3, r⟩
  · exact .inl h2
  · exact .inr ⟨g, cap, cur, rfl, h0, (hk g rfl).trans h3, r⟩
/-- What was taken lies in block t; 'base': its rows are new. -/
structure Tak (W : World) (base t : Nat) (vb vp vr va : Value) (B mB : Nat) (nb : List UInt8) (ps rs qs : List Int) (C : Int → Prop) : Prop where
  blk : ∃ v0, (v0 = Value.pointer none ∨ v0 = .pointer (some ⟨t, 0, none⟩)) ∧ W.heap[t]? = some (.cells #[v0, vb, vp, vr, va, .map (some B)] 57 (0, 0))
  ob : OwnB W base vb nb.length nb
  op : OwnI W base vp ps.length ps
  or : OwnR W base vr rs.length rs
  oa : OwnI W base va qs.length qs
  om : MapC W B mB C
  ap : ∀ g, vp.ownBlock = some g → va.ownBlock ≠ some g
  tb : base ≤ t
  bb : base ≤ B
theorem Tak.lt {W : World} {base t : Nat} {vb vp vr va : Value} {B mB : Nat} {nb : List UInt8} {ps rs qs : List Int} {C : Int → Prop} (h : Tak W base t vb vp vr va B mB nb ps rs qs C) : t < W.heap.size := by
  obtain ⟨v0, _, hb⟩ := h.blk
  exact (Array.getElem?_eq_some_iff.1 hb).1
theorem MapC.blk {w : World} {b n : Nat} {C : Int → Prop} (h : MapC w b n C) : ∃ es c, w.heap[b]? = some (.map es c) := by
  obtain ⟨D, ⟨es, clock, hb, _⟩, _⟩ := h
  exact ⟨es, clock, hb⟩
theorem MapC.keep {w w' : World} {b n : Nat} {C : Int → Prop} (h : MapC w b n C) (hk : w'.heap[b]? = w.heap[b]?) : MapC w' b n C := by
  obtain ⟨D, ⟨es, clock, hb, r⟩, h2⟩ := h
  exact ⟨D, ⟨es, clock, hk.trans hb, r⟩, h2⟩
section
variable {W W' : World} {base t : Nat} {vb vp vr va : Value} {B mB : Nat} {nb : List UInt8} {ps rs qs : List Int} {C : Int → Prop}
theorem Tak.cells (h : Tak W base t vb vp vr va B mB nb ps rs qs C) : W.cell? ⟨t, 1, none⟩ = some vb ∧ W.cell? ⟨t, 2, none⟩ = some vp ∧ W.cell? ⟨t, 3, none⟩ = some vr ∧ W.cell? ⟨t, 4, none⟩ = some va ∧ W.cell? ⟨t, 5, none⟩ = some (.map (some B)) ∧ ∀ i, W.frozen? ⟨t, i, none⟩ = false := by
  obtain ⟨v0, _, hb⟩ := h.blk
  refine ⟨?_, ?_, ?_, ?_, ?_, fun i => ?_⟩
  · rw [D2.cell_of_block hb]; rfl
  · rw [D2.cell_of_block hb]; rfl
  · rw [D2.cell_of_block hb]; rfl
  · rw [D2.cell_of_block hb]; rfl
  · rw [D2.cell_of_block hb]; rfl
  · exact D2.frozen_of_block hb i
/-- All that is kept where one row's block alone has turned (or none): 'u': that row. -/
theorem Tak.frame (h : Tak W base t vb vp vr va B mB nb ps rs qs C) {u : Value} {e : TypeId} {n : Nat} {xs : List Value} (hu : W.ownsRow base e 1 u n xs) (het : e ≠ 57) (hk : ∀ k q, W.heap[k]? = some q → u.ownBlock ≠ some k → W'.heap[k]? = some q) :
    (∃ v0, (v0 = Value.pointer none ∨ v0 = .pointer (some ⟨t, 0, none⟩)) ∧ W'.heap[t]? = some (.cells #[v0, vb, vp, vr, va, .map (some B)] 57 (0, 0))) ∧ MapC W' B mB C ∧
    (∀ {e2 : TypeId} {v2 : Value} {n2 : Nat} {ys : List Value}, W.ownsRow base e2 1 v2 n2 ys → (e2 ≠ e ∨ ∀ g, v2.ownBlock = some g → u.ownBlock ≠ some g) → W'.ownsRow base e2 1 v2 n2 ys) := by
  have hne : ∀ g o, u.ownBlock = some g → W.heap[g]? = some o → ∃ cur, o = .cells cur e (0, 0) := fun g o h1 h2 => by
    obtain ⟨_, cur, h3⟩ := own_at_block hu h1
    rw [h2] at h3
    exact ⟨cur, by cases h3; rfl⟩
  refine ⟨?_, ?_, ?_⟩
  · obtain ⟨v0, h0, hb⟩ := h.blk
    refine ⟨v0, h0, hk t _ hb (fun e1 => ?_)⟩
    obtain ⟨cur, h3⟩ := hne t _ e1 hb
    cases h3
    exact het rfl
  · obtain ⟨es, c, hb⟩ := h.om.blk
    refine h.om.keep ?_
    rw [hb]
    refine hk B _ hb (fun e1 => ?_)
    obtain ⟨cur, h3⟩ := hne B _ e1 hb
    cases h3
  · intro e2 v2 n2 ys h2 h3
    refine own_keep h2 (fun g hg => ?_)
    obtain ⟨_, cur, h4⟩ := own_at_block h2 hg
    rw [h4]
    refine hk g _ h4 (fun e1 => ?_)
    obtain ⟨cur2, h5⟩ := hne g _ e1 h4
    rcases h3 with h3 | h3
    · cases h5; exact h3 rfl
    · exact h3 g hg e1
/-- A store into the block. -/
theorem blk_set {w : World} {t i : Nat} {cs : Array Value} {e : TypeId} (h : w.heap[t]? = some (.cells cs e (0, 0))) (v : Value) : (w.setCell ⟨t, i, none⟩ v).heap[t]? = some (.cells (cs.setIfInBounds i v) e (0, 0)) := heap_setCell_same w t i cs e v h
theorem own_set_far {w : World} {base : Nat} {e e2 : TypeId} {size n t i : Nat} {v : Value} {xs : List Value} {cs : Array Value} (h : w.ownsRow base e size v n xs) (hb : w.heap[t]? = some (.cells cs e2 (0, 0))) (hne : e ≠ e2) (u : Value) : (w.setCell ⟨t, i, none⟩ u).ownsRow base e size v n xs :=
  own_keep h (fun g hg => Go.Deep.blk_setCell_other w ⟨t, i, none⟩ u g (fun e1 => by
    obtain ⟨_, cur, h1⟩ := own_at_block h hg
    simp only at e1
    rw [← e1, h1] at hb
    cases hb
    exact hne rfl))
end
end Go.Proofs.YtgedpfbokkambaaGreatDoor
end
section
/- Marks: what was taken: a field each. (Written by mktak.py.) -/
namespace Go.Proofs.YtgedpfbokkambaaGreatDoor
open Go.RowKit Go.Maps
set_option maxHeartbeats 4000000
theorem MapC.set {w : World} {b n t i : Nat} {C : Int → Prop} {cs : Array Value} {e : TypeId} (h : MapC w b n C) (hb : w.heap[t]? = some (.cells cs e (0, 0))) (u : Value) : MapC (w.setCell ⟨t, i, none⟩ u) b n C :=
  h.keep (Go.Deep.blk_setCell_other w ⟨t, i, none⟩ u b (fun e1 => by
    obtain ⟨es, c, h1⟩ := h.blk
    simp only at e1
    rw [e1, hb] at h1
    cases h1))
theorem own_blk_lt {w : World} {base : Nat} {e : TypeId} {size n : Nat} {v : Value} {xs : List Value} (h : w.ownsRow base e size v n xs) {g : Nat} (hg : v.ownBlock = some g) : g < w.heap.size := by
  obtain ⟨_, cur, h1⟩ := own_at_block h hg
  exact (Array.getElem?_eq_some_iff.1 h1).1
section
variable {W W' : World} {base t : Nat} {vb vp vr va : Value} {B mB : Nat} {nb : List UInt8} {ps rs qs : List Int} {C : Int → Prop}
theorem Tak.buf (h : Tak W base t vb vp vr va B mB nb ps rs qs C) {v' : Value} {y : UInt8} (hO : OwnB W' base v' (nb.length + 1) (nb ++ [y])) (hk : ∀ k q, W.heap[k]? = some q → vb.ownBlock ≠ some k → W'.heap[k]? = some q)
    (hloc : ∀ b, v'.ownBlock = some b → vb.ownBlock = some b ∨ W.heap.size ≤ b) : Tak (W'.setCell ⟨t, 1, none⟩ v') base t v' vp vr va B mB (nb ++ [y]) ps rs qs C := by
  have hO1 : OwnB W' base v' (nb ++ [y]).length (nb ++ [y]) := by rw [List.length_append]; exact hO
  obtain ⟨⟨v0, h0, hb1⟩, hm, hr⟩ := h.frame (W' := W') h.ob (by decide) hk
  refine ⟨⟨v0, h0, ?_⟩, own_set_far hO1 hb1 (by decide) _, own_set_far (hr h.op (.inl (by decide))) hb1 (by decide) _, own_set_far (hr h.or (.inl (by decide))) hb1 (by decide) _, own_set_far (hr h.oa (.inl (by decide))) hb1 (by decide) _, hm.set hb1 _, h.ap, h.tb, h.bb⟩
  have := blk_set (i := 1) hb1 v'
  simpa using this
theorem Tak.places (h : Tak W base t vb vp vr va B mB nb ps rs qs C) {v' : Value} {y : Int} (hO : OwnI W' base v' (ps.length + 1) (ps ++ [y])) (hk : ∀ k q, W.heap[k]? = some q → vp.ownBlock ≠ some k → W'.heap[k]? = some q)
    (hloc : ∀ b, v'.ownBlock = some b → vp.ownBlock = some b ∨ W.heap.size ≤ b) : Tak (W'.setCell ⟨t, 2, none⟩ v') base t vb v' vr va B mB nb (ps ++ [y]) rs qs C := by
  have hO1 : OwnI W' base v' (ps ++ [y]).length (ps ++ [y]) := by rw [List.length_append]; exact hO
  obtain ⟨⟨v0, h0, hb1⟩, hm, hr⟩ := h.frame (W' := W') h.op (by decide) hk
  refine ⟨⟨v0, h0, ?_⟩, own_set_far (hr h.ob (.inl (by decide))) hb1 (by decide) _, own_set_far hO1 hb1 (by decide) _, own_set_far (hr h.or (.inl (by decide))) hb1 (by decide) _, own_set_far (hr h.oa (.inr (fun g h1 h2 => h.ap g h2 h1))) hb1 (by decide) _, hm.set hb1 _, fun g hg hg2 => by
      rcases hloc g hg with h1 | h1
      · exact h.ap g h1 hg2
      · have := own_blk_lt h.oa hg2; omega, h.tb, h.bb⟩
  have := blk_set (i := 2) hb1 v'
  simpa using this
theorem Tak.runes (h : Tak W base t vb vp vr va B mB nb ps rs qs C) {v' : Value} {y : Int} (hO : OwnR W' base v' (rs.length + 1) (rs ++ [y])) (hk : ∀ k q, W.heap[k]? = some q → vr.ownBlock ≠ some k → W'.heap[k]? = some q)
    (hloc : ∀ b, v'.ownBlock = some b → vr.ownBlock = some b ∨ W.heap.size ≤ b) : Tak (W'.setCell ⟨t, 3, none⟩ v') base t vb vp v' va B mB nb ps (rs ++ [y]) qs C := by
  have hO1 : OwnR W' base v' (rs ++ [y]).length (rs ++ [y]) := by rw [List.length_append]; exact hO
  obtain ⟨⟨v0, h0, hb1⟩, hm, hr⟩ := h.frame (W' := W') h.or (by decide) hk
  refine ⟨⟨v0, h0, ?_⟩, own_set_far (hr h.ob (.inl (by decide))) hb1 (by decide) _, own_set_far (hr h.op (.inl (by decide))) hb1 (by decide) _, own_set_far hO1 hb1 (by decide) _, own_set_far (hr h.oa (.inl (by decide))) hb1 (by decide) _, hm.set hb1 _, h.ap, h.tb, h.bb⟩
  have := blk_set (i := 3) hb1 v'
  simpa using this
theorem Tak.at (h : Tak W base t vb vp vr va B mB nb ps rs qs C) {v' : Value} {y : Int} (hO : OwnI W' base v' (qs.length + 1) (qs ++ [y])) (hk : ∀ k q, W.heap[k]? = some q → va.ownBlock ≠ some k → W'.heap[k]? = some q)
    (hloc : ∀ b, v'.ownBlock = some b → va.ownBlock = some b ∨ W.heap.size ≤ b) : Tak (W'.setCell ⟨t, 4, none⟩ v') base t vb vp vr v' B mB nb ps rs (qs ++ [y]) C := by
  have hO1 : OwnI W' base v' (qs ++ [y]).length (qs ++ [y]) := by rw [List.length_append]; exact hO
  obtain ⟨⟨v0, h0, hb1⟩, hm, hr⟩ := h.frame (W' := W') h.oa (by decide) hk
  refine ⟨⟨v0, h0, ?_⟩, own_set_far (hr h.ob (.inl (by decide))) hb1 (by decide) _, own_set_far (hr h.op (.inr (fun g h1 h2 => h.ap g h1 h2))) hb1 (by decide) _, own_set_far (hr h.or (.inl (by decide))) hb1 (by decide) _, own_set_far hO1 hb1 (by decide) _, hm.set hb1 _, fun g hg hg2 => by
      rcases hloc g hg2 with h1 | h1
      · exact h.ap g hg h1
      · have := own_blk_lt h.op hg; omega, h.tb, h.bb⟩
  have := blk_set (i := 4) hb1 v'
  simpa using this
/-- The builder has been used. -/
theorem Tak.used (h : Tak W base t vb vp vr va B mB nb ps rs qs C) : Tak (W.setCell ⟨t, 0, none⟩ (.pointer (some ⟨t, 0, none⟩))) base t vb vp vr va B mB nb ps rs qs C := by
  obtain ⟨v0, h0, hb1⟩ := h.blk
  refine ⟨⟨_, .inr rfl, ?_⟩, own_set_far h.ob hb1 (by decide) _, own_set_far h.op hb1 (by decide) _, own_set_far h.or hb1 (by decide) _, own_set_far h.oa hb1 (by decide) _, h.om.set hb1 _, h.ap, h.tb, h.bb⟩
  have := blk_set (i := 0) hb1 (.pointer (some ⟨t, 0, none⟩))
  simpa using this
theorem Tak.ext (h : Tak W base t vb vp vr va B mB nb ps rs qs C) (he : Ext W W') : Tak W' base t vb vp vr va B mB nb ps rs qs C := by
  obtain ⟨v0, h0, hb1⟩ := h.blk
  exact ⟨⟨v0, h0, (he.block t h.lt).trans hb1⟩, own_ext h.ob he, own_ext h.op he, own_ext h.or he, own_ext h.oa he, h.om.ext he, h.ap, h.tb, h.bb⟩
end
end Go.Proofs.YtgedpfbokkambaaGreatDoor
end
section
/- Marks: a builder that is a struct's first field: copyCheck, WriteByte, String. -/
namespace Go.Proofs.YtgedpfbokkambaaGreatDoor
open Go.RowKit Go.Maps
attribute [local go_sem] bs_size bs_extract bs_get bs_append bs_toList const_get
set_option maxHeartbeats 4000000
set_option maxRecDepth 100000
attribute [local irreducible] Calls
theorem bld_under : Tryz.prog.underlying 51 = some (.pointer 53) := by kernel_rfl
theorem unsafe_under : Tryz.prog.underlying 86 = some .unsafePointer := by kernel_rfl
theorem bld_size : (Tryz.prog.info? 53).map (·.size) = some 2 := by kernel_rfl
theorem bld_lies : liesAt Tryz.prog Tryz.prog.depth 57 (6 / Tryz.prog.cellsOf 57) 0 53 1 = true := by kernel_rfl
section
variable {W0 W : World} {base t : Nat} {vb vp vr va : Value} {B mB : Nat} {nb : List UInt8} {ps rs qs : List Int} {C : Int → Prop}
theorem bl_copyCheck (h : Tak W base t vb vp vr va B mB nb ps rs qs C) (hE : Ext W0 W) (hb : W0.heap.size ≤ base) :
    Calls Tryz.prog 60 #[.pointer (some ⟨t, 0, none⟩)] W fun e w' => e = .returned (.tuple #[]) ∧ Ext W0 w' ∧ Hid (Tak w' base t vb vp vr va B mB nb ps rs qs C) := by
  obtain ⟨j, hj, hjs⟩ := Option.map_eq_some_iff.1 bld_size
  obtain ⟨v0, h0, hblk⟩ := h.blk
  have c0 : W.cell? ⟨t, 0, none⟩ = some v0 := by rw [D2.cell_of_block hblk]; rfl
  have f0 : W.frozen? ⟨t, 0, none⟩ = false := D2.frozen_of_block hblk 0
  have hsh : W.shape? t = some (57, 6) := by simp [World.shape?, hblk]
  have H := Lib.hid h
  have HE := Lib.hid hE
  have htb := h.tb
  clear h hE hblk
  rcases h0 with rfl | rfl
  · skip
    go_enter Tryz.func60, Tryz.ntmps60
    go_wp2
    rw [Lib.run_to_unsafe W ⟨t, 0, none⟩ bld_under unsafe_under hj (by rw [hjs]; decide) hsh (show (0 : Nat) < 6 by decide)]
    simp only [Result.andThen]
    rw [Oper.upon_value]
    go_wp2
    rw [run_callFunc_extern Tryz.func80 (by kernel_rfl) (by kernel_rfl) (by kernel_rfl) (e := Extern.AbiNoEscape.same) (by kernel_rfl)]
    rw [Lib.run_noEscape]
    simp only [Result.andThen]
    rw [Oper.upon_value]
    go_wp2
    rw [Lib.run_from_unsafe W ⟨t, 0, none⟩ unsafe_under bld_under hj hsh bld_lies]
    simp only [Result.andThen]
    rw [Oper.upon_value]
    go_wp2
    go_end0
    exact ⟨rfl, ext_setCell HE.out (by simp; omega) _, H.out.used⟩
  · skip
    go_enter Tryz.func60, Tryz.ntmps60
    go_wp2
    rw [Lib.run_neq_ptr_same W _ bld_under hj]
    go_wp2
    go_end0
    exact ⟨rfl, HE.out, H⟩
theorem bl_WriteByte (h : Tak W base t vb vp vr va B mB nb ps rs qs C) (hE : Ext W0 W) (hb : W0.heap.size ≤ base) (hn : nb.length ≤ 1000000) (x : UInt8) :
    Calls Tryz.prog 43 #[.pointer (some ⟨t, 0, none⟩), .int .u8 (x.toNat : Int)] W fun e w' => e = .returned .nilIface ∧ Ext W0 w' ∧ ∃ vb', Hid (Tak w' base t vb' vp vr va B mB (nb ++ [x]) ps rs qs C) := by
  have kc := Lib.hid (bl_copyCheck h hE hb)
  clear h hE
  go_enter Tryz.func43, Tryz.ntmps43
  go_upto_region 2 with (first
    | (go_at_call 60; (with_reducible refine (kc.out).mono ?_); rintro e w1 ⟨rfl, hE1, hT1⟩))
  obtain ⟨c1, c2, c3, c4, c5, fz⟩ := hT1.out.cells
  have f1 := fz 1
  have hbs : base ≤ w1.heap.size := by have := hT1.out.tb; have := hT1.out.lt; omega
  clear fz
  go_wp2_with (first
    | (at_builtin; refine push_u8g rfl _ _ rfl _ rfl hE1 hb hbs hT1.out.ob rfl x ⟨_, 0, none⟩ 1 rfl (by simp [go_sem, bV]) (by omega) (fun v9 w9 hE9 hO9 hK9 hL9 => ?_); obtain ⟨A9, k9, rfl⟩ := own_shape hO9.out; obtain ⟨⟨v0, h0, hb9⟩, hq1, hq2⟩ := hT1.out.frame (W' := w9) hT1.out.ob (by decide) hK9.out; have f9 : w9.frozen? ⟨t, 1, none⟩ = false := (D2.frozen_of_block hb9 1); have c9 : w9.cell? ⟨t, 1, none⟩ = some vb := (by rw [D2.cell_of_block hb9]; rfl); clear hq1 hq2))
  have htb := hT1.out.tb
  refine bodyPost_ret (v := .nilIface) ?h rfl ⟨rfl, ext_setCell hE9 (by simp; omega) _, _, hT1.out.buf hO9.out hK9.out hL9.out⟩
  case h => simp [results, Tryz.results43, go_sem]
/-- What is left to read behind String. -/
structure TakR (W : World) (t : Nat) (vp vr va : Value) (base B mB : Nat) (ps rs qs : List Int) (C : Int → Prop) : Prop where
  lt : t < W.heap.size
  c2 : W.cell? ⟨t, 2, none⟩ = some vp
  c3 : W.cell? ⟨t, 3, none⟩ = some vr
  c4 : W.cell? ⟨t, 4, none⟩ = some va
  c5 : W.cell? ⟨t, 5, none⟩ = some (.map (some B))
  op : OwnI W base vp ps.length ps
  or : OwnR W base vr rs.length rs
  oa : OwnI W base va qs.length qs
  om : MapC W B mB C
theorem TakR.of (h : Tak W base t vb vp vr va B mB nb ps rs qs C) {W' : World} (hk : ∀ k q, W.heap[k]? = some q → vb.ownBlock ≠ some k → W'.heap[k]? = some q) : TakR W' t vp vr va base B mB ps rs qs C := by
  obtain ⟨⟨v0, h0, hb⟩, hm, hr⟩ := h.frame (W' := W') h.ob (by decide) hk
  refine ⟨(Array.getElem?_eq_some_iff.1 hb).1, ?_, ?_, ?_, ?_, hr h.op (.inl (by decide)), hr h.or (.inl (by decide)), hr h.oa (.inl (by decide)), hm⟩
  · rw [D2.cell_of_block hb]; rfl
  · rw [D2.cell_of_block hb]; rfl
  · rw [D2.cell_of_block hb]; rfl
  · rw [D2.cell_of_block hb]; rfl
theorem bp_under : Tryz.prog.underlying 80 = some (.pointer 5) := by kernel_rfl
theorem bytes_cells : Tryz.prog.cellsOf 5 = 1 := by kernel_rfl
theorem bl_String (h : Tak W base t vb vp vr va B mB nb ps rs qs C) (hE : Ext W0 W) (hb : W0.heap.size ≤ base) (hn : nb.length ≤ 1000000) (h0 : nb = [] → vb = .slice none 0 0) :
    Calls Tryz.prog 24 #[.pointer (some ⟨t, 0, none⟩)] W fun e w' => e = .returned (.string (bs nb)) ∧ Ext W0 w' ∧ Hid (TakR w' t vp vr va base B mB ps rs qs C) := by
  obtain ⟨c1, -⟩ := h.cells
  have H := Lib.hid h
  have HE := Lib.hid hE
  by_cases hne : nb = []
  · subst hne
    obtain rfl := h0 rfl
    have c1' : W.drew.cell? ⟨t, 1, none⟩ = some (.slice none 0 0) := c1
    have hSD : ∀ (ts : Array TypeId) (ty : TypeId), (Builtin.unsafeSliceData_ ts ty #[.slice none 0 0]).run Tryz.prog W.drew = .ok (.pointer none) W.drew := fun ts ty => Lib.run_unsafeSliceData_nil W.drew ts ty 0 0
    have hUS : ∀ (pt it ty : TypeId), (Builtin.unsafeString_ #[pt, it] ty #[.pointer none, .int .i64 0]).run Tryz.prog W.drew = .ok (.string .empty) W.drew := fun pt it ty => Lib.run_unsafeString_none _ pt it ty none
    have hR := Lib.hid (TakR.of h (W' := W.drew) (fun k q hk _ => hk))
    have hEd := Lib.hid (ext_drew hE)
    have mixed : Tryz.prog.follows .mixedOrders = true := by kernel_rfl
    clear h hE h0 H HE
    go_enter Tryz.func24, Tryz.ntmps24
    go_wp2
    go_region_o
    all_goals (go_wp2; go_ret; exact ⟨rfl, hEd.out, hR⟩)
  · have hl0 : nb.length ≠ 0 := fun e => hne (List.eq_nil_of_length_eq_zero e)
    obtain ⟨g, cap, cur, rfl, hbg, hg, hnc, hcm, hcs, htake⟩ : ∃ g cap cur, vb = .slice (some ⟨g, 0, none⟩) nb.length cap ∧ base ≤ g ∧ W.heap[g]? = some (.cells cur 5 (0, 0)) ∧ nb.length ≤ cap ∧ cap ≤ maxLen ∧ cur.size = cap * 1 ∧ cur.toList.take (nb.length * 1) = nb.map bV := by
      rcases h.ob.2 with ⟨_, hz⟩ | ⟨g, cap, cur, hv, r⟩
      · exact absurd hz hl0
      · exact ⟨g, cap, cur, hv, r⟩
    have c1' : W.drew.cell? ⟨t, 1, none⟩ = some (.slice (some ⟨g, 0, none⟩) nb.length cap) := c1
    have hSD : ∀ (ts : Array TypeId) (ty : TypeId), (Builtin.unsafeSliceData_ ts ty #[.slice (some ⟨g, 0, none⟩) nb.length cap]).run Tryz.prog W.drew = .ok (.pointer (some ⟨g, 0, none⟩)) W.drew := fun ts ty =>
      Lib.run_unsafeSliceData_row W.drew ts ty ⟨g, 0, none⟩ nb.length cap (by omega)
    have hUS : (Builtin.unsafeString_ #[80, 3] 9 #[.pointer (some ⟨g, 0, none⟩), .int .i64 nb.length]).run Tryz.prog W.drew = .ok (.string (bs nb)) (W.drew.freeze ⟨g, 0, none⟩ nb.length) := by
      refine Lib.run_unsafeString_row W.drew 80 3 9 5 bp_under bytes_cells g cur.size (by have hg' : W.drew.heap[g]? = some (.cells cur 5 (0, 0)) := hg; simp [World.shape?, hg']) nb hne (by omega) (by unfold maxLen at hcm; omega) ?_
      intro j x hx
      exact h.ob.cells (g := g) rfl j (.int .u8 x.toNat) (by simp [hx, bV])
    have hR := Lib.hid (TakR.of h (W' := W.drew.freeze ⟨g, 0, none⟩ nb.length) (fun k q hk hne2 => by
      have hkg : g ≠ k := fun e => hne2 (by rw [← e]; rfl)
      unfold World.freeze
      rw [if_neg hl0]
      show (W.heap.modify g _)[k]? = _
      rw [Array.getElem?_modify, if_neg hkg]
      exact hk))
    have hEd := Lib.hid (show Ext W0 (W.drew.freeze ⟨g, 0, none⟩ nb.length) from Lib.below_freeze (ext_drew hE) (by show W0.heap.size ≤ g; omega) _)
    have mixed : Tryz.prog.follows .mixedOrders = true := by kernel_rfl
    clear h hE h0 H HE c1 htake hg
    go_enter Tryz.func24, Tryz.ntmps24
    go_wp2
    go_region_o
    all_goals (go_wp2; go_ret; exact ⟨rfl, hEd.out, hR⟩)
end
end Go.Proofs.YtgedpfbokkambaaGreatDoor
end
section
/- Marks: take: a text gone through. -/
namespace Go.Proofs.YtgedpfbokkambaaGreatDoor
open Go.RowKit Go.Maps
attribute [local go_sem] bs_size bs_extract bs_get bs_append bs_toList const_get
set_option maxHeartbeats 4000000
set_option maxRecDepth 100000
attribute [local irreducible] Calls
/-- What was taken so far. -/
structure TS where
  plain : List UInt8
  places : List Int
  runes : List Int
  ats : List Int
  broken : List Nat
  begun : Bool
  inside : Bool
/-- What a rune stands for. -/
def clsC (P G M N : Int) (r : Int) (n : Nat) : UInt8 :=
  if r = 65533 ∧ n = 1 then 120 else if r = M then 45 else if r = P then 46 else if r = 101 then 101 else
    if N ≤ r ∧ r ≤ N + 9 then UInt8.ofNat (48 + (r - N).toNat) else if G ≠ 0 ∧ r = G then 103 else 120
/-- One rune more. -/
def tkStep (P G M N : Int) (s : TS) (i : Nat) (r : Int) (n : Nat) : TS :=
  let c := clsC P G M N r n
  let br := if r = 65533 ∧ n = 1 then s.broken ++ [i] else s.broken
  let bg := s.begun || isD c
  if (bg && s.inside) = true then
    if c = 103 then { s with runes := s.runes ++ [r], ats := s.ats ++ [(i : Int)], broken := br, begun := bg }
    else if isD c = true then { s with plain := s.plain ++ [c], places := s.places ++ [(i : Int)], runes := s.runes ++ [r], ats := s.ats ++ [(i : Int)], broken := br, begun := bg }
    else { s with plain := s.plain ++ [c], places := s.places ++ [(i : Int)], ats := s.ats ++ [(i : Int)], broken := br, begun := bg, inside := false }
  else { s with plain := s.plain ++ [c], places := s.places ++ [(i : Int)], broken := br, begun := bg }
def tkRun (P G M N : Int) (l : List UInt8) : Nat → Nat → TS → TS
  | 0, _, s => s
  | f + 1, i, s => if i < l.length then tkRun P G M N l f (i + (Lib.decodeL (l.drop i)).2) (tkStep P G M N s i (Lib.decodeL (l.drop i)).1 (Lib.decodeL (l.drop i)).2) else s
def tk0 : TS := ⟨[], [], [], [], [], false, true⟩
/-- What is taken of a text, ahead of the two last places. -/
def tkV (P G M N : Int) (l : List UInt8) : TS := tkRun P G M N l l.length 0 tk0
/-- No list is longer than what was gone through. -/
structure TsLe (s : TS) (i : Nat) : Prop where
  a : s.plain.length ≤ i
  b : s.places.length ≤ i
  c : s.runes.length ≤ i
  d : s.ats.length ≤ i
theorem tkA {P G M N : Int} {s : TS} {i : Nat} {r : Int} {n : Nat} {br : List Nat} (hcl : clsC P G M N r n = 103) (hbr : (if r = 65533 ∧ n = 1 then s.broken ++ [i] else s.broken) = br) (hb : s.begun = true) (hi : s.inside = true) :
    tkStep P G M N s i r n = ⟨s.plain, s.places, s.runes ++ [r], s.ats ++ [(i : Int)], br, true, true⟩ := by
  unfold tkStep
  simp only [hcl, hbr, hb, hi]
  rfl
theorem tkB {P G M N : Int} {s : TS} {i : Nat} {r : Int} {n : Nat} {c : UInt8} {br : List Nat} (hcl : clsC P G M N r n = c) (hd : isD c = true) (hbr : (if r = 65533 ∧ n = 1 then s.broken ++ [i] else s.broken) = br) (hi : s.inside = true) :
    tkStep P G M N s i r n = ⟨s.plain ++ [c], s.places ++ [(i : Int)], s.runes ++ [r], s.ats ++ [(i : Int)], br, true, true⟩ := by
  have h103 : ¬ c = 103 := fun e => by subst e; revert hd; decide
  unfold tkStep
  simp only [hcl, hbr, hd, hi, Bool.or_true, Bool.and_self, if_true, if_neg h103]
theorem tkC {P G M N : Int} {s : TS} {i : Nat} {r : Int} {n : Nat} {c : UInt8} {br : List Nat} (hcl : clsC P G M N r n = c) (hd : isD c = false) (h103 : c ≠ 103) (hbr : (if r = 65533 ∧ n = 1 then s.broken ++ [i] else s.broken) = br) (hb : s.begun = true) (hi : s.inside = true) :
    tkStep P G M N s i r n = ⟨s.plain ++ [c], s.places ++ [(i : Int)], s.runes, s.ats ++ [(i : Int)], br, true, false⟩ := by
  unfold tkStep
  simp only [hcl, hbr, hd, hb, hi, Bool.or_false, Bool.and_self, if_true, if_neg h103, Bool.false_eq_true, if_false]
theorem tkD {P G M N : Int} {s : TS} {i : Nat} {r : Int} {n : Nat} {c : UInt8} {br : List Nat} (hcl : clsC P G M N r n = c) (hbr : (if r = 65533 ∧ n = 1 then s.broken ++ [i] else s.broken) = br) (h : ((s.begun || isD c) && s.inside) = false) :
    tkStep P G M N s i r n = ⟨s.plain ++ [c], s.places ++ [(i : Int)], s.runes, s.ats, br, s.begun || isD c, s.inside⟩ := by
  unfold tkStep
  simp only [hcl, hbr, h, Bool.false_eq_true, if_false]
theorem tkDn {P G M N : Int} {s : TS} {i : Nat} {r : Int} {n : Nat} {c : UInt8} {br : List Nat} (hcl : clsC P G M N r n = c) (hd : isD c = false) (hbr : (if r = 65533 ∧ n = 1 then s.broken ++ [i] else s.broken) = br) (h : (s.begun && s.inside) = false) :
    tkStep P G M N s i r n = ⟨s.plain ++ [c], s.places ++ [(i : Int)], s.runes, s.ats, br, s.begun, s.inside⟩ := by
  have := tkD (s := s) (i := i) hcl hbr (by rw [hd, Bool.or_false]; exact h)
  rw [hd, Bool.or_false] at this
  exact this
theorem tkDd {P G M N : Int} {s : TS} {i : Nat} {r : Int} {n : Nat} {c : UInt8} {br : List Nat} (hcl : clsC P G M N r n = c) (hd : isD c = true) (hbr : (if r = 65533 ∧ n = 1 then s.broken ++ [i] else s.broken) = br) (h : s.inside = false) :
    tkStep P G M N s i r n = ⟨s.plain ++ [c], s.places ++ [(i : Int)], s.runes, s.ats, br, true, s.inside⟩ := by
  have := tkD (s := s) (i := i) hcl hbr (by rw [h, Bool.and_false])
  rw [hd, Bool.or_true] at this
  exact this
theorem and_t {a b : Bool} (h : (a && b) = true) : a = true ∧ b = true := by cases a <;> cases b <;> simp_all
theorem and_f {b : Bool} (h : (true && b) = false) : b = false := by cases b <;> simp_all
theorem tk1 {P G M N : Int} {s : TS} {i : Nat} {r : Int} {n : Nat} {br : List Nat} (hcl : clsC P G M N r n = 103) (hbr : (if r = 65533 ∧ n = 1 then s.broken ++ [i] else s.broken) = br) (hbg : (s.begun || isD 103) = true) (hi : s.inside = true) :
    tkStep P G M N s i r n = ⟨s.plain, s.places, s.runes ++ [r], s.ats ++ [(i : Int)], br, true, true⟩ :=
  tkA hcl hbr (by have h : isD 103 = false := by decide
                  rw [h, Bool.or_false] at hbg; exact hbg) hi
theorem tk2 {P G M N : Int} {s : TS} {i : Nat} {r : Int} {n : Nat} {c : UInt8} {br : List Nat} (hcl : clsC P G M N r n = c) (hbr : (if r = 65533 ∧ n = 1 then s.broken ++ [i] else s.broken) = br) (_hbg : (s.begun || isD c) = true) (hd : isD c = true) (hi : s.inside = true := by rfl) :
    tkStep P G M N s i r n = ⟨s.plain ++ [c], s.places ++ [(i : Int)], s.runes ++ [r], s.ats ++ [(i : Int)], br, true, true⟩ := tkB hcl hd hbr hi
theorem tk3 {P G M N : Int} {s : TS} {i : Nat} {r : Int} {n : Nat} {c : UInt8} {br : List Nat} (hcl : clsC P G M N r n = c) (hbr : (if r = 65533 ∧ n = 1 then s.broken ++ [i] else s.broken) = br) (hbg : (s.begun || isD c) = true) (hd : isD c = false) (h103 : c ≠ 103) (hi : s.inside = true := by rfl) :
    tkStep P G M N s i r n = ⟨s.plain ++ [c], s.places ++ [(i : Int)], s.runes, s.ats ++ [(i : Int)], br, true, false⟩ :=
  tkC hcl hd h103 hbr (by rw [hd, Bool.or_false] at hbg; exact hbg) hi
theorem tk4 {P G M N : Int} {s : TS} {i : Nat} {r : Int} {n : Nat} {c : UInt8} {br : List Nat} {bg : Bool} (hcl : clsC P G M N r n = c) (hbr : (if r = 65533 ∧ n = 1 then s.broken ++ [i] else s.broken) = br) (hbg : (s.begun || isD c) = bg) (h : (bg && s.inside) = false) :
    tkStep P G M N s i r n = ⟨s.plain ++ [c], s.places ++ [(i : Int)], s.runes, s.ats, br, bg, s.inside⟩ := by
  subst hbg
  exact tkD hcl hbr h
theorem tkStep_le {P G M N : Int} {s : TS} {i : Nat} (r : Int) {n : Nat} (h : TsLe s i) (hn : 1 ≤ n) : TsLe (tkStep P G M N s i r n) (i + n) := by
  obtain ⟨h1, h2, h3, h4⟩ := h
  unfold tkStep
  dsimp only
  split
  · split
    · exact ⟨by dsimp only; omega, by dsimp only; omega, by simp; omega, by simp; omega⟩
    · split
      · exact ⟨by simp; omega, by simp; omega, by simp; omega, by simp; omega⟩
      · exact ⟨by simp; omega, by simp; omega, by dsimp only; omega, by simp; omega⟩
  · exact ⟨by simp; omega, by simp; omega, by dsimp only; omega, by dsimp only; omega⟩
theorem Tak.mapped {W W' : World} {base t : Nat} {vb vp vr va : Value} {B mB mB' : Nat} {nb : List UInt8} {ps rs qs : List Int} {C C' : Int → Prop} (h : Tak W base t vb vp vr va B mB nb ps rs qs C) (hm : MapC W' B mB' C') (hg : W.grownBy W' (some B)) : Tak W' base t vb vp vr va B mB' nb ps rs qs C' := by
  obtain ⟨es, cl, hB⟩ := h.om.blk
  obtain ⟨v0, h0, hb⟩ := h.blk
  have hr : ∀ {e2 : TypeId} {v2 : Value} {n2 : Nat} {ys : List Value}, W.ownsRow base e2 1 v2 n2 ys → W'.ownsRow base e2 1 v2 n2 ys := fun h2 => own_keep h2 (fun g hgo => by
    obtain ⟨_, cur, h4⟩ := own_at_block h2 hgo
    exact hg.block g (own_blk_lt h2 hgo) (fun e => by cases e; rw [hB] at h4; cases h4))
  exact ⟨⟨v0, h0, (hg.block t h.lt (fun e => by cases e; rw [hB] at hb; cases hb)).trans hb⟩, hr h.ob, hr h.op, hr h.or, hr h.oa, hm, h.ap, h.tb, h.bb⟩
theorem mk_take (P G M N : Int) (A : Option Addr) (k c : Nat) (l : List UInt8) (hl : l.length ≤ 65536) (hN : 0 ≤ N ∧ N + 9 ≤ 1114111) (w : World) (hT : Lib.Utf8Tabs 1 2 w) (hg : 2 < w.heap.size) :
    Calls Tryz.prog 23 #[mkV P G M N A k c, .string (bs l)] w fun e w' => ∃ t vb vp vr va B mB, e = .returned (.pointer (some ⟨t, 0, none⟩)) ∧ Ext w w' ∧
      Hid (Tak w' (w.heap.size + 1) t vb vp vr va B mB (tkV P G M N l).plain ((tkV P G M N l).places ++ [(l.length : Int)]) (tkV P G M N l).runes ((tkV P G M N l).ats ++ [(l.length : Int)]) (fun z => ∃ b ∈ (tkV P G M N l).broken, (b : Int) = z)) ∧ Hid ((tkV P G M N l).plain = [] → vb = .slice none 0 0) := by
  have hmm := @run_makeMap Tryz.prog
  have e1 : Hid (Ext w (w.alloc (BoxM P G M N A k c))) := ext_alloc (ext_refl w) _
  have b1 := Lib.hid (MkAt.made w P G M N A k c)
  have HT := Lib.hid hT
  clear hT
  have hb1 : (w.alloc (BoxM P G M N A k c)).heap.size = w.heap.size + 1 := by simp
  have hb2 : ((w.alloc (BoxM P G M N A k c)).alloc (.map #[] 0)).heap.size = w.heap.size + 1 + 1 := by simp
  have T0 : Hid (Tak (((w.alloc (BoxM P G M N A k c)).alloc (.map #[] 0)).alloc (.cells #[.pointer none, .slice none 0 0, .slice none 0 0, .slice none 0 0, .slice none 0 0, .map (some (w.heap.size + 1))] 57)) (w.heap.size + 1) (w.heap.size + 1 + 1) (.slice none 0 0) (.slice none 0 0) (.slice none 0 0) (.slice none 0 0) (w.heap.size + 1) 0 [] [] [] [] (fun z => ∃ b ∈ ([] : List Nat), (b : Int) = z)) := by
    refine ⟨⟨_, .inl rfl, ?_⟩, ⟨rfl, .inl ⟨rfl, rfl⟩⟩, ⟨rfl, .inl ⟨rfl, rfl⟩⟩, ⟨rfl, .inl ⟨rfl, rfl⟩⟩, ⟨rfl, .inl ⟨rfl, rfl⟩⟩, ?_, (fun g hg => (by cases hg)), (by omega), (by omega)⟩
    · rw [← hb2]; show (Array.push _ _)[_]? = _; exact Array.getElem?_push_size
    · obtain ⟨D, h1, h2, h3⟩ := (MapC.made (w.alloc (BoxM P G M N A k c))).ext (ext_alloc (ext_refl _) (.cells #[.pointer none, .slice none 0 0, .slice none 0 0, .slice none 0 0, .slice none 0 0, .map (some (w.heap.size + 1))] 57))
      rw [hb1] at h1
      exact ⟨D, h1, h2, fun i c h => by rw [h3 i c h]; simp⟩
  have E0 : Hid (Ext (w.alloc (BoxM P G M N A k c)) (((w.alloc (BoxM P G M N A k c)).alloc (.map #[] 0)).alloc (.cells #[.pointer none, .slice none 0 0, .slice none 0 0, .slice none 0 0, .slice none 0 0, .map (some (w.heap.size + 1))] 57))) := ext_alloc (ext_alloc (ext_refl _) _) _
  obtain ⟨fin, hfin⟩ : ∃ fin, tkV P G M N l = fin := ⟨_, rfl⟩
  rw [hfin]
  have hut : ∀ W, Ext (w.alloc (BoxM P G M N A k c)) W → Lib.Utf8Tabs 1 2 W := fun W h => by
    have h2 : Ext w W := ext_trans e1.out h
    obtain ⟨a, b⟩ := HT.out
    exact ⟨fun c hc => (Below.cell (p := ⟨1, c, none⟩) h2 (by show 1 < w.heap.size; omega)).trans (a c hc), fun i hi => ⟨(Below.cell (p := ⟨2, 2 * i, none⟩) h2 (by show 2 < w.heap.size; omega)).trans (b i hi).1, (Below.cell (p := ⟨2, 2 * i + 1, none⟩) h2 (by show 2 < w.heap.size; omega)).trans (b i hi).2⟩⟩
  have HU := Lib.hid hut
  clear hut
  go_enter Tryz.func23, Tryz.ntmps23
  go_wp2
  go_loopg [6, 7, 8] l.length (fun gk v6 v7 v8 wr => ∃ (i : Nat) (s : TS) (vb vp vr va : Value) (mB fu : Nat), gk = l.length - i ∧ v6 = .bool s.begun ∧ v7 = .bool s.inside ∧ v8 = .int .i64 i ∧ i ≤ l.length ∧ mB ≤ i ∧
      Hid (Tak wr (w.heap.size + 1) (w.heap.size + 1 + 1) vb vp vr va (w.heap.size + 1) mB s.plain s.places s.runes s.ats (fun z => ∃ b ∈ s.broken, (b : Int) = z)) ∧ Hid (Ext (w.alloc (BoxM P G M N A k c)) wr) ∧ Hid (TsLe s i) ∧ Hid (s.plain = [] → vb = .slice none 0 0) ∧
      Hid (l.length ≤ i + fu ∧ tkRun P G M N l fu i s = fin))
  case atStart => exact ⟨0, tk0, _, _, _, _, 0, l.length, rfl, rfl, rfl, rfl, Nat.zero_le _, Nat.le_refl _, T0, E0, ⟨Nat.le_refl _, Nat.le_refl _, Nat.le_refl _, Nat.le_refl _⟩, fun _ => rfl, by omega, hfin⟩
  case round =>
    clear T0 E0 hfin
    obtain ⟨i, s, vb, vp, vr, va, mB, fu, rfl, rfl, rfl, rfl, hi, hmB, hTk, hE, hle, hem, hrun⟩ := hrel
    obtain ⟨spl, sps, srs, sqs, sbr, sbg, sin⟩ := s
    dsimp only at hTk hle hem hrun
    obtain ⟨x1, x2, x3, x4⟩ := hle.out
    dsimp only at x1 x2 x3 x4
    have hT1 := HU.out _ hE.out
    by_cases hlt : i < l.length
    · have hlt' : (i : Int) < (l.length : Int) := by omega
      have hne : l.drop i ≠ [] := fun e => by
        have := congrArg List.length e
        rw [List.length_drop] at this; simp at this; omega
      obtain ⟨r, n, hrn⟩ : ∃ r n, Lib.decodeL (l.drop i) = (r, n) := ⟨_, _, rfl⟩
      have hn1 : 1 ≤ n := by have := Lib.decodeL_width (l.drop i); rw [hrn] at this; exact this
      have hn2 : n ≤ l.length - i := by have := Lib.decodeL_le (l.drop i) hne; rw [hrn, List.length_drop] at this; exact this
      have hr1 : r ≤ 1114111 := by have := Lib.decodeL_rune (l.drop i); rw [hrn] at this; exact this
      have kd := Lib.hid (mk_decode (l.drop i) hne wr hT1)
      rw [hrn] at kd
      have hcl0 : ∀ s', tkStep P G M N ⟨spl, sps, srs, sqs, sbr, sbg, sin⟩ i (r : Int) n = s' → ∀ (wz : World) (vb vp vr va : Value) (mB : Nat), mB ≤ i + 1 →
          Hid (Tak wz (w.heap.size + 1) (w.heap.size + 1 + 1) vb vp vr va (w.heap.size + 1) mB s'.plain s'.places s'.runes s'.ats (fun z => ∃ b ∈ s'.broken, (b : Int) = z)) → Hid (Ext (w.alloc (BoxM P G M N A k c)) wz) → (s'.plain = [] → vb = .slice none 0 0) →
          ∃ (i' : Nat) (s2 : TS) (vb vp vr va : Value) (mB fu' : Nat), l.length - (i + n) = l.length - i' ∧ Value.bool s'.begun = .bool s2.begun ∧ Value.bool s'.inside = .bool s2.inside ∧ Value.int IntKind.i64 ((i : Int) + (n : Int)) = Value.int .i64 (i' : Int) ∧ i' ≤ l.length ∧ mB ≤ i' ∧
            Hid (Tak wz (w.heap.size + 1) (w.heap.size + 1 + 1) vb vp vr va (w.heap.size + 1) mB s2.plain s2.places s2.runes s2.ats (fun z => ∃ b ∈ s2.broken, (b : Int) = z)) ∧ Hid (Ext (w.alloc (BoxM P G M N A k c)) wz) ∧ Hid (TsLe s2 i') ∧ Hid (s2.plain = [] → vb = .slice none 0 0) ∧
            Hid (l.length ≤ i' + fu' ∧ tkRun P G M N l fu' i' s2 = fin) := by
        intro s' hs' wz vb vp vr va mB h1 h2 h3 h4
        obtain ⟨hf1, hf2⟩ := hrun.out
        obtain ⟨f0, rfl⟩ : ∃ f0, fu = f0 + 1 := ⟨fu - 1, by omega⟩
        have h5 : tkRun P G M N l f0 (i + n) (tkStep P G M N ⟨spl, sps, srs, sqs, sbr, sbg, sin⟩ i (r : Int) n) = fin := by
          have h6 := hf2
          rw [tkRun, if_pos hlt, hrn] at h6
          exact h6
        have h7 := tkStep_le (P := P) (G := G) (M := M) (N := N) (r : Int) hle.out hn1
        rw [hs'] at h5 h7
        exact ⟨i + n, s', vb, vp, vr, va, mB, f0, rfl, rfl, rfl, by go_num, by omega, by omega, h2, h3, h7, h4, by omega, h5⟩
      have HF := Lib.hid hcl0
      clear hcl0 hrun hle
      go_upto_block 2 with (first
        | (go_at_call 42; (with_reducible refine (kd.out).mono ?_); rintro e w1 ⟨rfl, hE1⟩))
      have hTk1 := Lib.hid (hTk.out.ext hE1)
      have hE2 := Lib.hid (ext_trans hE.out hE1)
      clear hTk hE hE1 kd hrn
      obtain ⟨cb, hcl⟩ : ∃ cb : UInt8, clsC P G M N (r : Int) n = cb := ⟨_, rfl⟩
      obtain ⟨br, hbr⟩ : ∃ br : List Nat, (if (r : Int) = 65533 ∧ n = 1 then sbr ++ [i] else sbr) = br := ⟨_, rfl⟩
      obtain ⟨bg, hbg⟩ : ∃ bg : Bool, (sbg || isD cb) = bg := ⟨_, rfl⟩
      have HCL := Lib.hid hcl
      have HBR := Lib.hid hbr
      have HBG := Lib.hid hbg
      clear hcl hbr hbg
      go_cut [6, 11] (fun v6 v11 wx => v6 = .bool bg ∧ v11 = .int .u8 cb.toNat ∧ ∃ mB', mB' ≤ i + 1 ∧ Hid (Tak wx (w.heap.size + 1) (w.heap.size + 1 + 1) vb vp vr va (w.heap.size + 1) mB' spl sps srs sqs (fun z => ∃ b ∈ br, (b : Int) = z)) ∧ Hid (Ext (w.alloc (BoxM P G M N A k c)) wx))
      case first =>
        go_upto_region 9 with fail
        obtain ⟨bk, hbk⟩ : ∃ bk : Bool, decide (r = 65533 ∧ n = 1) = bk := ⟨_, rfl⟩
        have HBK := Lib.hid hbk
        clear hbk
        go_cut [29] (fun v29 wx => v29 = .bool bk ∧ wx = w1)
        case first =>
          by_cases h31 : r = 65533
          · by_cases h34 : n = 1
            · have hb : bk = true := by rw [← HBK.out]; exact decide_eq_true ⟨h31, h34⟩
              have q31 : ((r : Int) == 65533) = true := by subst h31; rfl
              have q34 : ((n : Int) == 1) = true := by subst h34; rfl
              go_wp2
              go_meet
              case rel => exact ⟨by rw [hb], rfl⟩
            · have hb : bk = false := by rw [← HBK.out]; exact decide_eq_false (fun h => h34 h.2)
              have q31 : ((r : Int) == 65533) = true := by subst h31; rfl
              have q34 : ((n : Int) == 1) = false := by simp; omega
              go_wp2
              go_meet
              case rel => exact ⟨by rw [hb], rfl⟩
          · have hb : bk = false := by rw [← HBK.out]; exact decide_eq_false (fun h => h31 h.1)
            have q31 : ((r : Int) == 65533) = false := by simp; omega
            go_wp2
            go_meet
            case rel => exact ⟨by rw [hb], rfl⟩
        case rest =>
          obtain ⟨rfl, hw⟩ := hcut
          subst hw
          rename ∀ (a : Act) (w : World), Code.wp _ _ _ a w → _ => hK5
          refine hK5 _ _ ?_
          clear hK5
          obtain ⟨d1, d2, d3, d4, d5, dz⟩ := hTk1.out.cells
          obtain ⟨p0, p1, p2, p3, p4, pl⟩ := b1.out.ext hE2.out
          by_cases hbt : bk = true
          · subst hbt
            obtain ⟨h31, h34⟩ : r = 65533 ∧ n = 1 := of_decide_eq_true HBK.out
            have hbr : br = sbr ++ [i] := by rw [← HBR.out, if_pos ⟨by omega, h34⟩]
            have hc : cb = 120 := by rw [← HCL.out]; unfold clsC; rw [if_pos ⟨by omega, h34⟩]
            have hg1 : bg = sbg := by rw [← HBG.out, hc]; cases sbg <;> rfl
            subst hbr hc hg1
            obtain ⟨D, hown, hD, hat⟩ := hTk1.out.om
            have hwf : (Lit.int .i64 (i : Int)).wf = true := WalkArith.wf_i64 (by omega)
            have hwf2 : (Lit.int .i64 (n : Int)).wf = true := WalkArith.wf_i64 (by omega)
            have hn0 : (0 : Int) < (n : Int) := by omega
            clear h31 h34
            have HAT := Lib.hid hat
            clear hat
            go_wp2_with (first
              | (at_mapUpdate; refine wpList_mapUpdate_own _ rfl _ _ _ 55 rfl 3 3 int_law map_under _ (w.heap.size + 1) mB _ rfl hown (by unfold maxLen; omega) _ _ _ rfl rfl (keyOf_int_mk int_under hwf) _ [] (plainElem_int int_under hwf2) ?_; intro w2 hown2 hgrow2))
            go_meet
            have hM2 : MapC w2 (w.heap.size + 1) (mB + 1) (fun z => ∃ b ∈ sbr ++ [i], (b : Int) = z) := by
              refine ⟨_, hown2, put_map hD _ _, fun z cb h => ?_⟩
              rw [put_at hD (i : Int) (n : Int) hn0 HAT.out z cb h]
              simp only [List.mem_append, List.mem_singleton]
              constructor
              · rintro (⟨b, h1, h2⟩ | rfl)
                · exact ⟨b, .inl h1, h2⟩
                · exact ⟨i, .inr rfl, rfl⟩
              · rintro ⟨b, h1 | rfl, h2⟩
                · exact .inl ⟨b, h1, h2⟩
                · exact .inr h2.symm
            case rel => exact ⟨rfl, rfl, mB + 1, by omega, Lib.hid (hTk1.out.mapped hM2 hgrow2), Lib.hid ((Frm.grown (S := fun q => q = w.heap.size + 1) hgrow2 (fun q hq => by cases hq; rfl)).ext hE2.out (fun q hq => by subst hq; rw [hb1]; exact Nat.le_refl _))⟩
          · have hbf : bk = false := by simpa using hbt
            subst hbf
            have hnb : ¬ ((r : Int) = 65533 ∧ n = 1) := fun h => by have := of_decide_eq_false HBK.out; omega
            have hbr : br = sbr := by rw [← HBR.out, if_neg hnb]
            subst hbr
            have hcl2 : (if (r : Int) = M then (45 : UInt8) else if (r : Int) = P then 46 else if (r : Int) = 101 then 101 else if N ≤ (r : Int) ∧ (r : Int) ≤ N + 9 then UInt8.ofNat (48 + ((r : Int) - N).toNat) else if G ≠ 0 ∧ (r : Int) = G then 103 else 120) = cb := by
              rw [← HCL.out]; unfold clsC; rw [if_neg hnb]
            have HC2 := Lib.hid hcl2
            clear hcl2 HCL hbt
            by_cases hM : (r : Int) = M
            · have hc : cb = 45 := by rw [← HC2.out, if_pos hM]
              have hg1 : bg = sbg := by rw [← HBG.out, hc]; cases sbg <;> rfl
              subst hc hg1
              have q1 : ((r : Int) == M) = true := by simp [hM]
              go_wp2
              go_meet
              case rel => exact ⟨rfl, rfl, mB, by omega, hTk1, hE2⟩
            · have q1 : ((r : Int) == M) = false := by simp [hM]
              by_cases hP : (r : Int) = P
              · have hc : cb = 46 := by rw [← HC2.out, if_neg hM, if_pos hP]
                have hg1 : bg = sbg := by rw [← HBG.out, hc]; cases sbg <;> rfl
                subst hc hg1
                have q2 : ((r : Int) == P) = true := by simp [hP]
                go_wp2
                go_meet
                case rel => exact ⟨rfl, rfl, mB, by omega, hTk1, hE2⟩
              · have q2 : ((r : Int) == P) = false := by simp [hP]
                by_cases hX : (r : Int) = 101
                · have hc : cb = 101 := by rw [← HC2.out, if_neg hM, if_neg hP, if_pos hX]
                  have hg1 : bg = sbg := by rw [← HBG.out, hc]; cases sbg <;> rfl
                  subst hc hg1
                  have q3 : ((r : Int) == 101) = true := by simp [hX]
                  go_wp2
                  go_meet
                  case rel => exact ⟨rfl, rfl, mB, by omega, hTk1, hE2⟩
                · have q3 : ((r : Int) == 101) = false := by simp [hX]
                  have HC3 : Hid ((if N ≤ (r : Int) ∧ (r : Int) ≤ N + 9 then UInt8.ofNat (48 + ((r : Int) - N).toNat) else if G ≠ 0 ∧ (r : Int) = G then 103 else 120) = cb) := by
                    have h := HC2.out
                    rw [if_neg hM, if_neg hP, if_neg hX] at h
                    exact h
                  clear HC2
                  by_cases hD1 : N ≤ (r : Int)
                  · have q4 : decide (N ≤ (r : Int)) = true := by simp [hD1]
                    by_cases hD2 : (r : Int) ≤ N + 9
                    · have q5 : decide ((r : Int) ≤ N + 9) = true := by simp [hD2]
                      obtain ⟨hcn, hd⟩ : (cb.toNat : Int) = 48 + (r : Int) - N ∧ isD cb = true := by
                        obtain ⟨dg, hdg⟩ : ∃ dg : Nat, (r : Int) = N + dg := ⟨((r : Int) - N).toNat, by omega⟩
                        have hdg9 : dg ≤ 9 := by omega
                        have hc : cb = UInt8.ofNat (48 + dg) := by rw [← HC3.out, if_pos ⟨hD1, hD2⟩]; congr 2; omega
                        have hcn : cb.toNat = 48 + dg := by rw [hc]; simp [UInt8.toNat_ofNat']; omega
                        exact ⟨by omega, by simp [isD]; constructor <;> omega⟩
                      have hg1 : bg = true := by rw [← HBG.out, hd, Bool.or_true]
                      have HCN := Lib.hid hcn
                      clear hcn hd
                      subst hg1
                      go_wp2
                      go_meet
                      case rel => exact ⟨rfl, congrArg (Value.int .u8) HCN.out.symm, mB, by omega, hTk1, hE2⟩
                    · have q5 : decide ((r : Int) ≤ N + 9) = false := by simp; omega
                      have HC4 : Hid ((if G ≠ 0 ∧ (r : Int) = G then 103 else 120) = cb) := by
                        have h := HC3.out
                        rw [if_neg (fun h => hD2 (by omega))] at h
                        exact h
                      clear HC3
                      by_cases hG0 : G = 0
                      · have hc : cb = 120 := by rw [← HC4.out, if_neg (fun h => h.1 hG0)]
                        have hg1 : bg = sbg := by rw [← HBG.out, hc]; cases sbg <;> rfl
                        subst hc hg1
                        have q6 : (G != 0) = false := by simp [hG0]
                        clear hG0 HC4
                        go_wp2
                        go_meet
                        case rel => exact ⟨rfl, rfl, mB, by omega, hTk1, hE2⟩
                      · have q6 : (G != 0) = true := by simp [hG0]
                        by_cases hG : (r : Int) = G
                        · have hc : cb = 103 := by rw [← HC4.out, if_pos ⟨hG0, hG⟩]
                          have hg1 : bg = sbg := by rw [← HBG.out, hc]; cases sbg <;> rfl
                          subst hc hg1
                          have q7 : ((r : Int) == G) = true := by simp [hG]
                          clear hG hG0 HC4
                          go_wp2
                          go_meet
                          case rel => exact ⟨rfl, rfl, mB, by omega, hTk1, hE2⟩
                        · have hc : cb = 120 := by rw [← HC4.out, if_neg (fun h => hG h.2)]
                          have hg1 : bg = sbg := by rw [← HBG.out, hc]; cases sbg <;> rfl
                          subst hc hg1
                          have q7 : ((r : Int) == G) = false := by simp [hG]
                          go_wp2
                          go_meet
                          case rel => exact ⟨rfl, rfl, mB, by omega, hTk1, hE2⟩
                  · have q4 : decide (N ≤ (r : Int)) = false := by simp; omega
                    have HC4 : Hid ((if G ≠ 0 ∧ (r : Int) = G then 103 else 120) = cb) := by
                      have h := HC3.out
                      rw [if_neg (fun h => hD1 (by omega))] at h
                      exact h
                    clear HC3
                    by_cases hG0 : G = 0
                    · have hc : cb = 120 := by rw [← HC4.out, if_neg (fun h => h.1 hG0)]
                      have hg1 : bg = sbg := by rw [← HBG.out, hc]; cases sbg <;> rfl
                      subst hc hg1
                      have q6 : (G != 0) = false := by simp [hG0]
                      clear hG0 HC4
                      go_wp2
                      go_meet
                      case rel => exact ⟨rfl, rfl, mB, by omega, hTk1, hE2⟩
                    · have q6 : (G != 0) = true := by simp [hG0]
                      by_cases hG : (r : Int) = G
                      · have hc : cb = 103 := by rw [← HC4.out, if_pos ⟨hG0, hG⟩]
                        have hg1 : bg = sbg := by rw [← HBG.out, hc]; cases sbg <;> rfl
                        subst hc hg1
                        have q7 : ((r : Int) == G) = true := by simp [hG]
                        clear hG hG0 HC4
                        go_wp2
                        go_meet
                        case rel => exact ⟨rfl, rfl, mB, by omega, hTk1, hE2⟩
                      · have hc : cb = 120 := by rw [← HC4.out, if_neg (fun h => hG h.2)]
                        have hg1 : bg = sbg := by rw [← HBG.out, hc]; cases sbg <;> rfl
                        subst hc hg1
                        have q7 : ((r : Int) == G) = false := by simp [hG]
                        go_wp2
                        go_meet
                        case rel => exact ⟨rfl, rfl, mB, by omega, hTk1, hE2⟩
      case rest =>
        obtain ⟨rfl, rfl, mB', hmB', hTk2, hE3⟩ := hcut
        clear hTk1 hE2 hmB hmm HU hT1
        have hbt2 : (w.alloc (BoxM P G M N A k c)).heap.size ≤ w.heap.size + 1 + 1 := by rw [hb1]; omega
        obtain ⟨d1, d2, d3, d4, d5, dz⟩ := hTk2.out.cells
        have f2' := dz 2
        have f3' := dz 3
        have f4' := dz 4
        clear dz
        by_cases hins : (bg && sin) = true
        · have hb1' : bg = true := (and_t hins).1
          have hs1' : sin = true := (and_t hins).2
          subst hb1' hs1'
          clear hins
          by_cases h103 : cb = 103
          · subst h103
            have hst := tk1 (s := ⟨spl, sps, srs, sqs, sbr, sbg, true⟩) HCL.out HBR.out HBG.out rfl
            go_wp2_with (first
              | (at_builtin; refine push_intg rfl _ _ rfl _ rfl X11.out (Nat.le_of_eq hb1) (by have := T11.out.tb; have := T11.out.lt; omega) T11.out.oa rfl ((i : Int)) ⟨_, 0, none⟩ 1 rfl (by simp [go_sem, iV]) (by omega) (fun v12 w12 hE12 hO12 hK12 hL12 => ?_); obtain ⟨A12, q12, rfl⟩ := own_shape hO12.out; obtain ⟨⟨u12, g12, hb12⟩, hq1, hq2⟩ := T11.out.frame (W' := w12) T11.out.oa (by decide) hK12.out; clear hq1 hq2; have c121 : w12.cell? ⟨w.heap.size + 1 + 1, 1, none⟩ = some vb := (by rw [D2.cell_of_block hb12]; rfl); have c122 : w12.cell? ⟨w.heap.size + 1 + 1, 2, none⟩ = some vp := (by rw [D2.cell_of_block hb12]; rfl); have c123 : w12.cell? ⟨w.heap.size + 1 + 1, 3, none⟩ = some (.slice A11 (srs.length + 1) q11) := (by rw [D2.cell_of_block hb12]; rfl); have c124 : w12.cell? ⟨w.heap.size + 1 + 1, 4, none⟩ = some va := (by rw [D2.cell_of_block hb12]; rfl); have c125 : w12.cell? ⟨w.heap.size + 1 + 1, 5, none⟩ = some (.map (some (w.heap.size + 1))) := (by rw [D2.cell_of_block hb12]; rfl); have f12 : w12.frozen? ⟨w.heap.size + 1 + 1, 4, none⟩ = false := (D2.frozen_of_block hb12 4); have T12 := Lib.hid (T11.out.at hO12.out hK12.out hL12.out); have X12 := Lib.hid (ext_setCell hE12 (p := ⟨w.heap.size + 1 + 1, 4, none⟩) hbt2 (.slice A12 (sqs.length + 1) q12)); clear hE12 hO12 hK12 hL12 hb12 g12)
              | (at_builtin; refine push_i32h rfl _ _ rfl _ rfl hE3.out (Nat.le_of_eq hb1) (by have := hTk2.out.tb; have := hTk2.out.lt; omega) hTk2.out.or rfl ((r : Int)) ⟨_, 0, none⟩ 1 rfl (by simp [go_sem, rV]) (by omega) (fun v11 w11 hE11 hO11 hK11 hL11 => ?_); obtain ⟨A11, q11, rfl⟩ := own_shape hO11.out; obtain ⟨⟨u11, g11, hb11⟩, hq1, hq2⟩ := hTk2.out.frame (W' := w11) hTk2.out.or (by decide) hK11.out; clear hq1 hq2; have c111 : w11.cell? ⟨w.heap.size + 1 + 1, 1, none⟩ = some vb := (by rw [D2.cell_of_block hb11]; rfl); have c112 : w11.cell? ⟨w.heap.size + 1 + 1, 2, none⟩ = some vp := (by rw [D2.cell_of_block hb11]; rfl); have c113 : w11.cell? ⟨w.heap.size + 1 + 1, 3, none⟩ = some vr := (by rw [D2.cell_of_block hb11]; rfl); have c114 : w11.cell? ⟨w.heap.size + 1 + 1, 4, none⟩ = some va := (by rw [D2.cell_of_block hb11]; rfl); have c115 : w11.cell? ⟨w.heap.size + 1 + 1, 5, none⟩ = some (.map (some (w.heap.size + 1))) := (by rw [D2.cell_of_block hb11]; rfl); have f11 : w11.frozen? ⟨w.heap.size + 1 + 1, 3, none⟩ = false := (D2.frozen_of_block hb11 3); have T11 := Lib.hid (hTk2.out.runes hO11.out hK11.out hL11.out); have X11 := Lib.hid (ext_setCell hE11 (p := ⟨w.heap.size + 1 + 1, 3, none⟩) hbt2 (.slice A11 (srs.length + 1) q11)); clear hE11 hO11 hK11 hL11 hb11 g11))
            go_roundg (l.length - (i + n))
            case measure => omega
            case rel => exact HF.out _ hst _ _ _ _ _ _ (by omega) T12 X12 (by exact hem.out)
          · have q1 : ((cb.toNat : Int) == 103) = false := by
              have : cb.toNat ≠ 103 := fun h => h103 (UInt8.toNat.inj h)
              simp; omega
            by_cases hdg : isD cb = true
            · have hst := tk2 (s := ⟨spl, sps, srs, sqs, sbr, sbg, true⟩) HCL.out HBR.out HBG.out hdg
              obtain ⟨g1, g2⟩ : 48 ≤ cb.toNat ∧ cb.toNat ≤ 57 := by simp [isD] at hdg; exact hdg
              have q2 : decide ((48 : Int) ≤ (cb.toNat : Int)) = true := by simp; omega
              have q3 : decide ((cb.toNat : Int) ≤ 57) = true := by simp; omega
              go_wp2_with (first
                | (at_builtin; refine push_intg rfl _ _ rfl _ rfl X13.out (Nat.le_of_eq hb1) (by have := T13.out.tb; have := T13.out.lt; omega) T13.out.op rfl ((i : Int)) ⟨_, 0, none⟩ 1 rfl (by simp [go_sem, iV]) (by omega) (fun v14 w14 hE14 hO14 hK14 hL14 => ?_); obtain ⟨A14, q14, rfl⟩ := own_shape hO14.out; obtain ⟨⟨u14, g14, hb14⟩, hq1, hq2⟩ := T13.out.frame (W' := w14) T13.out.op (by decide) hK14.out; clear hq1 hq2; have c141 : w14.cell? ⟨w.heap.size + 1 + 1, 1, none⟩ = some vb13 := (by rw [D2.cell_of_block hb14]; rfl); have c142 : w14.cell? ⟨w.heap.size + 1 + 1, 2, none⟩ = some vp := (by rw [D2.cell_of_block hb14]; rfl); have c143 : w14.cell? ⟨w.heap.size + 1 + 1, 3, none⟩ = some (.slice A11 (srs.length + 1) q11) := (by rw [D2.cell_of_block hb14]; rfl); have c144 : w14.cell? ⟨w.heap.size + 1 + 1, 4, none⟩ = some (.slice A12 (sqs.length + 1) q12) := (by rw [D2.cell_of_block hb14]; rfl); have c145 : w14.cell? ⟨w.heap.size + 1 + 1, 5, none⟩ = some (.map (some (w.heap.size + 1))) := (by rw [D2.cell_of_block hb14]; rfl); have f14 : w14.frozen? ⟨w.heap.size + 1 + 1, 2, none⟩ = false := (D2.frozen_of_block hb14 2); have T14 := Lib.hid (T13.out.places hO14.out hK14.out hL14.out); have X14 := Lib.hid (ext_setCell hE14 (p := ⟨w.heap.size + 1 + 1, 2, none⟩) hbt2 (.slice A14 (sps.length + 1) q14)); clear hE14 hO14 hK14 hL14 hb14 g14)
                | (go_at_call 43; have kw := bl_WriteByte T12.out X12.out (Nat.le_of_eq hb1) (by omega) cb; (with_reducible refine kw.mono ?_); rintro e w13 ⟨rfl, hX13, vb13, T13⟩; have X13 := Lib.hid hX13; obtain ⟨c131, c132, c133, c134, c135, fz13⟩ := T13.out.cells; have f13 := fz13 2; clear fz13 hX13 kw)
                | (at_builtin; refine push_intg rfl _ _ rfl _ rfl X11.out (Nat.le_of_eq hb1) (by have := T11.out.tb; have := T11.out.lt; omega) T11.out.oa rfl ((i : Int)) ⟨_, 0, none⟩ 1 rfl (by simp [go_sem, iV]) (by omega) (fun v12 w12 hE12 hO12 hK12 hL12 => ?_); obtain ⟨A12, q12, rfl⟩ := own_shape hO12.out; obtain ⟨⟨u12, g12, hb12⟩, hq1, hq2⟩ := T11.out.frame (W' := w12) T11.out.oa (by decide) hK12.out; clear hq1 hq2; have c121 : w12.cell? ⟨w.heap.size + 1 + 1, 1, none⟩ = some vb := (by rw [D2.cell_of_block hb12]; rfl); have c122 : w12.cell? ⟨w.heap.size + 1 + 1, 2, none⟩ = some vp := (by rw [D2.cell_of_block hb12]; rfl); have c123 : w12.cell? ⟨w.heap.size + 1 + 1, 3, none⟩ = some (.slice A11 (srs.length + 1) q11) := (by rw [D2.cell_of_block hb12]; rfl); have c124 : w12.cell? ⟨w.heap.size + 1 + 1, 4, none⟩ = some va := (by rw [D2.cell_of_block hb12]; rfl); have c125 : w12.cell? ⟨w.heap.size + 1 + 1, 5, none⟩ = some (.map (some (w.heap.size + 1))) := (by rw [D2.cell_of_block hb12]; rfl); have f12 : w12.frozen? ⟨w.heap.size + 1 + 1, 4, none⟩ = false := (D2.frozen_of_block hb12 4); have T12 := Lib.hid (T11.out.at hO12.out hK12.out hL12.out); have X12 := Lib.hid (ext_setCell hE12 (p := ⟨w.heap.size + 1 + 1, 4, none⟩) hbt2 (.slice A12 (sqs.length + 1) q12)); clear hE12 hO12 hK12 hL12 hb12 g12)
                | (at_builtin; refine push_i32h rfl _ _ rfl _ rfl hE3.out (Nat.le_of_eq hb1) (by have := hTk2.out.tb; have := hTk2.out.lt; omega) hTk2.out.or rfl ((r : Int)) ⟨_, 0, none⟩ 1 rfl (by simp [go_sem, rV]) (by omega) (fun v11 w11 hE11 hO11 hK11 hL11 => ?_); obtain ⟨A11, q11, rfl⟩ := own_shape hO11.out; obtain ⟨⟨u11, g11, hb11⟩, hq1, hq2⟩ := hTk2.out.frame (W' := w11) hTk2.out.or (by decide) hK11.out; clear hq1 hq2; have c111 : w11.cell? ⟨w.heap.size + 1 + 1, 1, none⟩ = some vb := (by rw [D2.cell_of_block hb11]; rfl); have c112 : w11.cell? ⟨w.heap.size + 1 + 1, 2, none⟩ = some vp := (by rw [D2.cell_of_block hb11]; rfl); have c113 : w11.cell? ⟨w.heap.size + 1 + 1, 3, none⟩ = some vr := (by rw [D2.cell_of_block hb11]; rfl); have c114 : w11.cell? ⟨w.heap.size + 1 + 1, 4, none⟩ = some va := (by rw [D2.cell_of_block hb11]; rfl); have c115 : w11.cell? ⟨w.heap.size + 1 + 1, 5, none⟩ = some (.map (some (w.heap.size + 1))) := (by rw [D2.cell_of_block hb11]; rfl); have f11 : w11.frozen? ⟨w.heap.size + 1 + 1, 3, none⟩ = false := (D2.frozen_of_block hb11 3); have T11 := Lib.hid (hTk2.out.runes hO11.out hK11.out hL11.out); have X11 := Lib.hid (ext_setCell hE11 (p := ⟨w.heap.size + 1 + 1, 3, none⟩) hbt2 (.slice A11 (srs.length + 1) q11)); clear hE11 hO11 hK11 hL11 hb11 g11))
              go_roundg (l.length - (i + n))
              case measure => omega
              case rel => exact HF.out _ hst _ _ _ _ _ _ (by omega) T14 X14 (by intro h; simp at h)
            · have hdf : isD cb = false := by simpa using hdg
              have hst := tk3 (s := ⟨spl, sps, srs, sqs, sbr, sbg, true⟩) HCL.out HBR.out HBG.out hdf h103
              have hg : ¬ (48 ≤ cb.toNat ∧ cb.toNat ≤ 57) := by intro h; apply hdg; simp [isD]; exact h
              by_cases g1 : 48 ≤ cb.toNat
              · have g2 : ¬ cb.toNat ≤ 57 := fun h => hg ⟨g1, h⟩
                have q2 : decide ((48 : Int) ≤ (cb.toNat : Int)) = true := by simp; omega
                have q3 : decide ((cb.toNat : Int) ≤ 57) = false := by simp; omega
                go_wp2_with (first
                  | (at_builtin; refine push_intg rfl _ _ rfl _ rfl X12.out (Nat.le_of_eq hb1) (by have := T12.out.tb; have := T12.out.lt; omega) T12.out.op rfl ((i : Int)) ⟨_, 0, none⟩ 1 rfl (by simp [go_sem, iV]) (by omega) (fun v13 w13 hE13 hO13 hK13 hL13 => ?_); obtain ⟨A13, q13, rfl⟩ := own_shape hO13.out; obtain ⟨⟨u13, g13, hb13⟩, hq1, hq2⟩ := T12.out.frame (W' := w13) T12.out.op (by decide) hK13.out; clear hq1 hq2; have c131 : w13.cell? ⟨w.heap.size + 1 + 1, 1, none⟩ = some vb12 := (by rw [D2.cell_of_block hb13]; rfl); have c132 : w13.cell? ⟨w.heap.size + 1 + 1, 2, none⟩ = some vp := (by rw [D2.cell_of_block hb13]; rfl); have c133 : w13.cell? ⟨w.heap.size + 1 + 1, 3, none⟩ = some vr := (by rw [D2.cell_of_block hb13]; rfl); have c134 : w13.cell? ⟨w.heap.size + 1 + 1, 4, none⟩ = some (.slice A11 (sqs.length + 1) q11) := (by rw [D2.cell_of_block hb13]; rfl); have c135 : w13.cell? ⟨w.heap.size + 1 + 1, 5, none⟩ = some (.map (some (w.heap.size + 1))) := (by rw [D2.cell_of_block hb13]; rfl); have f13 : w13.frozen? ⟨w.heap.size + 1 + 1, 2, none⟩ = false := (D2.frozen_of_block hb13 2); have T13 := Lib.hid (T12.out.places hO13.out hK13.out hL13.out); have X13 := Lib.hid (ext_setCell hE13 (p := ⟨w.heap.size + 1 + 1, 2, none⟩) hbt2 (.slice A13 (sps.length + 1) q13)); clear hE13 hO13 hK13 hL13 hb13 g13)
                  | (go_at_call 43; have kw := bl_WriteByte T11.out X11.out (Nat.le_of_eq hb1) (by omega) cb; (with_reducible refine kw.mono ?_); rintro e w12 ⟨rfl, hX12, vb12, T12⟩; have X12 := Lib.hid hX12; obtain ⟨c121, c122, c123, c124, c125, fz12⟩ := T12.out.cells; have f12 := fz12 2; clear fz12 hX12 kw)
                  | (at_builtin; refine push_intg rfl _ _ rfl _ rfl hE3.out (Nat.le_of_eq hb1) (by have := hTk2.out.tb; have := hTk2.out.lt; omega) hTk2.out.oa rfl ((i : Int)) ⟨_, 0, none⟩ 1 rfl (by simp [go_sem, iV]) (by omega) (fun v11 w11 hE11 hO11 hK11 hL11 => ?_); obtain ⟨A11, q11, rfl⟩ := own_shape hO11.out; obtain ⟨⟨u11, g11, hb11⟩, hq1, hq2⟩ := hTk2.out.frame (W' := w11) hTk2.out.oa (by decide) hK11.out; clear hq1 hq2; have c111 : w11.cell? ⟨w.heap.size + 1 + 1, 1, none⟩ = some vb := (by rw [D2.cell_of_block hb11]; rfl); have c112 : w11.cell? ⟨w.heap.size + 1 + 1, 2, none⟩ = some vp := (by rw [D2.cell_of_block hb11]; rfl); have c113 : w11.cell? ⟨w.heap.size + 1 + 1, 3, none⟩ = some vr := (by rw [D2.cell_of_block hb11]; rfl); have c114 : w11.cell? ⟨w.heap.size + 1 + 1, 4, none⟩ = some va := (by rw [D2.cell_of_block hb11]; rfl); have c115 : w11.cell? ⟨w.heap.size + 1 + 1, 5, none⟩ = some (.map (some (w.heap.size + 1))) := (by rw [D2.cell_of_block hb11]; rfl); have f11 : w11.frozen? ⟨w.heap.size + 1 + 1, 4, none⟩ = false := (D2.frozen_of_block hb11 4); have T11 := Lib.hid (hTk2.out.at hO11.out hK11.out hL11.out); have X11 := Lib.hid (ext_setCell hE11 (p := ⟨w.heap.size + 1 + 1, 4, none⟩) hbt2 (.slice A11 (sqs.length + 1) q11)); clear hE11 hO11 hK11 hL11 hb11 g11))
                go_roundg (l.length - (i + n))
                case measure => omega
                case rel => exact HF.out _ hst _ _ _ _ _ _ (by omega) T13 X13 (by intro h; simp at h)
              · have q2 : decide ((48 : Int) ≤ (cb.toNat : Int)) = false := by simp; omega
                go_wp2_with (first
                  | (at_builtin; refine push_intg rfl _ _ rfl _ rfl X12.out (Nat.le_of_eq hb1) (by have := T12.out.tb; have := T12.out.lt; omega) T12.out.op rfl ((i : Int)) ⟨_, 0, none⟩ 1 rfl (by simp [go_sem, iV]) (by omega) (fun v13 w13 hE13 hO13 hK13 hL13 => ?_); obtain ⟨A13, q13, rfl⟩ := own_shape hO13.out; obtain ⟨⟨u13, g13, hb13⟩, hq1, hq2⟩ := T12.out.frame (W' := w13) T12.out.op (by decide) hK13.out; clear hq1 hq2; have c131 : w13.cell? ⟨w.heap.size + 1 + 1, 1, none⟩ = some vb12 := (by rw [D2.cell_of_block hb13]; rfl); have c132 : w13.cell? ⟨w.heap.size + 1 + 1, 2, none⟩ = some vp := (by rw [D2.cell_of_block hb13]; rfl); have c133 : w13.cell? ⟨w.heap.size + 1 + 1, 3, none⟩ = some vr := (by rw [D2.cell_of_block hb13]; rfl); have c134 : w13.cell? ⟨w.heap.size + 1 + 1, 4, none⟩ = some (.slice A11 (sqs.length + 1) q11) := (by rw [D2.cell_of_block hb13]; rfl); have c135 : w13.cell? ⟨w.heap.size + 1 + 1, 5, none⟩ = some (.map (some (w.heap.size + 1))) := (by rw [D2.cell_of_block hb13]; rfl); have f13 : w13.frozen? ⟨w.heap.size + 1 + 1, 2, none⟩ = false := (D2.frozen_of_block hb13 2); have T13 := Lib.hid (T12.out.places hO13.out hK13.out hL13.out); have X13 := Lib.hid (ext_setCell hE13 (p := ⟨w.heap.size + 1 + 1, 2, none⟩) hbt2 (.slice A13 (sps.length + 1) q13)); clear hE13 hO13 hK13 hL13 hb13 g13)
                  | (go_at_call 43; have kw := bl_WriteByte T11.out X11.out (Nat.le_of_eq hb1) (by omega) cb; (with_reducible refine kw.mono ?_); rintro e w12 ⟨rfl, hX12, vb12, T12⟩; have X12 := Lib.hid hX12; obtain ⟨c121, c122, c123, c124, c125, fz12⟩ := T12.out.cells; have f12 := fz12 2; clear fz12 hX12 kw)
                  | (at_builtin; refine push_intg rfl _ _ rfl _ rfl hE3.out (Nat.le_of_eq hb1) (by have := hTk2.out.tb; have := hTk2.out.lt; omega) hTk2.out.oa rfl ((i : Int)) ⟨_, 0, none⟩ 1 rfl (by simp [go_sem, iV]) (by omega) (fun v11 w11 hE11 hO11 hK11 hL11 => ?_); obtain ⟨A11, q11, rfl⟩ := own_shape hO11.out; obtain ⟨⟨u11, g11, hb11⟩, hq1, hq2⟩ := hTk2.out.frame (W' := w11) hTk2.out.oa (by decide) hK11.out; clear hq1 hq2; have c111 : w11.cell? ⟨w.heap.size + 1 + 1, 1, none⟩ = some vb := (by rw [D2.cell_of_block hb11]; rfl); have c112 : w11.cell? ⟨w.heap.size + 1 + 1, 2, none⟩ = some vp := (by rw [D2.cell_of_block hb11]; rfl); have c113 : w11.cell? ⟨w.heap.size + 1 + 1, 3, none⟩ = some vr := (by rw [D2.cell_of_block hb11]; rfl); have c114 : w11.cell? ⟨w.heap.size + 1 + 1, 4, none⟩ = some va := (by rw [D2.cell_of_block hb11]; rfl); have c115 : w11.cell? ⟨w.heap.size + 1 + 1, 5, none⟩ = some (.map (some (w.heap.size + 1))) := (by rw [D2.cell_of_block hb11]; rfl); have f11 : w11.frozen? ⟨w.heap.size + 1 + 1, 4, none⟩ = false := (D2.frozen_of_block hb11 4); have T11 := Lib.hid (hTk2.out.at hO11.out hK11.out hL11.out); have X11 := Lib.hid (ext_setCell hE11 (p := ⟨w.heap.size + 1 + 1, 4, none⟩) hbt2 (.slice A11 (sqs.length + 1) q11)); clear hE11 hO11 hK11 hL11 hb11 g11))
                go_roundg (l.length - (i + n))
                case measure => omega
                case rel => exact HF.out _ hst _ _ _ _ _ _ (by omega) T13 X13 (by intro h; simp at h)
        · have hst := tk4 (s := ⟨spl, sps, srs, sqs, sbr, sbg, sin⟩) HCL.out HBR.out HBG.out (by simpa using hins)
          cases bg with
          | true =>
            have hs0 : sin = false := and_f (by simpa using hins)
            subst hs0
            clear hins
            go_wp2_with (first
              | (at_builtin; refine push_intg rfl _ _ rfl _ rfl X11.out (Nat.le_of_eq hb1) (by have := T11.out.tb; have := T11.out.lt; omega) T11.out.op rfl ((i : Int)) ⟨_, 0, none⟩ 1 rfl (by simp [go_sem, iV]) (by omega) (fun v12 w12 hE12 hO12 hK12 hL12 => ?_); obtain ⟨A12, q12, rfl⟩ := own_shape hO12.out; obtain ⟨⟨u12, g12, hb12⟩, hq1, hq2⟩ := T11.out.frame (W' := w12) T11.out.op (by decide) hK12.out; clear hq1 hq2; have c121 : w12.cell? ⟨w.heap.size + 1 + 1, 1, none⟩ = some vb11 := (by rw [D2.cell_of_block hb12]; rfl); have c122 : w12.cell? ⟨w.heap.size + 1 + 1, 2, none⟩ = some vp := (by rw [D2.cell_of_block hb12]; rfl); have c123 : w12.cell? ⟨w.heap.size + 1 + 1, 3, none⟩ = some vr := (by rw [D2.cell_of_block hb12]; rfl); have c124 : w12.cell? ⟨w.heap.size + 1 + 1, 4, none⟩ = some va := (by rw [D2.cell_of_block hb12]; rfl); have c125 : w12.cell? ⟨w.heap.size + 1 + 1, 5, none⟩ = some (.map (some (w.heap.size + 1))) := (by rw [D2.cell_of_block hb12]; rfl); have f12 : w12.frozen? ⟨w.heap.size + 1 + 1, 2, none⟩ = false := (D2.frozen_of_block hb12 2); have T12 := Lib.hid (T11.out.places hO12.out hK12.out hL12.out); have X12 := Lib.hid (ext_setCell hE12 (p := ⟨w.heap.size + 1 + 1, 2, none⟩) hbt2 (.slice A12 (sps.length + 1) q12)); clear hE12 hO12 hK12 hL12 hb12 g12)
              | (go_at_call 43; have kw := bl_WriteByte hTk2.out hE3.out (Nat.le_of_eq hb1) (by omega) cb; (with_reducible refine kw.mono ?_); rintro e w11 ⟨rfl, hX11, vb11, T11⟩; have X11 := Lib.hid hX11; obtain ⟨c111, c112, c113, c114, c115, fz11⟩ := T11.out.cells; have f11 := fz11 2; clear fz11 hX11 kw))
            go_roundg (l.length - (i + n))
            case measure => omega
            case rel => exact HF.out _ hst _ _ _ _ _ _ (by omega) T12 X12 (by intro h; simp at h)
          | false =>
            clear hins
            go_wp2_with (first
              | (at_builtin; refine push_intg rfl _ _ rfl _ rfl X11.out (Nat.le_of_eq hb1) (by have := T11.out.tb; have := T11.out.lt; omega) T11.out.op rfl ((i : Int)) ⟨_, 0, none⟩ 1 rfl (by simp [go_sem, iV]) (by omega) (fun v12 w12 hE12 hO12 hK12 hL12 => ?_); obtain ⟨A12, q12, rfl⟩ := own_shape hO12.out; obtain ⟨⟨u12, g12, hb12⟩, hq1, hq2⟩ := T11.out.frame (W' := w12) T11.out.op (by decide) hK12.out; clear hq1 hq2; have c121 : w12.cell? ⟨w.heap.size + 1 + 1, 1, none⟩ = some vb11 := (by rw [D2.cell_of_block hb12]; rfl); have c122 : w12.cell? ⟨w.heap.size + 1 + 1, 2, none⟩ = some vp := (by rw [D2.cell_of_block hb12]; rfl); have c123 : w12.cell? ⟨w.heap.size + 1 + 1, 3, none⟩ = some vr := (by rw [D2.cell_of_block hb12]; rfl); have c124 : w12.cell? ⟨w.heap.size + 1 + 1, 4, none⟩ = some va := (by rw [D2.cell_of_block hb12]; rfl); have c125 : w12.cell? ⟨w.heap.size + 1 + 1, 5, none⟩ = some (.map (some (w.heap.size + 1))) := (by rw [D2.cell_of_block hb12]; rfl); have f12 : w12.frozen? ⟨w.heap.size + 1 + 1, 2, none⟩ = false := (D2.frozen_of_block hb12 2); have T12 := Lib.hid (T11.out.places hO12.out hK12.out hL12.out); have X12 := Lib.hid (ext_setCell hE12 (p := ⟨w.heap.size + 1 + 1, 2, none⟩) hbt2 (.slice A12 (sps.length + 1) q12)); clear hE12 hO12 hK12 hL12 hb12 g12)
              | (go_at_call 43; have kw := bl_WriteByte hTk2.out hE3.out (Nat.le_of_eq hb1) (by omega) cb; (with_reducible refine kw.mono ?_); rintro e w11 ⟨rfl, hX11, vb11, T11⟩; have X11 := Lib.hid hX11; obtain ⟨c111, c112, c113, c114, c115, fz11⟩ := T11.out.cells; have f11 := fz11 2; clear fz11 hX11 kw))
            go_roundg (l.length - (i + n))
            case measure => omega
            case rel => exact HF.out _ hst _ _ _ _ _ _ (by omega) T12 X12 (by intro h; simp at h)
    · have hil : i = l.length := by omega
      have hlt' : ¬ ((i : Int) < (l.length : Int)) := by omega
      have hfx : (⟨spl, sps, srs, sqs, sbr, sbg, sin⟩ : TS) = fin := by
        have h := hrun.out.2
        cases fu with
        | zero => rw [tkRun] at h; exact h
        | succ f => rw [tkRun, if_neg hlt] at h; exact h
      subst hfx
      dsimp only
      have hTk2 := hTk
      have hE3 := hE
      obtain ⟨d1, d2, d3, d4, d5, dz⟩ := hTk2.out.cells
      have f2' := dz 2
      have hbt2 : (w.alloc (BoxM P G M N A k c)).heap.size ≤ w.heap.size + 1 + 1 := by rw [hb1]; omega
      have HX := Lib.hid hil
      clear dz hTk hE hrun HU hT1 hil
      go_wp2_with (first
        | (at_builtin; refine push_intg rfl _ _ rfl _ rfl X11.out (Nat.le_of_eq hb1) (by have := T11.out.tb; have := T11.out.lt; omega) T11.out.oa rfl ((l.length : Int)) ⟨_, 0, none⟩ 1 rfl (by simp [go_sem, iV]) (by omega) (fun v12 w12 hE12 hO12 hK12 hL12 => ?_); obtain ⟨A12, q12, rfl⟩ := own_shape hO12.out; obtain ⟨⟨u12, g12, hb12⟩, hq1, hq2⟩ := T11.out.frame (W' := w12) T11.out.oa (by decide) hK12.out; clear hq1 hq2; have c121 : w12.cell? ⟨w.heap.size + 1 + 1, 1, none⟩ = some vb := (by rw [D2.cell_of_block hb12]; rfl); have c122 : w12.cell? ⟨w.heap.size + 1 + 1, 2, none⟩ = some (.slice A11 (sps.length + 1) q11) := (by rw [D2.cell_of_block hb12]; rfl); have c123 : w12.cell? ⟨w.heap.size + 1 + 1, 3, none⟩ = some vr := (by rw [D2.cell_of_block hb12]; rfl); have c124 : w12.cell? ⟨w.heap.size + 1 + 1, 4, none⟩ = some va := (by rw [D2.cell_of_block hb12]; rfl); have c125 : w12.cell? ⟨w.heap.size + 1 + 1, 5, none⟩ = some (.map (some (w.heap.size + 1))) := (by rw [D2.cell_of_block hb12]; rfl); have f12 : w12.frozen? ⟨w.heap.size + 1 + 1, 4, none⟩ = false := (D2.frozen_of_block hb12 4); have T12 := Lib.hid (T11.out.at hO12.out hK12.out hL12.out); have X12 := Lib.hid (ext_setCell hE12 (p := ⟨w.heap.size + 1 + 1, 4, none⟩) hbt2 (.slice A12 (sqs.length + 1) q12)); clear hE12 hO12 hK12 hL12 hb12 g12)
        | (at_builtin; refine push_intg rfl _ _ rfl _ rfl hE3.out (Nat.le_of_eq hb1) (by have := hTk2.out.tb; have := hTk2.out.lt; omega) hTk2.out.op rfl ((l.length : Int)) ⟨_, 0, none⟩ 1 rfl (by simp [go_sem, iV]) (by omega) (fun v11 w11 hE11 hO11 hK11 hL11 => ?_); obtain ⟨A11, q11, rfl⟩ := own_shape hO11.out; obtain ⟨⟨u11, g11, hb11⟩, hq1, hq2⟩ := hTk2.out.frame (W' := w11) hTk2.out.op (by decide) hK11.out; clear hq1 hq2; have c111 : w11.cell? ⟨w.heap.size + 1 + 1, 1, none⟩ = some vb := (by rw [D2.cell_of_block hb11]; rfl); have c112 : w11.cell? ⟨w.heap.size + 1 + 1, 2, none⟩ = some vp := (by rw [D2.cell_of_block hb11]; rfl); have c113 : w11.cell? ⟨w.heap.size + 1 + 1, 3, none⟩ = some vr := (by rw [D2.cell_of_block hb11]; rfl); have c114 : w11.cell? ⟨w.heap.size + 1 + 1, 4, none⟩ = some va := (by rw [D2.cell_of_block hb11]; rfl); have c115 : w11.cell? ⟨w.heap.size + 1 + 1, 5, none⟩ = some (.map (some (w.heap.size + 1))) := (by rw [D2.cell_of_block hb11]; rfl); have f11 : w11.frozen? ⟨w.heap.size + 1 + 1, 2, none⟩ = false := (D2.frozen_of_block hb11 2); have T11 := Lib.hid (hTk2.out.places hO11.out hK11.out hL11.out); have X11 := Lib.hid (ext_setCell hE11 (p := ⟨w.heap.size + 1 + 1, 2, none⟩) hbt2 (.slice A11 (sps.length + 1) q11)); clear hE11 hO11 hK11 hL11 hb11 g11))
      go_ret
      exact ⟨_, rfl, ext_trans e1.out X12.out, _, ⟨_, _, _, _, _, T12⟩, hem⟩
end Go.Proofs.YtgedpfbokkambaaGreatDoor
end
section
/- Marks: Take: what it answers. -/
namespace Go.Proofs.YtgedpfbokkambaaGreatDoor
open Go.RowKit Go.Maps
set_option maxHeartbeats 4000000
set_option maxRecDepth 100000
/-- The first place at which two rows part. -/
def misN : List Int → List Int → Nat → Option Nat
  | [], [], _ => none
  | [], _ :: _, i => some i
  | _ :: _, [], i => some i
  | a :: s, b :: t, i => if a = b then misN s t (i + 1) else some i
/-- Groups at the wrong places, or none. -/
def misA (o : Option Nat) (L : List Int) (p : List UInt8) : List UInt8 × Int × Int :=
  match o with
  | some i => ([], 231, L.getD i 0)
  | none => (p, 0, 0)
/-- What Take answers: the plain text, or the fault and its place. -/
def takeV (P G M N : Int) (xs : List Int) (l : List UInt8) : List UInt8 × Int × Int :=
  if rdy P G M N xs l.length ≠ 0 then ([], rdy P G M N xs l.length, 0) else
    if 0 ≤ (shpB (tkV P G M N l).plain).1 then
      (if ∃ b ∈ (tkV P G M N l).broken, (b : Int) = ((tkV P G M N l).places ++ [(l.length : Int)]).getD (shpB (tkV P G M N l).plain).1.toNat 0 then
        ([], 114, ((tkV P G M N l).places ++ [(l.length : Int)]).getD (shpB (tkV P G M N l).plain).1.toNat 0)
       else ([], 12, ((tkV P G M N l).places ++ [(l.length : Int)]).getD (shpB (tkV P G M N l).plain).1.toNat 0))
    else if (shpB (tkV P G M N l).plain).2.2 - (shpB (tkV P G M N l).plain).2.1 < (tkV P G M N l).runes.length then
      misA (misN (tkV P G M N l).runes (wholeN G N xs (((tkV P G M N l).plain.take (shpB (tkV P G M N l).plain).2.2).drop (shpB (tkV P G M N l).plain).2.1) (((tkV P G M N l).plain.take (shpB (tkV P G M N l).plain).2.2).drop (shpB (tkV P G M N l).plain).2.1).length) 0) ((tkV P G M N l).ats ++ [(l.length : Int)]) (tkV P G M N l).plain
    else ((tkV P G M N l).plain, 0, 0)
theorem tkRun_ind {P G M N : Int} {l : List UInt8} (Q : TS → Prop) (hs : ∀ s i r n, Q s → Q (tkStep P G M N s i r n)) : ∀ f i s, Q s → Q (tkRun P G M N l f i s)
  | 0, _, _, h => h
  | f + 1, i, s, h => by
    rw [tkRun]
    split
    · exact tkRun_ind Q hs f _ _ (hs _ _ _ _ h)
    · exact h
theorem tkRun_le {P G M N : Int} {l : List UInt8} : ∀ f i s, TsLe s i → i ≤ l.length → TsLe (tkRun P G M N l f i s) l.length
  | 0, i, s, h, hi => ⟨Nat.le_trans h.a hi, Nat.le_trans h.b hi, Nat.le_trans h.c hi, Nat.le_trans h.d hi⟩
  | f + 1, i, s, h, hi => by
    rw [tkRun]
    split
    · rename_i hlt
      have hne : l.drop i ≠ [] := fun e => by
        have := congrArg List.length e
        rw [List.length_drop] at this; simp at this; omega
      have h1 := Lib.decodeL_width (l.drop i)
      have h2 := Lib.decodeL_le (l.drop i) hne
      rw [List.length_drop] at h2
      exact tkRun_le f _ _ (tkStep_le _ h h1) (by omega)
    · exact ⟨Nat.le_trans h.a hi, Nat.le_trans h.b hi, Nat.le_trans h.c hi, Nat.le_trans h.d hi⟩
theorem tkV_le (P G M N : Int) (l : List UInt8) : TsLe (tkV P G M N l) l.length :=
  tkRun_le _ _ _ ⟨Nat.le_refl _, Nat.le_refl _, Nat.le_refl _, Nat.le_refl _⟩ (Nat.zero_le _)
theorem tkV_len (P G M N : Int) (l : List UInt8) : (tkV P G M N l).places.length = (tkV P G M N l).plain.length ∧ (tkV P G M N l).runes.length ≤ (tkV P G M N l).ats.length := by
  refine tkRun_ind (fun s => s.places.length = s.plain.length ∧ s.runes.length ≤ s.ats.length) (fun s i r n h => ?_) _ _ _ ⟨rfl, Nat.le_refl _⟩
  obtain ⟨h1, h2⟩ := h
  unfold tkStep
  dsimp only
  split
  · split
    · exact ⟨h1, by simp; omega⟩
    · split
      · exact ⟨by simp; omega, by simp; omega⟩
      · exact ⟨by simp; omega, by simp; omega⟩
  · exact ⟨by simp; omega, by simp; omega⟩
/-- All places lie in the text. -/
structure TsIn (s : TS) (n : Nat) : Prop where
  p : ∀ z ∈ s.places, 0 ≤ z ∧ z ≤ (n : Int)
  a : ∀ z ∈ s.ats, 0 ≤ z ∧ z ≤ (n : Int)
theorem in_snoc {L : List Int} {n i : Nat} (h : ∀ z ∈ L, 0 ≤ z ∧ z ≤ (n : Int)) (hi : i ≤ n) : ∀ z ∈ L ++ [(i : Int)], 0 ≤ z ∧ z ≤ (n : Int) := by
  intro z hz
  rcases List.mem_append.1 hz with h1 | h1
  · exact h z h1
  · rw [List.mem_singleton] at h1; subst h1; omega
theorem tkRun_in {P G M N : Int} {l : List UInt8} : ∀ f i s, TsIn s l.length → TsIn (tkRun P G M N l f i s) l.length
  | 0, _, _, h => h
  | f + 1, i, s, h => by
    rw [tkRun]
    split
    · rename_i hlt
      refine tkRun_in f _ _ ?_
      obtain ⟨h1, h2⟩ := h
      unfold tkStep
      dsimp only
      split
      · split
        · exact ⟨h1, in_snoc h2 (by omega)⟩
        · split
          · exact ⟨in_snoc h1 (by omega), in_snoc h2 (by omega)⟩
          · exact ⟨in_snoc h1 (by omega), in_snoc h2 (by omega)⟩
      · exact ⟨in_snoc h1 (by omega), h2⟩
    · exact h
theorem tkV_in (P G M N : Int) (l : List UInt8) : TsIn (tkV P G M N l) l.length := tkRun_in _ _ _ ⟨by simp [tk0], by simp [tk0]⟩
theorem misN_lt : ∀ (s t : List Int) (i j : Nat), misN s t i = some j → i ≤ j ∧ j ≤ i + s.length
  | [], [], _, _, h => by simp [misN] at h
  | [], _ :: _, i, j, h => by simp [misN] at h; simp; omega
  | _ :: _, [], i, j, h => by simp [misN] at h; simp; omega
  | a :: s, b :: t, i, j, h => by
    rw [misN] at h
    split at h
    · have := misN_lt s t (i + 1) j h
      simp; omega
    · simp at h; simp; omega
theorem misN_drop (s t : List Int) (i : Nat) (hs : i < s.length) (ht : i < t.length) : misN (s.drop i) (t.drop i) i = if s[i] = t[i] then misN (s.drop (i + 1)) (t.drop (i + 1)) (i + 1) else some i := by
  rw [List.drop_eq_getElem_cons hs, List.drop_eq_getElem_cons ht, misN]
theorem misN_short (s t : List Int) (i : Nat) (hs : i < s.length) (ht : t.length ≤ i) : misN (s.drop i) (t.drop i) i = some i := by
  rw [List.drop_eq_getElem_cons hs, List.drop_of_length_le ht, misN]
theorem misN_end (s t : List Int) (ht : s.length ≤ t.length) : misN (s.drop s.length) (t.drop s.length) s.length = if s.length < t.length then some s.length else none := by
  rw [List.drop_of_length_le (Nat.le_refl _)]
  split
  · rename_i h
    rw [List.drop_eq_getElem_cons h, misN]
  · rw [List.drop_of_length_le (by omega), misN]
theorem rowN_nil (l : List UInt8) (a : Nat) (h : l.length ≤ a) : rowN l a = 0 := by
  unfold rowN; rw [List.drop_of_length_le h]; rfl
theorem ptS_le (l : List UInt8) (a : Nat) (h : a ≤ l.length) : (ptS l a).1 ≤ l.length := by
  unfold ptS
  split
  · rename_i h1
    have : a < l.length := by
      rcases Nat.lt_or_ge a l.length with q | q
      · exact q
      · rw [List.getElem?_eq_none q] at h1; cases h1
    exact rowN_le l (a + 1) (by omega)
  · exact h
theorem exS_le (l : List UInt8) (a : Nat) (h : a ≤ l.length) : (exS l a).1 ≤ l.length := by
  unfold exS
  split
  · rename_i h1
    have h2 : a < l.length := by
      rcases Nat.lt_or_ge a l.length with q | q
      · exact q
      · rw [List.getElem?_eq_none q] at h1; cases h1
    dsimp only
    split
    · rename_i h3
      have : a + 1 < l.length := by
        rcases Nat.lt_or_ge (a + 1) l.length with q | q
        · exact q
        · rw [List.getElem?_eq_none q] at h3; cases h3
      exact rowN_le l (a + 2) (by omega)
    · exact rowN_le l (a + 1) (by omega)
  · exact h
theorem shpB_le (l : List UInt8) : (shpB l).1 ≤ l.length := by
  unfold shpB
  obtain ⟨f, hf, hfl⟩ : ∃ f, (if l[0]? = some 45 then 1 else 0) = f ∧ f ≤ l.length := by
    split
    · rename_i h
      cases l with
      | nil => simp at h
      | cons a t => exact ⟨1, rfl, by simp⟩
    · exact ⟨0, rfl, Nat.zero_le _⟩
  simp only [hf]
  have h1 := rowN_le l f hfl
  have h2 := ptS_le l _ h1
  have h3 := exS_le l _ h2
  split
  · dsimp only; omega
  · split
    · dsimp only; omega
    · split
      · dsimp only; omega
      · split
        · dsimp only; omega
        · dsimp only; omega
theorem shpB_m1 (l : List UInt8) : -1 ≤ (shpB l).1 := by
  have h : ∀ n : Nat, (-1 : Int) ≤ n := fun n => by omega
  unfold shpB
  obtain ⟨f, hf⟩ : ∃ f, (if l[0]? = some 45 then 1 else 0) = f := ⟨_, rfl⟩
  simp only [hf]
  split
  · exact h _
  · split
    · exact h _
    · split
      · exact h _
      · split
        · exact h _
        · exact Int.le_refl _
theorem TakR.ext {W W' : World} {base t : Nat} {vp vr va : Value} {B mB : Nat} {ps rs qs : List Int} {C : Int → Prop} (h : TakR W t vp vr va base B mB ps rs qs C) (he : Ext W W') : TakR W' t vp vr va base B mB ps rs qs C :=
  ⟨Nat.lt_of_lt_of_le h.lt he.size, (Below.cell (p := ⟨t, 2, none⟩) he h.lt).trans h.c2, (Below.cell (p := ⟨t, 3, none⟩) he h.lt).trans h.c3, (Below.cell (p := ⟨t, 4, none⟩) he h.lt).trans h.c4, (Below.cell (p := ⟨t, 5, none⟩) he h.lt).trans h.c5, own_ext h.op he, own_ext h.or he, own_ext h.oa he, h.om.ext he⟩
/-- An owned row that has an element: where it lies. -/
theorem own_get {w : World} {base : Nat} {e : TypeId} {v : Value} {n : Nat} {xs : List Value} (h : w.ownsRow base e 1 v n xs) (hn : 0 < n) : ∃ g c, v = .slice (some ⟨g, 0, none⟩) n c ∧ base ≤ g ∧ g < w.heap.size ∧ ∀ j x, xs[j]? = some x → w.cell? ⟨g, j, none⟩ = some x := by
  have hc := h
  rcases h.2 with ⟨_, hz⟩ | ⟨g, cap, cur, hv, hbg, hg, _⟩
  · omega
  · subst hv
    exact ⟨g, cap, rfl, hbg, (Array.getElem?_eq_some_iff.1 hg).1, fun j x hx => by
      have h1 := hc.cells rfl j x hx
      cases j with
      | zero => simpa [Addr.add] using h1
      | succ j => simpa [Addr.add] using h1⟩
end Go.Proofs.YtgedpfbokkambaaGreatDoor
end
