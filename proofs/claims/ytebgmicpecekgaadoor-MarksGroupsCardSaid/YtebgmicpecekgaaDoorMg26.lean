/- Lemmas of this proof, laid together: AvD, AvE, MarksChecksW. -/
import Derived.Test.YtebgmicpecekgaaDoorMg19
import Derived.Deep.RegionWith
import Derived.Deep.DeepCutAuto
import Derived.Deep.Heap
set_option linter.unusedSimpArgs false
set_option linter.unusedVariables false
section
/- Marks: ints behind ints; marks that are lent. -/
namespace Go.Proofs.YtebgmicpecekgaaDoor
open Go.RowKit
attribute [local go_sem] sz2 sz3 sz4 sz5 sz6 sz7 sz8
attribute [local irreducible] Calls
set_option maxHeartbeats 4000000
set_option maxRecDepth 100000
theorem push_ints {ops : Array Oper} {rest : List Oper} {o : Oper} {a : Act} {Q : Exit → Act → World → Prop} {w : World} (hgd : o.guard = none) (s x : Operand)
    (ho : o.op = .call { callee := .builtin .append, args := #[s, x], argTypes := #[22, 22] })
    {W : World} (hW : Ext W w) {base : Nat} (hbase : W.heap.size ≤ base) (hsz0 : base ≤ w.heap.size) {v : Value} {n : Nat} {xs : List Int} (hown : OwnI w base v n xs) (hs : a.eval s = v)
    {b off : Nat} {m c : Nat} {ys : List Int} (h2 : RdI w (some ⟨b, off, none⟩) m c ys) (hx : a.eval x = .slice (some ⟨b, off, none⟩) m c) (hn : (n + m) * 8 ≤ 140737488355328)
    (h : ∀ v' w', Ext W w' → Hid (OwnI w' base v' (n + m) (xs ++ ys)) → wpList Tryd.prog ops Q rest (a.put o.dst v') w') : wpList Tryd.prog ops Q (o :: rest) a w := by
  obtain ⟨i, hi, hz, hsz, hby⟩ := info_parts ints_info
  have hyl : ys.length = m := h2.len
  refine wpList_append_own _ hgd s x _ ho base 3 i _ 1 8 ints_under hi hz hsz hby rfl (by decide) v n _ hs hown ⟨b, off, none⟩ m c (ys.map iV) hx (by simpa using hyl) ?_ ?_ ?_ hn hsz0 ?_
  · intro j u hj
    have hj' : j < ys.length := by
      have := (List.getElem?_eq_some_iff.1 hj).1
      simpa using this
    have h3 := (h2.cells b off rfl j hj').2
    have e : Addr.add ⟨b, off, none⟩ j = ⟨b, off + j, none⟩ := by unfold Addr.add; split <;> simp_all
    rw [e, h3]
    rw [List.getElem?_map, List.getElem?_eq_getElem hj'] at hj
    simpa using hj
  · intro u hu
    obtain ⟨z, _, rfl⟩ := List.mem_map.1 hu
    rfl
  · unfold maxLen; omega
  · intro v' w' ho' hg _
    refine h v' w' (ext_grown hW hown hbase hg) ?_
    show World.ownsRow _ _ _ _ _ _ _
    simpa using ho'
/-- Two ints of the text behind ints. -/
theorem push_two {ops : Array Oper} {rest : List Oper} {o : Oper} {a : Act} {Q : Exit → Act → World → Prop} {w : World} (hgd : o.guard = none) (s x : Operand)
    (ho : o.op = .call { callee := .builtin .append, args := #[s, x], argTypes := #[22, 22] })
    {W : World} {w0 : World} (y z : Int) (hw : w = w0.alloc (.cells #[iV y, iV z] 3)) (hW : Ext W w0) {base : Nat} (hbase : W.heap.size ≤ base) (hsz0 : base ≤ w0.heap.size) {v : Value} {n : Nat} {xs : List Int} (hown : OwnI w0 base v n xs) (hs : a.eval s = v)
    (H : Nat) (hH : H = w0.heap.size) (c : Nat) (hx : a.eval x = .slice (some ⟨H, 0, none⟩) 2 c) (hn : (n + 2) * 8 ≤ 140737488355328)
    (h : ∀ v' w', Ext W w' → Hid (OwnI w' base v' (n + 2) (xs ++ [y, z])) → wpList Tryd.prog ops Q rest (a.put o.dst v') w') : wpList Tryd.prog ops Q (o :: rest) a w := by
  obtain ⟨i, hi, hz, hsz, hby⟩ := info_parts ints_info
  subst hw hH
  refine wpList_append_own _ hgd s x _ ho base 3 i _ 1 8 ints_under hi hz hsz hby rfl (by decide) v n _ hs (hown.alloc _) ⟨w0.heap.size, 0, none⟩ 2 c [iV y, iV z] hx rfl ?_ ?_ ?_ hn ?_ ?_
  · intro j u hj
    match j, hj with
    | 0, hj => simp at hj; subst hj; simp [Addr.add]
    | 1, hj => simp at hj; subst hj; simp [Addr.add]
  · intro u hu; simp at hu; rcases hu with rfl | rfl <;> rfl
  · unfold maxLen; omega
  · simp; omega
  · intro v' w' ho' hg _
    refine h v' w' (ext_grown (ext_alloc hW _) (hown.alloc _) hbase hg) ?_
    show World.ownsRow _ _ _ _ _ _ _
    simpa using ho'
theorem own_emptyI (w0 : World) (e : TypeId) : (w0.alloc (Obj.cells #[] e)).ownsRow w0.heap.size e 1 (.slice (some ⟨w0.heap.size, 0, none⟩) 0 0) 0 [] := by
  exact ⟨by simp, .inr ⟨w0.heap.size, 0, #[], rfl, Nat.le_refl _, by show (w0.heap.push _)[w0.heap.size]? = _; exact Array.getElem?_push_size, Nat.le_refl _, by decide, by decide, rfl⟩⟩
theorem own_cap {w : World} {base : Nat} {e : TypeId} {size n : Nat} {A : Option Addr} {m c : Nat} {xs : List Value} (h : w.ownsRow base e size (.slice A m c) n xs) : n ≤ c := by
  rcases h.2 with ⟨e, rfl⟩ | ⟨g, cap, cur, e, _, _, hc, _⟩
  · omega
  · cases e; exact hc
theorem own_mx {w : World} {base : Nat} {e : TypeId} {size n : Nat} {A : Option Addr} {m c : Nat} {xs : List Value} (h : w.ownsRow base e size (.slice A m c) n xs) : c ≤ 9223372036854775807 := by
  rcases h.2 with ⟨e, rfl⟩ | ⟨g, cap, cur, e, _, _, _, hc, _⟩
  · cases e; omega
  · cases e; simpa [maxLen] using hc
theorem own_putI {w : World} {base : Nat} {e : TypeId} {size n c m : Nat} {A : Option Addr} {xs : List Value} (h : w.ownsRow base e size (.slice A m c) n xs) {p : Addr} (u : Value) (hne : ∀ a, A = some a → ¬ a.block = p.block) : (w.setCell p u).ownsRow base e size (.slice A m c) n xs := by
  obtain ⟨h1, h2⟩ := h
  refine ⟨h1, ?_⟩
  rcases h2 with h2 | ⟨g, cap, cur, he, h0, h3, h4⟩
  · exact .inl h2
  · refine .inr ⟨g, cap, cur, he, h0, ?_, h4⟩
    have h5 := hne ⟨g, 0, none⟩ (by simp only [Value.slice.injEq] at he; exact he.1)
    exact (Go.Deep.blk_setCell_other w p u g h5).trans h3
/-- Lent sizes: marks of one's own, two ints behind them. -/
abbrev LentI (w : World) (g n c : Nat) (xs : List Int) : Prop := OwnI w 0 (.slice (some ⟨g, 0, none⟩) (n + 2) c) (n + 2) (xs ++ [77, 78])
theorem lw_lent (P G M N : Int) (A : Option Addr) (k c : Nat) (xs : List Int) (w : World) (hA : RdI w A k c xs) (hc : c * 8 ≤ 140737488351232) :
    Calls Tryd.prog 8 #[mkV P G M N A k c] w fun e w' => ∃ g d, e = .returned (mkV P G M N (some ⟨g, 0, none⟩) k d) ∧ Ext w w' ∧ Hid (w.heap.size ≤ g) ∧ Hid (LentI w' g k d xs) := by
  have hcap := hA.cap
  have hmx := hA.mx
  have HA := Lib.hid hA
  rcases hA.shape with ⟨rfl, rfl, rfl, rfl⟩ | ⟨b, off, rfl⟩
  · have hX2 := Lib.hid (show Ext w ((w.alloc (BoxM P G M N none 0 0)).alloc (BoxM 0 0 0 0 none 0 0)) from ext_alloc (ext_alloc (ext_refl w) _) _)
    have hXr := Lib.hid (ext_refl ((w.alloc (BoxM P G M N none 0 0)).alloc (BoxM 0 0 0 0 none 0 0)))
    have hz2 : ((w.alloc (BoxM P G M N none 0 0)).alloc (BoxM 0 0 0 0 none 0 0)).heap.size = w.heap.size + 1 + 1 := by simp
    have hE0 := Lib.hid (own_emptyI ((w.alloc (BoxM P G M N none 0 0)).alloc (BoxM 0 0 0 0 none 0 0)) 3)
    rw [hz2] at hE0
    have b1 := Lib.hid (show MkAt ((w.alloc (BoxM P G M N none 0 0)).alloc (BoxM 0 0 0 0 none 0 0)) w.heap.size P G M N none 0 0 from (MkAt.made w P G M N none 0 0).ext (ext_alloc (ext_refl _) _))
    have b2 := Lib.hid (show MkAt ((w.alloc (BoxM P G M N none 0 0)).alloc (BoxM 0 0 0 0 none 0 0)) (w.heap.size + 1) 0 0 0 0 none 0 0 from by have := MkAt.made (w.alloc (BoxM P G M N none 0 0)) 0 0 0 0 none 0 0; rw [show (w.alloc (BoxM P G M N none 0 0)).heap.size = w.heap.size + 1 by simp] at this; exact this)
    have f1 := Lib.hid (show ∀ o, ((w.alloc (BoxM P G M N none 0 0)).alloc (BoxM 0 0 0 0 none 0 0)).frozen? ⟨w.heap.size, o, none⟩ = false from fun o => by simp [go_sem])
    have f2 := Lib.hid (show ∀ o, ((w.alloc (BoxM P G M N none 0 0)).alloc (BoxM 0 0 0 0 none 0 0)).frozen? ⟨w.heap.size + 1, o, none⟩ = false from fun o => by simp [go_sem])
    clear hA
    go_enter Tryd.func8, Tryd.ntmps8
    go_upto_region 2 with (first
      | (go_at_call 9; skip))
    obtain ⟨w4, hw4⟩ : ∃ u, u = ((w.alloc (BoxM P G M N none 0 0)).alloc (BoxM 0 0 0 0 none 0 0)).alloc (Obj.cells #[] 3) := ⟨_, rfl⟩
    rw [← hw4]
    have hx4 : Ext ((w.alloc (BoxM P G M N none 0 0)).alloc (BoxM 0 0 0 0 none 0 0)) w4 := by rw [hw4]; exact ext_alloc hXr.out _
    have ho4 : Hid (OwnI w4 (w.heap.size + 1 + 1) (.slice (some ⟨w.heap.size + 1 + 1, 0, none⟩) 0 0) 0 []) := by rw [hw4]; exact hE0
    clear hw4 hE0
    have hs4 := ext_size hx4
    rw [hz2] at hs4
    obtain ⟨p0, p1, p2, p3, p4, pl⟩ := b1.out.ext hx4
    go_upto_region 3 with (first
      | (at_builtin; refine push_two rfl _ _ rfl 77 78 rfl hx4 (base := w.heap.size + 1 + 1) (by simp) hs4 ho4.out rfl w4.heap.size rfl _ rfl (by omega) ?_; intro v5 w5 hx5 ho5))
    obtain ⟨g, d, rfl, hg1, hg2, hgc⟩ := own_get ho5.out (by omega)
    obtain ⟨p0, p1, p2, p3, p4, pl⟩ := b1.out.ext hx5
    obtain ⟨q0, q1, q2, q3, q4, ql⟩ := b2.out.ext hx5
    have fp := fun o => (Below.frozen (p := ⟨w.heap.size, o, none⟩) hx5 (by simp; omega)).trans (f1.out o)
    have fq := fun o => (Below.frozen (p := ⟨w.heap.size + 1, o, none⟩) hx5 (by simp)).trans (f2.out o)
    have hne : ¬ g = w.heap.size := by omega
    have hne1 : ¬ g = w.heap.size + 1 := by omega
    have hkd : 0 + 2 ≤ d := own_cap ho5.out
    have hmd := own_mx ho5.out
    go_wp2
    refine bodyPost_ret (v := mkV P G M N (some ⟨g, 0, none⟩) 0 d) ?h rfl ⟨g, d, rfl, ?_, Lib.hid (by omega), ?_⟩
    case h => simp [results, Tryd.results8, go_sem, p0, p1, p2, p3, p4, q0, q1, q2, q3, q4]
    · have e5 := ext_trans hX2.out hx5
      repeat (first | refine ext_setCell ?_ (by simp) _ | exact e5)
    · show World.ownsRow _ _ _ _ _ _ _
      have h5 := own_zero ho5.out
      repeat (first | refine own_putI ?_ _ (fun a ha => by cases ha; simp only; omega) | exact h5)
  · have hX2 := Lib.hid (show Ext w ((w.alloc (BoxM P G M N (some ⟨b, off, none⟩) k c)).alloc (BoxM 0 0 0 0 none 0 0)) from ext_alloc (ext_alloc (ext_refl w) _) _)
    have hXr := Lib.hid (ext_refl ((w.alloc (BoxM P G M N (some ⟨b, off, none⟩) k c)).alloc (BoxM 0 0 0 0 none 0 0)))
    have hz2 : ((w.alloc (BoxM P G M N (some ⟨b, off, none⟩) k c)).alloc (BoxM 0 0 0 0 none 0 0)).heap.size = w.heap.size + 1 + 1 := by simp
    have hE0 := Lib.hid (own_emptyI ((w.alloc (BoxM P G M N (some ⟨b, off, none⟩) k c)).alloc (BoxM 0 0 0 0 none 0 0)) 3)
    rw [hz2] at hE0
    have b1 := Lib.hid (show MkAt ((w.alloc (BoxM P G M N (some ⟨b, off, none⟩) k c)).alloc (BoxM 0 0 0 0 none 0 0)) w.heap.size P G M N (some ⟨b, off, none⟩) k c from (MkAt.made w P G M N (some ⟨b, off, none⟩) k c).ext (ext_alloc (ext_refl _) _))
    have b2 := Lib.hid (show MkAt ((w.alloc (BoxM P G M N (some ⟨b, off, none⟩) k c)).alloc (BoxM 0 0 0 0 none 0 0)) (w.heap.size + 1) 0 0 0 0 none 0 0 from by have := MkAt.made (w.alloc (BoxM P G M N (some ⟨b, off, none⟩) k c)) 0 0 0 0 none 0 0; rw [show (w.alloc (BoxM P G M N (some ⟨b, off, none⟩) k c)).heap.size = w.heap.size + 1 by simp] at this; exact this)
    have f1 := Lib.hid (show ∀ o, ((w.alloc (BoxM P G M N (some ⟨b, off, none⟩) k c)).alloc (BoxM 0 0 0 0 none 0 0)).frozen? ⟨w.heap.size, o, none⟩ = false from fun o => by simp [go_sem])
    have f2 := Lib.hid (show ∀ o, ((w.alloc (BoxM P G M N (some ⟨b, off, none⟩) k c)).alloc (BoxM 0 0 0 0 none 0 0)).frozen? ⟨w.heap.size + 1, o, none⟩ = false from fun o => by simp [go_sem])
    clear hA
    go_enter Tryd.func8, Tryd.ntmps8
    go_upto_region 2 with (first
      | (at_builtin; refine push_ints rfl _ _ rfl (ext_alloc hXr.out _) (base := w.heap.size + 1 + 1) (by simp) (by simp) (xs := []) hE0.out rfl (HA.out.ext (ext_alloc hX2.out _)) rfl (by omega) ?_; intro v4 w4 hx4 ho4))
    rw [Nat.zero_add, List.nil_append] at ho4
    have hs4 := ext_size hx4
    rw [hz2] at hs4
    obtain ⟨p0, p1, p2, p3, p4, pl⟩ := b1.out.ext hx4
    go_upto_region 3 with (first
      | (at_builtin; refine push_two rfl _ _ rfl 77 78 rfl hx4 (base := w.heap.size + 1 + 1) (by simp) hs4 ho4.out rfl w4.heap.size rfl _ rfl (by omega) ?_; intro v5 w5 hx5 ho5))
    obtain ⟨g, d, rfl, hg1, hg2, hgc⟩ := own_get ho5.out (by omega)
    obtain ⟨p0, p1, p2, p3, p4, pl⟩ := b1.out.ext hx5
    obtain ⟨q0, q1, q2, q3, q4, ql⟩ := b2.out.ext hx5
    have fp := fun o => (Below.frozen (p := ⟨w.heap.size, o, none⟩) hx5 (by simp; omega)).trans (f1.out o)
    have fq := fun o => (Below.frozen (p := ⟨w.heap.size + 1, o, none⟩) hx5 (by simp)).trans (f2.out o)
    have hne : ¬ g = w.heap.size := by omega
    have hne1 : ¬ g = w.heap.size + 1 := by omega
    have hkd : k + 2 ≤ d := own_cap ho5.out
    have hmd := own_mx ho5.out
    go_wp2
    refine bodyPost_ret (v := mkV P G M N (some ⟨g, 0, none⟩) k d) ?h rfl ⟨g, d, rfl, ?_, Lib.hid (by omega), ?_⟩
    case h => simp [results, Tryd.results8, go_sem, p0, p1, p2, p3, p4, q0, q1, q2, q3, q4]
    · have e5 := ext_trans hX2.out hx5
      repeat (first | refine ext_setCell ?_ (by simp) _ | exact e5)
    · show World.ownsRow _ _ _ _ _ _ _
      have h5 := own_zero ho5.out
      repeat (first | refine own_putI ?_ _ (fun a ha => by cases ha; simp only; omega) | exact h5)
end Go.Proofs.YtebgmicpecekgaaDoor
end
section
/- Marks: lent marks that are as they were. -/
namespace Go.Proofs.YtebgmicpecekgaaDoor
open Go.RowKit
attribute [local go_sem] sz2 sz3 sz4 sz5 sz6 sz7 sz8
attribute [local irreducible] Calls
set_option maxHeartbeats 4000000
set_option maxRecDepth 100000
theorem LentI.cell {w w' : World} {g n c : Nat} {xs : List Int} (h : LentI w g n c xs) (he : Ext w w') (i : Nat) (hi : i < n + 2) : w'.cell? ⟨g, i, none⟩ = some (.int .i64 ((xs ++ [77, 78]).getD i 0)) := by
  have hl : (xs ++ [77, 78]).length = n + 2 := by have := h.1; simp at this; simp; omega
  have h2 := (own_ext h he).cellAt i (by omega)
  rw [h2, List.getElem?_map, List.getElem?_eq_getElem (by omega : i < (xs ++ [77, 78]).length), List.getD_eq_getElem?_getD, List.getElem?_eq_getElem (by omega : i < (xs ++ [77, 78]).length)]
  rfl
theorem getD_left (xs : List Int) (n i : Nat) (hl : xs.length = n) (hi : i < n) : (xs ++ [77, 78]).getD i 0 = xs.getD i 0 := by
  rw [List.getD_eq_getElem?_getD, List.getD_eq_getElem?_getD, List.getElem?_append_left (by omega)]
theorem lw_kept (P G M N : Int) (g k d : Nat) (A : Option Addr) (c : Nat) (xs : List Int) (w : World) (hl : LentI w g k d xs) (hA : RdI w A k c xs) :
    Calls Tryd.prog 10 #[mkV P G M N (some ⟨g, 0, none⟩) k d, mkV P G M N A k c] w fun e w' => e = .returned (.bool true) ∧ Ext w w' := by
  have hgl : g < w.heap.size := own_lt hl rfl
  have hkd : k + 2 ≤ d := own_cap hl
  have hmd := own_mx hl
  have hxl := hA.len
  have hcap := hA.cap
  have hmx := hA.mx
  have e0 : Hid (Ext w ((w.alloc (BoxM P G M N (some ⟨g, 0, none⟩) k d)).alloc (BoxM P G M N A k c))) := ext_alloc (ext_alloc (ext_refl w) _) _
  have b1 := Lib.hid (show MkAt ((w.alloc (BoxM P G M N (some ⟨g, 0, none⟩) k d)).alloc (BoxM P G M N A k c)) w.heap.size P G M N (some ⟨g, 0, none⟩) k d from (MkAt.made w P G M N (some ⟨g, 0, none⟩) k d).ext (ext_alloc (ext_refl _) _))
  have b2 := Lib.hid (show MkAt ((w.alloc (BoxM P G M N (some ⟨g, 0, none⟩) k d)).alloc (BoxM P G M N A k c)) (w.heap.size + 1) P G M N A k c from by have := MkAt.made (w.alloc (BoxM P G M N (some ⟨g, 0, none⟩) k d)) P G M N A k c; rw [show (w.alloc (BoxM P G M N (some ⟨g, 0, none⟩) k d)).heap.size = w.heap.size + 1 by simp] at this; exact this)
  have HL := Lib.hid (fun w' (h : Ext w w') i (hi : i < k + 2) => hl.cell h i hi)
  have HX := Lib.hid (fun w' (hw : Ext w w') b off (h : A = some ⟨b, off, none⟩) (i : Nat) (hi : i < k) => show b < w.heap.size ∧ w'.cell? ⟨b, off + i, none⟩ = some (.int .i64 (xs.getD i 0)) from by
    obtain ⟨h1, h2⟩ := (hA.ext hw).cells b off h i (by omega)
    obtain ⟨h3, _⟩ := hA.cells b off h i (by omega)
    refine ⟨h3, ?_⟩
    rw [h2, List.getD_eq_getElem?_getD, List.getElem?_eq_getElem (by omega : i < xs.length)]; rfl)
  have hsh := hA.shape
  have l77 := fun w' (h : Ext w w') => HL.out w' h k (by omega)
  have l78 := fun w' (h : Ext w w') => HL.out w' h (k + 1) (by omega)
  rw [List.getD_eq_getElem?_getD, List.getElem?_append_right (by omega), hxl, Nat.sub_self] at l77
  rw [List.getD_eq_getElem?_getD, List.getElem?_append_right (by omega), hxl, Nat.add_sub_cancel_left] at l78
  simp only [List.getElem?_cons_zero, List.getElem?_cons_succ, Option.getD_some] at l77 l78
  have hne : ¬ g = w.heap.size := by omega
  have hne1 : ¬ g = w.heap.size + 1 := by omega
  have L77 := Lib.hid l77
  have L78 := Lib.hid l78
  have GL := Lib.hid (fun i (hi : i < k) => getD_left xs k i hxl hi)
  clear hl hA l77 l78
  go_enter Tryd.func10, Tryd.ntmps10
  go_wp2
  go_loopw [5] (fun v wr => ∃ i : Nat, i ≤ k ∧ v = .int .i64 (i : Int) ∧ Hid (Ext ((w.alloc (BoxM P G M N (some ⟨g, 0, none⟩) k d)).alloc (BoxM P G M N A k c)) wr)) (fun v _ => k - (intOf v).toNat)
  case atStart => exact ⟨0, Nat.zero_le _, by go_num, ext_refl _⟩
  case round =>
    obtain ⟨i, hi, rfl, hE⟩ := hrel
    have hEw := ext_trans e0.out hE.out
    obtain ⟨p0, p1, p2, p3, p4, pl⟩ := b1.out.ext hE.out
    obtain ⟨q0, q1, q2, q3, q4, ql⟩ := b2.out.ext hE.out
    have hgr : g < wr.heap.size := by omega
    by_cases h0 : i < k
    · have hlt : decide ((i : Int) < (k : Int)) = true := decide_eq_true (by omega)
      rcases hsh with ⟨_, rfl, _⟩ | ⟨b, off, rfl⟩
      · omega
      · obtain ⟨hb, cx⟩ := HX.out wr hEw b off rfl i h0
        have cl := HL.out wr hEw i (by omega)
        rw [GL.out i h0] at cl
        obtain ⟨x, hx⟩ : ∃ x, xs.getD i 0 = x := ⟨_, rfl⟩
        rw [hx] at cx cl
        have hbr : b < wr.heap.size := by omega
        go_wp2
        go_region
        go_wp2
        exact ⟨⟨i + 1, by omega, by go_num, ext_drew hE.out⟩, by simp [intOf]; omega⟩
    · obtain rfl : i = k := by omega
      have hlt : decide ((i : Int) < (i : Int)) = false := decide_eq_false (by omega)
      have l77 := L77.out wr hEw
      have l78 := L78.out wr hEw
      go_wp2
      refine bodyPost_ret (v := .bool true) ?h rfl ⟨rfl, hEw⟩
      case h => simp [results, Tryd.results10, go_sem]
end Go.Proofs.YtebgmicpecekgaaDoor
end
section
/- Marks: Check answers as the document says: the walk. -/
namespace Go.Proofs.YtebgmicpecekgaaDoor
open Go.RowKit
attribute [local irreducible] Calls
set_option maxHeartbeats 4000000
set_option maxRecDepth 100000
theorem rdI_lent {w : World} {g n c : Nat} {xs : List Int} {A : Option Addr} {d : Nat} {w0 : World} (h : LentI w g n c xs) (hA : RdI w0 A n d xs) : RdI w (some ⟨g, 0, none⟩) n c xs := by
  have hc := own_cap h
  have hm := own_mx h
  refine ⟨hA.len, by omega, hm, hA.lb, (fun e => by cases e), (fun a e => by cases e; rfl), fun b off e i hi => ?_⟩
  cases e
  have hl := hA.len
  refine ⟨own_lt h rfl, ?_⟩
  have := h.cell (ext_refl w) i (by omega)
  rw [getD_left xs n i hl (by omega), List.getD_eq_getElem?_getD, List.getElem?_eq_getElem hi] at this
  rw [Nat.zero_add]; exact this
theorem walk_MarksChecks (x0 : Int) (x1 : Int) (x2 : Int) (x3 : Int) (x4A : Option Addr) (x4l x4c : Nat) (x4 : List Int) (w : World) (_hx0 : -2147483648 ≤ x0 ∧ x0 ≤ 2147483647) (_hx1 : -2147483648 ≤ x1 ∧ x1 ≤ 2147483647) (_hx2 : -2147483648 ≤ x2 ∧ x2 ≤ 2147483647) (hx3 : -2147483648 ≤ x3 ∧ x3 ≤ 2147483647) (hx4 : RdI w x4A x4l x4c x4) (hwx4 : x4c * 8 ≤ 140737488351232) (hL : LwT w) :
    Calls Tryd.prog 3 #[.agg #[.int .i32 x0, .int .i32 x1, .int .i32 x2, .int .i32 x3, .slice x4A x4l x4c]] w fun e w' => e = .returned (.bool true) ∧ Ext w w' := by
  have e0 : Hid (Ext w (w.alloc (BoxM x0 x1 x2 x3 x4A x4l x4c))) := ext_alloc (ext_refl w) _
  have b1 := Lib.hid (MkAt.made w x0 x1 x2 x3 x4A x4l x4c)
  have ka := Lib.hid (fun w' (h : Ext w w') => av_alive w' (hL.ext h))
  have kl := Lib.hid (fun w' (h : Ext w w') => lw_lent x0 x1 x2 x3 x4A x4l x4c x4 w' (hx4.ext h) hwx4)
  have kc := Lib.hid (fun g d w' (h : LentI w' g x4l d x4) => mk_Check x0 x1 x2 x3 (some ⟨g, 0, none⟩) x4l d x4 w' (rdI_lent h hx4))
  have kk := Lib.hid (fun g d w' (h : LentI w' g x4l d x4) (he : Ext w w') => lw_kept x0 x1 x2 x3 g x4l d x4A x4c x4 w' h (hx4.ext he))
  have kd := Lib.hid (fun w' (h : Ext w w') => md_Check x0 x1 x2 x3 x4A x4l x4c x4 w' (hx4.ext h) hx3)
  obtain ⟨ck, hck⟩ : ∃ ck, ckv x0 x1 x2 x3 x4 = ck := ⟨_, rfl⟩
  rw [hck] at kc kd
  clear hck hx4 hx3
  go_enter Tryd.func3, Tryd.ntmps3
  go_wp2_with (first
    | (go_at_call 7; (with_reducible refine (ka.out _ (by (repeat (first | exact ext_refl _ | assumption | refine ext_setCell ?_ (by simp; try omega) _ | refine ext_alloc ?_ _ | refine ext_drew ?_ | refine ext_drewN ?_ _ | refine ext_trans ?_ (Aft.use _) | refine ext_trans ?_ (by assumption))))).mono ?_); rintro e w1 ⟨rfl, hE1⟩; have hX1 := hE1; obtain ⟨p0, p1, p2, p3, p4, pl⟩ := b1.out.ext hX1)
    | (go_at_call 8; (with_reducible refine (kl.out _ (by (repeat (first | exact ext_refl _ | assumption | refine ext_setCell ?_ (by simp; try omega) _ | refine ext_alloc ?_ _ | refine ext_drew ?_ | refine ext_drewN ?_ _ | refine ext_trans ?_ (Aft.use _) | refine ext_trans ?_ (by assumption))))).mono ?_); rintro e w2 ⟨g, d, rfl, hE2, _, hl2⟩; have hX2 := ext_trans hX1 hE2; obtain ⟨p0, p1, p2, p3, p4, pl⟩ := b1.out.ext hX2; have b2 := MkAt.made w2 x0 x1 x2 x3 (some ⟨g, 0, none⟩) x4l d)
    | (go_at_call 9; (with_reducible refine (kc.out _ _ _ (own_ext hl2.out (by (repeat (first | exact ext_refl _ | assumption | refine ext_setCell ?_ (by simp; try omega) _ | refine ext_alloc ?_ _ | refine ext_drew ?_ | refine ext_drewN ?_ _ | refine ext_trans ?_ (Aft.use _) | refine ext_trans ?_ (by assumption)))))).mono ?_); rintro e w3 ⟨rfl, hE3⟩; have hY3 := hE3; have hZ3 := ext_trans (ext_alloc (ext_refl w2) _) hE3; have hX3 := ext_trans hX2 hZ3; obtain ⟨p0, p1, p2, p3, p4, pl⟩ := b1.out.ext hX3; obtain ⟨q0, q1, q2, q3, q4, ql⟩ := b2.ext hY3)
    | (go_at_call 10; (with_reducible refine (kk.out _ _ _ (own_ext hl2.out hZ3) (by (repeat (first | exact ext_refl _ | assumption | refine ext_setCell ?_ (by simp; try omega) _ | refine ext_alloc ?_ _ | refine ext_drew ?_ | refine ext_drewN ?_ _ | refine ext_trans ?_ (Aft.use _) | refine ext_trans ?_ (by assumption))))).mono ?_); rintro e w4 ⟨rfl, hE4⟩; have hX4 := ext_trans hX3 hE4; obtain ⟨p0, p1, p2, p3, p4, pl⟩ := b1.out.ext hX4)
    | (go_at_call 11; (with_reducible refine (kd.out _ (by (repeat (first | exact ext_refl _ | assumption | refine ext_setCell ?_ (by simp; try omega) _ | refine ext_alloc ?_ _ | refine ext_drew ?_ | refine ext_drewN ?_ _ | refine ext_trans ?_ (Aft.use _) | refine ext_trans ?_ (by assumption))))).mono ?_); rintro e w5 ⟨rfl, hE5⟩; have hX5 := ext_trans hX4 hE5))
  refine bodyPost_ret (v := .bool true) ?h rfl ⟨rfl, ext_trans e0.out hX5⟩
  case h => simp [results, Tryd.results3, go_sem]
end Go.Proofs.YtebgmicpecekgaaDoor
end
