/- Lemmas of this proof, laid together: AvB, AvC, AvD, MdG, AvE. -/
import Derived.Test.YtgedpfbokkambaaGreatDoorMg15
import Derived.Test.YtgedpfbokkambaaGreatDoorMg17
import Derived.Deep.RegionWith
import Derived.Deep.DeepCutAuto
import Derived.Deep.Heap
set_option linter.unusedSimpArgs false
set_option linter.unusedVariables false
section
/- Marks: marks of some places of the world; how many runes a text has. -/
namespace Go.Proofs.YtgedpfbokkambaaGreatDoor
open Go.RowKit
attribute [local go_sem] bs_size bs_extract bs_get bs_append bs_toList const_get
attribute [local irreducible] Calls
set_option maxHeartbeats 4000000
set_option maxRecDepth 100000
theorem rdI_lit {w : World} (xs : List Int) {n : Nat} (hn : n = xs.length) (h0 : n ≤ 1000) {arr : Array Value} (harr : arr.toList = xs.map (fun x => Value.int .i64 x)) (hI : I64 xs) {H : Nat} (hH : H = w.heap.size) : RdI (w.alloc (.cells arr 3)) (some ⟨H, 0, none⟩) n n xs := by
  subst hH hn
  refine ⟨rfl, Nat.le_refl _, by omega, hI, (fun e => by cases e), (fun a e => by cases e; rfl), fun b off e i hi => ?_⟩
  cases e
  refine ⟨by simp, ?_⟩
  have hs : arr.size = xs.length := by rw [← Array.length_toList, harr, List.length_map]
  rw [Nat.zero_add]
  have h2 : arr[i]? = some (.int .i64 xs[i]) := by rw [← Array.getElem?_toList, harr]; simp [hi]
  simp [go_sem, h2]
theorem av_german (w : World) : Calls Tryz.prog 20 #[] w fun e w' => ∃ A, e = .returned (mkV 44 46 45 48 A 1 1) ∧ Ext w w' ∧ Hid (RdI w' A 1 1 [3]) := by
  go_enter Tryz.func20, Tryz.ntmps20
  go_wp2
  refine bodyPost_ret (v := mkV 44 46 45 48 (some ⟨w.heap.size + 1, 0, none⟩) 1 1) ?h rfl ⟨_, rfl, ?_, ?_⟩
  case h => simp [results, Tryz.results20, go_sem]
  · skip
    repeat (first | exact ext_refl _ | assumption | refine ext_setCell ?_ (by simp; try omega) _ | refine ext_alloc ?_ _ | refine ext_drew ?_ | refine ext_drewN ?_ _ | refine ext_trans ?_ (Aft.use _) | refine ext_trans ?_ (by assumption))
  · exact rdI_lit [3] rfl (by decide) rfl (by intro x hx; simp at hx; subst hx; omega) (by simp)
theorem av_indian (w : World) : Calls Tryz.prog 21 #[] w fun e w' => ∃ A, e = .returned (mkV 46 44 8722 2406 A 2 2) ∧ Ext w w' ∧ Hid (RdI w' A 2 2 [3, 2]) := by
  go_enter Tryz.func21, Tryz.ntmps21
  go_wp2
  refine bodyPost_ret (v := mkV 46 44 8722 2406 (some ⟨w.heap.size + 1, 0, none⟩) 2 2) ?h rfl ⟨_, rfl, ?_, ?_⟩
  case h => simp [results, Tryz.results21, go_sem]
  · skip
    repeat (first | exact ext_refl _ | assumption | refine ext_setCell ?_ (by simp; try omega) _ | refine ext_alloc ?_ _ | refine ext_drew ?_ | refine ext_drewN ?_ _ | refine ext_trans ?_ (Aft.use _) | refine ext_trans ?_ (by assumption))
  · exact rdI_lit [3, 2] rfl (by decide) rfl (by intro x hx; simp at hx; rcases hx with rfl | rfl <;> omega) (by simp)
theorem mk_Width (s : ByteArray) (w : World) (hs : s.size < 9223372036854775807) : Calls Tryz.prog 16 #[.string s] w fun e w' => e = .returned (.int .i64 (Lib.runeCount s)) ∧ Ext w w' := by
  have k := Lib.hid (fun w' => Tryz.utf8_RuneCountInString s w' hs)
  go_enter Tryz.func16, Tryz.ntmps16
  go_wp2_with (first
    | (go_at_call 36; (with_reducible refine (k.out _).mono ?_); rintro e w1 ⟨rfl, pos, rfl⟩))
  refine bodyPost_ret (v := .int .i64 ↑(Lib.runeCount s)) ?h rfl ⟨rfl, ?_⟩
  case h => simp [results, Tryz.results16, go_sem]
  unfold World.iter
  repeat (first | exact ext_refl _ | assumption | refine ext_setCell ?_ (by simp; try omega) _ | refine ext_alloc ?_ _ | refine ext_drew ?_ | refine ext_drewN ?_ _ | refine ext_trans ?_ (Aft.use _) | refine ext_trans ?_ (by assumption))
end Go.Proofs.YtgedpfbokkambaaGreatDoor
end
section
/- Marks: alive. -/
namespace Go.Proofs.YtgedpfbokkambaaGreatDoor
open Go.RowKit
attribute [local go_sem] bs_size bs_extract bs_get bs_append bs_toList const_get
attribute [local irreducible] Calls
set_option maxHeartbeats 4000000
set_option maxRecDepth 100000
theorem lw_Take (P G M N : Int) (A : Option Addr) (k c : Nat) (xs : List Int) (l : List UInt8) (w : World) (hL : LwT w) (hA : RdI w A k c xs) :
    Calls Tryz.prog 9 #[mkV P G M N A k c, .string (bs l)] w fun e w' => ∃ v, e = .returned (.tuple #[.string (bs (takeV P G M N xs l).1), v]) ∧ Ext w w' ∧ Hid (ErrIs w' v (takeV P G M N xs l).2.1 (takeV P G M N xs l).2.2) := mk_Take P G M N A k c xs l w hL.tabs hL.sz hA
theorem av_alive (w : World) (hL : LwT w) : Calls Tryz.prog 6 #[] w fun e w' => e = .returned (.bool true) ∧ Ext w w' := by
  have k1 := Lib.hid (fun (A : Option Addr) (w' : World) (hE : Ext w w') (hA : RdI w' A 1 1 [3]) => show Calls Tryz.prog 18 #[mkV 44 46 45 48 A 1 1, .string ⟨#[45, 49, 50, 51, 52, 53, 54, 55, 46, 50, 53]⟩] w' (fun e w'' => ∃ v, e = .returned (.tuple #[.string (bs [45, 49, 46, 50, 51, 52, 46, 53, 54, 55, 44, 50, 53]), v]) ∧ Ext w' w'' ∧ Hid (ErrIs w'' v 0 0)) from by
    have h := mk_Put 44 46 45 48 A 1 1 [3] [45, 49, 50, 51, 52, 53, 54, 55, 46, 50, 53] w'  hA
    rw [av_p1] at h
    exact h)
  have k2 := Lib.hid (fun (A : Option Addr) (w' : World) (hE : Ext w w') (hA : RdI w' A 1 1 [3]) => show Calls Tryz.prog 9 #[mkV 44 46 45 48 A 1 1, .string (bs [45, 49, 46, 50, 51, 52, 46, 53, 54, 55, 44, 50, 53])] w' (fun e w'' => ∃ v, e = .returned (.tuple #[.string (bs [45, 49, 50, 51, 52, 53, 54, 55, 46, 50, 53]), v]) ∧ Ext w' w'' ∧ Hid (ErrIs w'' v 0 0)) from by
    have h := lw_Take 44 46 45 48 A 1 1 [3] [45, 49, 46, 50, 51, 52, 46, 53, 54, 55, 44, 50, 53] w' (hL.ext hE) hA
    rw [av_t1] at h
    exact h)
  have k3 := Lib.hid (fun (A : Option Addr) (w' : World) (hE : Ext w w') (hA : RdI w' A 2 2 [3, 2]) => show Calls Tryz.prog 18 #[mkV 46 44 8722 2406 A 2 2, .string ⟨#[49, 50, 51, 52, 53, 54, 55, 56, 46, 57]⟩] w' (fun e w'' => ∃ v, e = .returned (.tuple #[.string (bs [224, 165, 167, 44, 224, 165, 168, 224, 165, 169, 44, 224, 165, 170, 224, 165, 171, 44, 224, 165, 172, 224, 165, 173, 224, 165, 174, 46, 224, 165, 175]), v]) ∧ Ext w' w'' ∧ Hid (ErrIs w'' v 0 0)) from by
    have h := mk_Put 46 44 8722 2406 A 2 2 [3, 2] [49, 50, 51, 52, 53, 54, 55, 56, 46, 57] w'  hA
    rw [av_p2] at h
    exact h)
  have k4 := Lib.hid (fun (A : Option Addr) (w' : World) (hE : Ext w w') (hA : RdI w' A 1 1 [3]) => show Calls Tryz.prog 9 #[mkV 44 46 45 48 A 1 1, .string ⟨#[49, 46, 50, 51, 52, 46]⟩] w' (fun e w'' => ∃ v, e = .returned (.tuple #[.string (bs []), v]) ∧ Ext w' w'' ∧ Hid (ErrIs w'' v 231 5)) from by
    have h := lw_Take 44 46 45 48 A 1 1 [3] [49, 46, 50, 51, 52, 46] w' (hL.ext hE) hA
    rw [av_t2] at h
    exact h)
  have k5 := Lib.hid (fun (w' : World) => show Calls Tryz.prog 16 #[.string ⟨#[97, 224, 165, 166, 255]⟩] w' (fun e w'' => e = .returned (.int .i64 3) ∧ Ext w' w'') from by
    have h := mk_Width (bs [97, 224, 165, 166, 255]) w' (by decide)
    rw [av_w] at h
    exact h)
  go_enter Tryz.func6, Tryz.ntmps6
  go_upto_region 2 with (first
    | (go_at_call 20; (with_reducible refine (av_german _).mono ?_); rintro e w1 ⟨A1, rfl, hE1, hA1⟩)
    | (go_at_call 18; (with_reducible refine (k1.out A1 _ (hE1) hA1.out).mono ?_); rintro e w2 ⟨v2, rfl, hE2, hV2⟩))
  obtain rfl := errV_no hV2.out
  go_upto_region 3 with (first
    | (go_at_call 20; (with_reducible refine (av_german _).mono ?_); rintro e w3 ⟨A3, rfl, hE3, hA3⟩)
    | (go_at_call 9; (with_reducible refine (k2.out A3 _ (ext_trans hE1 (ext_trans hE2 (hE3))) hA3.out).mono ?_); rintro e w4 ⟨v4, rfl, hE4, hV4⟩))
  obtain rfl := errV_no hV4.out
  go_upto_region 4 with (first
    | (go_at_call 21; (with_reducible refine (av_indian _).mono ?_); rintro e w5 ⟨A5, rfl, hE5, hA5⟩)
    | (go_at_call 18; (with_reducible refine (k3.out A5 _ (ext_trans hE1 (ext_trans hE2 (ext_trans hE3 (ext_trans hE4 (hE5))))) hA5.out).mono ?_); rintro e w6 ⟨v6, rfl, hE6, hV6⟩))
  obtain rfl := errV_no hV6.out
  go_upto_region 5 with (first
    | (go_at_call 20; (with_reducible refine (av_german _).mono ?_); rintro e w7 ⟨A7, rfl, hE7, hA7⟩)
    | (go_at_call 9; (with_reducible refine (k4.out A7 _ (ext_trans hE1 (ext_trans hE2 (ext_trans hE3 (ext_trans hE4 (ext_trans hE5 (ext_trans hE6 (hE7))))))) hA7.out).mono ?_); rintro e w8 ⟨v8, rfl, hE8, hV8⟩))
  have kf := Lib.hid (fa_fault v8 231 5 w8 (hL.ext (ext_trans hE1 (ext_trans hE2 (ext_trans hE3 (ext_trans hE4 (ext_trans hE5 (ext_trans hE6 (ext_trans hE7 (hE8))))))))) hV8.out (by decide))
  obtain ⟨b, rfl, hb⟩ := errV_of hV8.out (by decide)
  go_upto_region 6 with (first
    | (go_at_call 10; (with_reducible refine (kf.out).mono ?_); rintro e w9 ⟨rfl, hE9⟩))
  go_wp2_with (first
    | (go_at_call 16; (with_reducible refine (k5.out _).mono ?_); rintro e w10 ⟨rfl, hE10⟩))
  refine bodyPost_ret (v := .bool true) ?h rfl ⟨rfl, (ext_trans hE1 (ext_trans hE2 (ext_trans hE3 (ext_trans hE4 (ext_trans hE5 (ext_trans hE6 (ext_trans hE7 (ext_trans hE8 ((ext_trans hE9 (ext_trans (ext_alloc (ext_refl _) _) hE10)))))))))))⟩
  case h => simp [results, Tryz.results6, go_sem]
end Go.Proofs.YtgedpfbokkambaaGreatDoor
end
section
/- Marks: ints behind ints; marks that are lent. -/
namespace Go.Proofs.YtgedpfbokkambaaGreatDoor
open Go.RowKit
attribute [local go_sem] sz2 sz3 sz4 sz5 sz6 sz7 sz8
attribute [local irreducible] Calls
set_option maxHeartbeats 4000000
set_option maxRecDepth 100000
theorem push_ints {ops : Array Oper} {rest : List Oper} {o : Oper} {a : Act} {Q : Exit → Act → World → Prop} {w : World} (hgd : o.guard = none) (s x : Operand)
    (ho : o.op = .call { callee := .builtin .append, args := #[s, x], argTypes := #[22, 22] })
    {W : World} (hW : Ext W w) {base : Nat} (hbase : W.heap.size ≤ base) (hsz0 : base ≤ w.heap.size) {v : Value} {n : Nat} {xs : List Int} (hown : OwnI w base v n xs) (hs : a.eval s = v)
    {b off : Nat} {m c : Nat} {ys : List Int} (h2 : RdI w (some ⟨b, off, none⟩) m c ys) (hx : a.eval x = .slice (some ⟨b, off, none⟩) m c) (hn : (n + m) * 8 ≤ 140737488355328)
    (h : ∀ v' w', Ext W w' → Hid (OwnI w' base v' (n + m) (xs ++ ys)) → wpList Tryz.prog ops Q rest (a.put o.dst v') w') : wpList Tryz.prog ops Q (o :: rest) a w := by
  obtain ⟨i, hi, hz, hsz, hby⟩ := info_parts ints_info
  have hyl : ys.length = m := h2.len
  refine wpList_append_own _ hgd s x _ ho base 3 i _ 1 8 ints_under hi hz hsz hby rfl (by decide) v n _ hs hown ⟨b, off, none⟩ m c (ys.map iV) hx (by simpa using hyl) ?_ ?_ ?_ hn hsz0 ?_
  · intro j u hj
    have hj' : j < ys.length := by
      have := (List.getElem?_eq_some_iff.1 hj).1
      simpa using this
    have h3 := (h2.cells b off rfl j hj').2
    have e : Addr.add ⟨b, off, none⟩ j = ⟨b, off + j, none⟩ := by unfold Addr.add; split <;> simp_all
    rw [e, h3]
    rw [List.getElem?_map, List.getElem?_eq_getElem hj'] at hj
    simpa using hj
  · intro u hu
    obtain ⟨z, _, rfl⟩ := List.mem_map.1 hu
    rfl
  · unfold maxLen; omega
  · intro v' w' ho' hg _
    refine h v' w' (ext_grown hW hown hbase hg) ?_
    show World.ownsRow _ _ _ _ _ _ _
    simpa using ho'
/-- Two ints of the text behind ints. -/
theorem push_two {ops : Array Oper} {rest : List Oper} {o : Oper} {a : Act} {Q : Exit → Act → World → Prop} {w : World} (hgd : o.guard = none) (s x : Operand)
    (ho : o.op = .call { callee := .builtin .append, args := #[s, x], argTypes := #[22, 22] })
    {W : World} {w0 : World} (y z : Int) (hw : w = w0.alloc (.cells #[iV y, iV z] 3)) (hW : Ext W w0) {base : Nat} (hbase : W.heap.size ≤ base) (hsz0 : base ≤ w0.heap.size) {v : Value} {n : Nat} {xs : List Int} (hown : OwnI w0 base v n xs) (hs : a.eval s = v)
    (H : Nat) (hH : H = w0.heap.size) (c : Nat) (hx : a.eval x = .slice (some ⟨H, 0, none⟩) 2 c) (hn : (n + 2) * 8 ≤ 140737488355328)
    (h : ∀ v' w', Ext W w' → Hid (OwnI w' base v' (n + 2) (xs ++ [y, z])) → wpList Tryz.prog ops Q rest (a.put o.dst v') w') : wpList Tryz.prog ops Q (o :: rest) a w := by
  obtain ⟨i, hi, hz, hsz, hby⟩ := info_parts ints_info
  subst hw hH
  refine wpList_append_own _ hgd s x _ ho base 3 i _ 1 8 ints_under hi hz hsz hby rfl (by decide) v n _ hs (hown.alloc _) ⟨w0.heap.size, 0, none⟩ 2 c [iV y, iV z] hx rfl ?_ ?_ ?_ hn ?_ ?_
  · intro j u hj
    match j, hj with
    | 0, hj => simp at hj; subst hj; simp [Addr.add]
    | 1, hj => simp at hj; subst hj; simp [Addr.add]
  · intro u hu; simp at hu; rcases hu with rfl | rfl <;> rfl
  · unfold maxLen; omega
  · simp; omega
  · intro v' w' ho' hg _
    refine h v' w' (ext_grown (ext_alloc hW _) (hown.alloc _) hbase hg) ?_
    show World.ownsRow _ _ _ _ _ _ _
    simpa using ho'
theorem own_emptyI (w0 : World) (e : TypeId) : (w0.alloc (Obj.cells #[] e)).ownsRow w0.heap.size e 1 (.slice (some ⟨w0.heap.size, 0, none⟩) 0 0) 0 [] := by
  exact ⟨by simp, .inr ⟨w0.heap.size, 0, #[], rfl, Nat.le_refl _, by show (w0.heap.push _)[w0.heap.size]? = _; exact Array.getElem?_push_size, Nat.le_refl _, by decide, by decide, rfl⟩⟩
theorem own_cap {w : World} {base : Nat} {e : TypeId} {size n : Nat} {A : Option Addr} {m c : Nat} {xs : List Value} (h : w.ownsRow base e size (.slice A m c) n xs) : n ≤ c := by
  rcases h.2 with ⟨e, rfl⟩ | ⟨g, cap, cur, e, _, _, hc, _⟩
  · omega
  · cases e; exact hc
theorem own_mx {w : World} {base : Nat} {e : TypeId} {size n : Nat} {A : Option Addr} {m c : Nat} {xs : List Value} (h : w.ownsRow base e size (.slice A m c) n xs) : c ≤ 9223372036854775807 := by
  rcases h.2 with ⟨e, rfl⟩ | ⟨g, cap, cur, e, _, _, _, hc, _⟩
  · cases e; omega
  · cases e; simpa [maxLen] using hc
theorem own_putI {w : World} {base : Nat} {e : TypeId} {size n c m : Nat} {A : Option Addr} {xs : List Value} (h : w.ownsRow base e size (.slice A m c) n xs) {p : Addr} (u : Value) (hne : ∀ a, A = some a → ¬ a.block = p.block) : (w.setCell p u).ownsRow base e size (.slice A m c) n xs := by
  obtain ⟨h1, h2⟩ := h
  refine ⟨h1, ?_⟩
  rcases h2 with h2 | ⟨g, cap, cur, he, h0, h3, h4⟩
  · exact .inl h2
  · refine .inr ⟨g, cap, cur, he, h0, ?_, h4⟩
    have h5 := hne ⟨g, 0, none⟩ (by simp only [Value.slice.injEq] at he; exact he.1)
    exact (Go.Deep.blk_setCell_other w p u g h5).trans h3
/-- Lent sizes: marks of one's own, two ints behind them. -/
abbrev LentI (w : World) (g n c : Nat) (xs : List Int) : Prop := OwnI w 0 (.slice (some ⟨g, 0, none⟩) (n + 2) c) (n + 2) (xs ++ [77, 78])
theorem lw_lent (P G M N : Int) (A : Option Addr) (k c : Nat) (xs : List Int) (w : World) (hA : RdI w A k c xs) (hc : c * 8 ≤ 140737488351232) :
    Calls Tryz.prog 8 #[mkV P G M N A k c] w fun e w' => ∃ g d, e = .returned (mkV P G M N (some ⟨g, 0, none⟩) k d) ∧ Ext w w' ∧ Hid (w.heap.size ≤ g) ∧ Hid (LentI w' g k d xs) := by
  have hcap := hA.cap
  have hmx := hA.mx
  have HA := Lib.hid hA
  rcases hA.shape with ⟨rfl, rfl, rfl, rfl⟩ | ⟨b, off, rfl⟩
  · have hX2 := Lib.hid (show Ext w ((w.alloc (BoxM P G M N none 0 0)).alloc (BoxM 0 0 0 0 none 0 0)) from ext_alloc (ext_alloc (ext_refl w) _) _)
    have hXr := Lib.hid (ext_refl ((w.alloc (BoxM P G M N none 0 0)).alloc (BoxM 0 0 0 0 none 0 0)))
    have hz2 : ((w.alloc (BoxM P G M N none 0 0)).alloc (BoxM 0 0 0 0 none 0 0)).heap.size = w.heap.size + 1 + 1 := by simp
    have hE0 := Lib.hid (own_emptyI ((w.alloc (BoxM P G M N none 0 0)).alloc (BoxM 0 0 0 0 none 0 0)) 3)
    rw [hz2] at hE0
    have b1 := Lib.hid (show MkAt ((w.alloc (BoxM P G M N none 0 0)).alloc (BoxM 0 0 0 0 none 0 0)) w.heap.size P G M N none 0 0 from (MkAt.made w P G M N none 0 0).ext (ext_alloc (ext_refl _) _))
    have b2 := Lib.hid (show MkAt ((w.alloc (BoxM P G M N none 0 0)).alloc (BoxM 0 0 0 0 none 0 0)) (w.heap.size + 1) 0 0 0 0 none 0 0 from by have := MkAt.made (w.alloc (BoxM P G M N none 0 0)) 0 0 0 0 none 0 0; rw [show (w.alloc (BoxM P G M N none 0 0)).heap.size = w.heap.size + 1 by simp] at this; exact this)
    have f1 := Lib.hid (show ∀ o, ((w.alloc (BoxM P G M N none 0 0)).alloc (BoxM 0 0 0 0 none 0 0)).frozen? ⟨w.heap.size, o, none⟩ = false from fun o => by simp [go_sem])
    have f2 := Lib.hid (show ∀ o, ((w.alloc (BoxM P G M N none 0 0)).alloc (BoxM 0 0 0 0 none 0 0)).frozen? ⟨w.heap.size + 1, o, none⟩ = false from fun o => by simp [go_sem])
    clear hA
    go_enter Tryz.func8, Tryz.ntmps8
    go_upto_region 2 with (first
      | (go_at_call 19; skip))
    obtain ⟨w4, hw4⟩ : ∃ u, u = ((w.alloc (BoxM P G M N none 0 0)).alloc (BoxM 0 0 0 0 none 0 0)).alloc (Obj.cells #[] 3) := ⟨_, rfl⟩
    rw [← hw4]
    have hx4 : Ext ((w.alloc (BoxM P G M N none 0 0)).alloc (BoxM 0 0 0 0 none 0 0)) w4 := by rw [hw4]; exact ext_alloc hXr.out _
    have ho4 : Hid (OwnI w4 (w.heap.size + 1 + 1) (.slice (some ⟨w.heap.size + 1 + 1, 0, none⟩) 0 0) 0 []) := by rw [hw4]; exact hE0
    clear hw4 hE0
    have hs4 := ext_size hx4
    rw [hz2] at hs4
    obtain ⟨p0, p1, p2, p3, p4, pl⟩ := b1.out.ext hx4
    go_upto_region 3 with (first
      | (at_builtin; refine push_two rfl _ _ rfl 77 78 rfl hx4 (base := w.heap.size + 1 + 1) (by simp) hs4 ho4.out rfl w4.heap.size rfl _ rfl (by omega) ?_; intro v5 w5 hx5 ho5))
    obtain ⟨g, d, rfl, hg1, hg2, hgc⟩ := own_get ho5.out (by omega)
    obtain ⟨p0, p1, p2, p3, p4, pl⟩ := b1.out.ext hx5
    obtain ⟨q0, q1, q2, q3, q4, ql⟩ := b2.out.ext hx5
    have fp := fun o => (Below.frozen (p := ⟨w.heap.size, o, none⟩) hx5 (by simp; omega)).trans (f1.out o)
    have fq := fun o => (Below.frozen (p := ⟨w.heap.size + 1, o, none⟩) hx5 (by simp)).trans (f2.out o)
    have hne : ¬ g = w.heap.size := by omega
    have hne1 : ¬ g = w.heap.size + 1 := by omega
    have hkd : 0 + 2 ≤ d := own_cap ho5.out
    have hmd := own_mx ho5.out
    go_wp2
    refine bodyPost_ret (v := mkV P G M N (some ⟨g, 0, none⟩) 0 d) ?h rfl ⟨g, d, rfl, ?_, Lib.hid (by omega), ?_⟩
    case h => simp [results, Tryz.results8, go_sem, p0, p1, p2, p3, p4, q0, q1, q2, q3, q4]
    · have e5 := ext_trans hX2.out hx5
      repeat (first | refine ext_setCell ?_ (by simp) _ | exact e5)
    · show World.ownsRow _ _ _ _ _ _ _
      have h5 := own_zero ho5.out
      repeat (first | refine own_putI ?_ _ (fun a ha => by cases ha; simp only; omega) | exact h5)
  · have hX2 := Lib.hid (show Ext w ((w.alloc (BoxM P G M N (some ⟨b, off, none⟩) k c)).alloc (BoxM 0 0 0 0 none 0 0)) from ext_alloc (ext_alloc (ext_refl w) _) _)
    have hXr := Lib.hid (ext_refl ((w.alloc (BoxM P G M N (some ⟨b, off, none⟩) k c)).alloc (BoxM 0 0 0 0 none 0 0)))
    have hz2 : ((w.alloc (BoxM P G M N (some ⟨b, off, none⟩) k c)).alloc (BoxM 0 0 0 0 none 0 0)).heap.size = w.heap.size + 1 + 1 := by simp
    have hE0 := Lib.hid (own_emptyI ((w.alloc (BoxM P G M N (some ⟨b, off, none⟩) k c)).alloc (BoxM 0 0 0 0 none 0 0)) 3)
    rw [hz2] at hE0
    have b1 := Lib.hid (show MkAt ((w.alloc (BoxM P G M N (some ⟨b, off, none⟩) k c)).alloc (BoxM 0 0 0 0 none 0 0)) w.heap.size P G M N (some ⟨b, off, none⟩) k c from (MkAt.made w P G M N (some ⟨b, off, none⟩) k c).ext (ext_alloc (ext_refl _) _))
    have b2 := Lib.hid (show MkAt ((w.alloc (BoxM P G M N (some ⟨b, off, none⟩) k c)).alloc (BoxM 0 0 0 0 none 0 0)) (w.heap.size + 1) 0 0 0 0 none 0 0 from by have := MkAt.made (w.alloc (BoxM P G M N (some ⟨b, off, none⟩) k c)) 0 0 0 0 none 0 0; rw [show (w.alloc (BoxM P G M N (some ⟨b, off, none⟩) k c)).heap.size = w.heap.size + 1 by simp] at this; exact this)
    have f1 := Lib.hid (show ∀ o, ((w.alloc (BoxM P G M N (some ⟨b, off, none⟩) k c)).alloc (BoxM 0 0 0 0 none 0 0)).frozen? ⟨w.heap.size, o, none⟩ = false from fun o => by simp [go_sem])
    have f2 := Lib.hid (show ∀ o, ((w.alloc (BoxM P G M N (some ⟨b, off, none⟩) k c)).alloc (BoxM 0 0 0 0 none 0 0)).frozen? ⟨w.heap.size + 1, o, none⟩ = false from fun o => by simp [go_sem])
    clear hA
    go_enter Tryz.func8, Tryz.ntmps8
    go_upto_region 2 with (first
      | (at_builtin; refine push_ints rfl _ _ rfl (ext_alloc hXr.out _) (base := w.heap.size + 1 + 1) (by simp) (by simp) (xs := []) hE0.out rfl (HA.out.ext (ext_alloc hX2.out _)) rfl (by omega) ?_; intro v4 w4 hx4 ho4))
    rw [Nat.zero_add, List.nil_append] at ho4
    have hs4 := ext_size hx4
    rw [hz2] at hs4
    obtain ⟨p0, p1, p2, p3, p4, pl⟩ := b1.out.ext hx4
    go_upto_region 3 with (first
      | (at_builtin; refine push_two rfl _ _ rfl 77 78 rfl hx4 (base := w.heap.size + 1 + 1) (by simp) hs4 ho4.out rfl w4.heap.size rfl _ rfl (by omega) ?_; intro v5 w5 hx5 ho5))
    obtain ⟨g, d, rfl, hg1, hg2, hgc⟩ := own_get ho5.out (by omega)
    obtain ⟨p0, p1, p2, p3, p4, pl⟩ := b1.out.ext hx5
    obtain ⟨q0, q1, q2, q3, q4, ql⟩ := b2.out.ext hx5
    have fp := fun o => (Below.frozen (p := ⟨w.heap.size, o, none⟩) hx5 (by simp; omega)).trans (f1.out o)
    have fq := fun o => (Below.frozen (p := ⟨w.heap.size + 1, o, none⟩) hx5 (by simp)).trans (f2.out o)
    have hne : ¬ g = w.heap.size := by omega
    have hne1 : ¬ g = w.heap.size + 1 := by omega
    have hkd : k + 2 ≤ d := own_cap ho5.out
    have hmd := own_mx ho5.out
    go_wp2
    refine bodyPost_ret (v := mkV P G M N (some ⟨g, 0, none⟩) k d) ?h rfl ⟨g, d, rfl, ?_, Lib.hid (by omega), ?_⟩
    case h => simp [results, Tryz.results8, go_sem, p0, p1, p2, p3, p4, q0, q1, q2, q3, q4]
    · have e5 := ext_trans hX2.out hx5
      repeat (first | refine ext_setCell ?_ (by simp) _ | exact e5)
    · show World.ownsRow _ _ _ _ _ _ _
      have h5 := own_zero ho5.out
      repeat (first | refine own_putI ?_ _ (fun a ha => by cases ha; simp only; omega) | exact h5)
end Go.Proofs.YtgedpfbokkambaaGreatDoor
end
section
/- Marks: the document's answer: the runes of a text, each with its place. -/
namespace Go.Proofs.YtgedpfbokkambaaGreatDoor
open Go.RowKit
attribute [local go_sem] bs_size bs_extract bs_get bs_append bs_toList const_get
attribute [local irreducible] Calls
set_option maxHeartbeats 4000000
set_option maxRecDepth 100000
/-- A rune as the document has it: a broken byte is -1. -/
def zR (p : Int × Nat) : Int := if p.1 = 65533 ∧ p.2 = 1 then -1 else p.1
/-- The places of runes. -/
def posL : List (Int × Nat) → Nat → List Int
  | [], _ => []
  | (_, n) :: R, i => (i : Int) :: posL R (i + n)
theorem posL_len : ∀ (R : List (Int × Nat)) (i : Nat), (posL R i).length = R.length
  | [], _ => rfl
  | (_, n) :: R, i => by rw [posL, List.length_cons, posL_len R, List.length_cons]
theorem posL_app : ∀ (R S : List (Int × Nat)) (i : Nat), posL (R ++ S) i = posL R i ++ posL S (i + (R.map Prod.snd).sum)
  | [], S, i => by simp [posL]
  | (_, n) :: R, S, i => by rw [List.cons_append, posL, posL, posL_app R S, List.cons_append]; simp [Nat.add_assoc]
theorem rns_rune {l : List UInt8} {r : Int} {n : Nat} {R : List (Int × Nat)} (h : l ≠ []) (e : rns l = (r, n) :: R) : r = ((Lib.decodeL l).1 : Int) ∧ n = (Lib.decodeL l).2 ∧ rns (l.drop n) = R := by
  rw [rns_cons l h] at e
  simp only [List.cons.injEq, Prod.mk.injEq] at e
  obtain ⟨⟨h1, h2⟩, h3⟩ := e
  exact ⟨h1.symm, h2.symm, by rw [← h2]; exact h3⟩
theorem apart_ri {w : World} {b1 b2 n1 n2 : Nat} {v1 v2 : Value} {xs ys : List Int} (h : OwnR w b1 v1 n1 xs) (k : OwnI w b2 v2 n2 ys) {g : Nat} (q : v1.ownBlock = some g) : v2.ownBlock ≠ some g := fun q2 => by
  obtain ⟨_, c1, h3⟩ := own_at_block h q
  obtain ⟨_, c2, h4⟩ := own_at_block k q2
  rw [h3] at h4; cases h4
theorem keep_i {w w' : World} {b1 b2 n1 n2 : Nat} {v1 v2 : Value} {xs ys : List Int} (h : OwnR w b1 v1 n1 xs) (k : OwnI w b2 v2 n2 ys) (hK : ∀ b q, w.heap[b]? = some q → v1.ownBlock ≠ some b → w'.heap[b]? = some q) : OwnI w' b2 v2 n2 ys :=
  own_keep k (fun g hg => by
    obtain ⟨_, cu, h3⟩ := own_at_block k hg
    exact (hK _ _ h3 (fun q => apart_ri h k q hg)).trans h3.symm)
theorem keep_r {w w' : World} {b1 b2 n1 n2 : Nat} {v1 v2 : Value} {xs ys : List Int} (h : OwnR w b1 v1 n1 xs) (k : OwnI w b2 v2 n2 ys) (hK : ∀ b q, w.heap[b]? = some q → v2.ownBlock ≠ some b → w'.heap[b]? = some q) : OwnR w' b1 v1 n1 xs :=
  own_keep h (fun g hg => by
    obtain ⟨_, cu, h3⟩ := own_at_block h hg
    exact (hK _ _ h3 (apart_ri h k hg)).trans h3.symm)
theorem md_runes (l : List UInt8) (hl : l.length ≤ 100000000) (w : World) (hT : LwT w) :
    Calls Tryz.prog 31 #[.string (bs l)] w fun e w' => ∃ v1 v2, e = .returned (.tuple #[v1, v2]) ∧ Ext w w' ∧ Hid (OwnR w' w.heap.size v1 (rns l).length ((rns l).map zR)) ∧ Hid (OwnI w' w.heap.size v2 ((rns l).length + 1) (posL (rns l) 0 ++ [(l.length : Int)])) := by
  have HT := Lib.hid hT
  clear hT
  go_enter Tryz.func31, Tryz.ntmps31
  go_wp2
  go_loopw [4, 5, 6] (fun vl vp vi wr => ∃ (i : Nat) (R1 R2 : List (Int × Nat)), i ≤ l.length ∧ R1.length ≤ i ∧ vi = .int .i64 i ∧ Hid (rns l = R1 ++ R2) ∧ Hid ((R1.map Prod.snd).sum = i) ∧ Hid (rns (l.drop i) = R2) ∧ Hid (OwnR wr w.heap.size vl R1.length (R1.map zR)) ∧ Hid (OwnI wr w.heap.size vp R1.length (posL R1 0)) ∧ Hid (Ext w wr)) (fun _ _ vi _ => l.length - (intOf vi).toNat)
  case atStart => exact ⟨0, [], rns l, Nat.zero_le _, Nat.le_refl _, rfl, rfl, rfl, by rw [List.drop_zero]; exact rfl, ⟨rfl, .inl ⟨rfl, rfl⟩⟩, ⟨rfl, .inl ⟨rfl, rfl⟩⟩, ext_refl _⟩
  case round =>
    obtain ⟨i, R1, R2, hi, hR1, rfl, hRs, hsum, hrest, hO, hC, hE⟩ := hrel
    have hsz := ext_size hE.out
    by_cases hlt : i < l.length
    · have hlt' : (i : Int) < (l.length : Int) := by omega
      have hne : l.drop i ≠ [] := fun e => by
        have := congrArg List.length e
        rw [List.length_drop] at this; simp at this; omega
      obtain ⟨r, n, R3, hR2⟩ : ∃ r n R3, R2 = (r, n) :: R3 := by
        rw [← hrest.out, rns_cons _ hne]; exact ⟨_, _, _, rfl⟩
      subst hR2
      obtain ⟨h1, h2, h3⟩ := rns_rune hne hrest.out
      have kd := Lib.hid (mk_decode (l.drop i) hne wr ((HT.out.ext hE.out).tabs))
      rw [← h1, ← h2] at kd
      have hn1 : 1 ≤ n := by rw [h2]; exact Lib.decodeL_width _
      have hn2 : n ≤ l.length - i := by rw [h2, ← List.length_drop]; exact Lib.decodeL_le _ hne
      have hr1 : 0 ≤ r ∧ r ≤ 1114111 := by rw [h1]; have := Lib.decodeL_rune (l.drop i); omega
      have hfin : ∀ (vo vc : Value) (w9 : World), Ext w w9 → Hid (OwnR w9 w.heap.size vo (R1.length + 1) (R1.map zR ++ [zR (r, n)])) → Hid (OwnI w9 w.heap.size vc (R1.length + 1) (posL R1 0 ++ [(i : Int)])) →
          ∃ (i' : Nat) (R1' R2' : List (Int × Nat)), i' ≤ l.length ∧ R1'.length ≤ i' ∧ Value.int IntKind.i64 ((i : Int) + (n : Int)) = .int .i64 i' ∧ Hid (rns l = R1' ++ R2') ∧ Hid ((R1'.map Prod.snd).sum = i') ∧ Hid (rns (l.drop i') = R2') ∧ Hid (OwnR w9 w.heap.size vo R1'.length (R1'.map zR)) ∧ Hid (OwnI w9 w.heap.size vc R1'.length (posL R1' 0)) ∧ Hid (Ext w w9) := fun vo vc w9 g1 g2 g3 =>
        ⟨i + n, R1 ++ [(r, n)], R3, by omega, by rw [List.length_append]; simp; omega, by congr 1, by show _ = _; rw [hRs.out]; simp, by show _ = _; rw [List.map_append, List.sum_append, hsum.out]; simp, by show _ = _; rw [← List.drop_drop]; exact h3,
          by have := g2.out; show World.ownsRow _ _ _ _ _ _ _; rw [List.length_append, List.map_append]; exact this,
          by have := g3.out; show World.ownsRow _ _ _ _ _ _ _; rw [List.length_append, posL_app, Nat.zero_add, hsum.out]; exact this, g1⟩
      have HF := Lib.hid hfin
      have hds : (l.drop i).length = l.length - i := List.length_drop
      have hexd : (bs l).extract i l.length = bs (l.drop i) := by rw [bs_extract, List.take_of_length_le (Nat.le_refl _)]
      clear hfin hRs hsum hrest h1 h2 h3
      by_cases hb : r = 65533 ∧ n = 1
      · obtain ⟨rfl, rfl⟩ := hb
        have hz : zR (65533, 1) = -1 := rfl
        rw [hz] at HF
        go_wp2_with (first
          | (go_at_call 42; (with_reducible refine (kd.out).mono ?_); rintro e w1 ⟨rfl, hE1⟩; have hX1 := ext_trans hE.out hE1; have hs1 := ext_size hX1; have hO1 := own_ext hO.out hE1; have hC1 := own_ext hC.out hE1)
          | (at_builtin; refine push_i32h rfl _ _ rfl _ rfl hX1 (Nat.le_refl _) hs1 hO1 rfl (-1) ⟨_, 0, none⟩ 1 rfl (by simp [go_sem, rV]; done) (by omega) ?_; intro v2 w2 hE2 hO2 hK2 _; have hs2 := ext_size hE2; have hC2 := keep_i hO1 hC1 hK2.out)
          | (at_builtin; refine push_intg rfl _ _ rfl _ rfl hE2 (Nat.le_refl _) hs2 hC2 rfl (i : Int) ⟨_, 0, none⟩ 1 rfl (by simp [go_sem, iV]; done) (by omega) ?_; intro v3 w3 hE3 hC3 hK3 _; have hO3 := Lib.hid (keep_r hO2.out hC2 hK3.out)))
        exact ⟨HF.out _ _ _ hE3 hO3 hC3, by simp [intOf] <;> omega⟩
      · have hz : zR (r, n) = r := by unfold zR; rw [if_neg hb]
        rw [hz] at HF
        by_cases hr : r = 65533
        · have q1 : (r == 65533) = true := by simpa using hr
          have hnn : ¬ n = 1 := fun q => hb ⟨hr, q⟩
          have q2 : ((n : Int) == 1) = false := by simp; omega
          clear hb hr
          go_wp2_with (first
            | (go_at_call 42; (with_reducible refine (kd.out).mono ?_); rintro e w1 ⟨rfl, hE1⟩; have hX1 := ext_trans hE.out hE1; have hs1 := ext_size hX1; have hO1 := own_ext hO.out hE1; have hC1 := own_ext hC.out hE1)
            | (at_builtin; refine push_i32h rfl _ _ rfl _ rfl hX1 (Nat.le_refl _) hs1 hO1 rfl (r) ⟨_, 0, none⟩ 1 rfl (by simp [go_sem, rV]; done) (by omega) ?_; intro v2 w2 hE2 hO2 hK2 _; have hs2 := ext_size hE2; have hC2 := keep_i hO1 hC1 hK2.out)
            | (at_builtin; refine push_intg rfl _ _ rfl _ rfl hE2 (Nat.le_refl _) hs2 hC2 rfl (i : Int) ⟨_, 0, none⟩ 1 rfl (by simp [go_sem, iV]; done) (by omega) ?_; intro v3 w3 hE3 hC3 hK3 _; have hO3 := Lib.hid (keep_r hO2.out hC2 hK3.out)))
          exact ⟨HF.out _ _ _ hE3 hO3 hC3, by simp [intOf] <;> omega⟩
        · have q1 : (r == 65533) = false := by simpa using hr
          clear hb
          go_wp2_with (first
            | (go_at_call 42; (with_reducible refine (kd.out).mono ?_); rintro e w1 ⟨rfl, hE1⟩; have hX1 := ext_trans hE.out hE1; have hs1 := ext_size hX1; have hO1 := own_ext hO.out hE1; have hC1 := own_ext hC.out hE1)
            | (at_builtin; refine push_i32h rfl _ _ rfl _ rfl hX1 (Nat.le_refl _) hs1 hO1 rfl (r) ⟨_, 0, none⟩ 1 rfl (by simp [go_sem, rV]; done) (by omega) ?_; intro v2 w2 hE2 hO2 hK2 _; have hs2 := ext_size hE2; have hC2 := keep_i hO1 hC1 hK2.out)
            | (at_builtin; refine push_intg rfl _ _ rfl _ rfl hE2 (Nat.le_refl _) hs2 hC2 rfl (i : Int) ⟨_, 0, none⟩ 1 rfl (by simp [go_sem, iV]; done) (by omega) ?_; intro v3 w3 hE3 hC3 hK3 _; have hO3 := Lib.hid (keep_r hO2.out hC2 hK3.out)))
          exact ⟨HF.out _ _ _ hE3 hO3 hC3, by simp [intOf] <;> omega⟩
    · obtain rfl : i = l.length := by omega
      have hR2 : R2 = [] := by rw [← hrest.out, List.drop_of_length_le (Nat.le_refl _)]; rfl
      subst hR2
      have hRs' := hRs.out
      rw [List.append_nil] at hRs'
      have HRS := Lib.hid hRs'
      clear hRs hrest hRs' hsum
      obtain ⟨Ao, co, rfl⟩ := own_shape hO.out
      go_wp2_with (first
        | (at_builtin; refine push_intg rfl _ _ rfl _ rfl hE.out (Nat.le_refl _) hsz hC.out rfl (l.length : Int) ⟨_, 0, none⟩ 1 rfl (by simp [go_sem, iV]; done) (by omega) ?_; intro v3 w3 hE3 hC3 hK3 _; have hO3 := Lib.hid (keep_r hO.out hC.out hK3.out)))
      refine bodyPost_ret (v := .tuple #[.slice Ao R1.length co, v3]) ?h rfl ⟨_, _, rfl, hE3, by rw [HRS.out]; exact hO3, by rw [HRS.out]; exact hC3⟩
      case h => simp [results, Tryz.results31, go_sem]
end Go.Proofs.YtgedpfbokkambaaGreatDoor
end
section
/- Marks: lent marks that are as they were. -/
namespace Go.Proofs.YtgedpfbokkambaaGreatDoor
open Go.RowKit
attribute [local go_sem] sz2 sz3 sz4 sz5 sz6 sz7 sz8
attribute [local irreducible] Calls
set_option maxHeartbeats 4000000
set_option maxRecDepth 100000
theorem LentI.cell {w w' : World} {g n c : Nat} {xs : List Int} (h : LentI w g n c xs) (he : Ext w w') (i : Nat) (hi : i < n + 2) : w'.cell? ⟨g, i, none⟩ = some (.int .i64 ((xs ++ [77, 78]).getD i 0)) := by
  have hl : (xs ++ [77, 78]).length = n + 2 := by have := h.1; simp at this; simp; omega
  have h2 := (own_ext h he).cellAt i (by omega)
  rw [h2, List.getElem?_map, List.getElem?_eq_getElem (by omega : i < (xs ++ [77, 78]).length), List.getD_eq_getElem?_getD, List.getElem?_eq_getElem (by omega : i < (xs ++ [77, 78]).length)]
  rfl
theorem getD_left (xs : List Int) (n i : Nat) (hl : xs.length = n) (hi : i < n) : (xs ++ [77, 78]).getD i 0 = xs.getD i 0 := by
  rw [List.getD_eq_getElem?_getD, List.getD_eq_getElem?_getD, List.getElem?_append_left (by omega)]
theorem lw_kept (P G M N : Int) (g k d : Nat) (A : Option Addr) (c : Nat) (xs : List Int) (w : World) (hl : LentI w g k d xs) (hA : RdI w A k c xs) :
    Calls Tryz.prog 12 #[mkV P G M N (some ⟨g, 0, none⟩) k d, mkV P G M N A k c] w fun e w' => e = .returned (.bool true) ∧ Ext w w' := by
  have hgl : g < w.heap.size := own_lt hl rfl
  have hkd : k + 2 ≤ d := own_cap hl
  have hmd := own_mx hl
  have hxl := hA.len
  have hcap := hA.cap
  have hmx := hA.mx
  have e0 : Hid (Ext w ((w.alloc (BoxM P G M N (some ⟨g, 0, none⟩) k d)).alloc (BoxM P G M N A k c))) := ext_alloc (ext_alloc (ext_refl w) _) _
  have b1 := Lib.hid (show MkAt ((w.alloc (BoxM P G M N (some ⟨g, 0, none⟩) k d)).alloc (BoxM P G M N A k c)) w.heap.size P G M N (some ⟨g, 0, none⟩) k d from (MkAt.made w P G M N (some ⟨g, 0, none⟩) k d).ext (ext_alloc (ext_refl _) _))
  have b2 := Lib.hid (show MkAt ((w.alloc (BoxM P G M N (some ⟨g, 0, none⟩) k d)).alloc (BoxM P G M N A k c)) (w.heap.size + 1) P G M N A k c from by have := MkAt.made (w.alloc (BoxM P G M N (some ⟨g, 0, none⟩) k d)) P G M N A k c; rw [show (w.alloc (BoxM P G M N (some ⟨g, 0, none⟩) k d)).heap.size = w.heap.size + 1 by simp] at this; exact this)
  have HL := Lib.hid (fun w' (h : Ext w w') i (hi : i < k + 2) => hl.cell h i hi)
  have HX := Lib.hid (fun w' (hw : Ext w w') b off (h : A = some ⟨b, off, none⟩) (i : Nat) (hi : i < k) => show b < w.heap.size ∧ w'.cell? ⟨b, off + i, none⟩ = some (.int .i64 (xs.getD i 0)) from by
    obtain ⟨h1, h2⟩ := (hA.ext hw).cells b off h i (by omega)
    obtain ⟨h3, _⟩ := hA.cells b off h i (by omega)
    refine ⟨h3, ?_⟩
    rw [h2, List.getD_eq_getElem?_getD, List.getElem?_eq_getElem (by omega : i < xs.length)]; rfl)
  have hsh := hA.shape
  have l77 := fun w' (h : Ext w w') => HL.out w' h k (by omega)
  have l78 := fun w' (h : Ext w w') => HL.out w' h (k + 1) (by omega)
  rw [List.getD_eq_getElem?_getD, List.getElem?_append_right (by omega), hxl, Nat.sub_self] at l77
  rw [List.getD_eq_getElem?_getD, List.getElem?_append_right (by omega), hxl, Nat.add_sub_cancel_left] at l78
  simp only [List.getElem?_cons_zero, List.getElem?_cons_succ, Option.getD_some] at l77 l78
  have hne : ¬ g = w.heap.size := by omega
  have hne1 : ¬ g = w.heap.size + 1 := by omega
  have L77 := Lib.hid l77
  have L78 := Lib.hid l78
  have GL := Lib.hid (fun i (hi : i < k) => getD_left xs k i hxl hi)
  clear hl hA l77 l78
  go_enter Tryz.func12, Tryz.ntmps12
  go_wp2
  go_loopw [5] (fun v wr => ∃ i : Nat, i ≤ k ∧ v = .int .i64 (i : Int) ∧ Hid (Ext ((w.alloc (BoxM P G M N (some ⟨g, 0, none⟩) k d)).alloc (BoxM P G M N A k c)) wr)) (fun v _ => k - (intOf v).toNat)
  case atStart => exact ⟨0, Nat.zero_le _, by go_num, ext_refl _⟩
  case round =>
    obtain ⟨i, hi, rfl, hE⟩ := hrel
    have hEw := ext_trans e0.out hE.out
    obtain ⟨p0, p1, p2, p3, p4, pl⟩ := b1.out.ext hE.out
    obtain ⟨q0, q1, q2, q3, q4, ql⟩ := b2.out.ext hE.out
    have hgr : g < wr.heap.size := by omega
    by_cases h0 : i < k
    · have hlt : decide ((i : Int) < (k : Int)) = true := decide_eq_true (by omega)
      rcases hsh with ⟨_, rfl, _⟩ | ⟨b, off, rfl⟩
      · omega
      · obtain ⟨hb, cx⟩ := HX.out wr hEw b off rfl i h0
        have cl := HL.out wr hEw i (by omega)
        rw [GL.out i h0] at cl
        obtain ⟨x, hx⟩ : ∃ x, xs.getD i 0 = x := ⟨_, rfl⟩
        rw [hx] at cx cl
        have hbr : b < wr.heap.size := by omega
        go_wp2
        go_region
        go_wp2
        exact ⟨⟨i + 1, by omega, by go_num, ext_drew hE.out⟩, by simp [intOf]; omega⟩
    · obtain rfl : i = k := by omega
      have hlt : decide ((i : Int) < (i : Int)) = false := decide_eq_false (by omega)
      have l77 := L77.out wr hEw
      have l78 := L78.out wr hEw
      go_wp2
      refine bodyPost_ret (v := .bool true) ?h rfl ⟨rfl, hEw⟩
      case h => simp [results, Tryz.results12, go_sem]
end Go.Proofs.YtgedpfbokkambaaGreatDoor
end
