/- Lemmas of this proof, laid together: MkB, MkE, MkF, MkC, MkD. -/
import Derived.Test.YtgedpfbokkambaaGreatDoorMg11
import Derived.Deep.AppendLies
import Derived.Deep.RegionWith
import Derived.Maps.AppendAt
set_option linter.unusedSimpArgs false
set_option linter.unusedVariables false
section
/- Marks: Check of the program. -/
namespace Go.Proofs.YtgedpfbokkambaaGreatDoor
open Go.RowKit Go.Sort
attribute [local go_sem] sz2 sz3 sz4 sz5 sz6 sz7 sz8
set_option maxHeartbeats 4000000
set_option maxRecDepth 100000
attribute [local irreducible] Calls
theorem i32_under : Tryz.prog.underlying 54 = some (.slice 21) := by kernel_rfl
theorem i32_info : (Tryz.prog.info? 21).map (fun i => (i.zero, i.size, i.bytes)) = some (some (.int .i32 0), 1, 4) := by kernel_rfl
/-- A row of runes of the call's own, somewhere behind 'base'. -/
abbrev OwnR (w : World) (base : Nat) (v : Value) (n : Nat) (xs : List Int) : Prop := w.ownsRow base 21 1 v n (xs.map rV)
theorem push_i32 {ops : Array Oper} {rest : List Oper} {o : Oper} {a : Act} {Q : Exit → Act → World → Prop} {w : World} (hgd : o.guard = none) (s x : Operand)
    (ho : o.op = .call { callee := .builtin .append, args := #[s, x], argTypes := #[54, 54] })
    {W : World} {w0 : World} (ob : Obj) (hw : w = w0.alloc ob) (hW : Ext W w0) {base : Nat} (hbase : W.heap.size ≤ base) (hsz0 : base ≤ w0.heap.size) {v : Value} {n : Nat} {xs : List Int} (hown : OwnR w0 base v n xs) (hs : a.eval s = v)
    (y : Int) (ad : Addr) (c : Nat) (hx : a.eval x = .slice (some ad) 1 c) (hnew : w.cell? ad = some (rV y)) (hn : n ≤ 1000000000)
    (h : ∀ v' w', Ext W w' → Hid (OwnR w' base v' (n + 1) (xs ++ [y])) → wpList Tryz.prog ops Q rest (a.put o.dst v') w') : wpList Tryz.prog ops Q (o :: rest) a w := by
  obtain ⟨i, hi, hz, hsz, hby⟩ := info_parts i32_info
  subst hw
  refine wpList_append_own_at _ hgd s x _ ho base 21 i _ 1 4 i32_under hi hz hsz hby rfl (by decide) v n _ hs (hown.alloc _) ad 1 c [rV y] hx rfl ?_ ?_ ?_ ?_ ?_ ?_
  · intro j u hj
    match j, hj with
    | 0, hj => simp at hj; subst hj; simpa [Addr.add] using hnew
  · intro u hu; simp at hu; subst hu; rfl
  · unfold maxLen; omega
  · omega
  · simp; omega
  · intro v' w' ho' hg _ hat
    refine h v' w' (ext_grown (ext_alloc hW _) (hown.alloc _) hbase hg) ?_
    show World.ownsRow _ _ _ _ _ _ _
    simpa using ho'
theorem own_lit {w : World} (vs : List Int) {n : Nat} (hn : n = vs.length) (h0 : n ≤ 1000) {arr : Array Value} (harr : arr.toList = vs.map rV) {base : Nat} (hb : base ≤ w.heap.size) {H : Nat} (hH : H = w.heap.size) : OwnR (w.alloc (.cells arr 21)) base (.slice (some ⟨H, 0, none⟩) n n) n vs := by
  subst hH
  have hs : arr.size = n := by rw [← Array.length_toList, harr, List.length_map, hn]
  refine ⟨by simp [hn], .inr ⟨w.heap.size, n, arr, rfl, hb, (by show (w.heap.push _)[w.heap.size]? = _; exact Array.getElem?_push_size), Nat.le_refl _, by unfold maxLen; omega, by omega, ?_⟩⟩
  rw [harr, List.take_of_length_le (by simp [hn])]
/-- Marks as they come. -/
abbrev mkV (P G M N : Int) (A : Option Addr) (k c : Nat) : Value := .agg #[.int .i32 P, .int .i32 G, .int .i32 M, .int .i32 N, .slice A k c]
/-- All runes of marks, in the call's order. -/
def allR (P G M N : Int) : List Int := [101, P, M] ++ (if G = 0 then [] else [G]) ++ (List.range 10).map (fun i => N + (i : Nat))
def headR (P G M : Int) : List Int := [101, P, M] ++ (if G = 0 then [] else [G])
/-- One of Unicode's runes, but 0. -/
def stdR (r : Int) : Prop := 0 < r ∧ r ≤ 1114111 ∧ (r < 55296 ∨ 57343 < r)
instance (r : Int) : Decidable (stdR r) := by unfold stdR; infer_instance
instance (xs : List Int) : Decidable (sizesOk xs) := by unfold sizesOk; infer_instance
/-- What Check says of the sizes. -/
def szv (G : Int) (xs : List Int) : Int :=
  if G = 0 ∧ xs.length = 0 then 0 else if G = 0 ∨ xs.length = 0 ∨ 16 < xs.length then 231 else if ¬ sizesOk xs then 231 else 0
/-- What Check says. -/
def ckv (P G M N : Int) (xs : List Int) : Int :=
  if N < 0 ∨ 1114111 < N then 230 else if ¬ (∀ r ∈ allR P G M N, stdR r) then 230 else if ¬ (allR P G M N).Nodup then 230 else szv G xs
theorem ckv_in {P G M N : Int} {xs : List Int} (hN : 0 ≤ N ∧ N ≤ 1114111) (h1 : ∀ r ∈ allR P G M N, stdR r) (h2 : (allR P G M N).Nodup) : ckv P G M N xs = szv G xs := by
  unfold ckv
  rw [if_neg (by omega), if_neg (fun h => h h1), if_neg (fun h => h h2)]
theorem szv_none {xs : List Int} (h : xs.length = 0) : szv 0 xs = 0 := by unfold szv; rw [if_pos ⟨rfl, h⟩]
theorem szv_bare {xs : List Int} (h : xs.length ≠ 0) : szv 0 xs = 231 := by unfold szv; rw [if_neg (fun q => h q.2), if_pos (.inl rfl)]
theorem szv_many {G : Int} {xs : List Int} (hG : G ≠ 0) (h : xs.length = 0 ∨ 16 < xs.length) : szv G xs = 231 := by unfold szv; rw [if_neg (fun q => hG q.1), if_pos (.inr h)]
theorem szv_bad {G : Int} {xs : List Int} (hG : G ≠ 0) (h : ¬ (xs.length = 0 ∨ 16 < xs.length)) (hs : ¬ sizesOk xs) : szv G xs = 231 := by
  unfold szv; rw [if_neg (fun q => hG q.1), if_neg (fun q => q.elim hG h), if_pos hs]
theorem szv_good {G : Int} {xs : List Int} (hG : G ≠ 0) (h : ¬ (xs.length = 0 ∨ 16 < xs.length)) (hs : sizesOk xs) : szv G xs = 0 := by
  unfold szv; rw [if_neg (fun q => hG q.1), if_neg (fun q => q.elim hG h), if_neg (fun q => q hs)]
theorem noAdj_iff (d : Array Int) (n : Nat) (hn : d.size = n) : NoAdj (Sort.sort ltInt d) n ↔ d.toList.Nodup := by
  have hl := sort_list d
  have hs : (Sort.sort ltInt d).size = n := by rw [← Array.length_toList, hl, List.length_mergeSort, Array.length_toList, hn]
  have hp : (Sort.sort ltInt d).toList.Pairwise (fun x y => decide (x ≤ y) = true) := by
    rw [hl]; exact List.pairwise_mergeSort (fun a b c h1 h2 => by simp at *; omega) (fun a b => by simp; omega) _
  have hq : (Sort.sort ltInt d).toList.Perm d.toList := by rw [hl]; exact List.mergeSort_perm _ _
  rw [← hq.nodup_iff]
  generalize Sort.sort ltInt d = s at *
  have hg : ∀ i (h : i < n), s[i]! = s.toList[i]'(by simpa [hs] using h) := fun i h => by simp [getElem!_pos, hs, h]
  constructor
  · intro h
    rw [List.nodup_iff_pairwise_ne, List.pairwise_iff_getElem]
    intro i j hi hj hij e
    have hj' : j < n := by simpa [hs] using hj
    have h1 := h j (by omega) hj'
    rw [hg j hj', hg (j - 1) (by omega)] at h1
    have h2 := List.pairwise_iff_getElem.1 hp (j - 1) j (by simp; omega) hj (by omega)
    simp at h2
    have h3 : s.toList[i] ≤ s.toList[j - 1]'(by simp; omega) := by
      rcases Nat.eq_or_lt_of_le (by omega : i ≤ j - 1) with h4 | h4
      · subst h4; exact Int.le_refl _
      · have := List.pairwise_iff_getElem.1 hp i (j - 1) hi (by simp; omega) h4
        simpa using this
    simp at h1 h3 e
    omega
  · intro h i h1 h2 e
    rw [hg i h2, hg (i - 1) (by omega)] at e
    rw [List.nodup_iff_pairwise_ne, List.pairwise_iff_getElem] at h
    exact h (i - 1) i (by simp; omega) (by simp; omega) (by omega) e.symm
theorem stdR_ne {x : Int} (h : stdR x) : (x == 0) = false ∧ Lib.validRune x = true := by
  unfold stdR at h
  unfold Lib.validRune
  refine ⟨by simp; omega, by simp; omega⟩
theorem stdR_not {x : Int} (h : ¬ stdR x) (h0 : x ≠ 0) : Lib.validRune x = false := by
  unfold stdR at h
  unfold Lib.validRune
  simp
  omega
theorem allR_at {P G M N : Int} {n j : Nat} (hn : (allR P G M N).length = n) (hj : j < n) : (allR P G M N).toArray[j]! ∈ allR P G M N := by
  have : (allR P G M N).toArray[j]! = (allR P G M N)[j]'(by omega) := by simp [getElem!_pos, hn, hj]
  rw [this]; exact List.getElem_mem _
theorem allR_all {P G M N : Int} {n : Nat} (hn : (allR P G M N).length = n) (h : ∀ t, t < n → stdR ((allR P G M N).toArray[t]!)) : ∀ r ∈ allR P G M N, stdR r := by
  intro r hr
  obtain ⟨i, hi, rfl⟩ := List.mem_iff_getElem.1 hr
  have := h i (by omega)
  rwa [show (allR P G M N).toArray[i]! = (allR P G M N)[i] by simp [getElem!_pos, hi]] at this
theorem len0 (P M N : Int) : (allR P 0 M N).length = 13 := by simp [allR]
theorem len1 (P G M N : Int) (h : G ≠ 0) : (allR P G M N).length = 14 := by simp [allR, h]
theorem apart0 (P M N : Int) : Apart (allR P 0 M N).toArray 13 := apart13 _ (by simp [len0])
theorem apart1 (P G M N : Int) (h : G ≠ 0) : Apart (allR P G M N).toArray 14 := by
  refine mid14 _ N (by simp [len1 P G M N h]) ?_ ?_ ?_ ?_ <;> simp [allR, h, List.range, List.range.loop]
end Go.Proofs.YtgedpfbokkambaaGreatDoor
end
section
/- Marks: Check of the document, without a Group. (Written by mkcheckd.py.) -/
namespace Go.Proofs.YtgedpfbokkambaaGreatDoor
open Go.RowKit Go.Sort
attribute [local go_sem] sz2 sz3 sz4 sz5 sz6 sz7 sz8
set_option maxHeartbeats 4000000
set_option maxRecDepth 100000
attribute [local irreducible] Calls
theorem mk_stands (r : Int) (w : World) : Calls Tryz.prog 51 #[.int .i32 r] w fun e w' => e = .returned (.bool (decide (stdR r))) ∧ w' = w := by
  by_cases hs : stdR r
  · rw [decide_eq_true hs]
    obtain ⟨h0, h1, h2⟩ := hs
    by_cases h3 : r < 55296
    · skip
      go_enter Tryz.func51, Tryz.ntmps51
      go_wp2
      refine bodyPost_ret (v := .bool true) ?h rfl ⟨rfl, rfl⟩
      case h => simp [results, Tryz.results51, go_sem]
    · have h4 : 57343 < r := by omega
      go_enter Tryz.func51, Tryz.ntmps51
      go_wp2
      refine bodyPost_ret (v := .bool true) ?h rfl ⟨rfl, rfl⟩
      case h => simp [results, Tryz.results51, go_sem]
  · rw [decide_eq_false hs]
    unfold stdR at hs
    by_cases h0 : 0 < r
    · by_cases h1 : r ≤ 1114111
      · have h2 : ¬ r < 55296 := by omega
        have h3 : ¬ 57343 < r := by omega
        go_enter Tryz.func51, Tryz.ntmps51
        go_wp2
        refine bodyPost_ret (v := .bool false) ?h rfl ⟨rfl, rfl⟩
        case h => simp [results, Tryz.results51, go_sem]
      · skip
        go_enter Tryz.func51, Tryz.ntmps51
        go_wp2
        refine bodyPost_ret (v := .bool false) ?h rfl ⟨rfl, rfl⟩
        case h => simp [results, Tryz.results51, go_sem]
    · skip
      go_enter Tryz.func51, Tryz.ntmps51
      go_wp2
      refine bodyPost_ret (v := .bool false) ?h rfl ⟨rfl, rfl⟩
      case h => simp [results, Tryz.results51, go_sem]
theorem ckv_not {P G M N : Int} {xs : List Int} (h : (∀ r ∈ allR P G M N, stdR r) → ¬ (allR P G M N).Nodup) : ckv P G M N xs = 230 := by
  unfold ckv
  split
  · rfl
  · split
    · rfl
    · rename_i h1 h2
      rw [if_pos (h (by simpa using h2))]
theorem md_Check_bare (P M N : Int) (A : Option Addr) (k c : Nat) (xs : List Int) (w : World) (hA : RdI w A k c xs) (hN : -2147483648 ≤ N ∧ N ≤ 2147483647) :
    Calls Tryz.prog 29 #[mkV P 0 M N A k c] w fun e w' => e = .returned (.int .i64 (ckv P 0 M N xs)) ∧ Ext w w' := by
  have HA := Lib.hid hA
  clear hA
  have bxf : Hid (∀ W, Ext (w.alloc (.cells #[.int .i32 P, .int .i32 0, .int .i32 M, .int .i32 N, .slice A k c] 24)) W → W.cell? ⟨w.heap.size, 0, none⟩ = some (.int .i32 P) ∧ W.cell? ⟨w.heap.size, 1, none⟩ = some (.int .i32 0) ∧ W.cell? ⟨w.heap.size, 2, none⟩ = some (.int .i32 M) ∧ W.cell? ⟨w.heap.size, 3, none⟩ = some (.int .i32 N) ∧ W.cell? ⟨w.heap.size, 4, none⟩ = some (.slice A k c) ∧ w.heap.size < W.heap.size) := fun W hW => by
    have hl : w.heap.size < (w.alloc (.cells #[.int .i32 P, .int .i32 0, .int .i32 M, .int .i32 N, .slice A k c] 24)).heap.size := by simp
    refine ⟨?_, ?_, ?_, ?_, ?_, Nat.lt_of_lt_of_le hl hW.size⟩
    · rw [Below.cell (p := ⟨w.heap.size, 0, none⟩) hW hl]; simp [go_sem]
    · rw [Below.cell (p := ⟨w.heap.size, 1, none⟩) hW hl]; simp [go_sem]
    · rw [Below.cell (p := ⟨w.heap.size, 2, none⟩) hW hl]; simp [go_sem]
    · rw [Below.cell (p := ⟨w.heap.size, 3, none⟩) hW hl]; simp [go_sem]
    · rw [Below.cell (p := ⟨w.heap.size, 4, none⟩) hW hl]; simp [go_sem]
  have hb1 : (w.alloc (.cells #[.int .i32 P, .int .i32 0, .int .i32 M, .int .i32 N, .slice A k c] 24)).heap.size = w.heap.size + 1 := by simp
  have O1 : Hid (OwnR ((w.alloc (.cells #[.int .i32 P, .int .i32 0, .int .i32 M, .int .i32 N, .slice A k c] 24)).alloc (.cells #[.int .i32 101, .int .i32 P, .int .i32 M] 21)) (w.heap.size + 1) (.slice (some ⟨w.heap.size + 1, 0, none⟩) 3 3) 3 [101, P, M]) := own_lit [101, P, M] rfl (by simp) rfl (by rw [hb1]; exact Nat.le_refl _) hb1.symm
  have E1 : Hid (Ext (w.alloc (.cells #[.int .i32 P, .int .i32 0, .int .i32 M, .int .i32 N, .slice A k c] 24)) ((w.alloc (.cells #[.int .i32 P, .int .i32 0, .int .i32 M, .int .i32 N, .slice A k c] 24)).alloc (.cells #[.int .i32 101, .int .i32 P, .int .i32 M] 21))) := ext_alloc (ext_refl _) _
  have ew : Hid (∀ W, Ext (w.alloc (.cells #[.int .i32 P, .int .i32 0, .int .i32 M, .int .i32 N, .slice A k c] 24)) W → Ext w W) := fun W h => ext_trans (ext_alloc (ext_refl w) _) h
  have HA1 : Hid (∀ W, Ext (w.alloc (.cells #[.int .i32 P, .int .i32 0, .int .i32 M, .int .i32 N, .slice A k c] 24)) W → RdI W A k c xs) := fun W h => HA.out.ext (ew.out W h)
  clear HA
  go_enter Tryz.func29, Tryz.ntmps29
  go_wp2
  go_loopw [3, 4] (fun v3 v4 wr => ∃ i : Nat, v4 = .int .i32 i ∧ i ≤ 10 ∧ (N ≤ 1114111 ∨ i = 0) ∧ Ext (w.alloc (.cells #[.int .i32 P, .int .i32 0, .int .i32 M, .int .i32 N, .slice A k c] 24)) wr ∧ Hid (OwnR wr (w.heap.size + 1) v3 (3 + i) ([101, P, M] ++ (List.range i).map (fun j : Nat => N + (j : Int))))) (fun _ v4 _ => 10 - (intOf v4).toNat)
  case atStart => exact ⟨0, rfl, Nat.zero_le _, .inr rfl, E1.out, O1.out⟩
  case round =>
    clear O1 E1
    obtain ⟨i, rfl, hi, hNi, hE, hO⟩ := hrel
    obtain ⟨p0, p1, p2, p3, p4, pl⟩ := bxf.out _ hE
    by_cases hlt : i < 10
    · by_cases hNb : 1114111 < N
      · have hck : ckv P 0 M N xs = 230 := by unfold ckv; rw [if_pos (.inr hNb)]
        have hfin := ew.out _ hE
        go_wp2
        refine bodyPost_ret (v := .int .i64 230) ?h rfl ⟨by first | rfl | rw [hck], hfin⟩
        case h => simp [results, Tryz.results29, go_sem]
      · have hni : (N + (i : Int)) ≤ 2147483647 := by omega
        have hnj : -2147483648 ≤ (N + (i : Int)) := by omega
        go_wp2_with (first
          | (at_builtin; refine push_i32 rfl _ _ rfl _ rfl hE (by simp [go_sem]) (by omega) hO.out rfl (N + (i : Int)) ⟨_, 0, none⟩ 1 rfl (by simp [go_sem, rV]) (by omega) ?_; intro v1 w1 hE1 hO1))
        go_roundw
        case rel => exact ⟨i + 1, by go_num, by omega, .inl (by omega), hE1, by have := hO1.out; rw [List.append_assoc] at this; rw [List.range_succ, List.map_append]; exact this⟩
        case measure => simp [intOf]; omega
    · obtain rfl : i = 10 := by omega
      have hN2 : N ≤ 1114111 := by omega
      obtain ⟨g, cap, hv, _, _⟩ := (show OwnR wr (w.heap.size + 1) _ 13 _ from hO.out).form (by omega)
      subst hv
      have hO2 := hO.out
      have HR : Hid (RwI wr g 13 cap (allR P 0 M N).toArray) := ⟨by have := own_zero hO2; simpa [allR] using this⟩
      clear hO hO2
      go_wp2
      go_loopw [5] (fun v5 W => ∃ j : Nat, v5 = .int .i64 j ∧ j ≤ 13 ∧ Ext (w.alloc (.cells #[.int .i32 P, .int .i32 0, .int .i32 M, .int .i32 N, .slice A k c] 24)) W ∧ Hid (RwI W g 13 cap (allR P 0 M N).toArray) ∧ Hid (∀ t, t < j → stdR ((allR P 0 M N).toArray[t]!) ∧ ∀ s, s < t → (allR P 0 M N).toArray[s]! ≠ (allR P 0 M N).toArray[t]!)) (fun v5 _ => 13 - (intOf v5).toNat)
      case atStart => exact ⟨0, rfl, Nat.zero_le _, hE, HR, fun t ht => by omega⟩
      case round =>
        clear hE HR p0 p1 p2 p3 p4 pl
        obtain ⟨j, rfl, hj, hE, HR, hstd⟩ := hrel
        obtain ⟨p0, p1, p2, p3, p4, pl⟩ := bxf.out _ hE
        have hret := ew.out _ hE
        by_cases hlt : j < 13
        · obtain ⟨x, hx⟩ : ∃ x, Hid ((allR P 0 M N).toArray[j]! = x) := ⟨_, rfl⟩
          have c0 : wr.cell? ⟨g, j, none⟩ = some (.int .i32 x) := by rw [← hx.out]; exact (HR.out.at_ j hlt).1
          have hjl : (j : Int) < 13 := by omega
          by_cases hs : stdR x
          · go_wp2_with (first
              | (go_at_call 51; (with_reducible refine (mk_stands _ _).mono ?_); rintro e w' ⟨rfl, rfl⟩; rw [decide_eq_true hs]))
            go_loopw [7] (fun v7 W => ∃ k7 : Nat, v7 = .int .i64 k7 ∧ k7 ≤ j ∧ Ext (w.alloc (.cells #[.int .i32 P, .int .i32 0, .int .i32 M, .int .i32 N, .slice A k c] 24)) W ∧ Hid (RwI W g 13 cap (allR P 0 M N).toArray) ∧ Hid (∀ s, s < k7 → (allR P 0 M N).toArray[s]! ≠ x)) (fun v7 _ => j - (intOf v7).toNat)
            case atStart => exact ⟨0, rfl, Nat.zero_le _, hE, HR, fun t ht => by omega⟩
            case round =>
              clear hE HR c0 p0 p1 p2 p3 p4 pl hret
              obtain ⟨k7, rfl, hk7, hE, HR, hne⟩ := hrel
              by_cases hk : k7 < j
              · obtain ⟨y, hy⟩ : ∃ y, Hid ((allR P 0 M N).toArray[k7]! = y) := ⟨_, rfl⟩
                have c0 : wr.cell? ⟨g, j, none⟩ = some (.int .i32 x) := by rw [← hx.out]; exact (HR.out.at_ j hlt).1
                have c1 : wr.cell? ⟨g, k7, none⟩ = some (.int .i32 y) := by rw [← hy.out]; exact (HR.out.at_ k7 (by omega)).1
                go_wp2_with fail
                go_big_quiet (first | fail)
                by_cases hxy : y = x
                · have hck : ckv P 0 M N xs = 230 := by
                    refine ckv_not (fun _ h => ?_)
                    rw [List.nodup_iff_pairwise_ne, List.pairwise_iff_getElem] at h
                    refine h k7 j (by rw [(len0 P M N)]; omega) (by rw [(len0 P M N)]; omega) hk ?_
                    have e1 := hx.out; have e2 := hy.out
                    rw [getElem!_pos (allR P 0 M N).toArray j (by simp [(len0 P M N)]; omega)] at e1
                    rw [getElem!_pos (allR P 0 M N).toArray k7 (by simp [(len0 P M N)]; omega)] at e2
                    simp at e1 e2
                    rw [e1, e2, hxy]
                  have hfin := ew.out _ (ext_drewN hE nq)
                  subst hxy
                  go_wp2
                  refine bodyPost_ret (v := .int .i64 230) ?h rfl ⟨by first | rfl | rw [hck], hfin⟩
                  case h => simp [results, Tryz.results29, go_sem]
                · have hxy' : (y == x) = false := by simpa using hxy
                  go_wp2
                  go_roundw
                  case rel => exact ⟨k7 + 1, by go_num, by omega, ext_drewN hE nq, HR.out.drewN nq, fun s h => by
                    rcases (by omega : s = k7 ∨ s < k7) with rfl | h1
                    · rw [hy.out]; exact hxy
                    · exact hne.out s h1⟩
                  case measure => simp [intOf]; omega
              · go_wp2
                go_roundw
                case rel =>
                  refine ⟨_, .int .i64 ((j + 1 : Nat) : Int), _, _, _, _, _, _, _, _, _, _, _, _, _, _, _, _, _, _, _, _, _, _, _, _, _, _, _, _, _, ⟨j + 1, rfl, by omega, hE, HR, fun t ht => ?_⟩, by rfl⟩
                  rcases (by omega : t = j ∨ t < j) with rfl | h
                  · rw [hx.out]; exact ⟨hs, fun s h1 => hne.out s (by omega)⟩
                  · exact hstd.out t h
                case measure => simp [intOf]; omega
          · have hck : ckv P 0 M N xs = 230 := ckv_not (fun h _ => hs (by rw [← hx.out]; exact h _ (allR_at (len0 P M N) hlt)))
            go_wp2_with (first
              | (go_at_call 51; (with_reducible refine (mk_stands _ _).mono ?_); rintro e w' ⟨rfl, rfl⟩; rw [decide_eq_false hs]))
            refine bodyPost_ret (v := .int .i64 230) ?h rfl ⟨by first | rfl | rw [hck], hret⟩
            case h => simp [results, Tryz.results29, go_sem]
        · obtain rfl : j = 13 := by omega
          have hall := allR_all (len0 P M N) (fun t ht => (hstd.out t ht).1)
          have hnd : (allR P 0 M N).Nodup := by
            rw [List.nodup_iff_pairwise_ne, List.pairwise_iff_getElem]
            intro s t h1 h2 h3 h4
            rw [(len0 P M N)] at h1 h2
            refine (hstd.out t h2).2 s h3 ?_
            rw [getElem!_pos (allR P 0 M N).toArray s (by simp [(len0 P M N)]; omega), getElem!_pos (allR P 0 M N).toArray t (by simp [(len0 P M N)]; omega)]
            simpa using h4
          have hN0 : 0 ≤ N := by
            have := hall N (by unfold allR; exact List.mem_append.2 (.inr (List.mem_map.2 ⟨0, by simp, by simp⟩)))
            unfold stdR at this; omega
          have hck0 := ckv_in (xs := xs) ⟨hN0, hN2⟩ hall hnd
          have hl := (HA1.out _ hE).len
          have hmx := (HA1.out _ hE).mx
          have hcp := (HA1.out _ hE).cap
          clear hall hnd hstd
          by_cases hk0 : k = 0
          · rw [szv_none (by omega)] at hck0
            subst hk0
            go_wp2
            refine bodyPost_ret (v := .int .i64 0) ?h rfl ⟨by first | rfl | rw [hck0], hret⟩
            case h => simp [results, Tryz.results29, go_sem]
          · rw [szv_bare (by omega)] at hck0
            have hk1 : (0 : Int) < (k : Int) := by omega
            go_wp2
            refine bodyPost_ret (v := .int .i64 231) ?h rfl ⟨by first | rfl | rw [hck0], hret⟩
            case h => simp [results, Tryz.results29, go_sem]
end Go.Proofs.YtgedpfbokkambaaGreatDoor
end
section
/- Marks: Check of the document. (Written by mkcheckd.py.) -/
namespace Go.Proofs.YtgedpfbokkambaaGreatDoor
open Go.RowKit Go.Sort
attribute [local go_sem] sz2 sz3 sz4 sz5 sz6 sz7 sz8
set_option maxHeartbeats 4000000
set_option maxRecDepth 100000
attribute [local irreducible] Calls
theorem md_Check_with (P G M N : Int) (hG : G ≠ 0) (A : Option Addr) (k c : Nat) (xs : List Int) (w : World) (hA : RdI w A k c xs) (hN : -2147483648 ≤ N ∧ N ≤ 2147483647) :
    Calls Tryz.prog 29 #[mkV P G M N A k c] w fun e w' => e = .returned (.int .i64 (ckv P G M N xs)) ∧ Ext w w' := by
  have HA := Lib.hid hA
  clear hA
  have bxf : Hid (∀ W, Ext (w.alloc (.cells #[.int .i32 P, .int .i32 G, .int .i32 M, .int .i32 N, .slice A k c] 24)) W → W.cell? ⟨w.heap.size, 0, none⟩ = some (.int .i32 P) ∧ W.cell? ⟨w.heap.size, 1, none⟩ = some (.int .i32 G) ∧ W.cell? ⟨w.heap.size, 2, none⟩ = some (.int .i32 M) ∧ W.cell? ⟨w.heap.size, 3, none⟩ = some (.int .i32 N) ∧ W.cell? ⟨w.heap.size, 4, none⟩ = some (.slice A k c) ∧ w.heap.size < W.heap.size) := fun W hW => by
    have hl : w.heap.size < (w.alloc (.cells #[.int .i32 P, .int .i32 G, .int .i32 M, .int .i32 N, .slice A k c] 24)).heap.size := by simp
    refine ⟨?_, ?_, ?_, ?_, ?_, Nat.lt_of_lt_of_le hl hW.size⟩
    · rw [Below.cell (p := ⟨w.heap.size, 0, none⟩) hW hl]; simp [go_sem]
    · rw [Below.cell (p := ⟨w.heap.size, 1, none⟩) hW hl]; simp [go_sem]
    · rw [Below.cell (p := ⟨w.heap.size, 2, none⟩) hW hl]; simp [go_sem]
    · rw [Below.cell (p := ⟨w.heap.size, 3, none⟩) hW hl]; simp [go_sem]
    · rw [Below.cell (p := ⟨w.heap.size, 4, none⟩) hW hl]; simp [go_sem]
  have hb1 : (w.alloc (.cells #[.int .i32 P, .int .i32 G, .int .i32 M, .int .i32 N, .slice A k c] 24)).heap.size = w.heap.size + 1 := by simp
  have O1 : Hid (OwnR ((w.alloc (.cells #[.int .i32 P, .int .i32 G, .int .i32 M, .int .i32 N, .slice A k c] 24)).alloc (.cells #[.int .i32 101, .int .i32 P, .int .i32 M] 21)) (w.heap.size + 1) (.slice (some ⟨w.heap.size + 1, 0, none⟩) 3 3) 3 [101, P, M]) := own_lit [101, P, M] rfl (by simp) rfl (by rw [hb1]; exact Nat.le_refl _) hb1.symm
  have E1 : Hid (Ext (w.alloc (.cells #[.int .i32 P, .int .i32 G, .int .i32 M, .int .i32 N, .slice A k c] 24)) ((w.alloc (.cells #[.int .i32 P, .int .i32 G, .int .i32 M, .int .i32 N, .slice A k c] 24)).alloc (.cells #[.int .i32 101, .int .i32 P, .int .i32 M] 21))) := ext_alloc (ext_refl _) _
  have ew : Hid (∀ W, Ext (w.alloc (.cells #[.int .i32 P, .int .i32 G, .int .i32 M, .int .i32 N, .slice A k c] 24)) W → Ext w W) := fun W h => ext_trans (ext_alloc (ext_refl w) _) h
  have HA1 : Hid (∀ W, Ext (w.alloc (.cells #[.int .i32 P, .int .i32 G, .int .i32 M, .int .i32 N, .slice A k c] 24)) W → RdI W A k c xs) := fun W h => HA.out.ext (ew.out W h)
  clear HA
  go_enter Tryz.func29, Tryz.ntmps29
  go_wp2_with (first
    | (at_builtin; refine push_i32 rfl _ _ rfl _ rfl E1.out (by simp [go_sem]) (by simp) O1.out rfl (G) ⟨_, 0, none⟩ 1 rfl (by simp [go_sem, rV]) (by omega) ?_; intro v1 w1 hE1 hO1))
  go_loopw [3, 4] (fun v3 v4 wr => ∃ i : Nat, v4 = .int .i32 i ∧ i ≤ 10 ∧ (N ≤ 1114111 ∨ i = 0) ∧ Ext (w.alloc (.cells #[.int .i32 P, .int .i32 G, .int .i32 M, .int .i32 N, .slice A k c] 24)) wr ∧ Hid (OwnR wr (w.heap.size + 1) v3 (4 + i) ([101, P, M, G] ++ (List.range i).map (fun j : Nat => N + (j : Int))))) (fun _ v4 _ => 10 - (intOf v4).toNat)
  case atStart => exact ⟨0, rfl, Nat.zero_le _, .inr rfl, hE1, hO1⟩
  case round =>
    clear O1 E1 hE1 hO1
    obtain ⟨i, rfl, hi, hNi, hE, hO⟩ := hrel
    obtain ⟨p0, p1, p2, p3, p4, pl⟩ := bxf.out _ hE
    by_cases hlt : i < 10
    · by_cases hNb : 1114111 < N
      · have hck : ckv P G M N xs = 230 := by unfold ckv; rw [if_pos (.inr hNb)]
        have hfin := ew.out _ hE
        go_wp2
        refine bodyPost_ret (v := .int .i64 230) ?h rfl ⟨by first | rfl | rw [hck], hfin⟩
        case h => simp [results, Tryz.results29, go_sem]
      · have hni : (N + (i : Int)) ≤ 2147483647 := by omega
        have hnj : -2147483648 ≤ (N + (i : Int)) := by omega
        go_wp2_with (first
          | (at_builtin; refine push_i32 rfl _ _ rfl _ rfl hE (by simp [go_sem]) (by omega) hO.out rfl (N + (i : Int)) ⟨_, 0, none⟩ 1 rfl (by simp [go_sem, rV]) (by omega) ?_; intro v1 w1 hE1 hO1))
        go_roundw
        case rel => exact ⟨i + 1, by go_num, by omega, .inl (by omega), hE1, by have := hO1.out; rw [List.append_assoc] at this; rw [List.range_succ, List.map_append]; exact this⟩
        case measure => simp [intOf]; omega
    · obtain rfl : i = 10 := by omega
      have hN2 : N ≤ 1114111 := by omega
      obtain ⟨g, cap, hv, _, _⟩ := (show OwnR wr (w.heap.size + 1) _ 14 _ from hO.out).form (by omega)
      subst hv
      have hO2 := hO.out
      have HR : Hid (RwI wr g 14 cap (allR P G M N).toArray) := ⟨by have := own_zero hO2; simpa [allR, hG] using this⟩
      clear hO hO2
      go_wp2
      go_loopw [5] (fun v5 W => ∃ j : Nat, v5 = .int .i64 j ∧ j ≤ 14 ∧ Ext (w.alloc (.cells #[.int .i32 P, .int .i32 G, .int .i32 M, .int .i32 N, .slice A k c] 24)) W ∧ Hid (RwI W g 14 cap (allR P G M N).toArray) ∧ Hid (∀ t, t < j → stdR ((allR P G M N).toArray[t]!) ∧ ∀ s, s < t → (allR P G M N).toArray[s]! ≠ (allR P G M N).toArray[t]!)) (fun v5 _ => 14 - (intOf v5).toNat)
      case atStart => exact ⟨0, rfl, Nat.zero_le _, hE, HR, fun t ht => by omega⟩
      case round =>
        clear hE HR p0 p1 p2 p3 p4 pl
        obtain ⟨j, rfl, hj, hE, HR, hstd⟩ := hrel
        obtain ⟨p0, p1, p2, p3, p4, pl⟩ := bxf.out _ hE
        have hret := ew.out _ hE
        by_cases hlt : j < 14
        · obtain ⟨x, hx⟩ : ∃ x, Hid ((allR P G M N).toArray[j]! = x) := ⟨_, rfl⟩
          have c0 : wr.cell? ⟨g, j, none⟩ = some (.int .i32 x) := by rw [← hx.out]; exact (HR.out.at_ j hlt).1
          have hjl : (j : Int) < 14 := by omega
          by_cases hs : stdR x
          · go_wp2_with (first
              | (go_at_call 51; (with_reducible refine (mk_stands _ _).mono ?_); rintro e w' ⟨rfl, rfl⟩; rw [decide_eq_true hs]))
            go_loopw [7] (fun v7 W => ∃ k7 : Nat, v7 = .int .i64 k7 ∧ k7 ≤ j ∧ Ext (w.alloc (.cells #[.int .i32 P, .int .i32 G, .int .i32 M, .int .i32 N, .slice A k c] 24)) W ∧ Hid (RwI W g 14 cap (allR P G M N).toArray) ∧ Hid (∀ s, s < k7 → (allR P G M N).toArray[s]! ≠ x)) (fun v7 _ => j - (intOf v7).toNat)
            case atStart => exact ⟨0, rfl, Nat.zero_le _, hE, HR, fun t ht => by omega⟩
            case round =>
              clear hE HR c0 p0 p1 p2 p3 p4 pl hret
              obtain ⟨k7, rfl, hk7, hE, HR, hne⟩ := hrel
              by_cases hk : k7 < j
              · obtain ⟨y, hy⟩ : ∃ y, Hid ((allR P G M N).toArray[k7]! = y) := ⟨_, rfl⟩
                have c0 : wr.cell? ⟨g, j, none⟩ = some (.int .i32 x) := by rw [← hx.out]; exact (HR.out.at_ j hlt).1
                have c1 : wr.cell? ⟨g, k7, none⟩ = some (.int .i32 y) := by rw [← hy.out]; exact (HR.out.at_ k7 (by omega)).1
                go_wp2_with fail
                go_big_quiet (first | fail)
                by_cases hxy : y = x
                · have hck : ckv P G M N xs = 230 := by
                    refine ckv_not (fun _ h => ?_)
                    rw [List.nodup_iff_pairwise_ne, List.pairwise_iff_getElem] at h
                    refine h k7 j (by rw [(len1 P G M N hG)]; omega) (by rw [(len1 P G M N hG)]; omega) hk ?_
                    have e1 := hx.out; have e2 := hy.out
                    rw [getElem!_pos (allR P G M N).toArray j (by simp [(len1 P G M N hG)]; omega)] at e1
                    rw [getElem!_pos (allR P G M N).toArray k7 (by simp [(len1 P G M N hG)]; omega)] at e2
                    simp at e1 e2
                    rw [e1, e2, hxy]
                  have hfin := ew.out _ (ext_drewN hE nq)
                  subst hxy
                  go_wp2
                  refine bodyPost_ret (v := .int .i64 230) ?h rfl ⟨by first | rfl | rw [hck], hfin⟩
                  case h => simp [results, Tryz.results29, go_sem]
                · have hxy' : (y == x) = false := by simpa using hxy
                  go_wp2
                  go_roundw
                  case rel => exact ⟨k7 + 1, by go_num, by omega, ext_drewN hE nq, HR.out.drewN nq, fun s h => by
                    rcases (by omega : s = k7 ∨ s < k7) with rfl | h1
                    · rw [hy.out]; exact hxy
                    · exact hne.out s h1⟩
                  case measure => simp [intOf]; omega
              · go_wp2
                go_roundw
                case rel =>
                  refine ⟨_, .int .i64 ((j + 1 : Nat) : Int), _, _, _, _, _, _, _, _, _, _, _, _, _, _, _, _, _, _, _, _, _, _, _, _, _, _, _, _, _, ⟨j + 1, rfl, by omega, hE, HR, fun t ht => ?_⟩, by rfl⟩
                  rcases (by omega : t = j ∨ t < j) with rfl | h
                  · rw [hx.out]; exact ⟨hs, fun s h1 => hne.out s (by omega)⟩
                  · exact hstd.out t h
                case measure => simp [intOf]; omega
          · have hck : ckv P G M N xs = 230 := ckv_not (fun h _ => hs (by rw [← hx.out]; exact h _ (allR_at (len1 P G M N hG) hlt)))
            go_wp2_with (first
              | (go_at_call 51; (with_reducible refine (mk_stands _ _).mono ?_); rintro e w' ⟨rfl, rfl⟩; rw [decide_eq_false hs]))
            refine bodyPost_ret (v := .int .i64 230) ?h rfl ⟨by first | rfl | rw [hck], hret⟩
            case h => simp [results, Tryz.results29, go_sem]
        · obtain rfl : j = 14 := by omega
          have hall := allR_all (len1 P G M N hG) (fun t ht => (hstd.out t ht).1)
          have hnd : (allR P G M N).Nodup := by
            rw [List.nodup_iff_pairwise_ne, List.pairwise_iff_getElem]
            intro s t h1 h2 h3 h4
            rw [(len1 P G M N hG)] at h1 h2
            refine (hstd.out t h2).2 s h3 ?_
            rw [getElem!_pos (allR P G M N).toArray s (by simp [(len1 P G M N hG)]; omega), getElem!_pos (allR P G M N).toArray t (by simp [(len1 P G M N hG)]; omega)]
            simpa using h4
          have hN0 : 0 ≤ N := by
            have := hall N (by unfold allR; exact List.mem_append.2 (.inr (List.mem_map.2 ⟨0, by simp, by simp⟩)))
            unfold stdR at this; omega
          have hck0 := ckv_in (xs := xs) ⟨hN0, hN2⟩ hall hnd
          have hl := (HA1.out _ hE).len
          have hmx := (HA1.out _ hE).mx
          have hcp := (HA1.out _ hE).cap
          clear hall hnd hstd
          have hG1 : (G == 0) = false := by simpa using hG
          by_cases hk0 : k = 0 ∨ 16 < k
          · rw [szv_many hG (by omega)] at hck0
            by_cases hk3 : k = 0
            · subst hk3
              go_wp2
              refine bodyPost_ret (v := .int .i64 231) ?h rfl ⟨by first | rfl | rw [hck0], hret⟩
              case h => simp [results, Tryz.results29, go_sem]
            · have hk1 : ¬ (k : Int) < 1 := by omega
              have hk4 : (16 : Int) < (k : Int) := by omega
              go_wp2
              refine bodyPost_ret (v := .int .i64 231) ?h rfl ⟨by first | rfl | rw [hck0], hret⟩
              case h => simp [results, Tryz.results29, go_sem]
          · have hlen : ¬ (xs.length = 0 ∨ 16 < xs.length) := by omega
            obtain ⟨b, off, rfl⟩ : ∃ b off, A = some ⟨b, off, none⟩ := by rcases (HA1.out _ hE).shape with ⟨_, h0, _⟩ | h0; omega; exact h0
            have hk1 : ¬ (k : Int) < 1 := by omega
            have hk4 : ¬ (16 : Int) < (k : Int) := by omega
            go_wp2
            go_loopw [8] (fun v8 W => ∃ t : Nat, v8 = .int .i64 t ∧ t ≤ k ∧ Ext (w.alloc (.cells #[.int .i32 P, .int .i32 G, .int .i32 M, .int .i32 N, .slice (some ⟨b, off, none⟩) k c] 24)) W ∧ Hid (∀ s, s < t → 1 ≤ xs.getD s 0 ∧ xs.getD s 0 ≤ 256)) (fun v8 _ => k - (intOf v8).toNat)
            case atStart => exact ⟨0, rfl, Nat.zero_le _, hE, fun s h => by omega⟩
            case round =>
              clear hE p0 p1 p2 p3 p4 pl hret HR
              obtain ⟨t, rfl, ht, hE, hz⟩ := hrel
              obtain ⟨p0, p1, p2, p3, p4, pl⟩ := bxf.out _ hE
              have hret := ew.out _ hE
              by_cases htk : t < k
              · obtain ⟨z, hz1, hz2, hz3⟩ := (HA1.out _ hE).get t htk
                by_cases hok : 1 ≤ z ∧ z ≤ 256
                · have hz4 : ¬ z < 1 := by omega
                  have hz5 : ¬ 256 < z := by omega
                  go_wp2
                  go_roundw
                  case rel => exact ⟨t + 1, by go_num, by omega, hE, fun s h => by
                    rcases (by omega : s = t ∨ s < t) with rfl | h1
                    · rw [hz1.out]; exact hok
                    · exact hz.out s h1⟩
                  case measure => simp [intOf]; omega
                · have hno : ¬ sizesOk xs := fun h => hok (by
                    have := h _ (List.getElem_mem (by omega : t < xs.length))
                    have e := hz1.out
                    rw [List.getD_eq_getElem?_getD, List.getElem?_eq_getElem (by omega : t < xs.length)] at e
                    simp at e; rw [e] at this; exact this)
                  rw [szv_bad hG hlen hno] at hck0
                  by_cases hlo : z < 1
                  · go_wp2
                    refine bodyPost_ret (v := .int .i64 231) ?h rfl ⟨by first | rfl | rw [hck0], hret⟩
                    case h => simp [results, Tryz.results29, go_sem]
                  · have hhi : 256 < z := by omega
                    go_wp2
                    refine bodyPost_ret (v := .int .i64 231) ?h rfl ⟨by first | rfl | rw [hck0], hret⟩
                    case h => simp [results, Tryz.results29, go_sem]
              · obtain rfl : t = k := by omega
                have hgood : sizesOk xs := fun x hx => by
                  obtain ⟨i, hi, rfl⟩ := List.mem_iff_getElem.1 hx
                  have := hz.out i (by omega)
                  rw [List.getD_eq_getElem?_getD, List.getElem?_eq_getElem hi] at this
                  simpa using this
                rw [szv_good hG hlen hgood] at hck0
                go_wp2
                refine bodyPost_ret (v := .int .i64 0) ?h rfl ⟨by first | rfl | rw [hck0], hret⟩
                case h => simp [results, Tryz.results29, go_sem]
theorem md_Check (P G M N : Int) (A : Option Addr) (k c : Nat) (xs : List Int) (w : World) (hA : RdI w A k c xs) (hN : -2147483648 ≤ N ∧ N ≤ 2147483647) :
    Calls Tryz.prog 29 #[mkV P G M N A k c] w fun e w' => e = .returned (.int .i64 (ckv P G M N xs)) ∧ Ext w w' := by
  by_cases hG : G = 0
  · subst hG
    exact md_Check_bare P M N A k c xs w hA hN
  · exact md_Check_with P G M N hG A k c xs w hA hN
end Go.Proofs.YtgedpfbokkambaaGreatDoor
end
section
/- Marks: Check of the program, walked. (Written by mkcheckm.py.) -/
namespace Go.Proofs.YtgedpfbokkambaaGreatDoor
open Go.RowKit Go.Sort
attribute [local go_sem] sz2 sz3 sz4 sz5 sz6 sz7 sz8
set_option maxHeartbeats 4000000
set_option maxRecDepth 100000
attribute [local irreducible] Calls
theorem mk_Check_bare (P M N : Int) (A : Option Addr) (k c : Nat) (xs : List Int) (w : World) (hA : RdI w A k c xs) (hN : 0 ≤ N ∧ N ≤ 1114111) :
    Calls Tryz.prog 19 #[mkV P 0 M N A k c] w fun e w' => e = .returned (.int .i64 (ckv P 0 M N xs)) ∧ Ext w w' := by
  have HA := Lib.hid hA
  clear hA
  have bxf : Hid (∀ W, Ext (w.alloc (.cells #[.int .i32 P, .int .i32 0, .int .i32 M, .int .i32 N, .slice A k c] 24)) W → W.cell? ⟨w.heap.size, 0, none⟩ = some (.int .i32 P) ∧ W.cell? ⟨w.heap.size, 1, none⟩ = some (.int .i32 0) ∧ W.cell? ⟨w.heap.size, 2, none⟩ = some (.int .i32 M) ∧ W.cell? ⟨w.heap.size, 3, none⟩ = some (.int .i32 N) ∧ W.cell? ⟨w.heap.size, 4, none⟩ = some (.slice A k c) ∧ w.heap.size < W.heap.size) := fun W hW => by
    have hl : w.heap.size < (w.alloc (.cells #[.int .i32 P, .int .i32 0, .int .i32 M, .int .i32 N, .slice A k c] 24)).heap.size := by simp
    refine ⟨?_, ?_, ?_, ?_, ?_, Nat.lt_of_lt_of_le hl hW.size⟩
    · rw [Below.cell (p := ⟨w.heap.size, 0, none⟩) hW hl]; simp [go_sem]
    · rw [Below.cell (p := ⟨w.heap.size, 1, none⟩) hW hl]; simp [go_sem]
    · rw [Below.cell (p := ⟨w.heap.size, 2, none⟩) hW hl]; simp [go_sem]
    · rw [Below.cell (p := ⟨w.heap.size, 3, none⟩) hW hl]; simp [go_sem]
    · rw [Below.cell (p := ⟨w.heap.size, 4, none⟩) hW hl]; simp [go_sem]
  have hb1 : (w.alloc (.cells #[.int .i32 P, .int .i32 0, .int .i32 M, .int .i32 N, .slice A k c] 24)).heap.size = w.heap.size + 1 := by simp
  have O1 : Hid (OwnR ((w.alloc (.cells #[.int .i32 P, .int .i32 0, .int .i32 M, .int .i32 N, .slice A k c] 24)).alloc (.cells #[.int .i32 101, .int .i32 P, .int .i32 M] 21)) (w.heap.size + 1) (.slice (some ⟨w.heap.size + 1, 0, none⟩) 3 3) 3 [101, P, M]) := own_lit [101, P, M] rfl (by simp) rfl (by rw [hb1]; exact Nat.le_refl _) hb1.symm
  have E1 : Hid (Ext (w.alloc (.cells #[.int .i32 P, .int .i32 0, .int .i32 M, .int .i32 N, .slice A k c] 24)) ((w.alloc (.cells #[.int .i32 P, .int .i32 0, .int .i32 M, .int .i32 N, .slice A k c] 24)).alloc (.cells #[.int .i32 101, .int .i32 P, .int .i32 M] 21))) := ext_alloc (ext_refl _) _
  have ew : Hid (∀ W, Ext (w.alloc (.cells #[.int .i32 P, .int .i32 0, .int .i32 M, .int .i32 N, .slice A k c] 24)) W → Ext w W) := fun W h => ext_trans (ext_alloc (ext_refl w) _) h
  have HA1 : Hid (∀ W, Ext (w.alloc (.cells #[.int .i32 P, .int .i32 0, .int .i32 M, .int .i32 N, .slice A k c] 24)) W → RdI W A k c xs) := fun W h => HA.out.ext (ew.out W h)
  clear HA
  go_enter Tryz.func19, Tryz.ntmps19
  go_wp2
  go_loopw [3, 28] (fun v3 v28 wr => ∃ i : Nat, v28 = .int .i32 i ∧ i ≤ 10 ∧ Ext (w.alloc (.cells #[.int .i32 P, .int .i32 0, .int .i32 M, .int .i32 N, .slice A k c] 24)) wr ∧ Hid (OwnR wr (w.heap.size + 1) v3 (3 + i) ([101, P, M] ++ (List.range i).map (fun j : Nat => N + (j : Int))))) (fun _ v28 _ => 10 - (intOf v28).toNat)
  case atStart => exact ⟨0, rfl, Nat.zero_le _, E1.out, O1.out⟩
  case round =>
    clear O1 E1
    obtain ⟨i, rfl, hi, hE, hO⟩ := hrel
    obtain ⟨p0, p1, p2, p3, p4, pl⟩ := bxf.out _ hE
    by_cases hlt : i < 10
    · have hni : (N + (i : Int)) ≤ 2147483647 := by omega
      go_wp2_with (first
        | (at_builtin; refine push_i32 rfl _ _ rfl _ rfl hE (by simp [go_sem]) (by omega) hO.out rfl (N + (i : Int)) ⟨_, 0, none⟩ 1 rfl (by simp [go_sem, rV]) (by omega) ?_; intro v1 w1 hE1 hO1))
      go_roundw
      case rel => exact ⟨i + 1, by go_num, by omega, hE1, by have := hO1.out; rw [List.append_assoc] at this; rw [List.range_succ, List.map_append]; exact this⟩
      case measure => simp [intOf]; omega
    · obtain rfl : i = 10 := by omega
      obtain ⟨g, cap, hv, _, _⟩ := (show OwnR wr (w.heap.size + 1) _ 13 _ from hO.out).form (by omega)
      subst hv
      have hO2 := hO.out
      have hg0 : w.heap.size + 1 ≤ g := (hO2.lt g rfl).1
      have HR : Hid (RwI wr g 13 cap (allR P 0 M N).toArray) := ⟨by have := own_zero hO2; simpa [allR] using this⟩
      clear hO hO2
      go_wp2
      go_loopw [41] (fun v41 W => ∃ j : Nat, v41 = .int .i64 j ∧ j ≤ 13 ∧ Ext (w.alloc (.cells #[.int .i32 P, .int .i32 0, .int .i32 M, .int .i32 N, .slice A k c] 24)) W ∧ Hid (RwI W g 13 cap (allR P 0 M N).toArray) ∧ Hid (∀ t, t < j → stdR ((allR P 0 M N).toArray[t]!))) (fun v41 _ => 13 - (intOf v41).toNat)
      case atStart => exact ⟨0, rfl, Nat.zero_le _, hE, HR, fun t ht => by omega⟩
      case round =>
        clear hE HR p0 p1 p2 p3 p4 pl
        obtain ⟨j, rfl, hj, hE, HR, hstd⟩ := hrel
        obtain ⟨p0, p1, p2, p3, p4, pl⟩ := bxf.out _ hE
        by_cases hlt : j < 13
        · obtain ⟨x, hx⟩ : ∃ x, Hid ((allR P 0 M N).toArray[j]! = x) := ⟨_, rfl⟩
          have c0 : wr.cell? ⟨g, j, none⟩ = some (.int .i32 x) := by rw [← hx.out]; exact (HR.out.at_ j hlt).1
          by_cases hs : stdR x
          · obtain ⟨hs1, hs2⟩ := stdR_ne hs
            have hs3 : x ≠ 0 := by simpa using hs1
            go_wp2_with (first
              | (go_at_call 37; (with_reducible refine (Tryz.utf8_ValidRune _ _).mono ?_); rintro e w' ⟨rfl, rfl⟩)
             )
            go_roundw
            case rel =>
              refine ⟨_, _, .int .i64 ((j + 1 : Nat) : Int), _, _, _, _, _, _, _, _, _, _, _, ⟨j + 1, rfl, by omega, hE, HR, fun t ht => ?_⟩, by rfl⟩
              rcases (by omega : t = j ∨ t < j) with rfl | h
              · rw [hx.out]; exact hs
              · exact hstd.out t h
            case measure => simp [intOf]; omega
          · have hck : ckv P 0 M N xs = 230 := by
              unfold ckv
              rw [if_neg (by omega), if_pos (fun h => hs (by rw [← hx.out]; exact h _ (allR_at (len0 P M N) hlt)))]
            have hret := ew.out _ hE
            by_cases hx0 : x = 0
            · subst hx0
              go_wp2
              refine bodyPost_ret (v := .int .i64 230) ?h rfl ⟨by first | rfl | rw [hck], hret⟩
              case h => simp [results, Tryz.results19, go_sem]
            · have hs2 := stdR_not hs hx0
              have hs1 : (x == 0) = false := by simpa using hx0
              go_wp2_with (first
                | (go_at_call 37; (with_reducible refine (Tryz.utf8_ValidRune _ _).mono ?_); rintro e w' ⟨rfl, rfl⟩)
               )
              refine bodyPost_ret (v := .int .i64 230) ?h rfl ⟨by first | rfl | rw [hck], hret⟩
              case h => simp [results, Tryz.results19, go_sem]
        · obtain rfl : j = 13 := by omega
          have hall := Lib.hid (allR_all (len0 P M N) hstd.out)
          clear hstd
          have hcap := HR.out.bound.1
          have hsz : (allR P 0 M N).toArray.size = 13 := by simpa using (len0 P M N)
          have hgE : ∀ W W', Fg g W W' → Ext (w.alloc (.cells #[.int .i32 P, .int .i32 0, .int .i32 M, .int .i32 N, .slice A k c] 24)) W → Ext (w.alloc (.cells #[.int .i32 P, .int .i32 0, .int .i32 M, .int .i32 N, .slice A k c] 24)) W' := fun W W' h1 h2 => h1.ext h2 (fun q hq => by subst hq; rw [hb1]; exact hg0)
          have hret := Lib.hid (fun W h => ew.out W h)
          by_cases hnd : (allR P 0 M N).Nodup
          · have hno := Lib.hid ((noAdj_iff _ 13 hsz).2 hnd)
            go_wp2_with (first
              | (go_at_call 38; (with_reducible refine (so_Sort g 13 cap _ _ HR.out (by omega) (by omega) (apart0 P M N)).mono ?_); rintro e w3 ⟨rfl, R3, F3⟩))
            have hE3d := Lib.hid (ext_trans (hgE _ _ F3.out hE) (ext_drew (ext_refl _)))
            have hR3 := Lib.hid (R3.out.ext (ext_drew (ext_refl _)))
            go_region_with (first
              | (go_at_call 39; (with_reducible refine (so_Compact g 13 cap (Sort.sort ltInt (allR P 0 M N).toArray) _ ?_ (by omega) (by omega)).mono ?_); (exact hR3.out); rintro e w4 ⟨m, rfl, hm, hiff, F4⟩; obtain rfl : m = 13 := hiff.out.2 hno.out; have hE4 := Lib.hid (hgE _ _ F4.out hE3d.out); obtain ⟨p0, p1, p2, p3, p4, pl⟩ := bxf.out _ hE4.out; clear hm hiff F4))
            all_goals
              have hl := (HA1.out _ hE4.out).len
              have hck0 := ckv_in (xs := xs) hN hall.out hnd
              have hfin := hret.out _ hE4.out
              by_cases hk0 : k = 0
              · rw [szv_none (by omega)] at hck0
                subst hk0
                go_wp2
                refine bodyPost_ret (v := .int .i64 0) ?h rfl ⟨by first | rfl | rw [hck0], hfin⟩
                case h => simp [results, Tryz.results19, go_sem]
              · rw [szv_bare (by omega)] at hck0
                have hk1 : ((k : Int) == 0) = false := by simp; omega
                go_wp2
                refine bodyPost_ret (v := .int .i64 231) ?h rfl ⟨by first | rfl | rw [hck0], hfin⟩
                case h => simp [results, Tryz.results19, go_sem]
          · have hno := Lib.hid (fun h => hnd ((noAdj_iff _ 13 hsz).1 h))
            go_wp2_with (first
              | (go_at_call 38; (with_reducible refine (so_Sort g 13 cap _ _ HR.out (by omega) (by omega) (apart0 P M N)).mono ?_); rintro e w3 ⟨rfl, R3, F3⟩))
            have hE3d := Lib.hid (ext_trans (hgE _ _ F3.out hE) (ext_drew (ext_refl _)))
            have hR3 := Lib.hid (R3.out.ext (ext_drew (ext_refl _)))
            go_region_with (first
              | (go_at_call 39; (with_reducible refine (so_Compact g 13 cap (Sort.sort ltInt (allR P 0 M N).toArray) _ ?_ (by omega) (by omega)).mono ?_); (exact hR3.out); rintro e w4 ⟨m, rfl, hm, hiff, F4⟩; have hE4 := Lib.hid (hgE _ _ F4.out hE3d.out); have hmn : ((m : Int) != 13) = true := (by have hne : ¬ m = 13 := (fun h => hno.out (hiff.out.1 h)); simp; omega)))
            all_goals go_wp2
            all_goals
              have hck : ckv P 0 M N xs = 230 := by
                unfold ckv
                rw [if_neg (by omega), if_neg (fun h => h hall.out), if_pos hnd]
              refine bodyPost_ret (v := .int .i64 230) ?h rfl ⟨by first | rfl | rw [hck], hret.out _ hE4.out⟩
              case h => simp [results, Tryz.results19, go_sem]
theorem mk_Check_out (P G M N : Int) (A : Option Addr) (k c : Nat) (xs : List Int) (w : World) (hN : N < 0 ∨ 1114111 < N) :
    Calls Tryz.prog 19 #[mkV P G M N A k c] w fun e w' => e = .returned (.int .i64 (ckv P G M N xs)) ∧ Ext w w' := by
  have hck : ckv P G M N xs = 230 := by unfold ckv; rw [if_pos hN]
  rw [hck]
  by_cases hN0 : N < 0
  · skip
    go_enter Tryz.func19, Tryz.ntmps19
    go_wp2
    refine bodyPost_ret (v := .int .i64 230) ?h rfl ⟨rfl, ?_⟩
    case h => simp [results, Tryz.results19, go_sem]
    repeat (first | exact ext_refl _ | assumption | refine ext_setCell ?_ (by simp; try omega) _ | refine ext_alloc ?_ _ | refine ext_drew ?_ | refine ext_drewN ?_ _ | refine ext_trans ?_ (Aft.use _) | refine ext_trans ?_ (by assumption))
  · have hN1 : 1114111 < N := by omega
    go_enter Tryz.func19, Tryz.ntmps19
    go_wp2
    refine bodyPost_ret (v := .int .i64 230) ?h rfl ⟨rfl, ?_⟩
    case h => simp [results, Tryz.results19, go_sem]
    repeat (first | exact ext_refl _ | assumption | refine ext_setCell ?_ (by simp; try omega) _ | refine ext_alloc ?_ _ | refine ext_drew ?_ | refine ext_drewN ?_ _ | refine ext_trans ?_ (Aft.use _) | refine ext_trans ?_ (by assumption))
end Go.Proofs.YtgedpfbokkambaaGreatDoor
end
section
/- Marks: Check of the program with a Group; Check, whole. (Written by mkcheckm.py.) -/
namespace Go.Proofs.YtgedpfbokkambaaGreatDoor
open Go.RowKit Go.Sort
attribute [local go_sem] sz2 sz3 sz4 sz5 sz6 sz7 sz8
set_option maxHeartbeats 4000000
set_option maxRecDepth 100000
attribute [local irreducible] Calls
theorem mk_Check_with (P G M N : Int) (hG : G ≠ 0) (A : Option Addr) (k c : Nat) (xs : List Int) (w : World) (hA : RdI w A k c xs) (hN : 0 ≤ N ∧ N ≤ 1114111) :
    Calls Tryz.prog 19 #[mkV P G M N A k c] w fun e w' => e = .returned (.int .i64 (ckv P G M N xs)) ∧ Ext w w' := by
  have HA := Lib.hid hA
  clear hA
  have bxf : Hid (∀ W, Ext (w.alloc (.cells #[.int .i32 P, .int .i32 G, .int .i32 M, .int .i32 N, .slice A k c] 24)) W → W.cell? ⟨w.heap.size, 0, none⟩ = some (.int .i32 P) ∧ W.cell? ⟨w.heap.size, 1, none⟩ = some (.int .i32 G) ∧ W.cell? ⟨w.heap.size, 2, none⟩ = some (.int .i32 M) ∧ W.cell? ⟨w.heap.size, 3, none⟩ = some (.int .i32 N) ∧ W.cell? ⟨w.heap.size, 4, none⟩ = some (.slice A k c) ∧ w.heap.size < W.heap.size) := fun W hW => by
    have hl : w.heap.size < (w.alloc (.cells #[.int .i32 P, .int .i32 G, .int .i32 M, .int .i32 N, .slice A k c] 24)).heap.size := by simp
    refine ⟨?_, ?_, ?_, ?_, ?_, Nat.lt_of_lt_of_le hl hW.size⟩
    · rw [Below.cell (p := ⟨w.heap.size, 0, none⟩) hW hl]; simp [go_sem]
    · rw [Below.cell (p := ⟨w.heap.size, 1, none⟩) hW hl]; simp [go_sem]
    · rw [Below.cell (p := ⟨w.heap.size, 2, none⟩) hW hl]; simp [go_sem]
    · rw [Below.cell (p := ⟨w.heap.size, 3, none⟩) hW hl]; simp [go_sem]
    · rw [Below.cell (p := ⟨w.heap.size, 4, none⟩) hW hl]; simp [go_sem]
  have hb1 : (w.alloc (.cells #[.int .i32 P, .int .i32 G, .int .i32 M, .int .i32 N, .slice A k c] 24)).heap.size = w.heap.size + 1 := by simp
  have O1 : Hid (OwnR ((w.alloc (.cells #[.int .i32 P, .int .i32 G, .int .i32 M, .int .i32 N, .slice A k c] 24)).alloc (.cells #[.int .i32 101, .int .i32 P, .int .i32 M] 21)) (w.heap.size + 1) (.slice (some ⟨w.heap.size + 1, 0, none⟩) 3 3) 3 [101, P, M]) := own_lit [101, P, M] rfl (by simp) rfl (by rw [hb1]; exact Nat.le_refl _) hb1.symm
  have E1 : Hid (Ext (w.alloc (.cells #[.int .i32 P, .int .i32 G, .int .i32 M, .int .i32 N, .slice A k c] 24)) ((w.alloc (.cells #[.int .i32 P, .int .i32 G, .int .i32 M, .int .i32 N, .slice A k c] 24)).alloc (.cells #[.int .i32 101, .int .i32 P, .int .i32 M] 21))) := ext_alloc (ext_refl _) _
  have ew : Hid (∀ W, Ext (w.alloc (.cells #[.int .i32 P, .int .i32 G, .int .i32 M, .int .i32 N, .slice A k c] 24)) W → Ext w W) := fun W h => ext_trans (ext_alloc (ext_refl w) _) h
  have HA1 : Hid (∀ W, Ext (w.alloc (.cells #[.int .i32 P, .int .i32 G, .int .i32 M, .int .i32 N, .slice A k c] 24)) W → RdI W A k c xs) := fun W h => HA.out.ext (ew.out W h)
  clear HA
  go_enter Tryz.func19, Tryz.ntmps19
  go_wp2_with (first
    | (at_builtin; refine push_i32 rfl _ _ rfl _ rfl E1.out (by simp [go_sem]) (by simp) O1.out rfl (G) ⟨_, 0, none⟩ 1 rfl (by simp [go_sem, rV]) (by omega) ?_; intro v1 w1 hE1 hO1))
  go_loopw [3, 28] (fun v3 v28 wr => ∃ i : Nat, v28 = .int .i32 i ∧ i ≤ 10 ∧ Ext (w.alloc (.cells #[.int .i32 P, .int .i32 G, .int .i32 M, .int .i32 N, .slice A k c] 24)) wr ∧ Hid (OwnR wr (w.heap.size + 1) v3 (4 + i) ([101, P, M, G] ++ (List.range i).map (fun j : Nat => N + (j : Int))))) (fun _ v28 _ => 10 - (intOf v28).toNat)
  case atStart => exact ⟨0, rfl, Nat.zero_le _, hE1, hO1⟩
  case round =>
    clear O1 E1 hE1 hO1
    obtain ⟨i, rfl, hi, hE, hO⟩ := hrel
    obtain ⟨p0, p1, p2, p3, p4, pl⟩ := bxf.out _ hE
    by_cases hlt : i < 10
    · have hni : (N + (i : Int)) ≤ 2147483647 := by omega
      go_wp2_with (first
        | (at_builtin; refine push_i32 rfl _ _ rfl _ rfl hE (by simp [go_sem]) (by omega) hO.out rfl (N + (i : Int)) ⟨_, 0, none⟩ 1 rfl (by simp [go_sem, rV]) (by omega) ?_; intro v1 w1 hE1 hO1))
      go_roundw
      case rel => exact ⟨i + 1, by go_num, by omega, hE1, by have := hO1.out; rw [List.append_assoc] at this; rw [List.range_succ, List.map_append]; exact this⟩
      case measure => simp [intOf]; omega
    · obtain rfl : i = 10 := by omega
      obtain ⟨g, cap, hv, _, _⟩ := (show OwnR wr (w.heap.size + 1) _ 14 _ from hO.out).form (by omega)
      subst hv
      have hO2 := hO.out
      have hg0 : w.heap.size + 1 ≤ g := (hO2.lt g rfl).1
      have HR : Hid (RwI wr g 14 cap (allR P G M N).toArray) := ⟨by have := own_zero hO2; simpa [allR, hG] using this⟩
      clear hO hO2
      go_wp2
      go_loopw [41] (fun v41 W => ∃ j : Nat, v41 = .int .i64 j ∧ j ≤ 14 ∧ Ext (w.alloc (.cells #[.int .i32 P, .int .i32 G, .int .i32 M, .int .i32 N, .slice A k c] 24)) W ∧ Hid (RwI W g 14 cap (allR P G M N).toArray) ∧ Hid (∀ t, t < j → stdR ((allR P G M N).toArray[t]!))) (fun v41 _ => 14 - (intOf v41).toNat)
      case atStart => exact ⟨0, rfl, Nat.zero_le _, hE, HR, fun t ht => by omega⟩
      case round =>
        clear hE HR p0 p1 p2 p3 p4 pl
        obtain ⟨j, rfl, hj, hE, HR, hstd⟩ := hrel
        obtain ⟨p0, p1, p2, p3, p4, pl⟩ := bxf.out _ hE
        by_cases hlt : j < 14
        · obtain ⟨x, hx⟩ : ∃ x, Hid ((allR P G M N).toArray[j]! = x) := ⟨_, rfl⟩
          have c0 : wr.cell? ⟨g, j, none⟩ = some (.int .i32 x) := by rw [← hx.out]; exact (HR.out.at_ j hlt).1
          by_cases hs : stdR x
          · obtain ⟨hs1, hs2⟩ := stdR_ne hs
            have hs3 : x ≠ 0 := by simpa using hs1
            go_wp2_with (first
              | (go_at_call 37; (with_reducible refine (Tryz.utf8_ValidRune _ _).mono ?_); rintro e w' ⟨rfl, rfl⟩)
             )
            go_roundw
            case rel =>
              refine ⟨_, _, .int .i64 ((j + 1 : Nat) : Int), _, _, _, _, _, _, _, _, _, _, _, ⟨j + 1, rfl, by omega, hE, HR, fun t ht => ?_⟩, by rfl⟩
              rcases (by omega : t = j ∨ t < j) with rfl | h
              · rw [hx.out]; exact hs
              · exact hstd.out t h
            case measure => simp [intOf]; omega
          · have hck : ckv P G M N xs = 230 := by
              unfold ckv
              rw [if_neg (by omega), if_pos (fun h => hs (by rw [← hx.out]; exact h _ (allR_at (len1 P G M N hG) hlt)))]
            have hret := ew.out _ hE
            by_cases hx0 : x = 0
            · subst hx0
              go_wp2
              refine bodyPost_ret (v := .int .i64 230) ?h rfl ⟨by first | rfl | rw [hck], hret⟩
              case h => simp [results, Tryz.results19, go_sem]
            · have hs2 := stdR_not hs hx0
              have hs1 : (x == 0) = false := by simpa using hx0
              go_wp2_with (first
                | (go_at_call 37; (with_reducible refine (Tryz.utf8_ValidRune _ _).mono ?_); rintro e w' ⟨rfl, rfl⟩)
               )
              refine bodyPost_ret (v := .int .i64 230) ?h rfl ⟨by first | rfl | rw [hck], hret⟩
              case h => simp [results, Tryz.results19, go_sem]
        · obtain rfl : j = 14 := by omega
          have hall := Lib.hid (allR_all (len1 P G M N hG) hstd.out)
          clear hstd
          have hcap := HR.out.bound.1
          have hsz : (allR P G M N).toArray.size = 14 := by simpa using (len1 P G M N hG)
          have hgE : ∀ W W', Fg g W W' → Ext (w.alloc (.cells #[.int .i32 P, .int .i32 G, .int .i32 M, .int .i32 N, .slice A k c] 24)) W → Ext (w.alloc (.cells #[.int .i32 P, .int .i32 G, .int .i32 M, .int .i32 N, .slice A k c] 24)) W' := fun W W' h1 h2 => h1.ext h2 (fun q hq => by subst hq; rw [hb1]; exact hg0)
          have hret := Lib.hid (fun W h => ew.out W h)
          by_cases hnd : (allR P G M N).Nodup
          · have hno := Lib.hid ((noAdj_iff _ 14 hsz).2 hnd)
            go_wp2_with (first
              | (go_at_call 38; (with_reducible refine (so_Sort g 14 cap _ _ HR.out (by omega) (by omega) (apart1 P G M N hG)).mono ?_); rintro e w3 ⟨rfl, R3, F3⟩))
            have hE3d := Lib.hid (ext_trans (hgE _ _ F3.out hE) (ext_drew (ext_refl _)))
            have hR3 := Lib.hid (R3.out.ext (ext_drew (ext_refl _)))
            go_region_with (first
              | (go_at_call 39; (with_reducible refine (so_Compact g 14 cap (Sort.sort ltInt (allR P G M N).toArray) _ ?_ (by omega) (by omega)).mono ?_); (exact hR3.out); rintro e w4 ⟨m, rfl, hm, hiff, F4⟩; obtain rfl : m = 14 := hiff.out.2 hno.out; have hE4 := Lib.hid (hgE _ _ F4.out hE3d.out); obtain ⟨p0, p1, p2, p3, p4, pl⟩ := bxf.out _ hE4.out; clear hm hiff F4))
            all_goals
              have hl := (HA1.out _ hE4.out).len
              have hck0 := ckv_in (xs := xs) hN hall.out hnd
              have hfin := hret.out _ hE4.out
              have hG1 : (G == 0) = false := by simpa using hG
              by_cases hk0 : k = 0 ∨ 16 < k
              · rw [szv_many hG (by omega)] at hck0
                have hk2 : ((k : Int) == 0) = decide (k = 0) := by
                  by_cases h : k = 0
                  · subst h; rfl
                  · simp [h]
                by_cases hk3 : k = 0
                · subst hk3
                  go_wp2
                  refine bodyPost_ret (v := .int .i64 231) ?h rfl ⟨by first | rfl | rw [hck0], hfin⟩
                  case h => simp [results, Tryz.results19, go_sem]
                · have hk1 : ((k : Int) == 0) = false := by simp; omega
                  have hk4 : (16 : Int) < (k : Int) := by omega
                  go_wp2
                  refine bodyPost_ret (v := .int .i64 231) ?h rfl ⟨by first | rfl | rw [hck0], hfin⟩
                  case h => simp [results, Tryz.results19, go_sem]
              · obtain ⟨k', rfl⟩ : ∃ k', k = k' + 1 := ⟨k - 1, by omega⟩
                have hlen : ¬ (xs.length = 0 ∨ 16 < xs.length) := by omega
                have hk1 : (((k' + 1 : Nat) : Int) == 0) = false := by simp; omega
                have hk4 : ¬ (16 : Int) < ((k' + 1 : Nat) : Int) := by omega
                have hk5 : ¬ (16 : Int) < (k' : Int) + 1 := by omega
                have hk6 : ((k' : Int) + 1 == 0) = false := by simp; omega
                have hso := sizes_iff xs k' hl
                by_cases hmin : leastI xs k' < 1
                · rw [szv_bad hG hlen (fun h => (hso.1 h).1 hmin)] at hck0
                  go_wp2_with (first
                    | (go_at_call 40; (with_reducible refine (sl_Min _ A k' c xs ?_).mono ?_); (exact HA1.out _ hE4.out); rintro e w5 ⟨rfl, xE5⟩; have hE5 := Lib.hid (ext_trans hE4.out xE5); obtain ⟨q0, q1, q2, q3, q4, ql⟩ := bxf.out _ hE5.out))
                  refine bodyPost_ret (v := .int .i64 231) ?h rfl ⟨by first | rfl | rw [hck0], hret.out _ hE5.out⟩
                  case h => simp [results, Tryz.results19, go_sem]
                · by_cases hmax : 256 < mostI xs k'
                  · rw [szv_bad hG hlen (fun h => (hso.1 h).2 hmax)] at hck0
                    go_wp2_with (first
                      | (go_at_call 40; (with_reducible refine (sl_Min _ A k' c xs ?_).mono ?_); (exact HA1.out _ hE4.out); rintro e w5 ⟨rfl, xE5⟩; have hE5 := Lib.hid (ext_trans hE4.out xE5); obtain ⟨q0, q1, q2, q3, q4, ql⟩ := bxf.out _ hE5.out)
                      | (go_at_call 41; (with_reducible refine (sl_Max _ A k' c xs ?_).mono ?_); (exact HA1.out _ hE5.out); rintro e w6 ⟨rfl, xE6⟩; have hE6 := Lib.hid (ext_trans hE5.out xE6); obtain ⟨r0, r1, r2, r3, r4, rl⟩ := bxf.out _ hE6.out))
                    refine bodyPost_ret (v := .int .i64 231) ?h rfl ⟨by first | rfl | rw [hck0], hret.out _ hE6.out⟩
                    case h => simp [results, Tryz.results19, go_sem]
                  · rw [szv_good hG hlen (hso.2 ⟨hmin, hmax⟩)] at hck0
                    go_wp2_with (first
                      | (go_at_call 40; (with_reducible refine (sl_Min _ A k' c xs ?_).mono ?_); (exact HA1.out _ hE4.out); rintro e w5 ⟨rfl, xE5⟩; have hE5 := Lib.hid (ext_trans hE4.out xE5); obtain ⟨q0, q1, q2, q3, q4, ql⟩ := bxf.out _ hE5.out)
                      | (go_at_call 41; (with_reducible refine (sl_Max _ A k' c xs ?_).mono ?_); (exact HA1.out _ hE5.out); rintro e w6 ⟨rfl, xE6⟩; have hE6 := Lib.hid (ext_trans hE5.out xE6); obtain ⟨r0, r1, r2, r3, r4, rl⟩ := bxf.out _ hE6.out))
                    refine bodyPost_ret (v := .int .i64 0) ?h rfl ⟨by first | rfl | rw [hck0], hret.out _ hE6.out⟩
                    case h => simp [results, Tryz.results19, go_sem]
          · have hno := Lib.hid (fun h => hnd ((noAdj_iff _ 14 hsz).1 h))
            go_wp2_with (first
              | (go_at_call 38; (with_reducible refine (so_Sort g 14 cap _ _ HR.out (by omega) (by omega) (apart1 P G M N hG)).mono ?_); rintro e w3 ⟨rfl, R3, F3⟩))
            have hE3d := Lib.hid (ext_trans (hgE _ _ F3.out hE) (ext_drew (ext_refl _)))
            have hR3 := Lib.hid (R3.out.ext (ext_drew (ext_refl _)))
            go_region_with (first
              | (go_at_call 39; (with_reducible refine (so_Compact g 14 cap (Sort.sort ltInt (allR P G M N).toArray) _ ?_ (by omega) (by omega)).mono ?_); (exact hR3.out); rintro e w4 ⟨m, rfl, hm, hiff, F4⟩; have hE4 := Lib.hid (hgE _ _ F4.out hE3d.out); have hmn : ((m : Int) != 14) = true := (by have hne : ¬ m = 14 := (fun h => hno.out (hiff.out.1 h)); simp; omega)))
            all_goals go_wp2
            all_goals
              have hck : ckv P G M N xs = 230 := by
                unfold ckv
                rw [if_neg (by omega), if_neg (fun h => h hall.out), if_pos hnd]
              refine bodyPost_ret (v := .int .i64 230) ?h rfl ⟨by first | rfl | rw [hck], hret.out _ hE4.out⟩
              case h => simp [results, Tryz.results19, go_sem]
theorem mk_Check (P G M N : Int) (A : Option Addr) (k c : Nat) (xs : List Int) (w : World) (hA : RdI w A k c xs) :
    Calls Tryz.prog 19 #[mkV P G M N A k c] w fun e w' => e = .returned (.int .i64 (ckv P G M N xs)) ∧ Ext w w' := by
  by_cases hN : N < 0 ∨ 1114111 < N
  · exact mk_Check_out P G M N A k c xs w hN
  · by_cases hG : G = 0
    · subst hG
      exact mk_Check_bare P M N A k c xs w hA (by omega)
    · exact mk_Check_with P G M N hG A k c xs w hA (by omega)
end Go.Proofs.YtgedpfbokkambaaGreatDoor
end
