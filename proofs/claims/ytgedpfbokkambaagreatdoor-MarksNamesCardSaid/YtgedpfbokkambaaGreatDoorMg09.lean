/- Lemmas of this proof, laid together: SrtB, SrtC. -/
import Derived.Test.YtgedpfbokkambaaGreatDoorMg08
import Derived.CellFam
import Derived.Sort.LotA
set_option linter.unusedSimpArgs false
set_option linter.unusedVariables false
section
/- The sort of runes, the first walks: less, the insertion sort, order, median. -/
namespace Go.Proofs.YtgedpfbokkambaaGreatDoor
open Go.RowKit Go.Sort
set_option maxHeartbeats 4000000
set_option maxRecDepth 100000
attribute [local irreducible] Calls
theorem so_isNaN (x : Int) (w : World) : Calls Tryz.prog 91 #[.int .i32 x] w fun e w' => e = .returned (.bool false) ∧ w' = w := by
  go_enter Tryz.func91, Tryz.ntmps91
  go_wp2
  go_ret
  exact ⟨by simp, rfl⟩
theorem so_Less (x y : Int) (w : World) : Calls Tryz.prog 75 #[.int .i32 x, .int .i32 y] w fun e w' => e = .returned (.bool (ltInt x y)) ∧ w' = w := by
  go_enter Tryz.func75, Tryz.ntmps75
  go_wp2_with (go_at_call 91; refine (so_isNaN _ _).mono ?_; rintro e w' ⟨rfl, rfl⟩)
  go_ret
  exact ⟨rfl, rfl⟩
theorem insInner_gow (a j : Nat) (d : Array Int) (hja : a < j) (hl : ltInt d[j]! d[j - 1]! = true) : insInner ltInt a j d = insInner ltInt a (j - 1) (swp d j (j - 1)) := by
  obtain ⟨k, rfl⟩ : ∃ k, j = k + 1 := ⟨j - 1, by omega⟩
  simp only [Nat.add_sub_cancel] at hl ⊢
  rw [insInner, if_pos (by simp [hl]; omega)]
theorem insInner_stopw (a j : Nat) (d : Array Int) (h : j ≤ a ∨ ltInt d[j]! d[j - 1]! = false) : insInner ltInt a j d = d := by
  cases j with
  | zero => rw [insInner]
  | succ k =>
    simp only [Nat.add_sub_cancel] at h
    rw [insInner, if_neg]
    rcases h with h | h
    · simp; omega
    · simp [h]
theorem insOuter_gow (a b i : Nat) (d : Array Int) (h : i < b) : insOuter ltInt a b i d = insOuter ltInt a b (i + 1) (insInner ltInt a i d) := by
  rw [insOuter, if_pos h]
theorem insOuter_stopw (a b i : Nat) (d : Array Int) (h : ¬ i < b) : insOuter ltInt a b i d = d := by
  rw [insOuter, if_neg h]
theorem so_ins (g n cap a b : Nat) (d : Array Int) (w : World) (hH : RwI w g n cap d) (hab : a ≤ b) (hb : b ≤ n) (hsz : n < 4611686018427387904) :
    Calls Tryz.prog 69 #[.slice (some ⟨g, 0, none⟩) n cap, .int .i64 a, .int .i64 b] w fun e w' =>
      e = .returned (.tuple #[]) ∧ Hid (RwI w' g n cap (Sort.insertionSort ltInt d a b)) ∧ Hid (Fg g w w') := by
  have HH := Lib.hid hH
  clear hH
  go_enter Tryz.func69, Tryz.ntmps69
  go_wp2
  go_loopw [6] (fun vi wr => ∃ (i : Nat) (dk : Array Int), vi = .int .i64 i ∧ a < i ∧ i ≤ b + 1 ∧ Hid (RwI wr g n cap dk) ∧ Hid (Fg g w wr) ∧
      Hid (insOuter ltInt a b i dk = insOuter ltInt a b (a + 1) d)) (fun vi _ => b + 1 - (intOf vi).toNat)
  case atStart => exact ⟨a + 1, d, by go_num, by omega, by omega, HH.out, Frm.refl _ _, rfl⟩
  case round =>
    obtain ⟨i, dk, rfl, hai, hib, hK, hF, hO⟩ := hrel
    go_wp2
    · go_loopw [7] (fun vj wr2 => ∃ (j : Nat) (dj : Array Int), vj = .int .i64 j ∧ a ≤ j ∧ j ≤ i ∧ Hid (RwI wr2 g n cap dj) ∧ Hid (Fg g w wr2) ∧
          Hid (insInner ltInt a j dj = insInner ltInt a i dk)) (fun vj _ => (intOf vj).toNat)
      case atStart => exact ⟨i, dk, rfl, by omega, Nat.le_refl _, hK, hF, rfl⟩
      case round =>
        obtain ⟨j, dj, rfl, haj, hji, hJ, hF2, hI⟩ := hrel
        have hlt : i < b := by assumption
        obtain ⟨G, hG⟩ : ∃ G : Nat → Int, ∀ t, G t = dj[t]! := ⟨fun t => dj[t]!, fun _ => rfl⟩
        have hcw : ∀ t, t < n → wr.cell? ⟨g, t, none⟩ = some (.int .i32 (G t)) := fun t ht => by rw [hG]; exact hJ.out.fam.1 t ht
        have hfw : ∀ t, t < n → wr.frozen? ⟨g, t, none⟩ = false := hJ.out.fam.2
        have HG : Hid (∀ t, G t = dj[t]!) := hG
        clear hG hK hF
        have OUT := Lib.hid (show (j ≤ a ∨ ltInt dj[j]! dj[j - 1]! = false) → insOuter ltInt a b (i + 1) dj = insOuter ltInt a b (a + 1) d from fun hs => by
          rw [← hO.out, insOuter_gow _ _ _ _ hlt, ← hI.out, insInner_stopw _ _ _ hs])
        go_wp2
        by_cases hja : a < j
        · have c1 := hcw j (by omega)
          have c2 := hcw (j - 1) (by omega)
          have f1 := hfw j (by omega)
          have f2 := hfw (j - 1) (by omega)
          go_big_quiet (first | (go_at_call 75; refine Calls.quiet_of_same (so_Less _ _ _)))
          go_wp2
          · have hl : ltInt (G j) (G (j - 1)) = true := by assumption
            go_region
            all_goals go_wp2
            go_roundw
            case rel =>
              refine ⟨j - 1, swp dj j (j - 1), by congr 1; omega, by omega, by omega, ?_, ?_, ?_⟩
              · have := hJ.out.swpd nq j (j - 1); rw [← HG.out, ← HG.out] at this; exact this
              · exact fg_swpd hF2.out nq j (j - 1) _ _
              · exact (insInner_gow a j dj hja (by rw [← HG.out, ← HG.out]; exact hl)).symm.trans hI.out
            case measure => simp [intOf]; omega
          · have hl : ltInt (G j) (G (j - 1)) = false := by assumption
            go_roundw
            case rel => exact ⟨i + 1, dj, by go_num, by omega, by omega, hJ.out.drewN nq, fg_drewN hF2.out nq, OUT.out (Or.inr (by rw [← HG.out, ← HG.out]; exact hl))⟩
            case measure => simp [intOf]; omega
        · go_big_quiet (first | (go_at_call 75; refine Calls.quiet_of_same (so_Less _ _ _)))
          go_wp2
          go_roundw
          case rel => exact ⟨i + 1, dj, by go_num, by omega, by omega, hJ.out.drewN nq, fg_drewN hF2.out nq, OUT.out (Or.inl (by omega))⟩
          case measure => simp [intOf]; omega
    · have hge : ¬ i < b := by assumption
      go_end0
      refine ⟨rfl, ?_, hF⟩
      have := hO.out
      rw [insOuter_stopw _ _ _ _ hge] at this
      unfold Sort.insertionSort
      rw [← this]; exact hK
end Go.Proofs.YtgedpfbokkambaaGreatDoor
end
section
/- The sort of runes: order, median, the pivot; is it sorted already? -/
namespace Go.Proofs.YtgedpfbokkambaaGreatDoor
open Go.RowKit Go.Sort
set_option maxHeartbeats 4000000
set_option maxRecDepth 100000
attribute [local irreducible] Calls
/-- A row of one's own, and a counter beside it. -/
structure SwI (w : World) (g n cap : Nat) (d : Array Int) (q s : Nat) : Prop where
  row : RwI w g n cap d
  ne : q ≠ g
  lt : q < w.heap.size
  c : w.cell? ⟨q, 0, none⟩ = some (.int .i64 (s : Int))
  f : w.frozen? ⟨q, 0, none⟩ = false
theorem SwI.ext {w w' : World} {g n cap : Nat} {d : Array Int} {q s : Nat} (h : SwI w g n cap d q s) (he : Ext w w') : SwI w' g n cap d q s :=
  ⟨h.row.ext he, h.ne, Nat.lt_of_lt_of_le h.lt he.size, (Below.cell (p := ⟨q, 0, none⟩) he h.lt).trans h.c, (Below.frozen (p := ⟨q, 0, none⟩) he h.lt).trans h.f⟩
theorem SwI.set {w : World} {g n cap : Nat} {d : Array Int} {q s : Nat} (h : SwI w g n cap d q s) (t : Nat) : SwI (w.setCell ⟨q, 0, none⟩ (.int .i64 (t : Int))) g n cap d q t :=
  ⟨h.row.frm (Frm.set (S := fun k => k = q) _ (.inl rfl)) (fun e => h.ne e.symm), h.ne, by simpa using h.lt, World.cell?_setCell_same _ _ _ h.c, by simpa [go_sem] using h.f⟩
theorem so_order2 (g n cap : Nat) (d : Array Int) (q s a b : Nat) (w : World) (hH : SwI w g n cap d q s) (ha : a < n) (hb : b < n) (hs : s < 1000) :
    Calls Tryz.prog 94 #[.slice (some ⟨g, 0, none⟩) n cap, .int .i64 a, .int .i64 b, .pointer (some ⟨q, 0, none⟩)] w fun e w' =>
      e = .returned (.tuple #[.int .i64 ((order2 ltInt d a b s).1 : Int), .int .i64 ((order2 ltInt d a b s).2.1 : Int)]) ∧ Hid (SwI w' g n cap d q (order2 ltInt d a b s).2.2) ∧ Hid (Frm (fun k => k = q) w w') := by
  obtain ⟨G, hG⟩ : ∃ G : Nat → Int, ∀ t, G t = d[t]! := ⟨fun t => d[t]!, fun _ => rfl⟩
  have c1 : w.cell? ⟨g, a, none⟩ = some (.int .i32 (G a)) := by rw [hG]; exact (hH.row.at_ a ha).1
  have c2 : w.cell? ⟨g, b, none⟩ = some (.int .i32 (G b)) := by rw [hG]; exact (hH.row.at_ b hb).1
  have c3 := hH.c
  have f3 := hH.f
  have HH := Lib.hid hH
  have HG := Lib.hid hG
  clear hH hG
  go_enter Tryz.func94, Tryz.ntmps94
  go_wp2
  go_big_quiet (first | (go_at_call 75; refine Calls.quiet_of_same (so_Less _ _ _)))
  go_wp2
  · have hl : ltInt (G b) (G a) = true := by assumption
    have hl' : ltInt d[b]! d[a]! = true := by rw [← HG.out, ← HG.out]; exact hl
    unfold order2
    rw [if_pos hl']
    refine bodyPost_ret (v := .tuple #[.int .i64 ↑b, .int .i64 ↑a]) ?h rfl ⟨rfl, ?_, (Frm.of (ext_drewN (ext_refl w) nq)).trans (Frm.set _ (.inl rfl))⟩
    case h => simp [results, Tryz.results94, go_sem]
    exact (HH.out.ext (ext_drewN (ext_refl w) nq)).set (s + 1)
  · have hl : ltInt (G b) (G a) = false := by assumption
    have hl' : ltInt d[b]! d[a]! = false := by rw [← HG.out, ← HG.out]; exact hl
    unfold order2
    rw [if_neg (by rw [hl']; decide)]
    refine bodyPost_ret (v := .tuple #[.int .i64 ↑a, .int .i64 ↑b]) ?h rfl ⟨rfl, HH.out.ext (ext_drewN (ext_refl w) nq), Frm.of (ext_drewN (ext_refl w) nq)⟩
    case h => simp [results, Tryz.results94, go_sem]
theorem order2_lt (d : Array Int) (a b s n : Nat) (ha : a < n) (hb : b < n) : (order2 ltInt d a b s).1 < n ∧ (order2 ltInt d a b s).2.1 < n ∧ (order2 ltInt d a b s).2.2 ≤ s + 1 := by
  unfold order2
  split
  · exact ⟨hb, ha, Nat.le_refl _⟩
  · exact ⟨ha, hb, by show s ≤ s + 1; omega⟩
theorem so_median (g n cap : Nat) (d : Array Int) (q s a b c : Nat) (w : World) (hH : SwI w g n cap d q s) (ha : a < n) (hb : b < n) (hc : c < n) (hs : s < 900) :
    Calls Tryz.prog 90 #[.slice (some ⟨g, 0, none⟩) n cap, .int .i64 a, .int .i64 b, .int .i64 c, .pointer (some ⟨q, 0, none⟩)] w fun e w' =>
      e = .returned (.int .i64 ((Sort.median ltInt d a b c s).1 : Int)) ∧ Hid (SwI w' g n cap d q (Sort.median ltInt d a b c s).2) ∧ Hid (Frm (fun k => k = q) w w') := by
  obtain ⟨a1, b1, s1, h1⟩ : ∃ a1 b1 s1, Hid (order2 ltInt d a b s = (a1, b1, s1)) := ⟨_, _, _, rfl⟩
  obtain ⟨b2, c2, s2, h2⟩ : ∃ b2 c2 s2, Hid (order2 ltInt d b1 c s1 = (b2, c2, s2)) := ⟨_, _, _, rfl⟩
  obtain ⟨a3, b3, s3, h3⟩ : ∃ a3 b3 s3, Hid (order2 ltInt d a1 b2 s2 = (a3, b3, s3)) := ⟨_, _, _, rfl⟩
  obtain ⟨x1, y1, z1⟩ : a1 < n ∧ b1 < n ∧ s1 ≤ s + 1 := by have := order2_lt d a b s n ha hb; rw [h1.out] at this; exact this
  obtain ⟨x2, y2, z2⟩ : b2 < n ∧ c2 < n ∧ s2 ≤ s1 + 1 := by have := order2_lt d b1 c s1 n y1 hc; rw [h2.out] at this; exact this
  have hm : Hid (Sort.median ltInt d a b c s = (b3, s3)) := by
    show _ = _
    unfold Sort.median
    simp only [h1.out, h2.out, h3.out]
  have k1 : ∀ w', SwI w' g n cap d q s → Calls Tryz.prog 94 #[.slice (some ⟨g, 0, none⟩) n cap, .int .i64 a, .int .i64 b, .pointer (some ⟨q, 0, none⟩)] w' fun e w'' => e = .returned (.tuple #[.int .i64 (a1 : Int), .int .i64 (b1 : Int)]) ∧ Hid (SwI w'' g n cap d q s1) ∧ Hid (Frm (fun k => k = q) w' w'') := fun w' h => by
    have := so_order2 g n cap d q s a b w' h ha hb (by omega); rw [h1.out] at this; exact this
  have k2 : ∀ w', SwI w' g n cap d q s1 → Calls Tryz.prog 94 #[.slice (some ⟨g, 0, none⟩) n cap, .int .i64 b1, .int .i64 c, .pointer (some ⟨q, 0, none⟩)] w' fun e w'' => e = .returned (.tuple #[.int .i64 (b2 : Int), .int .i64 (c2 : Int)]) ∧ Hid (SwI w'' g n cap d q s2) ∧ Hid (Frm (fun k => k = q) w' w'') := fun w' h => by
    have := so_order2 g n cap d q s1 b1 c w' h y1 hc (by omega); rw [h2.out] at this; exact this
  have k3 : ∀ w', SwI w' g n cap d q s2 → Calls Tryz.prog 94 #[.slice (some ⟨g, 0, none⟩) n cap, .int .i64 a1, .int .i64 b2, .pointer (some ⟨q, 0, none⟩)] w' fun e w'' => e = .returned (.tuple #[.int .i64 (a3 : Int), .int .i64 (b3 : Int)]) ∧ Hid (SwI w'' g n cap d q s3) ∧ Hid (Frm (fun k => k = q) w' w'') := fun w' h => by
    have := so_order2 g n cap d q s2 a1 b2 w' h x1 x2 (by omega); rw [h3.out] at this; exact this
  have HH := Lib.hid hH
  have K1 := Lib.hid k1
  have K2 := Lib.hid k2
  have K3 := Lib.hid k3
  clear hH k1 k2 k3
  rw [hm.out]
  go_enter Tryz.func90, Tryz.ntmps90
  go_wp2_with (first
    | (go_at_call 94; (with_reducible refine (K1.out _ ?_).mono ?_); (exact HH.out); rintro e w1 ⟨rfl, m1, q1⟩)
    | (go_at_call 94; (with_reducible refine (K2.out _ ?_).mono ?_); (exact m1.out); rintro e w2 ⟨rfl, m2, q2⟩)
    | (go_at_call 94; (with_reducible refine (K3.out _ ?_).mono ?_); (exact m2.out); rintro e w3 ⟨rfl, m3, q3⟩))
  refine bodyPost_ret (v := .int .i64 ↑b3) ?h rfl ⟨rfl, m3, q1.out.trans (q2.out.trans q3.out)⟩
  case h => simp [results, Tryz.results90, go_sem]
theorem median_lt (d : Array Int) (a b c s n : Nat) (ha : a < n) (hb : b < n) (hc : c < n) : (Sort.median ltInt d a b c s).1 < n ∧ (Sort.median ltInt d a b c s).2 ≤ s + 3 := by
  unfold Sort.median
  have h1 := order2_lt d a b s n ha hb
  have h2 := order2_lt d (order2 ltInt d a b s).2.1 c (order2 ltInt d a b s).2.2 n h1.2.1 hc
  have h3 := order2_lt d (order2 ltInt d a b s).1 (order2 ltInt d (order2 ltInt d a b s).2.1 c (order2 ltInt d a b s).2.2).1 (order2 ltInt d (order2 ltInt d a b s).2.1 c (order2 ltInt d a b s).2.2).2.2 n h1.1 h2.1
  refine ⟨h3.2.1, ?_⟩
  have e1 := h1.2.2
  have e2 := h2.2.2
  have e3 := h3.2.2
  simp only at *
  omega
/-- Is it one of these that sort? -/
def hintN : Hint → Int | .unknown => 0 | .increasing => 1 | .decreasing => 2
theorem so_pivot (g n cap : Nat) (d : Array Int) (w : World) (hH : RwI w g n cap d) (h12 : 12 < n) (h14 : n ≤ 14) :
    Calls Tryz.prog 72 #[.slice (some ⟨g, 0, none⟩) n cap, .int .i64 0, .int .i64 n] w fun e w' =>
      e = .returned (.tuple #[.int .i64 ((Sort.choosePivot ltInt d 0 n).1 : Int), .int .i64 (hintN (Sort.choosePivot ltInt d 0 n).2)]) ∧ Ext w w' := by
  have hd : n / 4 = 3 := by omega
  obtain ⟨p, s, hm⟩ : ∃ p s, Hid (Sort.median ltInt d 3 6 9 0 = (p, s)) := ⟨_, _, rfl⟩
  obtain ⟨hp, hs⟩ : p < n ∧ s ≤ 3 := by have := median_lt d 3 6 9 0 n (by omega) (by omega) (by omega); rw [hm.out] at this; exact ⟨this.1, by have := this.2; simp only at this; omega⟩
  have hcp : Hid (Sort.choosePivot ltInt d 0 n = (p, if s = 0 then Hint.increasing else if s = 12 then .decreasing else .unknown)) := by
    show _ = _
    unfold Sort.choosePivot
    simp only [Nat.sub_zero, hd, Nat.zero_add]
    rw [if_pos (by omega), if_neg (by omega)]
    have e := hm.out
    simp only [show 3 * 1 = 3 by rfl, show 3 * 2 = 6 by rfl, show 3 * 3 = 9 by rfl, e]
  have k1 : ∀ w', SwI w' g n cap d w.heap.size 0 → Calls Tryz.prog 90 #[.slice (some ⟨g, 0, none⟩) n cap, .int .i64 3, .int .i64 6, .int .i64 9, .pointer (some ⟨w.heap.size, 0, none⟩)] w' fun e w'' => e = .returned (.int .i64 (p : Int)) ∧ Hid (SwI w'' g n cap d w.heap.size s) ∧ Hid (Frm (fun k => k = w.heap.size) w' w'') := fun w' h => by
    have := so_median g n cap d w.heap.size 0 3 6 9 w' h (by omega) (by omega) (by omega) (by omega); rw [hm.out] at this; exact this
  have hgl := hH.lt
  have HH := Lib.hid hH
  have K1 := Lib.hid k1
  clear hH k1
  rw [hcp.out]
  have K0 : Hid (SwI (w.alloc (.cells #[.int .i64 0] 3)) g n cap d w.heap.size 0) :=
    ⟨HH.out.ext (ext_alloc (ext_refl w) _), Nat.ne_of_gt hgl, by simp [go_sem], by simp [go_sem], by simp [go_sem]⟩
  have hq1 : ((n : Int).tdiv 4) = 3 := by rw [Int.tdiv_eq_ediv_of_nonneg (by omega)]; omega
  clear hcp
  by_cases hs0 : s = 0
  · subst hs0
    simp only [if_pos, hintN]
    go_enter Tryz.func72, Tryz.ntmps72
    go_wp2_with (first
      | (go_at_call 90; (with_reducible refine (K1.out _ ?_).mono ?_); (exact K0.out); rintro e w1 ⟨rfl, m1, q1⟩; have c5 := m1.out.c))
    have hx : Ext w w1 := q1.out.ext (ext_alloc (ext_refl w) _) (fun k hk => by subst hk; exact Nat.le_refl _)
    refine bodyPost_ret (v := .tuple #[.int .i64 ↑p, .int .i64 1]) ?h rfl ⟨rfl, hx⟩
    case h => simp [results, Tryz.results72, go_sem]
  · have hs12 : s ≠ 12 := by omega
    simp only [if_neg hs0, if_neg hs12, hintN]
    go_enter Tryz.func72, Tryz.ntmps72
    go_wp2_with (first
      | (go_at_call 90; (with_reducible refine (K1.out _ ?_).mono ?_); (exact K0.out); rintro e w1 ⟨rfl, m1, q1⟩; have c5 := m1.out.c))
    have hx : Ext w w1 := q1.out.ext (ext_alloc (ext_refl w) _) (fun k hk => by subst hk; exact Nat.le_refl _)
    refine bodyPost_ret (v := .tuple #[.int .i64 ↑p, .int .i64 0]) ?h rfl ⟨rfl, hx⟩
    case h => simp [results, Tryz.results72, go_sem]
end Go.Proofs.YtgedpfbokkambaaGreatDoor
end
