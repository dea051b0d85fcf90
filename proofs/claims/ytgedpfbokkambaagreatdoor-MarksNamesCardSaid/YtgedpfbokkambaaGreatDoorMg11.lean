/- Lemmas of this proof, laid together: SrtE, SrtF, SrtG, MkA. -/
import Derived.Test.YtgedpfbokkambaaGreatDoorMg10
import Derived.Test.YtgedpfbokkambaaGreatDoorShelf
import Derived.Sort.AssemblyPlain
import Derived.Lib.SliceRun
set_option linter.unusedSimpArgs false
set_option linter.unusedVariables false
section
/- The sort of runes: rows of at most twelve; rows of thirteen or fourteen that fall apart into such ones. -/
namespace Go.Proofs.YtgedpfbokkambaaGreatDoor
open Go.RowKit Go.Sort
set_option maxHeartbeats 4000000
set_option maxRecDepth 100000
attribute [local irreducible] Calls
theorem so_pdq_small (g n cap a b l : Nat) (d : Array Int) (w : World) (hH : RwI w g n cap d) (hab : a ≤ b) (hb : b ≤ n) (h12 : b - a ≤ 12) (h14 : n ≤ 14) :
    Calls Tryz.prog 57 #[.slice (some ⟨g, 0, none⟩) n cap, .int .i64 a, .int .i64 b, .int .i64 l] w fun e w' =>
      e = .returned (.tuple #[]) ∧ Hid (RwI w' g n cap (insertionSort ltInt d a b)) ∧ Hid (Fg g w w') := by
  have R0 := Lib.hid hH
  have h12' : (b : Int) - a ≤ 12 := by omega
  clear hH
  go_enter Tryz.func57, Tryz.ntmps57
  go_wp2
  go_loopw [1, 2] (fun v1 v2 wr => v1 = .int .i64 a ∧ v2 = .int .i64 b ∧ Hid (RwI wr g n cap d) ∧ Hid (Fg g w wr)) (fun _ _ _ => 0)
  case atStart => exact ⟨rfl, rfl, R0, Frm.refl _ _⟩
  case round =>
    clear R0
    obtain ⟨rfl, rfl, R1, F1⟩ := hrel
    go_wp2_with (first
      | (go_at_call 69; (with_reducible refine (so_ins g n cap a b d _ R1.out hab hb (by omega)).mono ?_); rintro e w2 ⟨rfl, R2, F2⟩))
    refine bodyPost_ret (v := .tuple #[]) ?h rfl ⟨rfl, R2, F1.out.trans F2.out⟩
    case h => simp [results, Tryz.results57, go_sem]
theorem pdq_small (d : Array Int) (a b l : Nat) (x y : Bool) (h : b - a ≤ 12) : pdq ltInt d a b l x y = insertionSort ltInt d a b := by
  rw [pdq, if_pos h]
/-- What a long row becomes. -/
def sTop (d : Array Int) (n : Nat) : Array Int :=
  if (choosePivot ltInt d 0 n).2 = .increasing ∧ (partialInsertionSort ltInt d 0 n).2 = true then d else
    if (partition ltInt d 0 n (choosePivot ltInt d 0 n).1).1 < n - (partition ltInt d 0 n (choosePivot ltInt d 0 n).1).1 then
      insertionSort ltInt (insertionSort ltInt (partition ltInt d 0 n (choosePivot ltInt d 0 n).1).2.2 0 (partition ltInt d 0 n (choosePivot ltInt d 0 n).1).1) ((partition ltInt d 0 n (choosePivot ltInt d 0 n).1).1 + 1) n
    else insertionSort ltInt (insertionSort ltInt (partition ltInt d 0 n (choosePivot ltInt d 0 n).1).2.2 ((partition ltInt d 0 n (choosePivot ltInt d 0 n).1).1 + 1) n) 0 (partition ltInt d 0 n (choosePivot ltInt d 0 n).1).1
theorem pivot_le (d : Array Int) (n : Nat) (h12 : 12 < n) (h14 : n ≤ 14) : (choosePivot ltInt d 0 n).1 < n ∧ (choosePivot ltInt d 0 n).2 ≠ .decreasing := by
  have hd : n / 4 = 3 := by omega
  unfold choosePivot
  simp only [Nat.sub_zero, hd, Nat.zero_add]
  rw [if_pos (by omega), if_neg (by omega)]
  have h := median_lt d (3 * 1) (3 * 2) (3 * 3) 0 n (by omega) (by omega) (by omega)
  refine ⟨h.1, ?_⟩
  have h2 := h.2
  split
  · simp
  · rw [if_neg (by omega)]; simp
theorem partial_fst (d : Array Int) (n : Nat) (h14 : n ≤ 14) : (partialInsertionSort ltInt d 0 n).1 = d := by
  rw [pi_is d n _ h14 rfl]
theorem pdq_top (d : Array Int) (n mid : Nat) (h12 : 12 < n) (h14 : n ≤ 14) (hm : (partition ltInt d 0 n (choosePivot ltInt d 0 n).1).1 = mid) (h1 : mid ≤ 12) (h2 : n ≤ mid + 13) : pdq ltInt d 0 n 4 true true = sTop d n := by
  have hp := pivot_le d n h12 h14
  have hf := partial_fst d n h14
  obtain ⟨c, hc⟩ : ∃ c, choosePivot ltInt d 0 n = c := ⟨_, rfl⟩
  obtain ⟨cp, ch⟩ := c
  obtain ⟨q, hq⟩ : ∃ q, partialInsertionSort ltInt d 0 n = q := ⟨_, rfl⟩
  obtain ⟨qd, qb⟩ := q
  rw [hc] at hp hm
  rw [hq] at hf
  simp only at hp hf hm
  subst hf
  rw [pdq, if_neg (by omega), if_neg (by decide)]
  unfold sTop
  simp only [Bool.not_true, Bool.false_eq_true, if_false, hc, hq, if_neg hp.2, Bool.true_and, decide_eq_true_eq, Nat.lt_irrefl, decide_false, Bool.false_and, gt_iff_lt]
  by_cases hi : ch = .increasing
  · subst hi
    cases qb with
    | true => simp [hq]
    | false =>
      simp only [hq, if_true, Bool.false_eq_true, if_false, and_false]
      rw [dif_pos ⟨Nat.zero_le _, by omega⟩]
      simp only [Nat.sub_zero]
      split
      · rw [pdq_small _ _ _ _ _ _ (by omega), pdq_small _ _ _ _ _ _ (by omega)]
      · rw [pdq_small _ _ _ _ _ _ (by omega), pdq_small _ _ _ _ _ _ (by omega)]
  · simp only [hi, if_false, Bool.false_eq_true, false_and]
    rw [dif_pos ⟨Nat.zero_le _, by omega⟩]
    simp only [Nat.sub_zero]
    split
    · rw [pdq_small _ _ _ _ _ _ (by omega), pdq_small _ _ _ _ _ _ (by omega)]
    · rw [pdq_small _ _ _ _ _ _ (by omega), pdq_small _ _ _ _ _ _ (by omega)]
end Go.Proofs.YtgedpfbokkambaaGreatDoor
end
section
/- The sort of runes, whole, at the rows of thirteen or fourteen that marks make. -/
namespace Go.Proofs.YtgedpfbokkambaaGreatDoor
open Go.RowKit Go.Sort
set_option maxHeartbeats 4000000
set_option maxRecDepth 100000
attribute [local irreducible] Calls
theorem permIn_symm {d d' : Array Int} {a b : Nat} (h : PermIn a b d d') : PermIn a b d' d := ⟨h.1.symm, fun i hi => (h.2.1 i hi).symm, h.2.2.symm⟩
theorem part_mid (d : Array Int) (n p : Nat) (hn : d.size = n) (hp : p < n) :
    ((∃ t, t < n ∧ d[t]! < d[p]!) → 1 ≤ (partition ltInt d 0 n p).1) ∧ ((∃ t, t < n ∧ t ≠ p ∧ ¬ d[t]! < d[p]!) → (partition ltInt d 0 n p).1 + 1 < n) := by
  rw [partition_fst]
  have h0 : (swp d 0 p)[0]! = d[p]! := by
    by_cases e : p = 0
    · subst e; exact swp_right d 0 0 (by omega)
    · exact swp_left d 0 p (by omega) (by omega)
  have ho : ∀ t, t < n → t ≠ p → ∃ s, 1 ≤ s ∧ s < n ∧ (swp d 0 p)[s]! = d[t]! := fun t ht hne => by
    by_cases e : t = 0
    · subst e; exact ⟨p, by omega, hp, swp_right d 0 p (by omega)⟩
    · exact ⟨t, by omega, ht, swp_other d 0 p t e hne⟩
  obtain ⟨r1, r2, r3, r4, r5⟩ := partLoop_spec ltInt 0 n _ (0 + 1) (n - 1) (swp d 0 p) (Nat.le_refl _) (by omega) (by omega) (by omega) (by rw [size_swp]; omega) (fun t h1 h2 => by omega) (fun t h1 h2 => by omega)
  rw [h0] at r4 r5
  have hsz : n ≤ (partLoop ltInt 0 (0 + 1) (n - 1) (swp d 0 p)).2.size := by rw [r3.1, size_swp]; omega
  generalize partLoop ltInt 0 (0 + 1) (n - 1) (swp d 0 p) = r at *
  refine ⟨fun ⟨t, ht, hlt⟩ => ?_, fun ⟨t, ht, hne, hlt⟩ => ?_⟩
  · obtain ⟨s, hs1, hs2, hs⟩ := ho t ht (by rintro rfl; omega)
    rcases Nat.lt_or_ge r.1 1 with h | h
    · exfalso
      have := permIn_all r.2 (swp d 0 p) (0 + 1) n (fun x => ltInt x d[p]! = false) hsz (permIn_symm r3) (fun i h1 h2 => r5 i (by omega) h2) s hs1 hs2
      rw [hs] at this
      simp [ltInt] at this
      omega
    · exact h
  · obtain ⟨s, hs1, hs2, hs⟩ := ho t ht hne
    rcases Nat.lt_or_ge (r.1 + 1) n with h | h
    · exact h
    · exfalso
      have := permIn_all r.2 (swp d 0 p) (0 + 1) n (fun x => ltInt x d[p]! = true) hsz (permIn_symm r3) (fun i h1 h2 => r4 i (by omega) (by omega)) s hs1 hs2
      rw [hs] at this
      simp [ltInt] at this
      omega
/-- The row that marks with a Group make falls apart at its middle. -/
theorem mid14 (d : Array Int) (N : Int) (hn : d.size = 14) (h4 : d[4]! = N) (h6 : d[6]! = N + 2) (h9 : d[9]! = N + 5) (hd : d[13]! = N + 9) :
    (partition ltInt d 0 14 (choosePivot ltInt d 0 14).1).1 ≤ 12 ∧ 14 ≤ (partition ltInt d 0 14 (choosePivot ltInt d 0 14).1).1 + 13 := by
  have key : ∀ p, p < 14 → (∃ t, t < 14 ∧ d[t]! < d[p]!) → (∃ t, t < 14 ∧ t ≠ p ∧ ¬ d[t]! < d[p]!) → (partition ltInt d 0 14 p).1 ≤ 12 ∧ 14 ≤ (partition ltInt d 0 14 p).1 + 13 := fun p hp h1 h2 => by
    have := part_mid d 14 p hn hp
    have a := this.1 h1
    have b := this.2 h2
    omega
  have hc : (choosePivot ltInt d 0 14).1 = if ltInt d[6]! d[3]! = true then (if ltInt d[9]! d[3]! = true then 9 else 3) else 6 := by
    unfold choosePivot Sort.median order2
    simp only [Nat.sub_zero, show 14 / 4 = 3 by rfl, Nat.zero_add, show 3 * 1 = 3 by rfl, show 3 * 2 = 6 by rfl, show 3 * 3 = 9 by rfl]
    rw [if_pos (by decide), if_neg (by decide)]
    have e96 : ltInt d[9]! d[6]! = false := by simp [ltInt, h9, h6]
    by_cases a : ltInt d[6]! d[3]! = true
    · have e36 : ltInt d[3]! d[6]! = false := by simp [ltInt] at a ⊢; omega
      by_cases b : ltInt d[9]! d[3]! = true
      · simp [a, b, e96]
      · simp [a, b, e36]
    · simp [a, e96]
  rw [hc]
  split
  · split
    · exact key 9 (by decide) ⟨4, by decide, by rw [h4, h9]; omega⟩ ⟨13, by decide, by decide, by rw [hd, h9]; omega⟩
    · rename_i a b
      simp [ltInt, h6, h9] at a b
      exact key 3 (by decide) ⟨6, by decide, by rw [h6]; omega⟩ ⟨9, by decide, by decide, by rw [h9]; omega⟩
  · exact key 6 (by decide) ⟨4, by decide, by rw [h4, h6]; omega⟩ ⟨9, by decide, by decide, by rw [h9, h6]; omega⟩
/-- A row that comes apart into two of at most twelve. -/
def Apart (d : Array Int) (n : Nat) : Prop := (partition ltInt d 0 n (choosePivot ltInt d 0 n).1).1 ≤ 12 ∧ n ≤ (partition ltInt d 0 n (choosePivot ltInt d 0 n).1).1 + 13
theorem apart13 (d : Array Int) (hn : d.size = 13) : Apart d 13 := by
  have := partition_holds ltInt swo_ltInt d 0 13 (choosePivot ltInt d 0 13).1 (Nat.zero_le _) (pivot_le d 13 (by decide) (by decide)).1 (by omega)
  refine ⟨?_, by omega⟩
  have := this.2.1
  omega
theorem sort_top (d : Array Int) (n : Nat) (hn : d.size = n) (h12 : 12 < n) (h14 : n ≤ 14) (ha : Apart d n) : sTop d n = Sort.sort ltInt d := by
  unfold Sort.sort
  have : bitsLen d.size = 4 := by
    rw [hn]
    rcases (by omega : n = 13 ∨ n = 14) with rfl | rfl
    · rw [bitsLen, if_neg (by decide)]; decide
    · rw [bitsLen, if_neg (by decide)]; decide
  rw [this, hn]
  exact (pdq_top d n _ h12 h14 rfl ha.1 ha.2).symm
theorem sort_list (d : Array Int) : (Sort.sort ltInt d).toList = d.toList.mergeSort (fun x y => decide (x ≤ y)) := by
  have := sortInt d.toList
  simpa using this
theorem so_pdq_top (g n cap : Nat) (d : Array Int) (w : World) (hH : RwI w g n cap d) (h12 : 12 < n) (h14 : n ≤ 14) (ha : Apart d n) :
    Calls Tryz.prog 57 #[.slice (some ⟨g, 0, none⟩) n cap, .int .i64 0, .int .i64 n, .int .i64 4] w fun e w' =>
      e = .returned (.tuple #[]) ∧ Hid (RwI w' g n cap (sTop d n)) ∧ Hid (Fg g w w') := by
  have hsz := hH.size
  obtain ⟨cp, ch, hc⟩ : ∃ cp ch, Hid (choosePivot ltInt d 0 n = (cp, ch)) := ⟨_, _, rfl⟩
  obtain ⟨qb, hq⟩ : ∃ qb, Hid ((partialInsertionSort ltInt d 0 n).2 = qb) := ⟨_, rfl⟩
  obtain ⟨mid, hm⟩ : ∃ mid, Hid ((partition ltInt d 0 n cp).1 = mid) := ⟨_, rfl⟩
  obtain ⟨fl, hf⟩ : ∃ fl, Hid ((partition ltInt d 0 n cp).2.1 = fl) := ⟨_, rfl⟩
  obtain ⟨d4, hd⟩ : ∃ d4, Hid ((partition ltInt d 0 n cp).2.2 = d4) := ⟨_, rfl⟩
  obtain ⟨h1, h2⟩ : mid ≤ 12 ∧ n ≤ mid + 13 := by have := ha; unfold Apart at this; rw [hc.out] at this; rw [← hm.out]; exact this
  obtain ⟨hcp, hdec⟩ : cp < n ∧ ch ≠ .decreasing := by have := pivot_le d n h12 h14; rw [hc.out] at this; exact this
  have hmn : mid < n := by have := partition_holds ltInt swo_ltInt d 0 n cp (Nat.zero_le _) hcp (by omega); rw [← hm.out]; exact this.2.1
  have k1 : ∀ w', RwI w' g n cap d → Calls Tryz.prog 72 #[.slice (some ⟨g, 0, none⟩) n cap, .int .i64 0, .int .i64 n] w' fun e w'' => e = .returned (.tuple #[.int .i64 (cp : Int), .int .i64 (hintN ch)]) ∧ Ext w' w'' := fun w' h => by
    have := so_pivot g n cap d w' h h12 h14; rw [hc.out] at this; exact this
  have k2 : ∀ w', RwI w' g n cap d → Calls Tryz.prog 74 #[.slice (some ⟨g, 0, none⟩) n cap, .int .i64 0, .int .i64 n] w' fun e w'' => e = .returned (.bool qb) ∧ Ext w' w'' := fun w' h => by
    have := so_pis g n cap d w' h (by omega) h14; rw [hq.out] at this; exact this
  have k3 : ∀ w', RwI w' g n cap d → Calls Tryz.prog 77 #[.slice (some ⟨g, 0, none⟩) n cap, .int .i64 0, .int .i64 n, .int .i64 cp] w' fun e w'' => e = .returned (.tuple #[.int .i64 (mid : Int), .bool fl]) ∧ Hid (RwI w'' g n cap d4) ∧ Hid (Fg g w' w'') := fun w' h => by
    have := so_part g n cap d cp w' h hcp (by omega) h14; rw [hm.out, hf.out, hd.out] at this; exact this
  have hres : Hid (sTop d n = if ch = .increasing ∧ qb = true then d else if mid < n - mid then insertionSort ltInt (insertionSort ltInt d4 0 mid) (mid + 1) n else insertionSort ltInt (insertionSort ltInt d4 (mid + 1) n) 0 mid) := by
    show _ = _
    unfold sTop
    simp only [hc.out, hq.out, hm.out, hd.out]
  have hH' := Lib.hid hH
  have K1 := Lib.hid k1
  have K2 := Lib.hid k2
  have K3 := Lib.hid k3
  have K4 : Hid (∀ w', RwI w' g n cap d4 → Calls Tryz.prog 57 #[.slice (some ⟨g, 0, none⟩) n cap, .int .i64 0, .int .i64 mid, .int .i64 4] w' fun e w'' => e = .returned (.tuple #[]) ∧ Hid (RwI w'' g n cap (insertionSort ltInt d4 0 mid)) ∧ Hid (Fg g w' w'')) := fun w' h =>
    so_pdq_small g n cap 0 mid 4 d4 w' h (Nat.zero_le _) (by omega) (by omega) h14
  have K5 : Hid (∀ w', RwI w' g n cap d4 → Calls Tryz.prog 57 #[.slice (some ⟨g, 0, none⟩) n cap, .int .i64 ((mid : Int) + 1), .int .i64 n, .int .i64 4] w' fun e w'' => e = .returned (.tuple #[]) ∧ Hid (RwI w'' g n cap (insertionSort ltInt d4 (mid + 1) n)) ∧ Hid (Fg g w' w'')) := fun w' h =>
    so_pdq_small g n cap (mid + 1) n 4 d4 w' h (by omega) (Nat.le_refl _) (by omega) h14
  clear hH k1 k2 k3 ha
  have hn12 : ¬ ((n : Int) ≤ 12) := by omega
  have hn12b : ((n : Int) - 0 ≤ 12) = False := eq_false (by omega)
  go_enter Tryz.func57, Tryz.ntmps57
  go_wp2
  go_loopw [1, 2, 3, 8, 9] (fun v1 v2 v3 v8 v9 wr => ∃ (a b : Nat) (x y : Bool) (dk : Array Int), v1 = .int .i64 a ∧ v2 = .int .i64 b ∧ v3 = .int .i64 4 ∧ v8 = .bool x ∧ v9 = .bool y ∧ Hid (RwI wr g n cap dk) ∧ Hid (Fg g w wr) ∧ a ≤ b ∧ b ≤ n ∧
      ((a = 0 ∧ b = n ∧ x = true ∧ y = true ∧ Hid (dk = d)) ∨ (b - a ≤ 12 ∧ Hid (insertionSort ltInt dk a b = sTop d n)))) (fun v1 v2 _ _ _ _ => (intOf v2).toNat - (intOf v1).toNat)
  case atStart => exact ⟨0, n, true, true, d, rfl, rfl, rfl, rfl, rfl, hH', Frm.refl _ _, Nat.zero_le _, Nat.le_refl _, .inl ⟨rfl, rfl, rfl, rfl, rfl⟩⟩
  case round =>
    clear hH'
    obtain ⟨a, b, x, y, dk, rfl, rfl, rfl, rfl, rfl, R1, F1, hab, hbn, hcase⟩ := hrel
    rcases hcase with ⟨rfl, hb0, rfl, rfl, hdk⟩ | ⟨hsm, hend⟩
    · obtain rfl : dk = d := hdk.out
      replace hb0 := hb0.symm
      subst hb0
      by_cases hi : ch = .increasing
      · subst hi
        simp only [hintN] at K1
        cases qb with
        | true =>
          go_wp2_with (first
            | (go_at_call 72; (with_reducible refine (K1.out _ R1.out).mono ?_); rintro e w2 ⟨rfl, E2⟩; have R2 := Lib.hid (R1.out.ext E2); have F2 := Lib.hid (F1.out.trans (Frm.of E2)))
            | (go_at_call 74; (with_reducible refine (K2.out _ R2.out).mono ?_); rintro e w3 ⟨rfl, E3⟩; have R3 := Lib.hid (R2.out.ext E3); have F3 := Lib.hid (F2.out.trans (Frm.of E3))))
          have R4 : Hid (RwI w3 g n cap (sTop dk n)) := by show RwI _ _ _ _ _; rw [hres.out]; simpa using R3.out
          refine bodyPost_ret (v := .tuple #[]) ?h rfl ⟨rfl, R4, F3⟩
          case h => simp [results, Tryz.results57, go_sem]
        | false =>
          have hno : ¬ (Hint.increasing = Hint.increasing ∧ false = true) := fun h => by cases h.2
          by_cases hl : mid < n - mid
          · have hl2 : (((mid : Int) - 0 < (n : Int) - mid)) := by omega
            go_wp2_with (first
              | (go_at_call 72; (with_reducible refine (K1.out _ R1.out).mono ?_); rintro e w2 ⟨rfl, E2⟩; have R2 := Lib.hid (R1.out.ext E2); have F2 := Lib.hid (F1.out.trans (Frm.of E2)))
              | (go_at_call 74; (with_reducible refine (K2.out _ R2.out).mono ?_); rintro e w3 ⟨rfl, E3⟩; have R3 := Lib.hid (R2.out.ext E3); have F3 := Lib.hid (F2.out.trans (Frm.of E3))))
            go_big_quiet (first | (go_at_call 75; refine Calls.quiet_of_same (so_Less _ _ _)))
            have R3 := Lib.hid (R3.out.drewN nq)
            have F3 := Lib.hid (fg_drewN F3.out nq)
            go_wp2_with (first
              | (go_at_call 77; (with_reducible refine (K3.out _ R3.out).mono ?_); rintro e w4 ⟨rfl, R4, G4⟩; have F4 := Lib.hid (F3.out.trans G4.out))
              | (go_at_call 57; (with_reducible refine (K4.out _ R4.out).mono ?_); rintro e w5 ⟨rfl, R5, G5⟩; have F5 := Lib.hid (F4.out.trans G5.out)))
            have he : Hid (insertionSort ltInt (insertionSort ltInt d4 0 mid) (mid + 1) n = sTop dk n) := by show _ = _; rw [hres.out, if_neg hno, if_pos hl]
            go_roundw
            case rel => exact ⟨mid + 1, n, _, _, _, by go_num, by go_num, rfl, rfl, rfl, R5, F5, by omega, by omega, .inr ⟨by omega, he⟩⟩
            case measure => simp [intOf]; omega
          · have hl2 : (¬ ((mid : Int) - 0 < (n : Int) - mid)) := by omega
            go_wp2_with (first
              | (go_at_call 72; (with_reducible refine (K1.out _ R1.out).mono ?_); rintro e w2 ⟨rfl, E2⟩; have R2 := Lib.hid (R1.out.ext E2); have F2 := Lib.hid (F1.out.trans (Frm.of E2)))
              | (go_at_call 74; (with_reducible refine (K2.out _ R2.out).mono ?_); rintro e w3 ⟨rfl, E3⟩; have R3 := Lib.hid (R2.out.ext E3); have F3 := Lib.hid (F2.out.trans (Frm.of E3))))
            go_big_quiet (first | (go_at_call 75; refine Calls.quiet_of_same (so_Less _ _ _)))
            have R3 := Lib.hid (R3.out.drewN nq)
            have F3 := Lib.hid (fg_drewN F3.out nq)
            go_wp2_with (first
              | (go_at_call 77; (with_reducible refine (K3.out _ R3.out).mono ?_); rintro e w4 ⟨rfl, R4, G4⟩; have F4 := Lib.hid (F3.out.trans G4.out))
              | (go_at_call 57; (with_reducible refine (K5.out _ R4.out).mono ?_); rintro e w5 ⟨rfl, R5, G5⟩; have F5 := Lib.hid (F4.out.trans G5.out)))
            have he : Hid (insertionSort ltInt (insertionSort ltInt d4 (mid + 1) n) 0 mid = sTop dk n) := by show _ = _; rw [hres.out, if_neg hno, if_neg hl]
            go_roundw
            case rel => exact ⟨0, mid, _, _, _, by go_num, by go_num, rfl, rfl, rfl, R5, F5, by omega, by omega, .inr ⟨by omega, he⟩⟩
            case measure => simp [intOf]; omega

      · have hu : ch = .unknown := by cases ch <;> simp_all
        subst hu
        simp only [hintN] at K1
        have hno : ¬ (Hint.unknown = Hint.increasing ∧ qb = true) := fun h => by cases h.1
        by_cases hl : mid < n - mid
        · have hl2 : (((mid : Int) - 0 < (n : Int) - mid)) := by omega
          go_wp2_with (first
            | (go_at_call 72; (with_reducible refine (K1.out _ R1.out).mono ?_); rintro e w2 ⟨rfl, E2⟩; have R2 := Lib.hid (R1.out.ext E2); have F2 := Lib.hid (F1.out.trans (Frm.of E2))))
          go_big_quiet (first | (go_at_call 75; refine Calls.quiet_of_same (so_Less _ _ _)))
          have R2 := Lib.hid (R2.out.drewN nq)
          have F2 := Lib.hid (fg_drewN F2.out nq)
          go_wp2_with (first
            | (go_at_call 77; (with_reducible refine (K3.out _ R2.out).mono ?_); rintro e w3 ⟨rfl, R3, G3⟩; have F3 := Lib.hid (F2.out.trans G3.out))
            | (go_at_call 57; (with_reducible refine (K4.out _ R3.out).mono ?_); rintro e w4 ⟨rfl, R4, G4⟩; have F4 := Lib.hid (F3.out.trans G4.out)))
          have he : Hid (insertionSort ltInt (insertionSort ltInt d4 0 mid) (mid + 1) n = sTop dk n) := by show _ = _; rw [hres.out, if_neg hno, if_pos hl]
          go_roundw
          case rel => exact ⟨mid + 1, n, _, _, _, by go_num, by go_num, rfl, rfl, rfl, R4, F4, by omega, by omega, .inr ⟨by omega, he⟩⟩
          case measure => simp [intOf]; omega
        · have hl2 : (¬ ((mid : Int) - 0 < (n : Int) - mid)) := by omega
          go_wp2_with (first
            | (go_at_call 72; (with_reducible refine (K1.out _ R1.out).mono ?_); rintro e w2 ⟨rfl, E2⟩; have R2 := Lib.hid (R1.out.ext E2); have F2 := Lib.hid (F1.out.trans (Frm.of E2))))
          go_big_quiet (first | (go_at_call 75; refine Calls.quiet_of_same (so_Less _ _ _)))
          have R2 := Lib.hid (R2.out.drewN nq)
          have F2 := Lib.hid (fg_drewN F2.out nq)
          go_wp2_with (first
            | (go_at_call 77; (with_reducible refine (K3.out _ R2.out).mono ?_); rintro e w3 ⟨rfl, R3, G3⟩; have F3 := Lib.hid (F2.out.trans G3.out))
            | (go_at_call 57; (with_reducible refine (K5.out _ R3.out).mono ?_); rintro e w4 ⟨rfl, R4, G4⟩; have F4 := Lib.hid (F3.out.trans G4.out)))
          have he : Hid (insertionSort ltInt (insertionSort ltInt d4 (mid + 1) n) 0 mid = sTop dk n) := by show _ = _; rw [hres.out, if_neg hno, if_neg hl]
          go_roundw
          case rel => exact ⟨0, mid, _, _, _, by go_num, by go_num, rfl, rfl, rfl, R4, F4, by omega, by omega, .inr ⟨by omega, he⟩⟩
          case measure => simp [intOf]; omega

    · have hsm' : (b : Int) - a ≤ 12 := by omega
      go_wp2_with (first
        | (go_at_call 69; (with_reducible refine (so_ins g n cap a b dk _ R1.out hab hbn (by omega)).mono ?_); rintro e w2 ⟨rfl, R2, F2⟩))
      have R3 : Hid (RwI w2 g n cap (sTop d n)) := by rw [← hend.out]; exact R2
      refine bodyPost_ret (v := .tuple #[]) ?h rfl ⟨rfl, R3, F1.out.trans F2.out⟩
      case h => simp [results, Tryz.results57, go_sem]
theorem so_Sort (g n cap : Nat) (d : Array Int) (w : World) (hH : RwI w g n cap d) (h12 : 12 < n) (h14 : n ≤ 14) (ha : Apart d n) :
    Calls Tryz.prog 38 #[.slice (some ⟨g, 0, none⟩) n cap] w fun e w' =>
      e = .returned (.tuple #[]) ∧ Hid (RwI w' g n cap (Sort.sort ltInt d)) ∧ Hid (Fg g w w') := by
  have hs := sort_top d n hH.size h12 h14 ha
  have h4 : bitsLen n = 4 := by
    rcases (by omega : n = 13 ∨ n = 14) with rfl | rfl
    · rw [bitsLen, if_neg (by decide)]; decide
    · rw [bitsLen, if_neg (by decide)]; decide
  have k1 : ∀ w', Calls Tryz.prog 58 #[.int .u64 (n : Int)] w' fun e w'' => e = .returned (.int .i64 4) ∧ w'' = w' := fun w' => (Tryz.bits_Len (n : Int) w' (by omega) (by omega)).mono fun r w'' ⟨a, b⟩ => ⟨by
    rw [a]; rcases (by omega : n = 13 ∨ n = 14) with rfl | rfl <;> rfl, b⟩
  have HH := Lib.hid hH
  have K1 := Lib.hid k1
  clear hH k1
  rw [← hs]
  go_enter Tryz.func38, Tryz.ntmps38
  go_wp2_with (first
    | (go_at_call 58; (with_reducible refine (K1.out _).mono ?_); rintro e w2 ⟨rfl, rfl⟩)
    | (go_at_call 57; (with_reducible refine (so_pdq_top g n cap d _ HH.out h12 h14 ha).mono ?_); rintro e w3 ⟨rfl, R3, F3⟩))
  go_end0
  exact ⟨rfl, R3, F3⟩
end Go.Proofs.YtgedpfbokkambaaGreatDoor
end
section
/- slices.Compact on a row of runes: it loses nothing just if no two neighbours are alike. -/
namespace Go.Proofs.YtgedpfbokkambaaGreatDoor
open Go.RowKit Go.Sort
set_option maxHeartbeats 4000000
set_option maxRecDepth 100000
attribute [local irreducible] Calls
theorem RwI.bound {w : World} {g n cap : Nat} {d : Array Int} (h : RwI w g n cap d) : n ≤ cap ∧ cap ≤ maxLen := by
  rcases h.row.2 with ⟨h1, _⟩ | ⟨g', cap', cur, h1, _, _, h2, h3, _, _⟩
  · cases h1
  · cases h1; exact ⟨h2, h3⟩
theorem frm_setCells {S : Nat → Prop} (g : Nat) (hS : S g) : ∀ (vs : List Value) (o : Nat) (w : World), Frm S w (w.setCells g o vs)
  | [], o, w => by simpa [World.setCells] using Frm.refl S w
  | v :: vs, o, w => by
    have := (Frm.set (S := S) (w := w) (b := g) (o := o) v (.inl hS)).trans (frm_setCells g hS vs (o + 1) (w.setCell ⟨g, o, none⟩ v))
    simpa [World.setCells] using this
/-- No two neighbours are alike. -/
def NoAdj (d : Array Int) (n : Nat) : Prop := ∀ i, 1 ≤ i → i < n → d[i]! ≠ d[i - 1]!
theorem i32_slice : Tryz.prog.underlying 54 = some (.slice 21) := by kernel_rfl
theorem i32_zero (w : World) : (zeroValue 21).run Tryz.prog w = .ok (.int .i32 0) w := by kernel_rfl
theorem so_Compact (g n cap : Nat) (d : Array Int) (w : World) (hH : RwI w g n cap d) (h12 : 2 ≤ n) (h14 : n ≤ 14) :
    Calls Tryz.prog 39 #[.slice (some ⟨g, 0, none⟩) n cap] w fun e w' =>
      ∃ m : Nat, e = .returned (.slice (some ⟨g, 0, none⟩) m cap) ∧ m ≤ n ∧ Hid (m = n ↔ NoAdj d n) ∧ Hid (Fg g w w') := by
  obtain ⟨hnc, hcm⟩ := hH.bound
  have hcm' : cap ≤ 9223372036854775807 := hcm
  have H0 := Lib.hid hH
  clear hH hcm
  go_enter Tryz.func39, Tryz.ntmps39
  go_wp2
  go_loopw [3] (fun v3 wr => ∃ k : Nat, v3 = .int .i64 k ∧ 1 ≤ k ∧ k ≤ n ∧ Hid (RwI wr g n cap d) ∧ Hid (Fg g w wr) ∧ Hid (∀ i, 1 ≤ i → i < k → d[i]! ≠ d[i - 1]!)) (fun v3 _ => n - (intOf v3).toNat)
  case atStart => exact ⟨1, rfl, Nat.le_refl _, by omega, H0, Frm.refl _ _, fun i h1 h2 => by omega⟩
  case round =>
    clear H0
    obtain ⟨k, rfl, hk1, hkn, R1, F1, hA⟩ := hrel
    by_cases hlt : k < n
    · obtain ⟨x, hx⟩ : ∃ x, Hid (d[k]! = x) := ⟨_, rfl⟩
      obtain ⟨y, hy⟩ : ∃ y, Hid (d[k - 1]! = y) := ⟨_, rfl⟩
      have c0 : wr.cell? ⟨g, k, none⟩ = some (.int .i32 x) := by rw [← hx.out]; exact (R1.out.at_ k (by omega)).1
      have c1 : wr.cell? ⟨g, k - 1, none⟩ = some (.int .i32 y) := by rw [← hy.out]; exact (R1.out.at_ (k - 1) (by omega)).1
      go_wp2_with fail
      go_big_quiet (first | fail)
      by_cases hxy : x = y
      · have hno : Hid (¬ NoAdj d n) := fun h => h k hk1 hlt (by rw [hx.out, hy.out, hxy])
        have R2 := Lib.hid (R1.out.drewN nq)
        have F2 := Lib.hid (fg_drewN F1.out nq)
        subst hxy
        clear c0 c1 R1 F1 hA hx hy
        generalize wr.drewN nq = W at *
        go_wp2
        go_loopw [3, 5] (fun v3 v5 wr => ∃ (k' k2 : Nat) (dd : Array Int), v3 = .int .i64 k' ∧ v5 = .int .i64 k2 ∧ 1 ≤ k2 ∧ k2 ≤ n - k ∧ k ≤ k' ∧ k' + 1 ≤ k + k2 ∧ Hid (RwI wr g n cap dd) ∧ Hid (Fg g w wr)) (fun _ v5 _ => n - k - (intOf v5).toNat)
        case atStart => exact ⟨k, 1, d, rfl, rfl, Nat.le_refl _, by omega, Nat.le_refl _, by omega, R2, F2⟩
        case round =>
          clear R2 F2
          obtain ⟨k', k2, dd, rfl, rfl, h1, h2, h3, h4, R3, F3⟩ := hrel
          by_cases hlt2 : k2 < n - k
          · obtain ⟨u, hu⟩ : ∃ u, Hid (dd[k + k2]! = u) := ⟨_, rfl⟩
            obtain ⟨v, hv⟩ : ∃ v, Hid (dd[k + (k2 - 1)]! = v) := ⟨_, rfl⟩
            obtain ⟨z, hz⟩ : ∃ z, Hid (dd[k']! = z) := ⟨_, rfl⟩
            have c0 : wr.cell? ⟨g, k + k2, none⟩ = some (.int .i32 u) := by rw [← hu.out]; exact (R3.out.at_ (k + k2) (by omega)).1
            have c1 : wr.cell? ⟨g, k + (k2 - 1), none⟩ = some (.int .i32 v) := by rw [← hv.out]; exact (R3.out.at_ (k + (k2 - 1)) (by omega)).1
            have c2 : wr.cell? ⟨g, k', none⟩ = some (.int .i32 z) := by rw [← hz.out]; exact (R3.out.at_ k' (by omega)).1
            have f2 : wr.frozen? ⟨g, k', none⟩ = false := (R3.out.at_ k' (by omega)).2
            have hlt2' : (k2 : Int) < ((n - k : Nat) : Int) := by omega
            go_wp2_with fail
            go_big_quiet (first | fail)
            go_wp2
            · go_roundw
              case rel => exact ⟨k' + 1, k2 + 1, _, by go_num, by go_num, by omega, by omega, by omega, by omega, (R3.out.drewN nq).set k' u, (fg_drewN F3.out nq).trans (Frm.set _ (.inl rfl))⟩
              case measure => simp [intOf]; omega
            · go_roundw
              case rel => exact ⟨k', k2 + 1, _, rfl, by go_num, by omega, by omega, by omega, by omega, R3.out.drewN nq, fg_drewN F3.out nq⟩
              case measure => simp [intOf]; omega
          · have hcl := Go.Lib.run_clear_slice (P := Tryz.prog) wr 54 21 0 (.int .i32 0) i32_slice i32_zero rfl rfl g k' (n - k') (cap - k') (by omega)
              (fun j hj => by rw [(R3.out.at_ (k' + j) (by omega)).1]; rfl) (fun j hj => (R3.out.at_ (k' + j) (by omega)).2)
            have hkc : k' ≤ cap := by omega
            go_wp2
            have hk2 : k' < n := by omega
            refine bodyPost_ret (v := .slice (some ⟨g, 0, none⟩) k' cap) ?h rfl ⟨k', rfl, by omega, ⟨fun h => absurd h (by omega), fun h => absurd h hno.out⟩, F3.out.trans (frm_setCells (S := fun k => k = g) g rfl _ _ _)⟩
            case h => simp [results, Tryz.results39, go_sem]
      · have hxy' : (x == y) = false := by simpa using hxy
        go_wp2
        go_roundw
        case rel => exact ⟨k + 1, by go_num, by omega, by omega, R1.out.drewN nq, fg_drewN F1.out nq, fun i h1 h2 => by
          rcases (by omega : i = k ∨ i < k) with rfl | h
          · rw [hx.out, hy.out]; exact hxy
          · exact hA.out i h1 h⟩
        case measure => simp [intOf]; omega
    · obtain rfl : k = n := by omega
      have hyes : NoAdj d k := hA.out
      have HY := Lib.hid hyes
      clear hyes
      go_wp2
      refine bodyPost_ret (v := .slice (some ⟨g, 0, none⟩) k cap) ?h rfl ⟨k, rfl, Nat.le_refl _, ⟨fun _ => HY.out, fun _ => rfl⟩, F1⟩
      case h => simp [results, Tryz.results39, go_sem]
end Go.Proofs.YtgedpfbokkambaaGreatDoor
end
section
/- Marks: slices of ints that came in; the least and the greatest of one. -/
namespace Go.Proofs.YtgedpfbokkambaaGreatDoor
open Go.RowKit
set_option maxHeartbeats 4000000
set_option maxRecDepth 100000
attribute [local irreducible] Calls
def I64 (xs : List Int) : Prop := ∀ x ∈ xs, -9223372036854775808 ≤ x ∧ x ≤ 9223372036854775807
/-- A slice that reads as these ints. -/
structure RdI (w : World) (A : Option Addr) (n c : Nat) (xs : List Int) : Prop where
  len : xs.length = n
  cap : n ≤ c
  mx : c ≤ 9223372036854775807
  lb : I64 xs
  none_ : A = none → c = 0
  at_ : ∀ a, A = some a → a.spot = none
  cells : ∀ b off, A = some ⟨b, off, none⟩ → ∀ i (h : i < xs.length), b < w.heap.size ∧ w.cell? ⟨b, off + i, none⟩ = some (.int .i64 xs[i])
theorem RdI.shape {w : World} {A : Option Addr} {n c : Nat} {xs : List Int} (h : RdI w A n c xs) : (A = none ∧ n = 0 ∧ c = 0 ∧ xs = []) ∨ ∃ b off, A = some ⟨b, off, none⟩ := by
  cases A with
  | none =>
    have h1 := h.none_ rfl
    have h2 := h.cap
    have h3 := h.len
    refine .inl ⟨rfl, by omega, h1, List.eq_nil_of_length_eq_zero (by omega)⟩
  | some a =>
    have := h.at_ a rfl
    obtain ⟨b, off, s⟩ := a
    simp only at this
    subst this
    exact .inr ⟨b, off, rfl⟩
theorem RdI.ext {w w' : World} {A : Option Addr} {n c : Nat} {xs : List Int} (h : RdI w A n c xs) (he : Ext w w') : RdI w' A n c xs :=
  ⟨h.len, h.cap, h.mx, h.lb, h.none_, h.at_, fun b off hA i hi => by
    obtain ⟨h1, h2⟩ := h.cells b off hA i hi
    exact ⟨Nat.lt_of_lt_of_le h1 he.size, (Below.cell (p := ⟨b, off + i, none⟩) he h1).trans h2⟩⟩
theorem RdI.nil (w : World) : RdI w none 0 0 [] := ⟨rfl, Nat.le_refl _, by omega, (fun x hx => by cases hx), fun _ => rfl, (fun _ h => by cases h), (fun _ _ h => by cases h)⟩
theorem RdI.get {w : World} {b off : Nat} {n c : Nat} {xs : List Int} (h : RdI w (some ⟨b, off, none⟩) n c xs) (i : Nat) (hi : i < n) : ∃ x : Int, Hid (xs.getD i 0 = x) ∧ (-9223372036854775808 ≤ x ∧ x ≤ 9223372036854775807) ∧ w.cell? ⟨b, off + i, none⟩ = some (.int .i64 x) := by
  have hl : i < xs.length := by rw [h.len]; exact hi
  refine ⟨xs[i], ?_, h.lb _ (List.getElem_mem hl), (h.cells b off rfl i hl).2⟩
  rw [List.getD_eq_getElem?_getD, List.getElem?_eq_getElem hl]; rfl
theorem RdI.frm {S : Nat → Prop} {w w' : World} {A : Option Addr} {n c : Nat} {xs : List Int} (h : RdI w A n c xs) (hf : Frm S w w') (ho : ∀ a, A = some a → n ≠ 0 → ¬ S a.block) : RdI w' A n c xs :=
  ⟨h.len, h.cap, h.mx, h.lb, h.none_, h.at_, fun b off hA i hi => by
    obtain ⟨h1, h2⟩ := h.cells b off hA i hi
    have h3 := ho _ hA (by rw [← h.len]; omega)
    exact ⟨Nat.lt_of_lt_of_le h1 hf.size, (hf.cell (p := ⟨b, off + i, none⟩) h1 h3).trans h2⟩⟩
/-- The least, the greatest of the first k. -/
def leastI (xs : List Int) : Nat → Int
  | 0 => xs.getD 0 0
  | k + 1 => min (leastI xs k) (xs.getD (k + 1) 0)
def mostI (xs : List Int) : Nat → Int
  | 0 => xs.getD 0 0
  | k + 1 => max (mostI xs k) (xs.getD (k + 1) 0)
theorem sl_Min (w : World) (A : Option Addr) (n c : Nat) (xs : List Int) (h : RdI w A (n + 1) c xs) :
    Calls Tryz.prog 40 #[.slice A ((n + 1 : Nat)) c] w fun e w' => e = .returned (.int .i64 (leastI xs n)) ∧ Ext w w' := by
  obtain ⟨b, off, rfl⟩ : ∃ b off, A = some ⟨b, off, none⟩ := by rcases h.shape with ⟨_, h0, _⟩ | h0; omega; exact h0
  have hmx := h.mx
  have hcp := h.cap
  obtain ⟨x0, hx0, hb0, hc0⟩ := h.get 0 (by omega)
  rw [Nat.add_zero] at hc0
  have H := Lib.hid h
  clear h
  go_enter Tryz.func40, Tryz.ntmps40
  go_wp2
  go_loopw [3, 4] (fun v3 v4 wr => ∃ k : Nat, v4 = .int .i64 ((k + 1 : Nat) : Int) ∧ v3 = .int .i64 (leastI xs k) ∧ k ≤ n ∧ Hid (RdI wr (some ⟨b, off, none⟩) (n + 1) c xs) ∧ Ext w wr) (fun _ v4 _ => n + 2 - (intOf v4).toNat)
  case atStart => exact ⟨0, rfl, by rw [leastI, hx0.out], Nat.zero_le _, H, ext_refl _⟩
  case round =>
    obtain ⟨k, rfl, rfl, hk, H1, E1⟩ := hrel
    by_cases hlt : k < n
    · obtain ⟨x, hx, hb, hc⟩ := H1.out.get (k + 1) (by omega)
      obtain ⟨y, hy⟩ : ∃ y, Hid (leastI xs k = y) := ⟨_, rfl⟩
      rw [hy.out]
      go_wp2
      go_roundw
      case rel => exact ⟨k + 1, by go_num, by rw [leastI, hy.out, hx.out], by omega, H1, E1⟩
      case measure => simp [intOf]; omega
    · obtain rfl : k = n := by omega
      go_wp2
      refine bodyPost_ret (v := .int .i64 (leastI xs k)) ?h rfl ⟨rfl, E1⟩
      case h => simp [results, Tryz.results40, go_sem]
theorem sl_Max (w : World) (A : Option Addr) (n c : Nat) (xs : List Int) (h : RdI w A (n + 1) c xs) :
    Calls Tryz.prog 41 #[.slice A ((n + 1 : Nat)) c] w fun e w' => e = .returned (.int .i64 (mostI xs n)) ∧ Ext w w' := by
  obtain ⟨b, off, rfl⟩ : ∃ b off, A = some ⟨b, off, none⟩ := by rcases h.shape with ⟨_, h0, _⟩ | h0; omega; exact h0
  have hmx := h.mx
  have hcp := h.cap
  obtain ⟨x0, hx0, hb0, hc0⟩ := h.get 0 (by omega)
  rw [Nat.add_zero] at hc0
  have H := Lib.hid h
  clear h
  go_enter Tryz.func41, Tryz.ntmps41
  go_wp2
  go_loopw [3, 4] (fun v3 v4 wr => ∃ k : Nat, v4 = .int .i64 ((k + 1 : Nat) : Int) ∧ v3 = .int .i64 (mostI xs k) ∧ k ≤ n ∧ Hid (RdI wr (some ⟨b, off, none⟩) (n + 1) c xs) ∧ Ext w wr) (fun _ v4 _ => n + 2 - (intOf v4).toNat)
  case atStart => exact ⟨0, rfl, by rw [mostI, hx0.out], Nat.zero_le _, H, ext_refl _⟩
  case round =>
    obtain ⟨k, rfl, rfl, hk, H1, E1⟩ := hrel
    by_cases hlt : k < n
    · obtain ⟨x, hx, hb, hc⟩ := H1.out.get (k + 1) (by omega)
      obtain ⟨y, hy⟩ : ∃ y, Hid (mostI xs k = y) := ⟨_, rfl⟩
      rw [hy.out]
      go_wp2
      go_roundw
      case rel => exact ⟨k + 1, by go_num, by rw [mostI, hy.out, hx.out], by omega, H1, E1⟩
      case measure => simp [intOf]; omega
    · obtain rfl : k = n := by omega
      go_wp2
      refine bodyPost_ret (v := .int .i64 (mostI xs k)) ?h rfl ⟨rfl, E1⟩
      case h => simp [results, Tryz.results41, go_sem]
theorem least_lt (xs : List Int) : ∀ k, leastI xs k < 1 ↔ ∃ i, i ≤ k ∧ xs.getD i 0 < 1
  | 0 => ⟨fun h => ⟨0, Nat.le_refl _, h⟩, fun ⟨i, hi, h⟩ => by
    obtain rfl : i = 0 := by omega
    exact h⟩
  | k + 1 => by
    have ih := least_lt xs k
    rw [leastI]
    constructor
    · intro h
      rcases (by omega : (leastI xs k) < 1 ∨ 1 ≤ (leastI xs k)) with h1 | h1
      · obtain ⟨i, hi, h2⟩ := ih.1 h1; exact ⟨i, by omega, h2⟩
      · exact ⟨k + 1, Nat.le_refl _, by omega⟩
    · rintro ⟨i, hi, h⟩
      rcases (by omega : i = k + 1 ∨ i ≤ k) with rfl | h1
      · omega
      · have := ih.2 ⟨i, h1, h⟩; omega
theorem most_gt (xs : List Int) : ∀ k, 256 < mostI xs k ↔ ∃ i, i ≤ k ∧ 256 < xs.getD i 0
  | 0 => ⟨fun h => ⟨0, Nat.le_refl _, h⟩, fun ⟨i, hi, h⟩ => by
    obtain rfl : i = 0 := by omega
    exact h⟩
  | k + 1 => by
    have ih := most_gt xs k
    rw [mostI]
    constructor
    · intro h
      rcases (by omega : 256 < (mostI xs k) ∨ (mostI xs k) ≤ 256) with h1 | h1
      · obtain ⟨i, hi, h2⟩ := ih.1 h1; exact ⟨i, by omega, h2⟩
      · exact ⟨k + 1, Nat.le_refl _, by omega⟩
    · rintro ⟨i, hi, h⟩
      rcases (by omega : i = k + 1 ∨ i ≤ k) with rfl | h1
      · omega
      · have := ih.2 ⟨i, h1, h⟩; omega
/-- Sizes that may be. -/
def sizesOk (xs : List Int) : Prop := ∀ x ∈ xs, 1 ≤ x ∧ x ≤ 256
theorem sizes_iff (xs : List Int) (n : Nat) (hn : xs.length = n + 1) : sizesOk xs ↔ (¬ leastI xs n < 1 ∧ ¬ 256 < mostI xs n) := by
  rw [least_lt, most_gt]
  constructor
  · intro h
    refine ⟨fun ⟨i, hi, h1⟩ => ?_, fun ⟨i, hi, h1⟩ => ?_⟩
    · rw [List.getD_eq_getElem?_getD, List.getElem?_eq_getElem (by omega)] at h1
      have := (h _ (List.getElem_mem (by omega : i < xs.length))).1
      simp at h1; omega
    · rw [List.getD_eq_getElem?_getD, List.getElem?_eq_getElem (by omega)] at h1
      have := (h _ (List.getElem_mem (by omega : i < xs.length))).2
      simp at h1; omega
  · rintro ⟨h1, h2⟩ x hx
    obtain ⟨i, hi, rfl⟩ := List.mem_iff_getElem.1 hx
    constructor
    · rcases (by omega : xs[i] < 1 ∨ 1 ≤ xs[i]) with h | h
      · exact absurd ⟨i, by omega, by rw [List.getD_eq_getElem?_getD, List.getElem?_eq_getElem hi]; exact h⟩ h1
      · exact h
    · rcases (by omega : 256 < xs[i] ∨ xs[i] ≤ 256) with h | h
      · exact absurd ⟨i, by omega, by rw [List.getD_eq_getElem?_getD, List.getElem?_eq_getElem hi]; exact h⟩ h2
      · exact h
end Go.Proofs.YtgedpfbokkambaaGreatDoor
end
