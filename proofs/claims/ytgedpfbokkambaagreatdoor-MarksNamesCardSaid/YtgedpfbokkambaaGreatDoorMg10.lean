/- Lemmas of this proof, laid together: SrtD. -/
import Derived.Test.YtgedpfbokkambaaGreatDoorMg09
import Derived.Sort.LotC
set_option linter.unusedSimpArgs false
set_option linter.unusedVariables false
section
/- The sort of runes: is a short row sorted; the partition of a row. -/
namespace Go.Proofs.YtgedpfbokkambaaGreatDoor
open Go.RowKit Go.Sort
set_option maxHeartbeats 4000000
set_option maxRecDepth 100000
attribute [local irreducible] Calls
theorem scanUp_gow (p : Int → Bool) (d : Array Int) (j i : Nat) (h : i ≤ j) (hp : p d[i]! = true) : scanUp p d j i = scanUp p d j (i + 1) := by
  rw [scanUp, if_pos (by simp [h, hp])]
theorem scanUp_endw (p : Int → Bool) (d : Array Int) (j i : Nat) (h : ¬ i ≤ j ∨ p d[i]! = false) : scanUp p d j i = i := by
  rw [scanUp, if_neg (by rcases h with h | h <;> simp [h])]
theorem scanDown_gow (p : Int → Bool) (d : Array Int) (i j : Nat) (h : i ≤ j) (h0 : 0 < j) (hp : p d[j]! = true) : scanDown p d i j = scanDown p d i (j - 1) := by
  obtain ⟨k, rfl⟩ : ∃ k, j = k + 1 := ⟨j - 1, by omega⟩
  rw [scanDown, if_pos (by simp [h, hp])]
  rfl
theorem scanDown_endw (p : Int → Bool) (d : Array Int) (i j : Nat) (h : ¬ i ≤ j ∨ p d[j]! = false) : scanDown p d i j = j := by
  cases j with
  | zero => rfl
  | succ k => rw [scanDown, if_neg (by rcases h with h | h <;> simp [h])]
theorem part_break (i j : Nat) (d : Array Int) {i2 j2 : Nat} (hi : i2 = scanUp (fun x => ltInt x d[0]!) d j i) (hj : j2 = scanDown (fun x => !ltInt x d[0]!) d i2 j) (h : j2 < i2) : partLoop ltInt 0 i j d = (j2, d) := by
  subst hi; subst hj
  rw [partLoop_eq, if_pos h]
theorem part_go (i j : Nat) (d : Array Int) {i2 j2 : Nat} (hi : i2 = scanUp (fun x => ltInt x d[0]!) d j i) (hj : j2 = scanDown (fun x => !ltInt x d[0]!) d i2 j) (h : ¬ i2 > j2) : partLoop ltInt 0 i j d = partLoop ltInt 0 (i2 + 1) (j2 - 1) (swp d i2 j2) := by
  subst hi; subst hj
  rw [partLoop_eq, if_neg h]
theorem part_at_once (d : Array Int) (n p m : Nat) (hm : n = m + 1) {i2 j2 : Nat} (hi : i2 = scanUp (fun x => ltInt x (swp d 0 p)[0]!) (swp d 0 p) m 1) (hj : j2 = scanDown (fun x => !ltInt x (swp d 0 p)[0]!) (swp d 0 p) i2 m) (h : j2 < i2) : partition ltInt d 0 n p = (j2, true, swp (swp d 0 p) j2 0) := by
  subst hi; subst hj; subst hm
  unfold partition
  simp only [Nat.zero_add, Nat.add_sub_cancel]
  rw [if_pos h]
theorem part_later (d : Array Int) (n p m : Nat) (hm : n = m + 1) {i2 j2 : Nat} (hi : i2 = scanUp (fun x => ltInt x (swp d 0 p)[0]!) (swp d 0 p) m 1) (hj : j2 = scanDown (fun x => !ltInt x (swp d 0 p)[0]!) (swp d 0 p) i2 m) (h : ¬ i2 > j2) :
    partition ltInt d 0 n p = ((partLoop ltInt 0 (i2 + 1) (j2 - 1) (swp (swp d 0 p) i2 j2)).1, false, swp (partLoop ltInt 0 (i2 + 1) (j2 - 1) (swp (swp d 0 p) i2 j2)).2 (partLoop ltInt 0 (i2 + 1) (j2 - 1) (swp (swp d 0 p) i2 j2)).1 0) := by
  subst hi; subst hj; subst hm
  unfold partition
  simp only [Nat.zero_add, Nat.add_sub_cancel]
  rw [if_neg h]
theorem scans_ne (i j : Nat) (d : Array Int) {i2 j2 : Nat} (hi : i2 = scanUp (fun x => ltInt x d[0]!) d j i) (hj : j2 = scanDown (fun x => !ltInt x d[0]!) d i2 j) (h0 : 0 < i) (h : i2 ≤ j2) : i2 < j2 := by
  subst hi; subst hj
  obtain ⟨u1, _, _, u4⟩ := scanUp_spec (fun x => ltInt x d[0]!) d j _ i rfl
  obtain ⟨v1, _, _, v4⟩ := scanDown_spec (fun x => !ltInt x d[0]!) d (scanUp (fun x => ltInt x d[0]!) d j i) j
  rcases Nat.lt_or_ge (scanUp (fun x => ltInt x d[0]!) d j i) (scanDown (fun x => !ltInt x d[0]!) d (scanUp (fun x => ltInt x d[0]!) d j i) j) with h' | h'
  · exact h'
  · have e : scanDown (fun x => !ltInt x d[0]!) d (scanUp (fun x => ltInt x d[0]!) d j i) j = scanUp (fun x => ltInt x d[0]!) d j i := by omega
    have f1 := u4 (by omega)
    have f2 := v4 h (by omega)
    rw [e] at f2
    simp only [f1] at f2
    cases f2
theorem scanSorted_gow (d : Array Int) (b i : Nat) (h : i < b) (hl : ltInt d[i]! d[i - 1]! = false) : scanSorted ltInt d b i = scanSorted ltInt d b (i + 1) := by
  rw [scanSorted]; simp [h, hl]
theorem scanSorted_stopw (d : Array Int) (b i : Nat) (h : ¬ i < b ∨ ltInt d[i]! d[i - 1]! = true) : scanSorted ltInt d b i = i := by
  rw [scanSorted]
  rcases h with h | h
  · simp [h]
  · simp [h]
theorem pi_is (d : Array Int) (n k : Nat) (h14 : n ≤ 14) (hk : scanSorted ltInt d n 1 = k) : partialInsertionSort ltInt d 0 n = (d, decide (k = n)) := by
  unfold partialInsertionSort partialIns
  simp only [Nat.zero_add, hk]
  by_cases h : k = n
  · simp [h]
  · rw [if_neg h, if_pos (by omega)]; simp [h]
theorem so_pis (g n cap : Nat) (d : Array Int) (w : World) (hH : RwI w g n cap d) (hn : 2 ≤ n) (h14 : n ≤ 14) :
    Calls Tryz.prog 74 #[.slice (some ⟨g, 0, none⟩) n cap, .int .i64 0, .int .i64 n] w fun e w' =>
      e = .returned (.bool (partialInsertionSort ltInt d 0 n).2) ∧ Ext w w' := by
  have R0 := Lib.hid hH
  clear hH
  go_enter Tryz.func74, Tryz.ntmps74
  go_wp2
  go_loopw [7, 8] (fun vi vs wr => vi = .int .i64 1 ∧ vs = .int .i64 0 ∧ Hid (RwI wr g n cap d) ∧ Ext w wr) (fun _ _ _ => 0)
  case atStart => exact ⟨rfl, rfl, R0, ext_refl _⟩
  case round =>
    clear R0
    obtain ⟨rfl, rfl, R0, E0⟩ := hrel
    go_wp2
    go_loopw [7] (fun vi w1 => ∃ k : Nat, vi = .int .i64 k ∧ 1 ≤ k ∧ k ≤ n ∧ Hid (RwI w1 g n cap d) ∧ Ext w w1 ∧ Hid (scanSorted ltInt d n k = scanSorted ltInt d n 1)) (fun vi _ => n - (intOf vi).toNat)
    case atStart => exact ⟨1, rfl, Nat.le_refl _, by omega, R0, E0, rfl⟩
    case round =>
      obtain ⟨k, rfl, hk1, hkn, R1, E1, hsc⟩ := hrel
      by_cases hlt : k < n
      · obtain ⟨x, hx⟩ : ∃ x, Hid (d[k]! = x) := ⟨_, rfl⟩
        obtain ⟨y, hy⟩ : ∃ y, Hid (d[k - 1]! = y) := ⟨_, rfl⟩
        have c0 : wr.cell? ⟨g, k, none⟩ = some (.int .i32 x) := by rw [← hx.out]; exact (R1.out.at_ k (by omega)).1
        have c1 : wr.cell? ⟨g, k - 1, none⟩ = some (.int .i32 y) := by rw [← hy.out]; exact (R1.out.at_ (k - 1) (by omega)).1
        go_wp2_with fail
        go_big_quiet (first | (go_at_call 75; refine Calls.quiet_of_same (so_Less _ _ _)))
        go_wp2
        all_goals first
          | (have ht : (!ltInt x y) = true := by assumption
             have ht' : ltInt d[k]! d[k - 1]! = false := by rw [hx.out, hy.out]; simpa using ht
             go_roundw
             case rel => exact ⟨k + 1, by go_num, by omega, by omega, R1.out.drewN nq, ext_drewN E1 nq, (scanSorted_gow d n k hlt ht').symm.trans hsc.out⟩
             case measure => simp [intOf]; omega)
          | (have ht : (!ltInt x y) = false := by assumption
             have ht' : ltInt d[k]! d[k - 1]! = true := by rw [hx.out, hy.out]; simpa using ht
             have e := pi_is d n k h14 (hsc.out.symm.trans (scanSorted_stopw d n k (Or.inr ht')))
             have e2 : (k = n) = False := eq_false (by omega)
             rw [e]
             simp only [e2, decide_false]
             refine bodyPost_ret (v := .bool false) ?h rfl ⟨rfl, ext_drewN E1 nq⟩
             simp [results, Tryz.results74, go_sem])
      · go_wp2_with fail
        go_big_quiet (first | (go_at_call 75; refine Calls.quiet_of_same (so_Less _ _ _)))
        obtain rfl : k = n := by omega
        have e := pi_is d k k h14 (hsc.out.symm.trans (scanSorted_stopw d k k (Or.inl hlt)))
        go_wp2
        refine bodyPost_ret (v := .bool true) ?h rfl ⟨rfl, ext_drewN E1 nq⟩
        case h => simp [results, Tryz.results74, go_sem]
theorem so_part (g n cap : Nat) (d : Array Int) (p : Nat) (w : World) (hH : RwI w g n cap d) (hp : p < n) (hn : 2 ≤ n) (h14 : n ≤ 14) :
    Calls Tryz.prog 77 #[.slice (some ⟨g, 0, none⟩) n cap, .int .i64 0, .int .i64 n, .int .i64 p] w fun e w' =>
      e = .returned (.tuple #[.int .i64 ((partition ltInt d 0 n p).1 : Int), .bool (partition ltInt d 0 n p).2.1]) ∧ Hid (RwI w' g n cap (partition ltInt d 0 n p).2.2) ∧ Hid (Fg g w w') := by
  obtain ⟨m, hm⟩ : ∃ m, n = m + 1 := ⟨n - 1, by omega⟩
  have hm2 : (n : Int) - 1 = (m : Int) := by omega
  have R0 := Lib.hid hH
  have F0 := Lib.hid (Frm.refl (fun k => k = g) w)
  clear hH
  go_enter Tryz.func77, Tryz.ntmps77
  go_wp2
  obtain ⟨x, hx⟩ : ∃ x, Hid (d[0]! = x) := ⟨_, rfl⟩
  obtain ⟨y, hy⟩ : ∃ y, Hid (d[p]! = y) := ⟨_, rfl⟩
  have c1 : w.cell? ⟨g, 0, none⟩ = some (.int .i32 x) := by rw [← hx.out]; exact (R0.out.at_ (0) (by omega)).1
  have f1 : w.frozen? ⟨g, 0, none⟩ = false := (R0.out.at_ (0) (by omega)).2
  have c2 : w.cell? ⟨g, p, none⟩ = some (.int .i32 y) := by rw [← hy.out]; exact (R0.out.at_ (p) (by omega)).1
  have f2 : w.frozen? ⟨g, p, none⟩ = false := (R0.out.at_ (p) (by omega)).2
  have R9 : Hid (RwI (((w.setCell ⟨g, 0, none⟩ (.int .i32 y)).setCell ⟨g, p, none⟩ (.int .i32 x)).drew) g n cap (swp d (0) (p))) := by have := (R0.out.swp (0) (p)).ext (ext_drew (ext_refl _)); rw [hx.out, hy.out] at this; exact this
  have F9 : Hid (Fg g w (((w.setCell ⟨g, 0, none⟩ (.int .i32 y)).setCell ⟨g, p, none⟩ (.int .i32 x)).drew)) := (fg_swp F0.out (0) (p) _ _).trans (Frm.of (ext_drew (ext_refl _)))
  obtain ⟨v', hy'⟩ := cell?_setCell_some (w := w) (p := ⟨g, 0, none⟩) (x := .int .i32 y) (q := ⟨g, p, none⟩) c2
  clear R0 F0 hx hy
  go_wp2
  go_region
  all_goals go_wp2
  go_loopw [10] (fun vi w1 => ∃ i' : Nat, vi = .int .i64 i' ∧ 1 ≤ i' ∧ i' ≤ m + 1 ∧ Hid (RwI w1 g n cap (swp d 0 p)) ∧ Hid (Fg g w w1) ∧ Hid (scanUp (fun x => ltInt x (swp d 0 p)[0]!) (swp d 0 p) (m) i' = scanUp (fun x => ltInt x (swp d 0 p)[0]!) (swp d 0 p) (m) (1))) (fun vi _ => m + 1 - (intOf vi).toNat)
  case atStart => exact ⟨1, by first | rfl | go_num, Nat.le_refl _, by omega, R9, F9, rfl⟩
  case round =>
    obtain ⟨i1, rfl, hii1, hij1, R1, F1, hsc1⟩ := hrel
    obtain ⟨x, hx⟩ : ∃ x, Hid ((swp d 0 p)[i1]! = x) := ⟨_, rfl⟩
    obtain ⟨y, hy⟩ : ∃ y, Hid ((swp d 0 p)[0]! = y) := ⟨_, rfl⟩
    have c0 : wr.cell? ⟨g, 0, none⟩ = some (.int .i32 y) := by rw [← hy.out]; exact (R1.out.at_ 0 (by omega)).1
    by_cases hle1 : i1 ≤ m
    · have c1 : wr.cell? ⟨g, i1, none⟩ = some (.int .i32 x) := by rw [← hx.out]; exact (R1.out.at_ i1 (by omega)).1
      go_wp2_with fail
      go_big_quiet (first | (go_at_call 75; refine Calls.quiet_of_same (so_Less _ _ _)))
      go_wp2
      · have ht : ltInt x y = true := by assumption
        go_roundw
        case rel => exact ⟨i1 + 1, by go_num, by omega, by omega, R1.out.drewN nq, fg_drewN F1.out nq, (scanUp_gow (fun x => ltInt x (swp d 0 p)[0]!) (swp d 0 p) (m) i1 hle1 (by show ltInt _ _ = true; rw [hx.out, hy.out]; exact ht)).symm.trans hsc1.out⟩
        case measure => simp [intOf]; omega
      · have ht : ltInt x y = false := by assumption
        have hi1 : Hid (i1 = scanUp (fun x => ltInt x (swp d 0 p)[0]!) (swp d 0 p) (m) (1)) := (scanUp_endw (fun x => ltInt x (swp d 0 p)[0]!) (swp d 0 p) (m) i1 (Or.inr (by show ltInt _ _ = false; rw [hx.out, hy.out]; exact ht))).symm.trans hsc1.out
        have R1 := Lib.hid (R1.out.drewN nq)
        have F1 := Lib.hid (fg_drewN F1.out nq)
        clear hx hy ht c0 c1 hsc1
        go_loopw [11] (fun vj w2 => ∃ j' : Nat, vj = .int .i64 j' ∧ j' ≤ m ∧ i1 ≤ j' + 1 ∧ Hid (RwI w2 g n cap (swp d 0 p)) ∧ Hid (Fg g w w2) ∧ Hid (scanDown (fun x => !ltInt x (swp d 0 p)[0]!) (swp d 0 p) i1 j' = scanDown (fun x => !ltInt x (swp d 0 p)[0]!) (swp d 0 p) i1 (m))) (fun vj _ => (intOf vj).toNat)
        case atStart => exact ⟨m, by go_num, Nat.le_refl _, by omega, R1, F1, rfl⟩
        case round =>
          obtain ⟨j2, rfl, hjj2, hij2, R2, F2, hsc2⟩ := hrel
          obtain ⟨x, hx⟩ : ∃ x, Hid ((swp d 0 p)[j2]! = x) := ⟨_, rfl⟩
          obtain ⟨y, hy⟩ : ∃ y, Hid ((swp d 0 p)[0]! = y) := ⟨_, rfl⟩
          have c0 : wr.cell? ⟨g, 0, none⟩ = some (.int .i32 y) := by rw [← hy.out]; exact (R2.out.at_ 0 (by omega)).1
          by_cases hle2 : i1 ≤ j2
          · have c1 : wr.cell? ⟨g, j2, none⟩ = some (.int .i32 x) := by rw [← hx.out]; exact (R2.out.at_ j2 (by omega)).1
            go_wp2_with fail
            go_big_quiet (first | (go_at_call 75; refine Calls.quiet_of_same (so_Less _ _ _)))
            go_wp2
            · have ht : (!ltInt x y) = true := by assumption
              go_roundw
              case rel => exact ⟨j2 - 1, by go_num, by omega, by omega, R2.out.drewN nq, fg_drewN F2.out nq, (scanDown_gow (fun x => !ltInt x (swp d 0 p)[0]!) (swp d 0 p) i1 j2 hle2 (by omega) (by show (!ltInt _ _) = true; rw [hx.out, hy.out]; exact ht)).symm.trans hsc2.out⟩
              case measure => simp [intOf]; omega
            · have ht : (!ltInt x y) = false := by assumption
              have hj2 : Hid (j2 = scanDown (fun x => !ltInt x (swp d 0 p)[0]!) (swp d 0 p) i1 (m)) := (scanDown_endw (fun x => !ltInt x (swp d 0 p)[0]!) (swp d 0 p) i1 j2 (Or.inr (by show (!ltInt _ _) = false; rw [hx.out, hy.out]; exact ht))).symm.trans hsc2.out
              have R2 := Lib.hid (R2.out.drewN nq)
              have F2 := Lib.hid (fg_drewN F2.out nq)
              clear hx hy ht c0 c1 hsc2
              have hPL := Lib.hid (part_later d n p m hm hi1.out hj2.out (by omega))
              have hlt2 := scans_ne _ _ _ hi1.out hj2.out (by omega) hle2
              obtain ⟨W, hW⟩ : ∃ W : World, W = wr.drewN nq := ⟨_, rfl⟩
              rw [← hW] at R2 F2 ⊢
              clear hW
              obtain ⟨x, hx⟩ : ∃ x, Hid ((swp d 0 p)[i1]! = x) := ⟨_, rfl⟩
              obtain ⟨y, hy⟩ : ∃ y, Hid ((swp d 0 p)[j2]! = y) := ⟨_, rfl⟩
              have c1 : W.cell? ⟨g, i1, none⟩ = some (.int .i32 x) := by rw [← hx.out]; exact (R2.out.at_ (i1) (by omega)).1
              have f1 : W.frozen? ⟨g, i1, none⟩ = false := (R2.out.at_ (i1) (by omega)).2
              have c2 : W.cell? ⟨g, j2, none⟩ = some (.int .i32 y) := by rw [← hy.out]; exact (R2.out.at_ (j2) (by omega)).1
              have f2 : W.frozen? ⟨g, j2, none⟩ = false := (R2.out.at_ (j2) (by omega)).2
              have R9 : Hid (RwI (((W.setCell ⟨g, i1, none⟩ (.int .i32 y)).setCell ⟨g, j2, none⟩ (.int .i32 x)).drew) g n cap (swp (swp d 0 p) (i1) (j2))) := by have := (R2.out.swp (i1) (j2)).ext (ext_drew (ext_refl _)); rw [hx.out, hy.out] at this; exact this
              have F9 : Hid (Fg g w (((W.setCell ⟨g, i1, none⟩ (.int .i32 y)).setCell ⟨g, j2, none⟩ (.int .i32 x)).drew)) := (fg_swp F2.out (i1) (j2) _ _).trans (Frm.of (ext_drew (ext_refl _)))
              obtain ⟨v', hy'⟩ := cell?_setCell_some (w := W) (p := ⟨g, i1, none⟩) (x := .int .i32 y) (q := ⟨g, j2, none⟩) c2
              clear R2 F2 hx hy
              go_wp2
              go_region
              all_goals go_wp2
              go_loopw [10, 11] (fun vi vj w3 => ∃ (i j : Nat) (dk : Array Int), vi = .int .i64 i ∧ vj = .int .i64 j ∧ 0 < i ∧ i ≤ j + 1 ∧ j < n ∧ Hid (RwI w3 g n cap dk) ∧ Hid (Fg g w w3) ∧ Hid (partLoop ltInt 0 i j dk = partLoop ltInt 0 (i1 + 1) (j2 - 1) (swp (swp d 0 p) i1 j2)))
                (fun vi vj _ => (intOf vj).toNat + 1 - (intOf vi).toNat)
              case atStart => exact ⟨i1 + 1, j2 - 1, swp (swp d 0 p) i1 j2, by go_num, by go_num, by omega, by omega, by omega, R9, F9, rfl⟩
              case round =>
                clear c1 c2 f1 f2 hy' v' R9 F9
                obtain ⟨i, j, dk, rfl, rfl, hi0, hij, hjn, RK, FK, hL⟩ := hrel
                go_wp2
                go_loopw [10] (fun vi w1 => ∃ i' : Nat, vi = .int .i64 i' ∧ i ≤ i' ∧ i' ≤ j + 1 ∧ Hid (RwI w1 g n cap dk) ∧ Hid (Fg g w w1) ∧ Hid (scanUp (fun x => ltInt x dk[0]!) dk (j) i' = scanUp (fun x => ltInt x dk[0]!) dk (j) (i))) (fun vi _ => j + 1 - (intOf vi).toNat)
                case atStart => exact ⟨i, by first | rfl | go_num, Nat.le_refl _, hij, RK, FK, rfl⟩
                case round =>
                  obtain ⟨i3, rfl, hii3, hij3, R3, F3, hsc3⟩ := hrel
                  obtain ⟨x, hx⟩ : ∃ x, Hid (dk[i3]! = x) := ⟨_, rfl⟩
                  obtain ⟨y, hy⟩ : ∃ y, Hid (dk[0]! = y) := ⟨_, rfl⟩
                  have c0 : wr.cell? ⟨g, 0, none⟩ = some (.int .i32 y) := by rw [← hy.out]; exact (R3.out.at_ 0 (by omega)).1
                  by_cases hle3 : i3 ≤ j
                  · have c1 : wr.cell? ⟨g, i3, none⟩ = some (.int .i32 x) := by rw [← hx.out]; exact (R3.out.at_ i3 (by omega)).1
                    go_wp2_with fail
                    go_big_quiet (first | (go_at_call 75; refine Calls.quiet_of_same (so_Less _ _ _)))
                    go_wp2
                    · have ht : ltInt x y = true := by assumption
                      go_roundw
                      case rel => exact ⟨i3 + 1, by go_num, by omega, by omega, R3.out.drewN nq, fg_drewN F3.out nq, (scanUp_gow (fun x => ltInt x dk[0]!) dk (j) i3 hle3 (by show ltInt _ _ = true; rw [hx.out, hy.out]; exact ht)).symm.trans hsc3.out⟩
                      case measure => simp [intOf]; omega
                    · have ht : ltInt x y = false := by assumption
                      have hi3 : Hid (i3 = scanUp (fun x => ltInt x dk[0]!) dk (j) (i)) := (scanUp_endw (fun x => ltInt x dk[0]!) dk (j) i3 (Or.inr (by show ltInt _ _ = false; rw [hx.out, hy.out]; exact ht))).symm.trans hsc3.out
                      have R3 := Lib.hid (R3.out.drewN nq)
                      have F3 := Lib.hid (fg_drewN F3.out nq)
                      clear hx hy ht c0 c1 hsc3
                      go_loopw [11] (fun vj w2 => ∃ j' : Nat, vj = .int .i64 j' ∧ j' ≤ j ∧ i3 ≤ j' + 1 ∧ Hid (RwI w2 g n cap dk) ∧ Hid (Fg g w w2) ∧ Hid (scanDown (fun x => !ltInt x dk[0]!) dk i3 j' = scanDown (fun x => !ltInt x dk[0]!) dk i3 (j))) (fun vj _ => (intOf vj).toNat)
                      case atStart => exact ⟨j, by go_num, Nat.le_refl _, by omega, R3, F3, rfl⟩
                      case round =>
                        obtain ⟨j4, rfl, hjj4, hij4, R4, F4, hsc4⟩ := hrel
                        obtain ⟨x, hx⟩ : ∃ x, Hid (dk[j4]! = x) := ⟨_, rfl⟩
                        obtain ⟨y, hy⟩ : ∃ y, Hid (dk[0]! = y) := ⟨_, rfl⟩
                        have c0 : wr.cell? ⟨g, 0, none⟩ = some (.int .i32 y) := by rw [← hy.out]; exact (R4.out.at_ 0 (by omega)).1
                        by_cases hle4 : i3 ≤ j4
                        · have c1 : wr.cell? ⟨g, j4, none⟩ = some (.int .i32 x) := by rw [← hx.out]; exact (R4.out.at_ j4 (by omega)).1
                          go_wp2_with fail
                          go_big_quiet (first | (go_at_call 75; refine Calls.quiet_of_same (so_Less _ _ _)))
                          go_wp2
                          · have ht : (!ltInt x y) = true := by assumption
                            go_roundw
                            case rel => exact ⟨j4 - 1, by go_num, by omega, by omega, R4.out.drewN nq, fg_drewN F4.out nq, (scanDown_gow (fun x => !ltInt x dk[0]!) dk i3 j4 hle4 (by omega) (by show (!ltInt _ _) = true; rw [hx.out, hy.out]; exact ht)).symm.trans hsc4.out⟩
                            case measure => simp [intOf]; omega
                          · have ht : (!ltInt x y) = false := by assumption
                            have hj4 : Hid (j4 = scanDown (fun x => !ltInt x dk[0]!) dk i3 (j)) := (scanDown_endw (fun x => !ltInt x dk[0]!) dk i3 j4 (Or.inr (by show (!ltInt _ _) = false; rw [hx.out, hy.out]; exact ht))).symm.trans hsc4.out
                            have R4 := Lib.hid (R4.out.drewN nq)
                            have F4 := Lib.hid (fg_drewN F4.out nq)
                            clear hx hy ht c0 c1 hsc4
                            have hlt4 := scans_ne _ _ _ hi3.out hj4.out (by omega) hle4
                            obtain ⟨W, hW⟩ : ∃ W : World, W = wr.drewN nq := ⟨_, rfl⟩
                            rw [← hW] at R4 F4 ⊢
                            clear hW
                            obtain ⟨x, hx⟩ : ∃ x, Hid (dk[i3]! = x) := ⟨_, rfl⟩
                            obtain ⟨y, hy⟩ : ∃ y, Hid (dk[j4]! = y) := ⟨_, rfl⟩
                            have c1 : W.cell? ⟨g, i3, none⟩ = some (.int .i32 x) := by rw [← hx.out]; exact (R4.out.at_ (i3) (by omega)).1
                            have f1 : W.frozen? ⟨g, i3, none⟩ = false := (R4.out.at_ (i3) (by omega)).2
                            have c2 : W.cell? ⟨g, j4, none⟩ = some (.int .i32 y) := by rw [← hy.out]; exact (R4.out.at_ (j4) (by omega)).1
                            have f2 : W.frozen? ⟨g, j4, none⟩ = false := (R4.out.at_ (j4) (by omega)).2
                            have R9 : Hid (RwI (((W.setCell ⟨g, i3, none⟩ (.int .i32 y)).setCell ⟨g, j4, none⟩ (.int .i32 x)).drew) g n cap (swp dk (i3) (j4))) := by have := (R4.out.swp (i3) (j4)).ext (ext_drew (ext_refl _)); rw [hx.out, hy.out] at this; exact this
                            have F9 : Hid (Fg g w (((W.setCell ⟨g, i3, none⟩ (.int .i32 y)).setCell ⟨g, j4, none⟩ (.int .i32 x)).drew)) := (fg_swp F4.out (i3) (j4) _ _).trans (Frm.of (ext_drew (ext_refl _)))
                            obtain ⟨v', hy'⟩ := cell?_setCell_some (w := W) (p := ⟨g, i3, none⟩) (x := .int .i32 y) (q := ⟨g, j4, none⟩) c2
                            clear R4 F4 hx hy
                            go_wp2
                            go_region
                            all_goals go_wp2
                            all_goals go_roundw
                            case rel => exact ⟨i3 + 1, j4 - 1, swp dk i3 j4, by go_num, by go_num, by omega, by omega, by omega, R9, F9, (part_go i j dk hi3.out hj4.out (by omega)).symm.trans hL.out⟩
                            case measure => simp [intOf]; omega
                        · go_wp2_with fail
                          go_big_quiet (first | (go_at_call 75; refine Calls.quiet_of_same (so_Less _ _ _)))
                          have hj4 : Hid (j4 = scanDown (fun x => !ltInt x dk[0]!) dk i3 (j)) := (scanDown_endw (fun x => !ltInt x dk[0]!) dk i3 j4 (Or.inl hle4)).symm.trans hsc4.out
                          have R4 := Lib.hid (R4.out.drewN nq)
                          have F4 := Lib.hid (fg_drewN F4.out nq)
                          clear hx hy c0 hsc4
                          go_wp2
                          obtain ⟨W, hW⟩ : ∃ W : World, W = wr.drewN nq := ⟨_, rfl⟩
                          rw [← hW] at R4 F4 ⊢
                          clear hW
                          obtain ⟨x, hx⟩ : ∃ x, Hid (dk[j4]! = x) := ⟨_, rfl⟩
                          obtain ⟨y, hy⟩ : ∃ y, Hid (dk[0]! = y) := ⟨_, rfl⟩
                          have c1 : W.cell? ⟨g, j4, none⟩ = some (.int .i32 x) := by rw [← hx.out]; exact (R4.out.at_ (j4) (by omega)).1
                          have f1 : W.frozen? ⟨g, j4, none⟩ = false := (R4.out.at_ (j4) (by omega)).2
                          have c2 : W.cell? ⟨g, 0, none⟩ = some (.int .i32 y) := by rw [← hy.out]; exact (R4.out.at_ (0) (by omega)).1
                          have f2 : W.frozen? ⟨g, 0, none⟩ = false := (R4.out.at_ (0) (by omega)).2
                          have R9 : Hid (RwI (((W.setCell ⟨g, j4, none⟩ (.int .i32 y)).setCell ⟨g, 0, none⟩ (.int .i32 x)).drew) g n cap (swp dk (j4) (0))) := by have := (R4.out.swp (j4) (0)).ext (ext_drew (ext_refl _)); rw [hx.out, hy.out] at this; exact this
                          have F9 : Hid (Fg g w (((W.setCell ⟨g, j4, none⟩ (.int .i32 y)).setCell ⟨g, 0, none⟩ (.int .i32 x)).drew)) := (fg_swp F4.out (j4) (0) _ _).trans (Frm.of (ext_drew (ext_refl _)))
                          obtain ⟨v', hy'⟩ := cell?_setCell_some (w := W) (p := ⟨g, j4, none⟩) (x := .int .i32 y) (q := ⟨g, 0, none⟩) c2
                          clear R4 F4 hx hy
                          go_wp2
                          go_region
                          all_goals go_wp2
                          have e := part_break i j dk hi3.out hj4.out (by omega)
                          rw [hPL.out, ← hL.out, e]
                          refine bodyPost_ret (v := .tuple #[.int .i64 ↑j4, .bool false]) ?h rfl ⟨rfl, R9, F9⟩
                          case h => simp [results, Tryz.results77, go_sem]
                  · go_wp2_with fail
                    go_big_quiet (first | (go_at_call 75; refine Calls.quiet_of_same (so_Less _ _ _)))
                    go_wp2
                    have hi3 : Hid (i3 = scanUp (fun x => ltInt x dk[0]!) dk (j) (i)) := (scanUp_endw (fun x => ltInt x dk[0]!) dk (j) i3 (Or.inl hle3)).symm.trans hsc3.out
                    have R3 := Lib.hid (R3.out.drewN nq)
                    have F3 := Lib.hid (fg_drewN F3.out nq)
                    clear hx hy c0 hsc3
                    go_loopw [11] (fun vj w2 => ∃ j' : Nat, vj = .int .i64 j' ∧ j' ≤ j ∧ i3 ≤ j' + 1 ∧ Hid (RwI w2 g n cap dk) ∧ Hid (Fg g w w2) ∧ Hid (scanDown (fun x => !ltInt x dk[0]!) dk i3 j' = scanDown (fun x => !ltInt x dk[0]!) dk i3 (j))) (fun vj _ => (intOf vj).toNat)
                    case atStart => exact ⟨j, by go_num, Nat.le_refl _, by omega, R3, F3, rfl⟩
                    case round =>
                      obtain ⟨j4, rfl, hjj4, hij4, R4, F4, hsc4⟩ := hrel
                      obtain ⟨x, hx⟩ : ∃ x, Hid (dk[j4]! = x) := ⟨_, rfl⟩
                      obtain ⟨y, hy⟩ : ∃ y, Hid (dk[0]! = y) := ⟨_, rfl⟩
                      have c0 : wr.cell? ⟨g, 0, none⟩ = some (.int .i32 y) := by rw [← hy.out]; exact (R4.out.at_ 0 (by omega)).1
                      by_cases hle4 : i3 ≤ j4
                      · exfalso; omega
                      · go_wp2_with fail
                        go_big_quiet (first | (go_at_call 75; refine Calls.quiet_of_same (so_Less _ _ _)))
                        have hj4 : Hid (j4 = scanDown (fun x => !ltInt x dk[0]!) dk i3 (j)) := (scanDown_endw (fun x => !ltInt x dk[0]!) dk i3 j4 (Or.inl hle4)).symm.trans hsc4.out
                        have R4 := Lib.hid (R4.out.drewN nq)
                        have F4 := Lib.hid (fg_drewN F4.out nq)
                        clear hx hy c0 hsc4
                        go_wp2
                        obtain ⟨W, hW⟩ : ∃ W : World, W = wr.drewN nq := ⟨_, rfl⟩
                        rw [← hW] at R4 F4 ⊢
                        clear hW
                        obtain ⟨x, hx⟩ : ∃ x, Hid (dk[j4]! = x) := ⟨_, rfl⟩
                        obtain ⟨y, hy⟩ : ∃ y, Hid (dk[0]! = y) := ⟨_, rfl⟩
                        have c1 : W.cell? ⟨g, j4, none⟩ = some (.int .i32 x) := by rw [← hx.out]; exact (R4.out.at_ (j4) (by omega)).1
                        have f1 : W.frozen? ⟨g, j4, none⟩ = false := (R4.out.at_ (j4) (by omega)).2
                        have c2 : W.cell? ⟨g, 0, none⟩ = some (.int .i32 y) := by rw [← hy.out]; exact (R4.out.at_ (0) (by omega)).1
                        have f2 : W.frozen? ⟨g, 0, none⟩ = false := (R4.out.at_ (0) (by omega)).2
                        have R9 : Hid (RwI (((W.setCell ⟨g, j4, none⟩ (.int .i32 y)).setCell ⟨g, 0, none⟩ (.int .i32 x)).drew) g n cap (swp dk (j4) (0))) := by have := (R4.out.swp (j4) (0)).ext (ext_drew (ext_refl _)); rw [hx.out, hy.out] at this; exact this
                        have F9 : Hid (Fg g w (((W.setCell ⟨g, j4, none⟩ (.int .i32 y)).setCell ⟨g, 0, none⟩ (.int .i32 x)).drew)) := (fg_swp F4.out (j4) (0) _ _).trans (Frm.of (ext_drew (ext_refl _)))
                        obtain ⟨v', hy'⟩ := cell?_setCell_some (w := W) (p := ⟨g, j4, none⟩) (x := .int .i32 y) (q := ⟨g, 0, none⟩) c2
                        clear R4 F4 hx hy
                        go_wp2
                        go_region
                        all_goals go_wp2
                        have e := part_break i j dk hi3.out hj4.out (by omega)
                        rw [hPL.out, ← hL.out, e]
                        refine bodyPost_ret (v := .tuple #[.int .i64 ↑j4, .bool false]) ?h rfl ⟨rfl, R9, F9⟩
                        case h => simp [results, Tryz.results77, go_sem]
          · go_wp2_with fail
            go_big_quiet (first | (go_at_call 75; refine Calls.quiet_of_same (so_Less _ _ _)))
            have hj2 : Hid (j2 = scanDown (fun x => !ltInt x (swp d 0 p)[0]!) (swp d 0 p) i1 (m)) := (scanDown_endw (fun x => !ltInt x (swp d 0 p)[0]!) (swp d 0 p) i1 j2 (Or.inl hle2)).symm.trans hsc2.out
            have R2 := Lib.hid (R2.out.drewN nq)
            have F2 := Lib.hid (fg_drewN F2.out nq)
            clear hx hy c0 hsc2
            go_wp2
            obtain ⟨W, hW⟩ : ∃ W : World, W = wr.drewN nq := ⟨_, rfl⟩
            rw [← hW] at R2 F2 ⊢
            clear hW
            obtain ⟨x, hx⟩ : ∃ x, Hid ((swp d 0 p)[j2]! = x) := ⟨_, rfl⟩
            obtain ⟨y, hy⟩ : ∃ y, Hid ((swp d 0 p)[0]! = y) := ⟨_, rfl⟩
            have c1 : W.cell? ⟨g, j2, none⟩ = some (.int .i32 x) := by rw [← hx.out]; exact (R2.out.at_ (j2) (by omega)).1
            have f1 : W.frozen? ⟨g, j2, none⟩ = false := (R2.out.at_ (j2) (by omega)).2
            have c2 : W.cell? ⟨g, 0, none⟩ = some (.int .i32 y) := by rw [← hy.out]; exact (R2.out.at_ (0) (by omega)).1
            have f2 : W.frozen? ⟨g, 0, none⟩ = false := (R2.out.at_ (0) (by omega)).2
            have R9 : Hid (RwI (((W.setCell ⟨g, j2, none⟩ (.int .i32 y)).setCell ⟨g, 0, none⟩ (.int .i32 x)).drew) g n cap (swp (swp d 0 p) (j2) (0))) := by have := (R2.out.swp (j2) (0)).ext (ext_drew (ext_refl _)); rw [hx.out, hy.out] at this; exact this
            have F9 : Hid (Fg g w (((W.setCell ⟨g, j2, none⟩ (.int .i32 y)).setCell ⟨g, 0, none⟩ (.int .i32 x)).drew)) := (fg_swp F2.out (j2) (0) _ _).trans (Frm.of (ext_drew (ext_refl _)))
            obtain ⟨v', hy'⟩ := cell?_setCell_some (w := W) (p := ⟨g, j2, none⟩) (x := .int .i32 y) (q := ⟨g, 0, none⟩) c2
            clear R2 F2 hx hy
            go_wp2
            go_region
            all_goals go_wp2
            have e := part_at_once d n p m hm hi1.out hj2.out (by omega)
            rw [e]
            refine bodyPost_ret (v := .tuple #[.int .i64 ↑j2, .bool true]) ?h rfl ⟨rfl, R9, F9⟩
            case h => simp [results, Tryz.results77, go_sem]
    · go_wp2_with fail
      go_big_quiet (first | (go_at_call 75; refine Calls.quiet_of_same (so_Less _ _ _)))
      go_wp2
      have hi1 : Hid (i1 = scanUp (fun x => ltInt x (swp d 0 p)[0]!) (swp d 0 p) (m) (1)) := (scanUp_endw (fun x => ltInt x (swp d 0 p)[0]!) (swp d 0 p) (m) i1 (Or.inl hle1)).symm.trans hsc1.out
      have R1 := Lib.hid (R1.out.drewN nq)
      have F1 := Lib.hid (fg_drewN F1.out nq)
      clear hx hy c0 hsc1
      go_loopw [11] (fun vj w2 => ∃ j' : Nat, vj = .int .i64 j' ∧ j' ≤ m ∧ i1 ≤ j' + 1 ∧ Hid (RwI w2 g n cap (swp d 0 p)) ∧ Hid (Fg g w w2) ∧ Hid (scanDown (fun x => !ltInt x (swp d 0 p)[0]!) (swp d 0 p) i1 j' = scanDown (fun x => !ltInt x (swp d 0 p)[0]!) (swp d 0 p) i1 (m))) (fun vj _ => (intOf vj).toNat)
      case atStart => exact ⟨m, by go_num, Nat.le_refl _, by omega, R1, F1, rfl⟩
      case round =>
        obtain ⟨j2, rfl, hjj2, hij2, R2, F2, hsc2⟩ := hrel
        obtain ⟨x, hx⟩ : ∃ x, Hid ((swp d 0 p)[j2]! = x) := ⟨_, rfl⟩
        obtain ⟨y, hy⟩ : ∃ y, Hid ((swp d 0 p)[0]! = y) := ⟨_, rfl⟩
        have c0 : wr.cell? ⟨g, 0, none⟩ = some (.int .i32 y) := by rw [← hy.out]; exact (R2.out.at_ 0 (by omega)).1
        by_cases hle2 : i1 ≤ j2
        · exfalso; omega
        · go_wp2_with fail
          go_big_quiet (first | (go_at_call 75; refine Calls.quiet_of_same (so_Less _ _ _)))
          have hj2 : Hid (j2 = scanDown (fun x => !ltInt x (swp d 0 p)[0]!) (swp d 0 p) i1 (m)) := (scanDown_endw (fun x => !ltInt x (swp d 0 p)[0]!) (swp d 0 p) i1 j2 (Or.inl hle2)).symm.trans hsc2.out
          have R2 := Lib.hid (R2.out.drewN nq)
          have F2 := Lib.hid (fg_drewN F2.out nq)
          clear hx hy c0 hsc2
          go_wp2
          obtain ⟨W, hW⟩ : ∃ W : World, W = wr.drewN nq := ⟨_, rfl⟩
          rw [← hW] at R2 F2 ⊢
          clear hW
          obtain ⟨x, hx⟩ : ∃ x, Hid ((swp d 0 p)[j2]! = x) := ⟨_, rfl⟩
          obtain ⟨y, hy⟩ : ∃ y, Hid ((swp d 0 p)[0]! = y) := ⟨_, rfl⟩
          have c1 : W.cell? ⟨g, j2, none⟩ = some (.int .i32 x) := by rw [← hx.out]; exact (R2.out.at_ (j2) (by omega)).1
          have f1 : W.frozen? ⟨g, j2, none⟩ = false := (R2.out.at_ (j2) (by omega)).2
          have c2 : W.cell? ⟨g, 0, none⟩ = some (.int .i32 y) := by rw [← hy.out]; exact (R2.out.at_ (0) (by omega)).1
          have f2 : W.frozen? ⟨g, 0, none⟩ = false := (R2.out.at_ (0) (by omega)).2
          have R9 : Hid (RwI (((W.setCell ⟨g, j2, none⟩ (.int .i32 y)).setCell ⟨g, 0, none⟩ (.int .i32 x)).drew) g n cap (swp (swp d 0 p) (j2) (0))) := by have := (R2.out.swp (j2) (0)).ext (ext_drew (ext_refl _)); rw [hx.out, hy.out] at this; exact this
          have F9 : Hid (Fg g w (((W.setCell ⟨g, j2, none⟩ (.int .i32 y)).setCell ⟨g, 0, none⟩ (.int .i32 x)).drew)) := (fg_swp F2.out (j2) (0) _ _).trans (Frm.of (ext_drew (ext_refl _)))
          obtain ⟨v', hy'⟩ := cell?_setCell_some (w := W) (p := ⟨g, j2, none⟩) (x := .int .i32 y) (q := ⟨g, 0, none⟩) c2
          clear R2 F2 hx hy
          go_wp2
          go_region
          all_goals go_wp2
          have e := part_at_once d n p m hm hi1.out hj2.out (by omega)
          rw [e]
          refine bodyPost_ret (v := .tuple #[.int .i64 ↑j2, .bool true]) ?h rfl ⟨rfl, R9, F9⟩
          case h => simp [results, Tryz.results77, go_sem]
end Go.Proofs.YtgedpfbokkambaaGreatDoor
end
