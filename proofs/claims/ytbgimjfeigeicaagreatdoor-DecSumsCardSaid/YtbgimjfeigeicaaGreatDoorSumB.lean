/- Order of decimals: the program's and the document's. -/
import Derived.Test.YtbgimjfeigeicaaGreatDoorSumA
import Derived.Deep.DeepCutAuto
import Derived.Deep.RegionWith
namespace Go.Proofs.YtbgimjfeigeicaaGreatDoor
open Go.RowKit
attribute [local go_sem] bs_size bs_extract bs_get bs_append bs_toList const_get
attribute [local go_sem] sz2 sz3 sz4 sz5 sz6 sz7 sz8
set_option maxHeartbeats 4000000
set_option maxRecDepth 100000
attribute [local irreducible] Calls
theorem wrap_in (n : Int) (h : -9223372036854775808 ≤ n ∧ n ≤ 9223372036854775807) : wrap64 n = n := by unfold wrap64; omega
theorem compare_any (l r : List UInt8) (w : World) : Calls Tryz.prog 38 #[.string (bs l), .string (bs r)] w fun e w' => e = .returned (.int .i64 (Lib.compareBytes l r)) ∧ Ext w w' := by
  refine (Tryz.strings_Compare (bs l) (bs r) w).mono ?_
  rintro e w' ⟨he, rfl⟩
  refine ⟨?_, ext_refl _⟩
  rw [he]; rfl
theorem compareB (l r : List UInt8) : -1 ≤ Lib.compareBytes l r ∧ Lib.compareBytes l r ≤ 1 := by
  have : ∀ (l r : List UInt8), -1 ≤ Lib.compareBytes l r ∧ Lib.compareBytes l r ≤ 1 := by
    intro l
    induction l with
    | nil => intro r; cases r <;> simp [Lib.compareBytes]
    | cons a u ih =>
      intro r
      cases r with
      | nil => simp [Lib.compareBytes]
      | cons b v =>
        simp only [Lib.compareBytes]
        split
        · omega
        · split
          · omega
          · exact ih v
  exact this l r
theorem sgD_cases (d : Dc) : sgD d = -1 ∨ sgD d = 0 ∨ sgD d = 1 := by
  unfold sgD
  split
  · simp
  · split <;> simp
theorem cmp_any (a b : Dc) (ha : a.dig.length ≤ 9223372036854775807) (hb : b.dig.length ≤ 9223372036854775807) (w : World) : Calls Tryz.prog 9 #[dcV a, dcV b] w fun e w' => e = .returned (ccV (cmpR a b)) ∧ Ext w w' := by
  have hc := fun w => both_any a b ha hb w
  by_cases h1 : chkD a b = 0
  · rw [h1] at hc
    have ca : dcE a = 0 := by
      unfold chkD at h1
      split at h1
      · assumption
      · assumption
    have cb : dcE b = 0 := by
      unfold chkD at h1
      rwa [if_pos ca] at h1
    have sa := fun w => sign_any a w
    have sb := fun w => sign_any b w
    have hsa := sgD_cases a
    have hsb := sgD_cases b
    by_cases h2 : sgD a = sgD b ∧ sgD a ≠ 0
    · obtain ⟨h2, h3⟩ := h2
      have R : cmpR a b = ⟨sgD a * bigD a b, 0⟩ := by unfold cmpR; rw [if_neg (by simp [h1]), if_neg (by omega), if_neg (by omega), if_neg h3]
      rw [R]
      have oka := dc_ok ca (by
        rcases hl : a.dig with _ | ⟨x, t⟩
        · exact absurd (by unfold sgD; rw [if_pos hl]) h3
        · simp)
      have okb := dc_ok cb (by
        rcases hl : b.dig with _ | ⟨x, t⟩
        · exact absurd (by rw [h2]; unfold sgD; rw [if_pos hl]) h3
        · simp)
      obtain ⟨la, _, _, _, ea1, ea2⟩ := oka
      obtain ⟨lb, _, _, _, eb1, eb2⟩ := okb
      rw [← h2] at sb
      have hcc := compareB a.dig b.dig
      clear R h1 ca cb hsb h2 ha hb
      generalize sgD a = S at sa sb hsa h3
      obtain ⟨neg, l, exp⟩ := a
      obtain ⟨neg2, l2, exp2⟩ := b
      simp only [bigD] at la lb ea1 ea2 eb1 eb2 hcc ⊢
      have hS0 : (S == 0) = false := by rw [beq_eq_false_iff_ne]; exact h3
      have hpr : wrap64 (S * Lib.compareBytes l l2) = S * Lib.compareBytes l l2 := by
        refine wrap_in _ ⟨?_, ?_⟩ <;> rcases hsa with rfl | rfl | rfl <;> omega
      go_enter Tryz.func9, Tryz.ntmps9
      go_wp2_with (first
        | (go_at_call 36; (with_reducible refine (hc _).mono ?_); rintro e w1 ⟨rfl, xb1⟩; obtain ⟨xc1, xf1, xl1, xz1⟩ := ext_use xb1; (try simp at xz1); have l1_0 := xl1 (w.heap.size) (by first | omega | (simp; try omega)); have r1_0 := xc1 (w.heap.size) 0 (by first | omega | (simp; try omega)); have f1_0 := xf1 (w.heap.size) 0 (by first | omega | (simp; try omega)); have r1_0_1 := xc1 (w.heap.size) 1 (by first | omega | (simp; try omega)); have f1_0_1 := xf1 (w.heap.size) 1 (by first | omega | (simp; try omega)); have r1_0_2 := xc1 (w.heap.size) 2 (by first | omega | (simp; try omega)); have f1_0_2 := xf1 (w.heap.size) 2 (by first | omega | (simp; try omega)); have l1_1 := xl1 (w.heap.size + 1) (by first | omega | (simp; try omega)); have r1_1 := xc1 (w.heap.size + 1) 0 (by first | omega | (simp; try omega)); have f1_1 := xf1 (w.heap.size + 1) 0 (by first | omega | (simp; try omega)); have r1_1_1 := xc1 (w.heap.size + 1) 1 (by first | omega | (simp; try omega)); have f1_1_1 := xf1 (w.heap.size + 1) 1 (by first | omega | (simp; try omega)); have r1_1_2 := xc1 (w.heap.size + 1) 2 (by first | omega | (simp; try omega)); have f1_1_2 := xf1 (w.heap.size + 1) 2 (by first | omega | (simp; try omega)))
       )
      refine wp_aft (by kernel_rfl) (by kernel_rfl) (fun hq hqf => ?_)
      repeat (go_big_quiet_step (first
        | (go_at_call 37; exact aft_of (sa _))
        | (go_at_call 37; exact aft_of (sb _))
        ))
      refine wpQuiet_nil ?_
      rintro _ ⟨nq, rfl⟩
      have xl := ext_lt nq.use
      have xz := ext_size nq.use
      try simp at xz
      obtain ⟨xc2, xf2, xl2, xz2⟩ := ext_use (nq.use)
      have l2_0 := xl2 (w.heap.size) (by first | omega | (simp; try omega))
      have r2_0 := xc2 (w.heap.size) 0 (by first | omega | (simp; try omega))
      have f2_0 := xf2 (w.heap.size) 0 (by first | omega | (simp; try omega))
      have r2_0_1 := xc2 (w.heap.size) 1 (by first | omega | (simp; try omega))
      have f2_0_1 := xf2 (w.heap.size) 1 (by first | omega | (simp; try omega))
      have r2_0_2 := xc2 (w.heap.size) 2 (by first | omega | (simp; try omega))
      have f2_0_2 := xf2 (w.heap.size) 2 (by first | omega | (simp; try omega))
      have l2_1 := xl2 (w.heap.size + 1) (by first | omega | (simp; try omega))
      have r2_1 := xc2 (w.heap.size + 1) 0 (by first | omega | (simp; try omega))
      have f2_1 := xf2 (w.heap.size + 1) 0 (by first | omega | (simp; try omega))
      have r2_1_1 := xc2 (w.heap.size + 1) 1 (by first | omega | (simp; try omega))
      have f2_1_1 := xf2 (w.heap.size + 1) 1 (by first | omega | (simp; try omega))
      have r2_1_2 := xc2 (w.heap.size + 1) 2 (by first | omega | (simp; try omega))
      have f2_1_2 := xf2 (w.heap.size + 1) 2 (by first | omega | (simp; try omega))
      go_wp2
      go_quiet (fail)
      go_wp2_with (first
        | (go_at_call 38; (with_reducible refine (compare_any _ _ _).mono ?_); rintro e w5 ⟨rfl, xb5⟩; obtain ⟨xc5, xf5, xl5, xz5⟩ := ext_use xb5; (try simp at xz5))
       )
      all_goals
        refine bodyPost_ret (v := _) ?h rfl ⟨rfl, ?_⟩
        case h => simp [results, Tryz.results9, go_sem, hpr]
        repeat (first | exact ext_refl _ | assumption | refine ext_setCell ?_ (by simp; try omega) _ | refine ext_alloc ?_ _ | refine ext_drew ?_ | refine ext_drewN ?_ _ | refine ext_trans ?_ (Aft.use _) | refine ext_trans ?_ (by assumption))
    · have R : cmpR a b = ⟨if sgD a < sgD b then -1 else if sgD b < sgD a then 1 else 0, 0⟩ := by
        unfold cmpR
        rw [if_neg (by simp [h1])]
        split
        · rfl
        · split
          · rfl
          · rw [if_pos (Classical.byContradiction fun h => h2 ⟨by omega, h⟩)]
      rw [R]
      clear R h1 ca cb
      generalize sgD a = S at sa hsa h2
      generalize sgD b = T at sb hsb h2
      obtain ⟨neg, l, exp⟩ := a
      obtain ⟨neg2, l2, exp2⟩ := b
      rcases hsa with rfl | rfl | rfl <;> rcases hsb with rfl | rfl | rfl <;> first | exact absurd ⟨rfl, by decide⟩ h2 | clear h2
      all_goals
        go_enter Tryz.func9, Tryz.ntmps9
        go_wp2_with (first
          | (go_at_call 36; (with_reducible refine (hc _).mono ?_); rintro e w1 ⟨rfl, xb1⟩; obtain ⟨xc1, xf1, xl1, xz1⟩ := ext_use xb1; (try simp at xz1); have l1_0 := xl1 (w.heap.size) (by first | omega | (simp; try omega)); have r1_0 := xc1 (w.heap.size) 0 (by first | omega | (simp; try omega)); have f1_0 := xf1 (w.heap.size) 0 (by first | omega | (simp; try omega)); have r1_0_1 := xc1 (w.heap.size) 1 (by first | omega | (simp; try omega)); have f1_0_1 := xf1 (w.heap.size) 1 (by first | omega | (simp; try omega)); have r1_0_2 := xc1 (w.heap.size) 2 (by first | omega | (simp; try omega)); have f1_0_2 := xf1 (w.heap.size) 2 (by first | omega | (simp; try omega)); have l1_1 := xl1 (w.heap.size + 1) (by first | omega | (simp; try omega)); have r1_1 := xc1 (w.heap.size + 1) 0 (by first | omega | (simp; try omega)); have f1_1 := xf1 (w.heap.size + 1) 0 (by first | omega | (simp; try omega)); have r1_1_1 := xc1 (w.heap.size + 1) 1 (by first | omega | (simp; try omega)); have f1_1_1 := xf1 (w.heap.size + 1) 1 (by first | omega | (simp; try omega)); have r1_1_2 := xc1 (w.heap.size + 1) 2 (by first | omega | (simp; try omega)); have f1_1_2 := xf1 (w.heap.size + 1) 2 (by first | omega | (simp; try omega)))
         )
        refine wp_aft (by kernel_rfl) (by kernel_rfl) (fun hq hqf => ?_)
        repeat (go_big_quiet_step (first
          | (go_at_call 37; exact aft_of (sa _))
          | (go_at_call 37; exact aft_of (sb _))
          ))
        refine wpQuiet_nil ?_
        rintro _ ⟨nq, rfl⟩
        have xl := ext_lt nq.use
        have xz := ext_size nq.use
        try simp at xz
        obtain ⟨xc2, xf2, xl2, xz2⟩ := ext_use (nq.use)
        have l2_0 := xl2 (w.heap.size) (by first | omega | (simp; try omega))
        have r2_0 := xc2 (w.heap.size) 0 (by first | omega | (simp; try omega))
        have f2_0 := xf2 (w.heap.size) 0 (by first | omega | (simp; try omega))
        have r2_0_1 := xc2 (w.heap.size) 1 (by first | omega | (simp; try omega))
        have f2_0_1 := xf2 (w.heap.size) 1 (by first | omega | (simp; try omega))
        have r2_0_2 := xc2 (w.heap.size) 2 (by first | omega | (simp; try omega))
        have f2_0_2 := xf2 (w.heap.size) 2 (by first | omega | (simp; try omega))
        have l2_1 := xl2 (w.heap.size + 1) (by first | omega | (simp; try omega))
        have r2_1 := xc2 (w.heap.size + 1) 0 (by first | omega | (simp; try omega))
        have f2_1 := xf2 (w.heap.size + 1) 0 (by first | omega | (simp; try omega))
        have r2_1_1 := xc2 (w.heap.size + 1) 1 (by first | omega | (simp; try omega))
        have f2_1_1 := xf2 (w.heap.size + 1) 1 (by first | omega | (simp; try omega))
        have r2_1_2 := xc2 (w.heap.size + 1) 2 (by first | omega | (simp; try omega))
        have f2_1_2 := xf2 (w.heap.size + 1) 2 (by first | omega | (simp; try omega))
        go_wp2
        refine bodyPost_ret (v := _) ?h rfl ⟨rfl, ?_⟩
        case h =>
          simp [results, Tryz.results9, go_sem]
          try omega
        repeat (first | exact ext_refl _ | assumption | refine ext_setCell ?_ (by simp; try omega) _ | refine ext_alloc ?_ _ | refine ext_drew ?_ | refine ext_drewN ?_ _ | refine ext_trans ?_ (Aft.use _) | refine ext_trans ?_ (by assumption))
  · have R : cmpR a b = ⟨0, chkD a b⟩ := by unfold cmpR; rw [if_pos h1]
    rw [R]
    generalize chkD a b = E at hc h1
    have hne : (E == 0) = false := by rw [beq_eq_false_iff_ne]; exact h1
    clear R h1
    obtain ⟨neg, l, exp⟩ := a
    obtain ⟨neg2, l2, exp2⟩ := b
    go_enter Tryz.func9, Tryz.ntmps9
    go_wp2_with (first
      | (go_at_call 36; (with_reducible refine (hc _).mono ?_); rintro e w1 ⟨rfl, xb1⟩; obtain ⟨xc1, xf1, xl1, xz1⟩ := ext_use xb1; (try simp at xz1); have l1_0 := xl1 (w.heap.size) (by first | omega | (simp; try omega)); have r1_0 := xc1 (w.heap.size) 0 (by first | omega | (simp; try omega)); have f1_0 := xf1 (w.heap.size) 0 (by first | omega | (simp; try omega)); have r1_0_1 := xc1 (w.heap.size) 1 (by first | omega | (simp; try omega)); have f1_0_1 := xf1 (w.heap.size) 1 (by first | omega | (simp; try omega)); have r1_0_2 := xc1 (w.heap.size) 2 (by first | omega | (simp; try omega)); have f1_0_2 := xf1 (w.heap.size) 2 (by first | omega | (simp; try omega)); have l1_1 := xl1 (w.heap.size + 1) (by first | omega | (simp; try omega)); have r1_1 := xc1 (w.heap.size + 1) 0 (by first | omega | (simp; try omega)); have f1_1 := xf1 (w.heap.size + 1) 0 (by first | omega | (simp; try omega)); have r1_1_1 := xc1 (w.heap.size + 1) 1 (by first | omega | (simp; try omega)); have f1_1_1 := xf1 (w.heap.size + 1) 1 (by first | omega | (simp; try omega)); have r1_1_2 := xc1 (w.heap.size + 1) 2 (by first | omega | (simp; try omega)); have f1_1_2 := xf1 (w.heap.size + 1) 2 (by first | omega | (simp; try omega)))
     )
    refine bodyPost_ret (v := _) ?h rfl ⟨rfl, ?_⟩
    case h => simp [results, Tryz.results9, go_sem]
    repeat (first | exact ext_refl _ | assumption | refine ext_setCell ?_ (by simp; try omega) _ | refine ext_alloc ?_ _ | refine ext_drew ?_ | refine ext_drewN ?_ _ | refine ext_trans ?_ (Aft.use _) | refine ext_trans ?_ (by assumption))
theorem dat_inj {l r : List UInt8} {k : Nat} (hl : digsB l = true) (hr : digsB r = true) (h : datN l k = datN r k) : l.getD k 48 = r.getD k 48 := by
  have h1 : ∀ l : List UInt8, digsB l = true → 48 ≤ (l.getD k 48).toNat := by
    intro l hd
    rw [List.getD_eq_getElem?_getD]
    by_cases hk : k < l.length
    · rw [List.getElem?_eq_getElem hk]; exact (digs_at hd k hk).1
    · rw [List.getElem?_eq_none (by omega)]; decide
  have h2 := h1 l hl
  have h3 := h1 r hr
  unfold datN at h
  exact UInt8.toNat_inj.1 (by omega)
theorem bigger_any (neg neg2 : Bool) (l r : List UInt8) (exp exp2 : Int) (hok : Ok ⟨neg, l, exp⟩) (hok2 : Ok ⟨neg2, r, exp2⟩) (hl : ∀ i, i + 1 = l.length → l.getD i 48 ≠ 48) (hr : ∀ i, i + 1 = r.length → r.getD i 48 ≠ 48) (w : World) :
    Calls Tryz.prog 41 #[.agg #[.bool neg, .string (bs l), .int .i64 exp], .agg #[.bool neg2, .string (bs r), .int .i64 exp2]] w fun e w' => e = .returned (.int .i64 (bigD ⟨neg, l, exp⟩ ⟨neg2, r, exp2⟩)) ∧ Ext w w' := by
  obtain ⟨l1, _, hd1, _, he1, he2⟩ := hok
  obtain ⟨l2, _, hd2, _, he3, he4⟩ := hok2
  simp only at l1 hd1 he1 he2 l2 hd2 he3 he4
  have HD1 := Lib.hid hd1
  have HD2 := Lib.hid hd2
  have HL := Lib.hid hl
  have HR := Lib.hid hr
  clear hd1 hd2 hl hr
  rcases Int.lt_trichotomy (exp + l.length) (exp2 + r.length) with h | h | h
  · rw [show bigD ⟨neg, l, exp⟩ ⟨neg2, r, exp2⟩ = -1 by unfold bigD; rw [if_pos h]]
    have hne : (exp + (l.length : Int) == exp2 + (r.length : Int)) = false := by rw [beq_eq_false_iff_ne]; omega
    go_enter Tryz.func41, Tryz.ntmps41
    go_wp2
    go_quiet (fail)
    go_wp2
    refine bodyPost_ret (v := _) ?h rfl ⟨rfl, ?_⟩
    case h => simp [results, Tryz.results41, go_sem]
    repeat (first | exact ext_refl _ | assumption | refine ext_setCell ?_ (by simp; try omega) _ | refine ext_alloc ?_ _ | refine ext_drew ?_ | refine ext_drewN ?_ _ | refine ext_trans ?_ (Aft.use _) | refine ext_trans ?_ (by assumption))
  · rw [show bigD ⟨neg, l, exp⟩ ⟨neg2, r, exp2⟩ = Lib.compareBytes l r by unfold bigD; rw [if_neg (by show ¬ _; simp only; omega), if_neg (by show ¬ _; simp only; omega)]]
    have hne : (exp + (l.length : Int) == exp2 + (r.length : Int)) = true := by rw [beq_iff_eq]; omega
    go_enter Tryz.func41, Tryz.ntmps41
    go_wp2
    go_quiet (fail)
    go_wp2
    go_loopw [7] (fun vi wr => ∃ k : Nat, k ≤ max l.length r.length ∧ vi = .int .i64 ((k : Int) + 1) ∧ Hid (∀ p, p < k → l.getD p 48 = r.getD p 48) ∧
        Hid (Ext ((w.alloc (Obj.cells #[.bool neg, .string (bs l), .int .i64 exp] 23)).alloc (Obj.cells #[.bool neg2, .string (bs r), .int .i64 exp2] 23)) wr))
      (fun vi _ => (max l.length r.length + 1 - (intOf vi).toNat))
    case atStart =>
      refine ⟨0, Nat.zero_le _, by go_num, (fun p hp => absurd hp (Nat.not_lt_zero _)), ?_⟩
      show Ext _ _
      (repeat (first | exact ext_refl _ | assumption | refine ext_setCell ?_ (by simp; try omega) _ | refine ext_alloc ?_ _ | refine ext_drew ?_ | refine ext_drewN ?_ _ | refine ext_trans ?_ (Aft.use _) | refine ext_trans ?_ (by assumption)))
    case round =>
      obtain ⟨k, hk, rfl, hpre, hext⟩ := hrel
      obtain ⟨xc3, xf3, xl3, xz3⟩ := ext_use (hext.out)
      have l3_0 := xl3 (w.heap.size) (by first | omega | (simp; try omega))
      have r3_0 := xc3 (w.heap.size) 0 (by first | omega | (simp; try omega))
      have f3_0 := xf3 (w.heap.size) 0 (by first | omega | (simp; try omega))
      have r3_0_1 := xc3 (w.heap.size) 1 (by first | omega | (simp; try omega))
      have f3_0_1 := xf3 (w.heap.size) 1 (by first | omega | (simp; try omega))
      have r3_0_2 := xc3 (w.heap.size) 2 (by first | omega | (simp; try omega))
      have f3_0_2 := xf3 (w.heap.size) 2 (by first | omega | (simp; try omega))
      have l3_1 := xl3 (w.heap.size + 1) (by first | omega | (simp; try omega))
      have r3_1 := xc3 (w.heap.size + 1) 0 (by first | omega | (simp; try omega))
      have f3_1 := xf3 (w.heap.size + 1) 0 (by first | omega | (simp; try omega))
      have r3_1_1 := xc3 (w.heap.size + 1) 1 (by first | omega | (simp; try omega))
      have f3_1_1 := xf3 (w.heap.size + 1) 1 (by first | omega | (simp; try omega))
      have r3_1_2 := xc3 (w.heap.size + 1) 2 (by first | omega | (simp; try omega))
      have f3_1_2 := xf3 (w.heap.size + 1) 2 (by first | omega | (simp; try omega))
      by_cases hlt : k < max l.length r.length
      · obtain ⟨x, hx⟩ : ∃ x, x = datN l k := ⟨_, rfl⟩
        obtain ⟨y, hy⟩ : ∃ y, y = datN r k := ⟨_, rfl⟩
        have ka := fun n hn w => at_any neg l exp k HD1.out l1 (by omega) ⟨he1, he2⟩ n hn w
        have kb := fun n hn w => at_any neg2 r exp2 k HD2.out l2 (by omega) ⟨he3, he4⟩ n hn w
        rw [← hx] at ka
        rw [← hy] at kb
        have hor : ((k : Int) + 1 ≤ l.length) ∨ ((k : Int) + 1 ≤ r.length) := by omega
        have HX := Lib.hid hx
        have HY := Lib.hid hy
        clear hx hy
        rcases Nat.lt_trichotomy x y with hxy | hxy | hxy
        · go_wp2
          all_goals
            refine wp_aft (by kernel_rfl) (by kernel_rfl) (fun hq hqf => ?_)
            repeat (go_big_quiet_step (first
              | (go_at_call 84; exact aft_of (ka _ (by omega) _))
              | (go_at_call 84; exact aft_of (kb _ (by omega) _))
              ))
            refine wpQuiet_nil ?_
            rintro _ ⟨nq, rfl⟩
            have xl := ext_lt nq.use
            have xz := ext_size nq.use
            try simp at xz
            have hE := ext_trans hext.out nq.use
            obtain ⟨xc4, xf4, xl4, xz4⟩ := ext_use (nq.use)
            have l4_0 := xl4 (w.heap.size) (by first | omega | (simp; try omega))
            have r4_0 := xc4 (w.heap.size) 0 (by first | omega | (simp; try omega))
            have f4_0 := xf4 (w.heap.size) 0 (by first | omega | (simp; try omega))
            have r4_0_1 := xc4 (w.heap.size) 1 (by first | omega | (simp; try omega))
            have f4_0_1 := xf4 (w.heap.size) 1 (by first | omega | (simp; try omega))
            have r4_0_2 := xc4 (w.heap.size) 2 (by first | omega | (simp; try omega))
            have f4_0_2 := xf4 (w.heap.size) 2 (by first | omega | (simp; try omega))
            have l4_1 := xl4 (w.heap.size + 1) (by first | omega | (simp; try omega))
            have r4_1 := xc4 (w.heap.size + 1) 0 (by first | omega | (simp; try omega))
            have f4_1 := xf4 (w.heap.size + 1) 0 (by first | omega | (simp; try omega))
            have r4_1_1 := xc4 (w.heap.size + 1) 1 (by first | omega | (simp; try omega))
            have f4_1_1 := xf4 (w.heap.size + 1) 1 (by first | omega | (simp; try omega))
            have r4_1_2 := xc4 (w.heap.size + 1) 2 (by first | omega | (simp; try omega))
            have f4_1_2 := xf4 (w.heap.size + 1) 2 (by first | omega | (simp; try omega))
            go_wp2
            have e : Lib.compareBytes l r = -1 := cmp_lt k l r HD1.out HD2.out hpre.out (by have h1 := HX.out; have h2 := HY.out; unfold datN at h1 h2; omega)
            rw [e]
            refine bodyPost_ret (v := _) ?h rfl ⟨rfl, ?_⟩
            case h => simp [results, Tryz.results41, go_sem]
            repeat (first | exact ext_refl _ | assumption | refine ext_setCell ?_ (by simp; try omega) _ | refine ext_alloc ?_ _ | refine ext_drew ?_ | refine ext_drewN ?_ _ | refine ext_trans ?_ (Aft.use _) | refine ext_trans ?_ (by assumption))
        · go_wp2
          all_goals
            refine wp_aft (by kernel_rfl) (by kernel_rfl) (fun hq hqf => ?_)
            repeat (go_big_quiet_step (first
              | (go_at_call 84; exact aft_of (ka _ (by omega) _))
              | (go_at_call 84; exact aft_of (kb _ (by omega) _))
              ))
            refine wpQuiet_nil ?_
            rintro _ ⟨nq, rfl⟩
            have xl := ext_lt nq.use
            have xz := ext_size nq.use
            try simp at xz
            have hE := ext_trans hext.out nq.use
            obtain ⟨xc4, xf4, xl4, xz4⟩ := ext_use (nq.use)
            have l4_0 := xl4 (w.heap.size) (by first | omega | (simp; try omega))
            have r4_0 := xc4 (w.heap.size) 0 (by first | omega | (simp; try omega))
            have f4_0 := xf4 (w.heap.size) 0 (by first | omega | (simp; try omega))
            have r4_0_1 := xc4 (w.heap.size) 1 (by first | omega | (simp; try omega))
            have f4_0_1 := xf4 (w.heap.size) 1 (by first | omega | (simp; try omega))
            have r4_0_2 := xc4 (w.heap.size) 2 (by first | omega | (simp; try omega))
            have f4_0_2 := xf4 (w.heap.size) 2 (by first | omega | (simp; try omega))
            have l4_1 := xl4 (w.heap.size + 1) (by first | omega | (simp; try omega))
            have r4_1 := xc4 (w.heap.size + 1) 0 (by first | omega | (simp; try omega))
            have f4_1 := xf4 (w.heap.size + 1) 0 (by first | omega | (simp; try omega))
            have r4_1_1 := xc4 (w.heap.size + 1) 1 (by first | omega | (simp; try omega))
            have f4_1_1 := xf4 (w.heap.size + 1) 1 (by first | omega | (simp; try omega))
            have r4_1_2 := xc4 (w.heap.size + 1) 2 (by first | omega | (simp; try omega))
            have f4_1_2 := xf4 (w.heap.size + 1) 2 (by first | omega | (simp; try omega))
            go_wp2
            go_roundw
            case rel =>
              refine ⟨k + 1, by omega, by go_num, fun p hp => ?_, ?_⟩
              · by_cases e : p = k
                · subst e
                  exact dat_inj HD1.out HD2.out (by rw [← HX.out, ← HY.out, hxy])
                · exact hpre.out p (by omega)
              · show Ext _ _
                exact hE
            case measure => simp [intOf]; omega
        · go_wp2
          all_goals
            refine wp_aft (by kernel_rfl) (by kernel_rfl) (fun hq hqf => ?_)
            repeat (go_big_quiet_step (first
              | (go_at_call 84; exact aft_of (ka _ (by omega) _))
              | (go_at_call 84; exact aft_of (kb _ (by omega) _))
              ))
            refine wpQuiet_nil ?_
            rintro _ ⟨nq, rfl⟩
            have xl := ext_lt nq.use
            have xz := ext_size nq.use
            try simp at xz
            have hE := ext_trans hext.out nq.use
            obtain ⟨xc4, xf4, xl4, xz4⟩ := ext_use (nq.use)
            have l4_0 := xl4 (w.heap.size) (by first | omega | (simp; try omega))
            have r4_0 := xc4 (w.heap.size) 0 (by first | omega | (simp; try omega))
            have f4_0 := xf4 (w.heap.size) 0 (by first | omega | (simp; try omega))
            have r4_0_1 := xc4 (w.heap.size) 1 (by first | omega | (simp; try omega))
            have f4_0_1 := xf4 (w.heap.size) 1 (by first | omega | (simp; try omega))
            have r4_0_2 := xc4 (w.heap.size) 2 (by first | omega | (simp; try omega))
            have f4_0_2 := xf4 (w.heap.size) 2 (by first | omega | (simp; try omega))
            have l4_1 := xl4 (w.heap.size + 1) (by first | omega | (simp; try omega))
            have r4_1 := xc4 (w.heap.size + 1) 0 (by first | omega | (simp; try omega))
            have f4_1 := xf4 (w.heap.size + 1) 0 (by first | omega | (simp; try omega))
            have r4_1_1 := xc4 (w.heap.size + 1) 1 (by first | omega | (simp; try omega))
            have f4_1_1 := xf4 (w.heap.size + 1) 1 (by first | omega | (simp; try omega))
            have r4_1_2 := xc4 (w.heap.size + 1) 2 (by first | omega | (simp; try omega))
            have f4_1_2 := xf4 (w.heap.size + 1) 2 (by first | omega | (simp; try omega))
            go_wp2
            have e : Lib.compareBytes l r = 1 := cmp_gt k l r HD1.out HD2.out hpre.out (by have h1 := HX.out; have h2 := HY.out; unfold datN at h1 h2; omega)
            rw [e]
            refine bodyPost_ret (v := _) ?h rfl ⟨rfl, ?_⟩
            case h => simp [results, Tryz.results41, go_sem]
            repeat (first | exact ext_refl _ | assumption | refine ext_setCell ?_ (by simp; try omega) _ | refine ext_alloc ?_ _ | refine ext_drew ?_ | refine ext_drewN ?_ _ | refine ext_trans ?_ (Aft.use _) | refine ext_trans ?_ (by assumption))
      · obtain rfl : k = max l.length r.length := by omega
        have e : Lib.compareBytes l r = 0 := cmp_eq' HL.out HR.out hpre.out
        have h1 : ¬ ((max l.length r.length : Nat) : Int) + 1 ≤ l.length := by omega
        have h2 : ¬ ((max l.length r.length : Nat) : Int) + 1 ≤ r.length := by omega
        have hE := hext.out
        go_wp2
        refine bodyPost_ret (v := _) ?h rfl ⟨rfl, ?_⟩
        case h => simp [results, Tryz.results41, go_sem]
        repeat (first | exact ext_refl _ | assumption | refine ext_setCell ?_ (by simp; try omega) _ | refine ext_alloc ?_ _ | refine ext_drew ?_ | refine ext_drewN ?_ _ | refine ext_trans ?_ (Aft.use _) | refine ext_trans ?_ (by assumption))
  · rw [show bigD ⟨neg, l, exp⟩ ⟨neg2, r, exp2⟩ = 1 by unfold bigD; rw [if_neg (by show ¬ _; simp only; omega), if_pos h]]
    have hne : (exp + (l.length : Int) == exp2 + (r.length : Int)) = false := by rw [beq_eq_false_iff_ne]; omega
    go_enter Tryz.func41, Tryz.ntmps41
    go_wp2
    go_quiet (fail)
    go_wp2
    refine bodyPost_ret (v := _) ?h rfl ⟨rfl, ?_⟩
    case h => simp [results, Tryz.results41, go_sem]
    repeat (first | exact ext_refl _ | assumption | refine ext_setCell ?_ (by simp; try omega) _ | refine ext_alloc ?_ _ | refine ext_drew ?_ | refine ext_drewN ?_ _ | refine ext_trans ?_ (Aft.use _) | refine ext_trans ?_ (by assumption))
theorem rcmp_any10 (a b : Dc) (ha : a.dig.length ≤ 9223372036854775807) (hb : b.dig.length ≤ 9223372036854775807) (w : World) : Calls Tryz.prog 10 #[dcV a, dcV b] w fun e w' => e = .returned (ccV (cmpR a b)) ∧ Ext w w' := by
  have hc := fun w => rboth_any a b ha hb w
  by_cases h1 : chkD a b = 0
  · rw [h1] at hc
    have ca : dcE a = 0 := by
      unfold chkD at h1
      split at h1
      · assumption
      · assumption
    have cb : dcE b = 0 := by
      unfold chkD at h1
      rwa [if_pos ca] at h1
    have sa := fun w => rsign_any a w
    have sb := fun w => rsign_any b w
    have hsa := sgD_cases a
    have hsb := sgD_cases b
    by_cases h2 : sgD a = sgD b ∧ sgD a ≠ 0
    · obtain ⟨h2, h3⟩ := h2
      have R : cmpR a b = ⟨sgD a * bigD a b, 0⟩ := by unfold cmpR; rw [if_neg (by simp [h1]), if_neg (by omega), if_neg (by omega), if_neg h3]
      rw [R]
      have pa : 0 < a.dig.length := by
        rcases hl : a.dig with _ | ⟨x, t⟩
        · exact absurd (by unfold sgD; rw [if_pos hl]) h3
        · simp
      have pb : 0 < b.dig.length := by
        rcases hl : b.dig with _ | ⟨x, t⟩
        · exact absurd (by rw [h2]; unfold sgD; rw [if_pos hl]) h3
        · simp
      have hbig := fun w => bigger_any a.neg b.neg a.dig b.dig a.exp b.exp (dc_ok ca pa) (dc_ok cb pb) (dc_last ca pa) (dc_last cb pb) w
      have hcc : -1 ≤ bigD a b ∧ bigD a b ≤ 1 := by
        unfold bigD
        split
        · omega
        · split
          · omega
          · exact compareB _ _
      rw [← h2] at sb
      clear R h1 ca cb hsb h2 ha hb pa pb
      generalize sgD a = S at sa sb hsa h3
      obtain ⟨neg, l, exp⟩ := a
      obtain ⟨neg2, l2, exp2⟩ := b
      simp only at hbig
      generalize bigD ⟨neg, l, exp⟩ ⟨neg2, l2, exp2⟩ = G at hbig hcc
      have hS0 : (S == 0) = false := by rw [beq_eq_false_iff_ne]; exact h3
      have hpr : wrap64 (S * G) = S * G := by
        refine wrap_in _ ⟨?_, ?_⟩ <;> rcases hsa with rfl | rfl | rfl <;> omega
      go_enter Tryz.func10, Tryz.ntmps10
      go_wp2_with (first
        | (go_at_call 39; (with_reducible refine (hc _).mono ?_); rintro e w1 ⟨rfl, xb1⟩; obtain ⟨xc1, xf1, xl1, xz1⟩ := ext_use xb1; (try simp at xz1); have l1_0 := xl1 (w.heap.size) (by first | omega | (simp; try omega)); have r1_0 := xc1 (w.heap.size) 0 (by first | omega | (simp; try omega)); have f1_0 := xf1 (w.heap.size) 0 (by first | omega | (simp; try omega)); have r1_0_1 := xc1 (w.heap.size) 1 (by first | omega | (simp; try omega)); have f1_0_1 := xf1 (w.heap.size) 1 (by first | omega | (simp; try omega)); have r1_0_2 := xc1 (w.heap.size) 2 (by first | omega | (simp; try omega)); have f1_0_2 := xf1 (w.heap.size) 2 (by first | omega | (simp; try omega)); have l1_1 := xl1 (w.heap.size + 1) (by first | omega | (simp; try omega)); have r1_1 := xc1 (w.heap.size + 1) 0 (by first | omega | (simp; try omega)); have f1_1 := xf1 (w.heap.size + 1) 0 (by first | omega | (simp; try omega)); have r1_1_1 := xc1 (w.heap.size + 1) 1 (by first | omega | (simp; try omega)); have f1_1_1 := xf1 (w.heap.size + 1) 1 (by first | omega | (simp; try omega)); have r1_1_2 := xc1 (w.heap.size + 1) 2 (by first | omega | (simp; try omega)); have f1_1_2 := xf1 (w.heap.size + 1) 2 (by first | omega | (simp; try omega)))
       )
      refine wp_aft (by kernel_rfl) (by kernel_rfl) (fun hq hqf => ?_)
      repeat (go_big_quiet_step (first
        | (go_at_call 40; exact aft_of (sa _))
        | (go_at_call 40; exact aft_of (sb _))
        ))
      refine wpQuiet_nil ?_
      rintro _ ⟨nq, rfl⟩
      have xl := ext_lt nq.use
      have xz := ext_size nq.use
      try simp at xz
      obtain ⟨xc2, xf2, xl2, xz2⟩ := ext_use (nq.use)
      have l2_0 := xl2 (w.heap.size) (by first | omega | (simp; try omega))
      have r2_0 := xc2 (w.heap.size) 0 (by first | omega | (simp; try omega))
      have f2_0 := xf2 (w.heap.size) 0 (by first | omega | (simp; try omega))
      have r2_0_1 := xc2 (w.heap.size) 1 (by first | omega | (simp; try omega))
      have f2_0_1 := xf2 (w.heap.size) 1 (by first | omega | (simp; try omega))
      have r2_0_2 := xc2 (w.heap.size) 2 (by first | omega | (simp; try omega))
      have f2_0_2 := xf2 (w.heap.size) 2 (by first | omega | (simp; try omega))
      have l2_1 := xl2 (w.heap.size + 1) (by first | omega | (simp; try omega))
      have r2_1 := xc2 (w.heap.size + 1) 0 (by first | omega | (simp; try omega))
      have f2_1 := xf2 (w.heap.size + 1) 0 (by first | omega | (simp; try omega))
      have r2_1_1 := xc2 (w.heap.size + 1) 1 (by first | omega | (simp; try omega))
      have f2_1_1 := xf2 (w.heap.size + 1) 1 (by first | omega | (simp; try omega))
      have r2_1_2 := xc2 (w.heap.size + 1) 2 (by first | omega | (simp; try omega))
      have f2_1_2 := xf2 (w.heap.size + 1) 2 (by first | omega | (simp; try omega))
      go_wp2_with (first
        | (go_at_call 41; (with_reducible refine (hbig _).mono ?_); rintro e w5 ⟨rfl, xb5⟩; obtain ⟨xc5, xf5, xl5, xz5⟩ := ext_use xb5; (try simp at xz5))
       )
      refine bodyPost_ret (v := _) ?h rfl ⟨rfl, ?_⟩
      case h => simp [results, Tryz.results10, go_sem, hpr]
      repeat (first | exact ext_refl _ | assumption | refine ext_setCell ?_ (by simp; try omega) _ | refine ext_alloc ?_ _ | refine ext_drew ?_ | refine ext_drewN ?_ _ | refine ext_trans ?_ (Aft.use _) | refine ext_trans ?_ (by assumption))
    · have R : cmpR a b = ⟨if sgD a < sgD b then -1 else if sgD b < sgD a then 1 else 0, 0⟩ := by
        unfold cmpR
        rw [if_neg (by simp [h1])]
        split
        · rfl
        · split
          · rfl
          · rw [if_pos (Classical.byContradiction fun h => h2 ⟨by omega, h⟩)]
      rw [R]
      clear R h1 ca cb
      generalize sgD a = S at sa hsa h2
      generalize sgD b = T at sb hsb h2
      obtain ⟨neg, l, exp⟩ := a
      obtain ⟨neg2, l2, exp2⟩ := b
      rcases hsa with rfl | rfl | rfl <;> rcases hsb with rfl | rfl | rfl <;> first | exact absurd ⟨rfl, by decide⟩ h2 | clear h2
      all_goals
        go_enter Tryz.func10, Tryz.ntmps10
        go_wp2_with (first
          | (go_at_call 39; (with_reducible refine (hc _).mono ?_); rintro e w1 ⟨rfl, xb1⟩; obtain ⟨xc1, xf1, xl1, xz1⟩ := ext_use xb1; (try simp at xz1); have l1_0 := xl1 (w.heap.size) (by first | omega | (simp; try omega)); have r1_0 := xc1 (w.heap.size) 0 (by first | omega | (simp; try omega)); have f1_0 := xf1 (w.heap.size) 0 (by first | omega | (simp; try omega)); have r1_0_1 := xc1 (w.heap.size) 1 (by first | omega | (simp; try omega)); have f1_0_1 := xf1 (w.heap.size) 1 (by first | omega | (simp; try omega)); have r1_0_2 := xc1 (w.heap.size) 2 (by first | omega | (simp; try omega)); have f1_0_2 := xf1 (w.heap.size) 2 (by first | omega | (simp; try omega)); have l1_1 := xl1 (w.heap.size + 1) (by first | omega | (simp; try omega)); have r1_1 := xc1 (w.heap.size + 1) 0 (by first | omega | (simp; try omega)); have f1_1 := xf1 (w.heap.size + 1) 0 (by first | omega | (simp; try omega)); have r1_1_1 := xc1 (w.heap.size + 1) 1 (by first | omega | (simp; try omega)); have f1_1_1 := xf1 (w.heap.size + 1) 1 (by first | omega | (simp; try omega)); have r1_1_2 := xc1 (w.heap.size + 1) 2 (by first | omega | (simp; try omega)); have f1_1_2 := xf1 (w.heap.size + 1) 2 (by first | omega | (simp; try omega)))
         )
        refine wp_aft (by kernel_rfl) (by kernel_rfl) (fun hq hqf => ?_)
        repeat (go_big_quiet_step (first
          | (go_at_call 40; exact aft_of (sa _))
          | (go_at_call 40; exact aft_of (sb _))
          ))
        refine wpQuiet_nil ?_
        rintro _ ⟨nq, rfl⟩
        have xl := ext_lt nq.use
        have xz := ext_size nq.use
        try simp at xz
        go_wp2
        refine bodyPost_ret (v := _) ?h rfl ⟨rfl, ?_⟩
        case h => simp [results, Tryz.results10, go_sem]
        repeat (first | exact ext_refl _ | assumption | refine ext_setCell ?_ (by simp; try omega) _ | refine ext_alloc ?_ _ | refine ext_drew ?_ | refine ext_drewN ?_ _ | refine ext_trans ?_ (Aft.use _) | refine ext_trans ?_ (by assumption))
  · have R : cmpR a b = ⟨0, chkD a b⟩ := by unfold cmpR; rw [if_pos h1]
    rw [R]
    generalize chkD a b = E at hc h1
    have hne : (E == 0) = false := by rw [beq_eq_false_iff_ne]; exact h1
    clear R h1
    obtain ⟨neg, l, exp⟩ := a
    obtain ⟨neg2, l2, exp2⟩ := b
    go_enter Tryz.func10, Tryz.ntmps10
    go_wp2_with (first
      | (go_at_call 39; (with_reducible refine (hc _).mono ?_); rintro e w1 ⟨rfl, xb1⟩; obtain ⟨xc1, xf1, xl1, xz1⟩ := ext_use xb1; (try simp at xz1); have l1_0 := xl1 (w.heap.size) (by first | omega | (simp; try omega)); have r1_0 := xc1 (w.heap.size) 0 (by first | omega | (simp; try omega)); have f1_0 := xf1 (w.heap.size) 0 (by first | omega | (simp; try omega)); have r1_0_1 := xc1 (w.heap.size) 1 (by first | omega | (simp; try omega)); have f1_0_1 := xf1 (w.heap.size) 1 (by first | omega | (simp; try omega)); have r1_0_2 := xc1 (w.heap.size) 2 (by first | omega | (simp; try omega)); have f1_0_2 := xf1 (w.heap.size) 2 (by first | omega | (simp; try omega)); have l1_1 := xl1 (w.heap.size + 1) (by first | omega | (simp; try omega)); have r1_1 := xc1 (w.heap.size + 1) 0 (by first | omega | (simp; try omega)); have f1_1 := xf1 (w.heap.size + 1) 0 (by first | omega | (simp; try omega)); have r1_1_1 := xc1 (w.heap.size + 1) 1 (by first | omega | (simp; try omega)); have f1_1_1 := xf1 (w.heap.size + 1) 1 (by first | omega | (simp; try omega)); have r1_1_2 := xc1 (w.heap.size + 1) 2 (by first | omega | (simp; try omega)); have f1_1_2 := xf1 (w.heap.size + 1) 2 (by first | omega | (simp; try omega)))
     )
    refine bodyPost_ret (v := _) ?h rfl ⟨rfl, ?_⟩
    case h => simp [results, Tryz.results10, go_sem]
    repeat (first | exact ext_refl _ | assumption | refine ext_setCell ?_ (by simp; try omega) _ | refine ext_alloc ?_ _ | refine ext_drew ?_ | refine ext_drewN ?_ _ | refine ext_trans ?_ (Aft.use _) | refine ext_trans ?_ (by assumption))
end Go.Proofs.YtbgimjfeigeicaaGreatDoor
