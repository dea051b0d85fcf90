/- The document's Mul of any two decimals. -/
import Derived.Test.YtbgimjfeigeicaaGreatDoorSumI
import Derived.Test.YtbgimjfeigeicaaGreatDoorSumE
namespace Go.Proofs.YtbgimjfeigeicaaGreatDoor
open Go.RowKit
attribute [local go_sem] bs_size bs_extract bs_get bs_append bs_toList const_get
attribute [local go_sem] sz2 sz3 sz4 sz5 sz6 sz7 sz8
set_option maxHeartbeats 4000000
set_option maxRecDepth 100000
attribute [local irreducible] Calls
theorem rdmul_any (a b : Dc) (ha : a.dig.length ≤ 9223372036854775807) (hb : b.dig.length ≤ 9223372036854775807) (w : World) : Calls Tryz.prog 15 #[dcV a, dcV b] w fun e w' => e = .returned (duV (mulR a b)) ∧ Ext w w' := by
  have hc := fun w => rboth_any a b ha hb w
  by_cases h1 : chkD a b = 0
  · rw [h1] at hc
    obtain ⟨ca, cb⟩ := chk_parts h1
    obtain ⟨neg, l, exp⟩ := a
    obtain ⟨neg2, r, exp2⟩ := b
    by_cases hl : l = []
    · subst hl
      rw [show mulR ⟨neg, [], exp⟩ ⟨neg2, r, exp2⟩ = ⟨⟨neg != neg2, [], 0⟩, 0⟩ by unfold mulR; rw [if_neg (by simp [h1]), if_pos (.inl rfl)]]
      clear h1 ca cb ha hb
      cases neg <;> cases neg2
      all_goals
        go_enter Tryz.func15, Tryz.ntmps15
        go_wp2_with (first
          | (go_at_call 39; (with_reducible refine (hc _).mono ?_); rintro e w1 ⟨rfl, xb1⟩; obtain ⟨xc1, xf1, xl1, xz1⟩ := ext_use xb1; (try simp at xz1); have l1_0 := xl1 (w.heap.size) (by first | omega | (simp; try omega)); have r1_0 := xc1 (w.heap.size) 0 (by first | omega | (simp; try omega)); have f1_0 := xf1 (w.heap.size) 0 (by first | omega | (simp; try omega)); have r1_0_1 := xc1 (w.heap.size) 1 (by first | omega | (simp; try omega)); have f1_0_1 := xf1 (w.heap.size) 1 (by first | omega | (simp; try omega)); have r1_0_2 := xc1 (w.heap.size) 2 (by first | omega | (simp; try omega)); have f1_0_2 := xf1 (w.heap.size) 2 (by first | omega | (simp; try omega)); have l1_1 := xl1 (w.heap.size + 1) (by first | omega | (simp; try omega)); have r1_1 := xc1 (w.heap.size + 1) 0 (by first | omega | (simp; try omega)); have f1_1 := xf1 (w.heap.size + 1) 0 (by first | omega | (simp; try omega)); have r1_1_1 := xc1 (w.heap.size + 1) 1 (by first | omega | (simp; try omega)); have f1_1_1 := xf1 (w.heap.size + 1) 1 (by first | omega | (simp; try omega)); have r1_1_2 := xc1 (w.heap.size + 1) 2 (by first | omega | (simp; try omega)); have f1_1_2 := xf1 (w.heap.size + 1) 2 (by first | omega | (simp; try omega)); have l1_2 := xl1 (w.heap.size + 1 + 1) (by first | omega | (simp; try omega)); have r1_2 := xc1 (w.heap.size + 1 + 1) 0 (by first | omega | (simp; try omega)); have f1_2 := xf1 (w.heap.size + 1 + 1) 0 (by first | omega | (simp; try omega)); have r1_2_1 := xc1 (w.heap.size + 1 + 1) 1 (by first | omega | (simp; try omega)); have f1_2_1 := xf1 (w.heap.size + 1 + 1) 1 (by first | omega | (simp; try omega)); have r1_2_2 := xc1 (w.heap.size + 1 + 1) 2 (by first | omega | (simp; try omega)); have f1_2_2 := xf1 (w.heap.size + 1 + 1) 2 (by first | omega | (simp; try omega)))
          | (go_at_call 48; (with_reducible refine (rnone_any _ _ _ _).mono ?_); rintro e w2 ⟨rfl, xb2⟩; obtain ⟨xc2, xf2, xl2, xz2⟩ := ext_use xb2; (try simp at xz2); have l2_0 := xl2 (w.heap.size) (by first | omega | (simp; try omega)); have r2_0 := xc2 (w.heap.size) 0 (by first | omega | (simp; try omega)); have f2_0 := xf2 (w.heap.size) 0 (by first | omega | (simp; try omega)); have r2_0_1 := xc2 (w.heap.size) 1 (by first | omega | (simp; try omega)); have f2_0_1 := xf2 (w.heap.size) 1 (by first | omega | (simp; try omega)); have r2_0_2 := xc2 (w.heap.size) 2 (by first | omega | (simp; try omega)); have f2_0_2 := xf2 (w.heap.size) 2 (by first | omega | (simp; try omega)); have l2_1 := xl2 (w.heap.size + 1) (by first | omega | (simp; try omega)); have r2_1 := xc2 (w.heap.size + 1) 0 (by first | omega | (simp; try omega)); have f2_1 := xf2 (w.heap.size + 1) 0 (by first | omega | (simp; try omega)); have r2_1_1 := xc2 (w.heap.size + 1) 1 (by first | omega | (simp; try omega)); have f2_1_1 := xf2 (w.heap.size + 1) 1 (by first | omega | (simp; try omega)); have r2_1_2 := xc2 (w.heap.size + 1) 2 (by first | omega | (simp; try omega)); have f2_1_2 := xf2 (w.heap.size + 1) 2 (by first | omega | (simp; try omega)); have l2_2 := xl2 (w.heap.size + 1 + 1) (by first | omega | (simp; try omega)); have r2_2 := xc2 (w.heap.size + 1 + 1) 0 (by first | omega | (simp; try omega)); have f2_2 := xf2 (w.heap.size + 1 + 1) 0 (by first | omega | (simp; try omega)); have r2_2_1 := xc2 (w.heap.size + 1 + 1) 1 (by first | omega | (simp; try omega)); have f2_2_1 := xf2 (w.heap.size + 1 + 1) 1 (by first | omega | (simp; try omega)); have r2_2_2 := xc2 (w.heap.size + 1 + 1) 2 (by first | omega | (simp; try omega)); have f2_2_2 := xf2 (w.heap.size + 1 + 1) 2 (by first | omega | (simp; try omega)))
         )
        refine bodyPost_ret (v := _) ?h rfl ⟨rfl, ?_⟩
        case h => simp [results, Tryz.results15, go_sem, Dc.zero, bs_nil, *]
        repeat (first | exact ext_refl _ | assumption | refine ext_setCell ?_ (by simp; try omega) _ | refine ext_alloc ?_ _ | refine ext_drew ?_ | refine ext_drewN ?_ _ | refine ext_trans ?_ (Aft.use _) | refine ext_trans ?_ (by assumption))
    · by_cases hr : r = []
      · subst hr
        rw [show mulR ⟨neg, l, exp⟩ ⟨neg2, [], exp2⟩ = ⟨⟨neg != neg2, [], 0⟩, 0⟩ by unfold mulR; rw [if_neg (by simp [h1]), if_pos (.inr rfl)]]
        clear h1 ca cb ha hb
        cases neg <;> cases neg2
        all_goals
          go_enter Tryz.func15, Tryz.ntmps15
          go_wp2_with (first
            | (go_at_call 39; (with_reducible refine (hc _).mono ?_); rintro e w1 ⟨rfl, xb1⟩; obtain ⟨xc1, xf1, xl1, xz1⟩ := ext_use xb1; (try simp at xz1); have l1_0 := xl1 (w.heap.size) (by first | omega | (simp; try omega)); have r1_0 := xc1 (w.heap.size) 0 (by first | omega | (simp; try omega)); have f1_0 := xf1 (w.heap.size) 0 (by first | omega | (simp; try omega)); have r1_0_1 := xc1 (w.heap.size) 1 (by first | omega | (simp; try omega)); have f1_0_1 := xf1 (w.heap.size) 1 (by first | omega | (simp; try omega)); have r1_0_2 := xc1 (w.heap.size) 2 (by first | omega | (simp; try omega)); have f1_0_2 := xf1 (w.heap.size) 2 (by first | omega | (simp; try omega)); have l1_1 := xl1 (w.heap.size + 1) (by first | omega | (simp; try omega)); have r1_1 := xc1 (w.heap.size + 1) 0 (by first | omega | (simp; try omega)); have f1_1 := xf1 (w.heap.size + 1) 0 (by first | omega | (simp; try omega)); have r1_1_1 := xc1 (w.heap.size + 1) 1 (by first | omega | (simp; try omega)); have f1_1_1 := xf1 (w.heap.size + 1) 1 (by first | omega | (simp; try omega)); have r1_1_2 := xc1 (w.heap.size + 1) 2 (by first | omega | (simp; try omega)); have f1_1_2 := xf1 (w.heap.size + 1) 2 (by first | omega | (simp; try omega)); have l1_2 := xl1 (w.heap.size + 1 + 1) (by first | omega | (simp; try omega)); have r1_2 := xc1 (w.heap.size + 1 + 1) 0 (by first | omega | (simp; try omega)); have f1_2 := xf1 (w.heap.size + 1 + 1) 0 (by first | omega | (simp; try omega)); have r1_2_1 := xc1 (w.heap.size + 1 + 1) 1 (by first | omega | (simp; try omega)); have f1_2_1 := xf1 (w.heap.size + 1 + 1) 1 (by first | omega | (simp; try omega)); have r1_2_2 := xc1 (w.heap.size + 1 + 1) 2 (by first | omega | (simp; try omega)); have f1_2_2 := xf1 (w.heap.size + 1 + 1) 2 (by first | omega | (simp; try omega)))
            | (go_at_call 48; (with_reducible refine (rnone_any _ _ _ _).mono ?_); rintro e w2 ⟨rfl, xb2⟩; obtain ⟨xc2, xf2, xl2, xz2⟩ := ext_use xb2; (try simp at xz2); have l2_0 := xl2 (w.heap.size) (by first | omega | (simp; try omega)); have r2_0 := xc2 (w.heap.size) 0 (by first | omega | (simp; try omega)); have f2_0 := xf2 (w.heap.size) 0 (by first | omega | (simp; try omega)); have r2_0_1 := xc2 (w.heap.size) 1 (by first | omega | (simp; try omega)); have f2_0_1 := xf2 (w.heap.size) 1 (by first | omega | (simp; try omega)); have r2_0_2 := xc2 (w.heap.size) 2 (by first | omega | (simp; try omega)); have f2_0_2 := xf2 (w.heap.size) 2 (by first | omega | (simp; try omega)); have l2_1 := xl2 (w.heap.size + 1) (by first | omega | (simp; try omega)); have r2_1 := xc2 (w.heap.size + 1) 0 (by first | omega | (simp; try omega)); have f2_1 := xf2 (w.heap.size + 1) 0 (by first | omega | (simp; try omega)); have r2_1_1 := xc2 (w.heap.size + 1) 1 (by first | omega | (simp; try omega)); have f2_1_1 := xf2 (w.heap.size + 1) 1 (by first | omega | (simp; try omega)); have r2_1_2 := xc2 (w.heap.size + 1) 2 (by first | omega | (simp; try omega)); have f2_1_2 := xf2 (w.heap.size + 1) 2 (by first | omega | (simp; try omega)); have l2_2 := xl2 (w.heap.size + 1 + 1) (by first | omega | (simp; try omega)); have r2_2 := xc2 (w.heap.size + 1 + 1) 0 (by first | omega | (simp; try omega)); have f2_2 := xf2 (w.heap.size + 1 + 1) 0 (by first | omega | (simp; try omega)); have r2_2_1 := xc2 (w.heap.size + 1 + 1) 1 (by first | omega | (simp; try omega)); have f2_2_1 := xf2 (w.heap.size + 1 + 1) 1 (by first | omega | (simp; try omega)); have r2_2_2 := xc2 (w.heap.size + 1 + 1) 2 (by first | omega | (simp; try omega)); have f2_2_2 := xf2 (w.heap.size + 1 + 1) 2 (by first | omega | (simp; try omega)))
           )
          refine bodyPost_ret (v := _) ?h rfl ⟨rfl, ?_⟩
          case h => simp [results, Tryz.results15, go_sem, Dc.zero, bs_nil, *]
          repeat (first | exact ext_refl _ | assumption | refine ext_setCell ?_ (by simp; try omega) _ | refine ext_alloc ?_ _ | refine ext_drew ?_ | refine ext_drewN ?_ _ | refine ext_trans ?_ (Aft.use _) | refine ext_trans ?_ (by assumption))
      · have R : mulR ⟨neg, l, exp⟩ ⟨neg2, r, exp2⟩ = ⟨mkD (neg != neg2) (trimR 48 (mulT l r)) (exp + exp2 + (mulT l r).length - (trimR 48 (mulT l r)).length), mkE (trimR 48 (mulT l r)) (exp + exp2 + (mulT l r).length - (trimR 48 (mulT l r)).length)⟩ := by
          unfold mulR; rw [if_neg (by simp [h1]), if_neg (by simp [hl, hr])]
        rw [R]
        exact rmul10_some neg neg2 l r exp exp2 (dc_ok ca (List.length_pos_iff.2 hl)) (dc_ok cb (List.length_pos_iff.2 hr)) hc w
  · have R : mulR a b = ⟨Dc.zero, chkD a b⟩ := by unfold mulR; rw [if_pos h1]
    rw [R]
    generalize chkD a b = E at hc h1
    have hne : (E == 0) = false := by rw [beq_eq_false_iff_ne]; exact h1
    clear R h1
    obtain ⟨neg, l, exp⟩ := a
    obtain ⟨neg2, l2, exp2⟩ := b
    go_enter Tryz.func15, Tryz.ntmps15
    go_wp2_with (first
      | (go_at_call 39; (with_reducible refine (hc _).mono ?_); rintro e w1 ⟨rfl, xb1⟩; obtain ⟨xc1, xf1, xl1, xz1⟩ := ext_use xb1; (try simp at xz1); have l1_0 := xl1 (w.heap.size) (by first | omega | (simp; try omega)); have r1_0 := xc1 (w.heap.size) 0 (by first | omega | (simp; try omega)); have f1_0 := xf1 (w.heap.size) 0 (by first | omega | (simp; try omega)); have r1_0_1 := xc1 (w.heap.size) 1 (by first | omega | (simp; try omega)); have f1_0_1 := xf1 (w.heap.size) 1 (by first | omega | (simp; try omega)); have r1_0_2 := xc1 (w.heap.size) 2 (by first | omega | (simp; try omega)); have f1_0_2 := xf1 (w.heap.size) 2 (by first | omega | (simp; try omega)); have l1_1 := xl1 (w.heap.size + 1) (by first | omega | (simp; try omega)); have r1_1 := xc1 (w.heap.size + 1) 0 (by first | omega | (simp; try omega)); have f1_1 := xf1 (w.heap.size + 1) 0 (by first | omega | (simp; try omega)); have r1_1_1 := xc1 (w.heap.size + 1) 1 (by first | omega | (simp; try omega)); have f1_1_1 := xf1 (w.heap.size + 1) 1 (by first | omega | (simp; try omega)); have r1_1_2 := xc1 (w.heap.size + 1) 2 (by first | omega | (simp; try omega)); have f1_1_2 := xf1 (w.heap.size + 1) 2 (by first | omega | (simp; try omega)); have l1_2 := xl1 (w.heap.size + 1 + 1) (by first | omega | (simp; try omega)); have r1_2 := xc1 (w.heap.size + 1 + 1) 0 (by first | omega | (simp; try omega)); have f1_2 := xf1 (w.heap.size + 1 + 1) 0 (by first | omega | (simp; try omega)); have r1_2_1 := xc1 (w.heap.size + 1 + 1) 1 (by first | omega | (simp; try omega)); have f1_2_1 := xf1 (w.heap.size + 1 + 1) 1 (by first | omega | (simp; try omega)); have r1_2_2 := xc1 (w.heap.size + 1 + 1) 2 (by first | omega | (simp; try omega)); have f1_2_2 := xf1 (w.heap.size + 1 + 1) 2 (by first | omega | (simp; try omega)))
     )
    refine bodyPost_ret (v := _) ?h rfl ⟨rfl, ?_⟩
    case h => simp [results, Tryz.results15, go_sem, Dc.zero, bs_nil, *]
    repeat (first | exact ext_refl _ | assumption | refine ext_setCell ?_ (by simp; try omega) _ | refine ext_alloc ?_ _ | refine ext_drew ?_ | refine ext_drewN ?_ _ | refine ext_trans ?_ (Aft.use _) | refine ext_trans ?_ (by assumption))
end Go.Proofs.YtbgimjfeigeicaaGreatDoor
