/- Lemmas of this proof, laid together: SumE. -/
import Derived.Test.YtiapoflkeliljaaGreatDoorMg09
import Derived.Test.YtiapoflkeliljaaGreatDoorMg16
set_option linter.unusedSimpArgs false
set_option linter.unusedVariables false
section
/- The program's Add of any two decimals. -/
namespace Go.Proofs.YtiapoflkeliljaaGreatDoor
open Go.RowKit
attribute [local go_sem] bs_size bs_extract bs_get bs_append bs_toList const_get
attribute [local go_sem] sz2 sz3 sz4 sz5 sz6 sz7 sz8
set_option maxHeartbeats 4000000
set_option maxRecDepth 100000
attribute [local irreducible] Calls
theorem chk_parts {a b : Dc} (h : chkD a b = 0) : dcE a = 0 ∧ dcE b = 0 := by
  unfold chkD at h
  split at h
  · rename_i h1; exact ⟨h1, h⟩
  · rename_i h1; exact absurd h h1
theorem not_of_ne : ∀ a b : Bool, ¬ a = b → b = !a := by decide
theorem nempty {l : List UInt8} (h : l ≠ []) : l.isEmpty = false := by cases l <;> simp_all
theorem dadd_any (a b : Dc) (ha : a.dig.length ≤ 9223372036854775807) (hb : b.dig.length ≤ 9223372036854775807) (w : World) : Calls Tryz.prog 124 #[dcV a, dcV b] w fun e w' => e = .returned (duV (addR a b)) ∧ Ext w w' := by
  have hc := fun w => both_any a b ha hb w
  by_cases h1 : chkD a b = 0
  · rw [h1] at hc
    obtain ⟨ca, cb⟩ := chk_parts h1
    obtain ⟨neg, l, exp⟩ := a
    obtain ⟨neg2, r, exp2⟩ := b
    by_cases hl : l = []
    · by_cases hr : r = []
      · subst hl hr
        rw [show addR ⟨neg, [], exp⟩ ⟨neg2, [], exp2⟩ = ⟨⟨neg && neg2, [], 0⟩, 0⟩ by unfold addR; rw [if_neg (by simp [h1]), if_pos ⟨rfl, rfl⟩]]
        clear h1 ca cb ha hb
        cases neg <;> cases neg2
        all_goals
          go_enter Tryz.func124, Tryz.ntmps124
          go_wp2_with (first
            | (go_at_call 192; (with_reducible refine (hc _).mono ?_); rintro e w1 ⟨rfl, xb1⟩; obtain ⟨xc1, xf1, xl1, xz1⟩ := ext_use xb1; (try simp at xz1); obtain ⟨l1_0, gc, gf⟩ := kp xb1 (w.heap.size) (by first | omega | (simp; try omega)); have r1_0 := gc 0; have f1_0 := gf 0; have r1_0_1 := gc 1; have f1_0_1 := gf 1; have r1_0_2 := gc 2; have f1_0_2 := gf 2; clear gc gf; obtain ⟨l1_1, gc, gf⟩ := kp xb1 (w.heap.size + 1) (by first | omega | (simp; try omega)); have r1_1 := gc 0; have f1_1 := gf 0; have r1_1_1 := gc 1; have f1_1_1 := gf 1; have r1_1_2 := gc 2; have f1_1_2 := gf 2; clear gc gf; obtain ⟨l1_2, gc, gf⟩ := kp xb1 (w.heap.size + 1 + 1) (by first | omega | (simp; try omega)); have r1_2 := gc 0; have f1_2 := gf 0; have r1_2_1 := gc 1; have f1_2_1 := gf 1; have r1_2_2 := gc 2; have f1_2_2 := gf 2; clear gc gf)
            | (go_at_call 193; (with_reducible refine (none_any _ _ _ _).mono ?_); rintro e w2 ⟨rfl, xb2⟩; obtain ⟨xc2, xf2, xl2, xz2⟩ := ext_use xb2; (try simp at xz2); obtain ⟨l2_0, gc, gf⟩ := kp xb2 (w.heap.size) (by first | omega | (simp; try omega)); have r2_0 := gc 0; have f2_0 := gf 0; have r2_0_1 := gc 1; have f2_0_1 := gf 1; have r2_0_2 := gc 2; have f2_0_2 := gf 2; clear gc gf; obtain ⟨l2_1, gc, gf⟩ := kp xb2 (w.heap.size + 1) (by first | omega | (simp; try omega)); have r2_1 := gc 0; have f2_1 := gf 0; have r2_1_1 := gc 1; have f2_1_1 := gf 1; have r2_1_2 := gc 2; have f2_1_2 := gf 2; clear gc gf; obtain ⟨l2_2, gc, gf⟩ := kp xb2 (w.heap.size + 1 + 1) (by first | omega | (simp; try omega)); have r2_2 := gc 0; have f2_2 := gf 0; have r2_2_1 := gc 1; have f2_2_1 := gf 1; have r2_2_2 := gc 2; have f2_2_2 := gf 2; clear gc gf)
            | (go_at_call 193; (with_reducible refine (none_any _ _ _ _).mono ?_); rintro e w3 ⟨rfl, xb3⟩; obtain ⟨xc3, xf3, xl3, xz3⟩ := ext_use xb3; (try simp at xz3); obtain ⟨l3_0, gc, gf⟩ := kp xb3 (w.heap.size) (by first | omega | (simp; try omega)); have r3_0 := gc 0; have f3_0 := gf 0; have r3_0_1 := gc 1; have f3_0_1 := gf 1; have r3_0_2 := gc 2; have f3_0_2 := gf 2; clear gc gf; obtain ⟨l3_1, gc, gf⟩ := kp xb3 (w.heap.size + 1) (by first | omega | (simp; try omega)); have r3_1 := gc 0; have f3_1 := gf 0; have r3_1_1 := gc 1; have f3_1_1 := gf 1; have r3_1_2 := gc 2; have f3_1_2 := gf 2; clear gc gf; obtain ⟨l3_2, gc, gf⟩ := kp xb3 (w.heap.size + 1 + 1) (by first | omega | (simp; try omega)); have r3_2 := gc 0; have f3_2 := gf 0; have r3_2_1 := gc 1; have f3_2_1 := gf 1; have r3_2_2 := gc 2; have f3_2_2 := gf 2; clear gc gf)
           )
          refine bodyPost_ret (v := _) ?h rfl ⟨rfl, ?_⟩
          case h => simp [results, Tryz.results124, go_sem, Dc.zero, bs_nil, *]
          repeat (first | exact ext_refl _ | assumption | refine ext_setCell ?_ (by simp; try omega) _ | refine ext_alloc ?_ _ | refine ext_drew ?_ | refine ext_drewN ?_ _ | refine ext_trans ?_ (Aft.use _) | refine ext_trans ?_ (by assumption))
      · subst hl
        rw [show addR ⟨neg, [], exp⟩ ⟨neg2, r, exp2⟩ = ⟨⟨neg2, r, exp2⟩, 0⟩ by unfold addR; rw [if_neg (by simp [h1]), if_neg (by simp [hr]), if_pos rfl]]
        have i6 := nempty hr
        clear h1 ca cb ha hb
        go_enter Tryz.func124, Tryz.ntmps124
        go_wp2_with (first
          | (go_at_call 192; (with_reducible refine (hc _).mono ?_); rintro e w1 ⟨rfl, xb1⟩; obtain ⟨xc1, xf1, xl1, xz1⟩ := ext_use xb1; (try simp at xz1); obtain ⟨l1_0, gc, gf⟩ := kp xb1 (w.heap.size) (by first | omega | (simp; try omega)); have r1_0 := gc 0; have f1_0 := gf 0; have r1_0_1 := gc 1; have f1_0_1 := gf 1; have r1_0_2 := gc 2; have f1_0_2 := gf 2; clear gc gf; obtain ⟨l1_1, gc, gf⟩ := kp xb1 (w.heap.size + 1) (by first | omega | (simp; try omega)); have r1_1 := gc 0; have f1_1 := gf 0; have r1_1_1 := gc 1; have f1_1_1 := gf 1; have r1_1_2 := gc 2; have f1_1_2 := gf 2; clear gc gf; obtain ⟨l1_2, gc, gf⟩ := kp xb1 (w.heap.size + 1 + 1) (by first | omega | (simp; try omega)); have r1_2 := gc 0; have f1_2 := gf 0; have r1_2_1 := gc 1; have f1_2_1 := gf 1; have r1_2_2 := gc 2; have f1_2_2 := gf 2; clear gc gf)
          | (go_at_call 193; (with_reducible refine (none_any _ _ _ _).mono ?_); rintro e w2 ⟨rfl, xb2⟩; obtain ⟨xc2, xf2, xl2, xz2⟩ := ext_use xb2; (try simp at xz2); obtain ⟨l2_0, gc, gf⟩ := kp xb2 (w.heap.size) (by first | omega | (simp; try omega)); have r2_0 := gc 0; have f2_0 := gf 0; have r2_0_1 := gc 1; have f2_0_1 := gf 1; have r2_0_2 := gc 2; have f2_0_2 := gf 2; clear gc gf; obtain ⟨l2_1, gc, gf⟩ := kp xb2 (w.heap.size + 1) (by first | omega | (simp; try omega)); have r2_1 := gc 0; have f2_1 := gf 0; have r2_1_1 := gc 1; have f2_1_1 := gf 1; have r2_1_2 := gc 2; have f2_1_2 := gf 2; clear gc gf; obtain ⟨l2_2, gc, gf⟩ := kp xb2 (w.heap.size + 1 + 1) (by first | omega | (simp; try omega)); have r2_2 := gc 0; have f2_2 := gf 0; have r2_2_1 := gc 1; have f2_2_1 := gf 1; have r2_2_2 := gc 2; have f2_2_2 := gf 2; clear gc gf)
          | (go_at_call 193; (with_reducible refine (none_any _ _ _ _).mono ?_); rintro e w3 ⟨rfl, xb3⟩; obtain ⟨xc3, xf3, xl3, xz3⟩ := ext_use xb3; (try simp at xz3); obtain ⟨l3_0, gc, gf⟩ := kp xb3 (w.heap.size) (by first | omega | (simp; try omega)); have r3_0 := gc 0; have f3_0 := gf 0; have r3_0_1 := gc 1; have f3_0_1 := gf 1; have r3_0_2 := gc 2; have f3_0_2 := gf 2; clear gc gf; obtain ⟨l3_1, gc, gf⟩ := kp xb3 (w.heap.size + 1) (by first | omega | (simp; try omega)); have r3_1 := gc 0; have f3_1 := gf 0; have r3_1_1 := gc 1; have f3_1_1 := gf 1; have r3_1_2 := gc 2; have f3_1_2 := gf 2; clear gc gf; obtain ⟨l3_2, gc, gf⟩ := kp xb3 (w.heap.size + 1 + 1) (by first | omega | (simp; try omega)); have r3_2 := gc 0; have f3_2 := gf 0; have r3_2_1 := gc 1; have f3_2_1 := gf 1; have r3_2_2 := gc 2; have f3_2_2 := gf 2; clear gc gf)
          | (go_at_call 193; (with_reducible refine (none_any _ _ _ _).mono ?_); rintro e w4 ⟨rfl, xb4⟩; obtain ⟨xc4, xf4, xl4, xz4⟩ := ext_use xb4; (try simp at xz4); obtain ⟨l4_0, gc, gf⟩ := kp xb4 (w.heap.size) (by first | omega | (simp; try omega)); have r4_0 := gc 0; have f4_0 := gf 0; have r4_0_1 := gc 1; have f4_0_1 := gf 1; have r4_0_2 := gc 2; have f4_0_2 := gf 2; clear gc gf; obtain ⟨l4_1, gc, gf⟩ := kp xb4 (w.heap.size + 1) (by first | omega | (simp; try omega)); have r4_1 := gc 0; have f4_1 := gf 0; have r4_1_1 := gc 1; have f4_1_1 := gf 1; have r4_1_2 := gc 2; have f4_1_2 := gf 2; clear gc gf; obtain ⟨l4_2, gc, gf⟩ := kp xb4 (w.heap.size + 1 + 1) (by first | omega | (simp; try omega)); have r4_2 := gc 0; have f4_2 := gf 0; have r4_2_1 := gc 1; have f4_2_1 := gf 1; have r4_2_2 := gc 2; have f4_2_2 := gf 2; clear gc gf)
         )
        refine bodyPost_ret (v := _) ?h rfl ⟨rfl, ?_⟩
        case h => simp [results, Tryz.results124, go_sem, Dc.zero, bs_nil, *]
        repeat (first | exact ext_refl _ | assumption | refine ext_setCell ?_ (by simp; try omega) _ | refine ext_alloc ?_ _ | refine ext_drew ?_ | refine ext_drewN ?_ _ | refine ext_trans ?_ (Aft.use _) | refine ext_trans ?_ (by assumption))
    · by_cases hr : r = []
      · subst hr
        rw [show addR ⟨neg, l, exp⟩ ⟨neg2, [], exp2⟩ = ⟨⟨neg, l, exp⟩, 0⟩ by unfold addR; rw [if_neg (by simp [h1]), if_neg (by simp [hl]), if_neg (by simp [hl]), if_pos rfl]]
        have i5 := nempty hl
        clear h1 ca cb ha hb
        go_enter Tryz.func124, Tryz.ntmps124
        go_wp2_with (first
          | (go_at_call 192; (with_reducible refine (hc _).mono ?_); rintro e w1 ⟨rfl, xb1⟩; obtain ⟨xc1, xf1, xl1, xz1⟩ := ext_use xb1; (try simp at xz1); obtain ⟨l1_0, gc, gf⟩ := kp xb1 (w.heap.size) (by first | omega | (simp; try omega)); have r1_0 := gc 0; have f1_0 := gf 0; have r1_0_1 := gc 1; have f1_0_1 := gf 1; have r1_0_2 := gc 2; have f1_0_2 := gf 2; clear gc gf; obtain ⟨l1_1, gc, gf⟩ := kp xb1 (w.heap.size + 1) (by first | omega | (simp; try omega)); have r1_1 := gc 0; have f1_1 := gf 0; have r1_1_1 := gc 1; have f1_1_1 := gf 1; have r1_1_2 := gc 2; have f1_1_2 := gf 2; clear gc gf; obtain ⟨l1_2, gc, gf⟩ := kp xb1 (w.heap.size + 1 + 1) (by first | omega | (simp; try omega)); have r1_2 := gc 0; have f1_2 := gf 0; have r1_2_1 := gc 1; have f1_2_1 := gf 1; have r1_2_2 := gc 2; have f1_2_2 := gf 2; clear gc gf)
          | (go_at_call 193; (with_reducible refine (none_any _ _ _ _).mono ?_); rintro e w2 ⟨rfl, xb2⟩; obtain ⟨xc2, xf2, xl2, xz2⟩ := ext_use xb2; (try simp at xz2); obtain ⟨l2_0, gc, gf⟩ := kp xb2 (w.heap.size) (by first | omega | (simp; try omega)); have r2_0 := gc 0; have f2_0 := gf 0; have r2_0_1 := gc 1; have f2_0_1 := gf 1; have r2_0_2 := gc 2; have f2_0_2 := gf 2; clear gc gf; obtain ⟨l2_1, gc, gf⟩ := kp xb2 (w.heap.size + 1) (by first | omega | (simp; try omega)); have r2_1 := gc 0; have f2_1 := gf 0; have r2_1_1 := gc 1; have f2_1_1 := gf 1; have r2_1_2 := gc 2; have f2_1_2 := gf 2; clear gc gf; obtain ⟨l2_2, gc, gf⟩ := kp xb2 (w.heap.size + 1 + 1) (by first | omega | (simp; try omega)); have r2_2 := gc 0; have f2_2 := gf 0; have r2_2_1 := gc 1; have f2_2_1 := gf 1; have r2_2_2 := gc 2; have f2_2_2 := gf 2; clear gc gf)
          | (go_at_call 193; (with_reducible refine (none_any _ _ _ _).mono ?_); rintro e w3 ⟨rfl, xb3⟩; obtain ⟨xc3, xf3, xl3, xz3⟩ := ext_use xb3; (try simp at xz3); obtain ⟨l3_0, gc, gf⟩ := kp xb3 (w.heap.size) (by first | omega | (simp; try omega)); have r3_0 := gc 0; have f3_0 := gf 0; have r3_0_1 := gc 1; have f3_0_1 := gf 1; have r3_0_2 := gc 2; have f3_0_2 := gf 2; clear gc gf; obtain ⟨l3_1, gc, gf⟩ := kp xb3 (w.heap.size + 1) (by first | omega | (simp; try omega)); have r3_1 := gc 0; have f3_1 := gf 0; have r3_1_1 := gc 1; have f3_1_1 := gf 1; have r3_1_2 := gc 2; have f3_1_2 := gf 2; clear gc gf; obtain ⟨l3_2, gc, gf⟩ := kp xb3 (w.heap.size + 1 + 1) (by first | omega | (simp; try omega)); have r3_2 := gc 0; have f3_2 := gf 0; have r3_2_1 := gc 1; have f3_2_1 := gf 1; have r3_2_2 := gc 2; have f3_2_2 := gf 2; clear gc gf)
          | (go_at_call 193; (with_reducible refine (none_any _ _ _ _).mono ?_); rintro e w4 ⟨rfl, xb4⟩; obtain ⟨xc4, xf4, xl4, xz4⟩ := ext_use xb4; (try simp at xz4); obtain ⟨l4_0, gc, gf⟩ := kp xb4 (w.heap.size) (by first | omega | (simp; try omega)); have r4_0 := gc 0; have f4_0 := gf 0; have r4_0_1 := gc 1; have f4_0_1 := gf 1; have r4_0_2 := gc 2; have f4_0_2 := gf 2; clear gc gf; obtain ⟨l4_1, gc, gf⟩ := kp xb4 (w.heap.size + 1) (by first | omega | (simp; try omega)); have r4_1 := gc 0; have f4_1 := gf 0; have r4_1_1 := gc 1; have f4_1_1 := gf 1; have r4_1_2 := gc 2; have f4_1_2 := gf 2; clear gc gf; obtain ⟨l4_2, gc, gf⟩ := kp xb4 (w.heap.size + 1 + 1) (by first | omega | (simp; try omega)); have r4_2 := gc 0; have f4_2 := gf 0; have r4_2_1 := gc 1; have f4_2_1 := gf 1; have r4_2_2 := gc 2; have f4_2_2 := gf 2; clear gc gf)
         )
        refine bodyPost_ret (v := _) ?h rfl ⟨rfl, ?_⟩
        case h => simp [results, Tryz.results124, go_sem, Dc.zero, bs_nil, *]
        repeat (first | exact ext_refl _ | assumption | refine ext_setCell ?_ (by simp; try omega) _ | refine ext_alloc ?_ _ | refine ext_drew ?_ | refine ext_drewN ?_ _ | refine ext_trans ?_ (Aft.use _) | refine ext_trans ?_ (by assumption))
      · have pl : 0 < l.length := List.length_pos_iff.2 hl
        have pr : 0 < r.length := List.length_pos_iff.2 hr
        obtain ⟨l1, _, d1, _, e1, e2⟩ := dc_ok ca pl
        obtain ⟨l2, _, d2, _, e3, e4⟩ := dc_ok cb pr
        simp only at l1 d1 e1 e2 l2 d2 e3 e4
        by_cases hm : 65536 < l.length + exp - min exp exp2 ∨ 65536 < r.length + exp2 - min exp exp2
        · rw [show addR ⟨neg, l, exp⟩ ⟨neg2, r, exp2⟩ = ⟨Dc.zero, 4⟩ by unfold addR; rw [if_neg (by simp [h1]), if_neg (by simp [hl]), if_neg hl, if_neg hr, if_pos hm]]
          have i5 := nempty hl
          have i6 := nempty hr
          clear h1 ca cb ha hb d1 d2
          go_enter Tryz.func124, Tryz.ntmps124
          go_wp2_with (first
            | (go_at_call 192; (with_reducible refine (hc _).mono ?_); rintro e w1 ⟨rfl, xb1⟩; obtain ⟨xc1, xf1, xl1, xz1⟩ := ext_use xb1; (try simp at xz1); obtain ⟨l1_0, gc, gf⟩ := kp xb1 (w.heap.size) (by first | omega | (simp; try omega)); have r1_0 := gc 0; have f1_0 := gf 0; have r1_0_1 := gc 1; have f1_0_1 := gf 1; have r1_0_2 := gc 2; have f1_0_2 := gf 2; clear gc gf; obtain ⟨l1_1, gc, gf⟩ := kp xb1 (w.heap.size + 1) (by first | omega | (simp; try omega)); have r1_1 := gc 0; have f1_1 := gf 0; have r1_1_1 := gc 1; have f1_1_1 := gf 1; have r1_1_2 := gc 2; have f1_1_2 := gf 2; clear gc gf; obtain ⟨l1_2, gc, gf⟩ := kp xb1 (w.heap.size + 1 + 1) (by first | omega | (simp; try omega)); have r1_2 := gc 0; have f1_2 := gf 0; have r1_2_1 := gc 1; have f1_2_1 := gf 1; have r1_2_2 := gc 2; have f1_2_2 := gf 2; clear gc gf)
            | (go_at_call 193; (with_reducible refine (none_any _ _ _ _).mono ?_); rintro e w2 ⟨rfl, xb2⟩; obtain ⟨xc2, xf2, xl2, xz2⟩ := ext_use xb2; (try simp at xz2); obtain ⟨l2_0, gc, gf⟩ := kp xb2 (w.heap.size) (by first | omega | (simp; try omega)); have r2_0 := gc 0; have f2_0 := gf 0; have r2_0_1 := gc 1; have f2_0_1 := gf 1; have r2_0_2 := gc 2; have f2_0_2 := gf 2; clear gc gf; obtain ⟨l2_1, gc, gf⟩ := kp xb2 (w.heap.size + 1) (by first | omega | (simp; try omega)); have r2_1 := gc 0; have f2_1 := gf 0; have r2_1_1 := gc 1; have f2_1_1 := gf 1; have r2_1_2 := gc 2; have f2_1_2 := gf 2; clear gc gf; obtain ⟨l2_2, gc, gf⟩ := kp xb2 (w.heap.size + 1 + 1) (by first | omega | (simp; try omega)); have r2_2 := gc 0; have f2_2 := gf 0; have r2_2_1 := gc 1; have f2_2_1 := gf 1; have r2_2_2 := gc 2; have f2_2_2 := gf 2; clear gc gf)
            | (go_at_call 193; (with_reducible refine (none_any _ _ _ _).mono ?_); rintro e w3 ⟨rfl, xb3⟩; obtain ⟨xc3, xf3, xl3, xz3⟩ := ext_use xb3; (try simp at xz3); obtain ⟨l3_0, gc, gf⟩ := kp xb3 (w.heap.size) (by first | omega | (simp; try omega)); have r3_0 := gc 0; have f3_0 := gf 0; have r3_0_1 := gc 1; have f3_0_1 := gf 1; have r3_0_2 := gc 2; have f3_0_2 := gf 2; clear gc gf; obtain ⟨l3_1, gc, gf⟩ := kp xb3 (w.heap.size + 1) (by first | omega | (simp; try omega)); have r3_1 := gc 0; have f3_1 := gf 0; have r3_1_1 := gc 1; have f3_1_1 := gf 1; have r3_1_2 := gc 2; have f3_1_2 := gf 2; clear gc gf; obtain ⟨l3_2, gc, gf⟩ := kp xb3 (w.heap.size + 1 + 1) (by first | omega | (simp; try omega)); have r3_2 := gc 0; have f3_2 := gf 0; have r3_2_1 := gc 1; have f3_2_1 := gf 1; have r3_2_2 := gc 2; have f3_2_2 := gf 2; clear gc gf)
            | (go_at_call 193; (with_reducible refine (none_any _ _ _ _).mono ?_); rintro e w4 ⟨rfl, xb4⟩; obtain ⟨xc4, xf4, xl4, xz4⟩ := ext_use xb4; (try simp at xz4); obtain ⟨l4_0, gc, gf⟩ := kp xb4 (w.heap.size) (by first | omega | (simp; try omega)); have r4_0 := gc 0; have f4_0 := gf 0; have r4_0_1 := gc 1; have f4_0_1 := gf 1; have r4_0_2 := gc 2; have f4_0_2 := gf 2; clear gc gf; obtain ⟨l4_1, gc, gf⟩ := kp xb4 (w.heap.size + 1) (by first | omega | (simp; try omega)); have r4_1 := gc 0; have f4_1 := gf 0; have r4_1_1 := gc 1; have f4_1_1 := gf 1; have r4_1_2 := gc 2; have f4_1_2 := gf 2; clear gc gf; obtain ⟨l4_2, gc, gf⟩ := kp xb4 (w.heap.size + 1 + 1) (by first | omega | (simp; try omega)); have r4_2 := gc 0; have f4_2 := gf 0; have r4_2_1 := gc 1; have f4_2_1 := gf 1; have r4_2_2 := gc 2; have f4_2_2 := gf 2; clear gc gf)
           )
          all_goals
            refine bodyPost_ret (v := _) ?h rfl ⟨rfl, ?_⟩
            case h => simp [results, Tryz.results124, go_sem, Dc.zero, bs_nil, *]
            repeat (first | exact ext_refl _ | assumption | refine ext_setCell ?_ (by simp; try omega) _ | refine ext_alloc ?_ _ | refine ext_drew ?_ | refine ext_drewN ?_ _ | refine ext_trans ?_ (Aft.use _) | refine ext_trans ?_ (by assumption))
        · obtain ⟨E, hE⟩ : ∃ E, E = min exp exp2 := ⟨_, rfl⟩
          obtain ⟨n, hn⟩ : ∃ n : Nat, exp = E + n := ⟨(exp - E).toNat, by omega⟩
          obtain ⟨m, hm2⟩ : ∃ m : Nat, exp2 = E + m := ⟨(exp2 - E).toNat, by omega⟩
          subst hn hm2
          have R : addR ⟨neg, l, E + n⟩ ⟨neg2, r, E + m⟩ = ⟨mkD (sumNeg neg neg2 (upV l n) (upV r m)) (dtext (sumAbs neg neg2 (upV l n) (upV r m))) E, mkE (dtext (sumAbs neg neg2 (upV l n) (upV r m))) E⟩ := by
            unfold addR
            rw [if_neg (by simp [h1]), if_neg (by simp [hl]), if_neg hl, if_neg hr, if_neg hm]
            simp only
            rw [← hE, show (E + (n : Int) - E).toNat = n by omega, show (E + (m : Int) - E).toNat = m by omega]
          rw [R]
          clear R
          have hc2 := fun w => hc w
          have b1 : l.length + n ≤ 65536 := by omega
          have b2 : r.length + m ≤ 65536 := by omega
          have b3 : -1073741824 ≤ E ∧ E ≤ 1073741824 := by omega
          by_cases hs : neg = neg2
          · subst hs
            rw [show sumNeg neg neg (upV l n) (upV r m) = neg by unfold sumNeg; rw [if_pos rfl], show sumAbs neg neg (upV l n) (upV r m) = upV l n + upV r m by unfold sumAbs; rw [if_pos rfl]]
            exact add_same neg l r E n m hE.symm b1 b2 d1 d2 pl pr b3 hc2 w
          · have hng : neg2 = !neg := not_of_ne neg neg2 hs
            rcases Nat.lt_trichotomy (upV l n) (upV r m) with h | h | h
            · rw [show sumNeg neg neg2 (upV l n) (upV r m) = neg2 by unfold sumNeg; rw [if_neg hs, if_pos h], show sumAbs neg neg2 (upV l n) (upV r m) = upV r m - upV l n by unfold sumAbs; rw [if_neg hs, if_pos h]]
              exact add_lt neg neg2 hng l r E n m hE.symm b1 b2 d1 d2 pl pr h b3 hc2 w
            · rw [show sumNeg neg neg2 (upV l n) (upV r m) = false by unfold sumNeg; rw [if_neg hs, if_neg (by omega), if_neg (by omega)], show sumAbs neg neg2 (upV l n) (upV r m) = upV l n - upV r m by unfold sumAbs; rw [if_neg hs, if_neg (by omega)]]
              exact add_eq neg neg2 hng l r E n m hE.symm b1 b2 d1 d2 pl pr h.symm b3 hc2 w
            · rw [show sumNeg neg neg2 (upV l n) (upV r m) = neg by unfold sumNeg; rw [if_neg hs, if_neg (by omega), if_pos h], show sumAbs neg neg2 (upV l n) (upV r m) = upV l n - upV r m by unfold sumAbs; rw [if_neg hs, if_neg (by omega)]]
              exact add_gt neg neg2 hng l r E n m hE.symm b1 b2 d1 d2 pl pr h b3 hc2 w
  · have R : addR a b = ⟨Dc.zero, chkD a b⟩ := by unfold addR; rw [if_pos h1]
    rw [R]
    generalize chkD a b = E at hc h1
    have hne : (E == 0) = false := by rw [beq_eq_false_iff_ne]; exact h1
    clear R h1
    obtain ⟨neg, l, exp⟩ := a
    obtain ⟨neg2, l2, exp2⟩ := b
    go_enter Tryz.func124, Tryz.ntmps124
    go_wp2_with (first
      | (go_at_call 192; (with_reducible refine (hc _).mono ?_); rintro e w1 ⟨rfl, xb1⟩; obtain ⟨xc1, xf1, xl1, xz1⟩ := ext_use xb1; (try simp at xz1); obtain ⟨l1_0, gc, gf⟩ := kp xb1 (w.heap.size) (by first | omega | (simp; try omega)); have r1_0 := gc 0; have f1_0 := gf 0; have r1_0_1 := gc 1; have f1_0_1 := gf 1; have r1_0_2 := gc 2; have f1_0_2 := gf 2; clear gc gf; obtain ⟨l1_1, gc, gf⟩ := kp xb1 (w.heap.size + 1) (by first | omega | (simp; try omega)); have r1_1 := gc 0; have f1_1 := gf 0; have r1_1_1 := gc 1; have f1_1_1 := gf 1; have r1_1_2 := gc 2; have f1_1_2 := gf 2; clear gc gf; obtain ⟨l1_2, gc, gf⟩ := kp xb1 (w.heap.size + 1 + 1) (by first | omega | (simp; try omega)); have r1_2 := gc 0; have f1_2 := gf 0; have r1_2_1 := gc 1; have f1_2_1 := gf 1; have r1_2_2 := gc 2; have f1_2_2 := gf 2; clear gc gf)
     )
    refine bodyPost_ret (v := _) ?h rfl ⟨rfl, ?_⟩
    case h => simp [results, Tryz.results124, go_sem, Dc.zero, bs_nil, *]
    repeat (first | exact ext_refl _ | assumption | refine ext_setCell ?_ (by simp; try omega) _ | refine ext_alloc ?_ _ | refine ext_drew ?_ | refine ext_drewN ?_ _ | refine ext_trans ?_ (Aft.use _) | refine ext_trans ?_ (by assumption))
end Go.Proofs.YtiapoflkeliljaaGreatDoor
end
