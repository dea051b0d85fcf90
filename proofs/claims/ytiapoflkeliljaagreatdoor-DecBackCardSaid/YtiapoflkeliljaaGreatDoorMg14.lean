/- Lemmas of this proof, laid together: DecT, DecU. -/
import Derived.Test.YtiapoflkeliljaaGreatDoorMg08
import Derived.Test.YtiapoflkeliljaaGreatDoorMg09
import Derived.Test.YtiapoflkeliljaaGreatDoorShelf
import Derived.Lib.ItoaNum
set_option linter.unusedSimpArgs false
set_option linter.unusedVariables false
section
/- Plain texts: what they come to; the library's texts. -/
namespace Go.Proofs.YtiapoflkeliljaaGreatDoor
open Go.RowKit
attribute [local go_sem] bs_size bs_extract bs_get bs_append bs_toList const_get
attribute [local go_sem] sz2 sz3 sz4 sz5 sz6 sz7 sz8
set_option maxHeartbeats 4000000
set_option maxRecDepth 100000
attribute [local irreducible] Calls
attribute [local go_sem] bs_app_lit lit_app_bs
/-- The digits of a plain text, with the point. -/
def bodyL (l : List UInt8) (exp : Int) : List UInt8 :=
  if 0 ≤ exp then l ++ zerosL exp.toNat else
  ((zerosL (1 + (-exp).toNat - l.length) ++ l).take ((zerosL (1 + (-exp).toNat - l.length) ++ l).length - (-exp).toNat) ++ [46]) ++ (zerosL (1 + (-exp).toNat - l.length) ++ l).drop ((zerosL (1 + (-exp).toNat - l.length) ++ l).length - (-exp).toNat)
structure Tt where
  s : List UInt8
  e : Int
abbrev ttV (t : Tt) : Value := .tuple #[.string (bs t.s), .int .i64 t.e]
def plnR (d : Dc) : Tt :=
  if dcE d ≠ 0 then ⟨[], dcE d⟩ else if d.dig.length = 0 then ⟨minusL d.neg ++ [48], 0⟩ else if 65536 < d.exp ∨ d.exp < -65536 then ⟨[], 4⟩ else
  if 65536 < (minusL d.neg ++ bodyL d.dig d.exp).length then ⟨[], 4⟩ else ⟨minusL d.neg ++ bodyL d.dig d.exp, 0⟩
theorem minus_len (neg : Bool) : (minusL neg).length ≤ 1 := by cases neg <;> decide
theorem plain_some (neg : Bool) (l : List UInt8) (exp : Int) (hok : Ok ⟨neg, l, exp⟩) (hc : ∀ w, Calls Tryz.prog 132 #[dcV ⟨neg, l, exp⟩] w fun e w' => e = .returned (.int .i64 0) ∧ Ext w w') (hx : ¬ (65536 < exp ∨ exp < -65536)) (w : World) :
    Calls Tryz.prog 130 #[dcV ⟨neg, l, exp⟩] w fun e w' => e = .returned (ttV (if 65536 < (minusL neg ++ bodyL l exp).length then ⟨[], 4⟩ else ⟨minusL neg ++ bodyL l exp, 0⟩)) ∧ Ext w w' := by
  obtain ⟨hl, hpos, hd, hld, he1, he2⟩ := hok
  simp only at hl hpos hd hld he1 he2
  have hx1 : ¬ 65536 < exp := fun h => hx (.inl h)
  have hx2 : ¬ exp < -65536 := fun h => hx (.inr h)
  clear hd hld hx
  obtain ⟨M, hM⟩ : ∃ M, M = minusL neg := ⟨_, rfl⟩
  have hml : M.length ≤ 1 := by rw [hM]; exact minus_len neg
  have hmin : ∀ w, Calls Tryz.prog 198 #[.bool neg] w fun e w' => e = .returned (.string (bs M)) ∧ w = w' := fun w => by rw [hM]; exact minus_any neg w
  have hne : l.isEmpty = false := by simp [List.length_pos_iff.1 hpos]
  rw [← hM]
  clear hM
  rcases Int.lt_or_le exp 0 with h0 | h0
  · obtain ⟨q, hq⟩ : ∃ q : Nat, q = (-exp).toNat := ⟨_, rfl⟩
    have hq1 : exp = -(q : Int) := by omega
    have hq0 : 0 < q := by omega
    obtain ⟨k, hk⟩ : ∃ k, k = 1 + q - l.length := ⟨_, rfl⟩
    obtain ⟨z, hz⟩ : ∃ z, zerosL k ++ l = z := ⟨_, rfl⟩
    have hzl : z.length = k + l.length := by rw [← hz]; simp [zerosL]
    obtain ⟨m, hm⟩ : ∃ m, m = z.length - q := ⟨_, rfl⟩
    have hb : bodyL l exp = (z.take m ++ [46]) ++ z.drop m := by
      unfold bodyL
      rw [if_neg (by omega), ← hq, ← hk, hz, ← hm]
    rw [hb]
    clear hb
    have hzk : (zerosL k).length = k := by simp [zerosL]
    have hmz : (z.length : Int) + exp = (m : Int) := by omega
    have hmz1 : (k : Int) + l.length + exp = (m : Int) := by omega
    have hml2 : m ≤ z.length := by omega
    have hmax : max 0 (1 - exp - (l.length : Int)) = (k : Int) := by omega
    have hrep : ∀ w, Calls Tryz.prog 199 #[.string ⟨#[48]⟩, .int .i64 (k : Int)] w fun e w' => e = .returned (.string (bs (zerosL k))) ∧ Ext w w' := fun w => repeat_any k (by omega) w
    obtain ⟨U, hU⟩ : ∃ U, (z.take m ++ [46]) ++ z.drop m = U := ⟨_, rfl⟩
    have hUl : U.length = z.length + 1 := by rw [← hU]; simp; omega
    have hkb : k ≤ 65537 := by omega
    have hUl2 : U.length ≤ 200000 := by omega
    clear hk hm hq hq1
    rw [hU]
    have hUb : List.take m z ++ 46 :: List.drop m (List.take (k + l.length) z) = U := by
      rw [List.take_of_length_le (l := z) (i := k + l.length) (by omega), ← hU, List.append_assoc]; rfl
    clear hU
    by_cases hu : 65536 < (M ++ U).length
    · rw [if_pos hu]
      rw [List.length_append] at hu
      go_enter Tryz.func130, Tryz.ntmps130
      go_wp2_with (first
        | (go_at_call 132; (with_reducible refine (hc _).mono ?_); rintro e w1 ⟨rfl, xb1⟩; obtain ⟨xc1, xf1, xl1, xz1⟩ := ext_use xb1; (try simp at xz1); obtain ⟨l1_0, gc, gf⟩ := kp xb1 (w.heap.size) (by first | omega | (simp; try omega)); have r1_0 := gc 0; have f1_0 := gf 0; have r1_0_1 := gc 1; have f1_0_1 := gf 1; have r1_0_2 := gc 2; have f1_0_2 := gf 2; clear gc gf)
        | (go_at_call 193; (with_reducible refine (none_any _ _ _ _).mono ?_); rintro e w2 ⟨rfl, xb2⟩; obtain ⟨xc2, xf2, xl2, xz2⟩ := ext_use xb2; (try simp at xz2); obtain ⟨l2_0, gc, gf⟩ := kp xb2 (w.heap.size) (by first | omega | (simp; try omega)); have r2_0 := gc 0; have f2_0 := gf 0; have r2_0_1 := gc 1; have f2_0_1 := gf 1; have r2_0_2 := gc 2; have f2_0_2 := gf 2; clear gc gf)
        | (go_at_call 199; (with_reducible refine (hrep _).mono ?_); rintro e w3 ⟨rfl, xb3⟩; obtain ⟨xc3, xf3, xl3, xz3⟩ := ext_use xb3; (try simp at xz3); obtain ⟨l3_0, gc, gf⟩ := kp xb3 (w.heap.size) (by first | omega | (simp; try omega)); have r3_0 := gc 0; have f3_0 := gf 0; have r3_0_1 := gc 1; have f3_0_1 := gf 1; have r3_0_2 := gc 2; have f3_0_2 := gf 2; clear gc gf)
       )
      go_quiet (fail)
      clear hUb hz hmax hmz hmz1 hml2 hzk hrep hUl hzl
      go_wp2_with (first
        | (go_at_call 198; (with_reducible refine (hmin _).mono ?_); rintro e w' ⟨rfl, rfl⟩)
       )
      refine bodyPost_ret (v := ttV ⟨[], 4⟩) ?h rfl ⟨rfl, ?_⟩
      case h => simp [results, Tryz.results130, go_sem, bs_nil]
      repeat (first | exact ext_refl _ | assumption | refine ext_setCell ?_ (by simp; try omega) _ | refine ext_alloc ?_ _ | refine ext_drew ?_ | refine ext_drewN ?_ _ | refine ext_trans ?_ (Aft.use _) | refine ext_trans ?_ (by assumption))
    · rw [if_neg hu]
      rw [List.length_append] at hu
      go_enter Tryz.func130, Tryz.ntmps130
      go_wp2_with (first
        | (go_at_call 132; (with_reducible refine (hc _).mono ?_); rintro e w1 ⟨rfl, xb1⟩; obtain ⟨xc1, xf1, xl1, xz1⟩ := ext_use xb1; (try simp at xz1); obtain ⟨l1_0, gc, gf⟩ := kp xb1 (w.heap.size) (by first | omega | (simp; try omega)); have r1_0 := gc 0; have f1_0 := gf 0; have r1_0_1 := gc 1; have f1_0_1 := gf 1; have r1_0_2 := gc 2; have f1_0_2 := gf 2; clear gc gf)
        | (go_at_call 193; (with_reducible refine (none_any _ _ _ _).mono ?_); rintro e w2 ⟨rfl, xb2⟩; obtain ⟨xc2, xf2, xl2, xz2⟩ := ext_use xb2; (try simp at xz2); obtain ⟨l2_0, gc, gf⟩ := kp xb2 (w.heap.size) (by first | omega | (simp; try omega)); have r2_0 := gc 0; have f2_0 := gf 0; have r2_0_1 := gc 1; have f2_0_1 := gf 1; have r2_0_2 := gc 2; have f2_0_2 := gf 2; clear gc gf)
        | (go_at_call 199; (with_reducible refine (hrep _).mono ?_); rintro e w3 ⟨rfl, xb3⟩; obtain ⟨xc3, xf3, xl3, xz3⟩ := ext_use xb3; (try simp at xz3); obtain ⟨l3_0, gc, gf⟩ := kp xb3 (w.heap.size) (by first | omega | (simp; try omega)); have r3_0 := gc 0; have f3_0 := gf 0; have r3_0_1 := gc 1; have f3_0_1 := gf 1; have r3_0_2 := gc 2; have f3_0_2 := gf 2; clear gc gf)
       )
      go_quiet (fail)
      clear hUb hz hmax hmz hmz1 hml2 hzk hrep hUl hzl
      go_wp2_with (first
        | (go_at_call 198; (with_reducible refine (hmin _).mono ?_); rintro e w' ⟨rfl, rfl⟩)
       )
      refine bodyPost_ret (v := ttV ⟨M ++ U, 0⟩) ?h rfl ⟨rfl, ?_⟩
      case h => simp [results, Tryz.results130, go_sem]
      repeat (first | exact ext_refl _ | assumption | refine ext_setCell ?_ (by simp; try omega) _ | refine ext_alloc ?_ _ | refine ext_drew ?_ | refine ext_drewN ?_ _ | refine ext_trans ?_ (Aft.use _) | refine ext_trans ?_ (by assumption))
  · obtain ⟨q, rfl⟩ : ∃ q : Nat, exp = q := ⟨exp.toNat, by omega⟩
    have hb : bodyL l q = l ++ zerosL q := by unfold bodyL; rw [if_pos h0]; rfl
    rw [hb]
    clear hb
    obtain ⟨Z, hZ⟩ : ∃ Z, Z = l ++ zerosL q := ⟨_, rfl⟩
    have hZl : Z.length = l.length + q := by rw [hZ]; simp [zerosL]
    have hlg : ∀ w, Calls Tryz.prog 194 #[.string (bs l), .int .i64 (q : Int)] w fun e w' => e = .returned (.string (bs Z)) ∧ Ext w w' := fun w => by rw [hZ]; exact longer_any l q (by omega) (by omega) w
    rw [← hZ]
    clear hZ
    by_cases hu : 65536 < (M ++ Z).length
    · rw [if_pos hu]
      rw [List.length_append] at hu
      go_enter Tryz.func130, Tryz.ntmps130
      go_wp2_with (first
        | (go_at_call 132; (with_reducible refine (hc _).mono ?_); rintro e w1 ⟨rfl, xb1⟩; obtain ⟨xc1, xf1, xl1, xz1⟩ := ext_use xb1; (try simp at xz1); obtain ⟨l1_0, gc, gf⟩ := kp xb1 (w.heap.size) (by first | omega | (simp; try omega)); have r1_0 := gc 0; have f1_0 := gf 0; have r1_0_1 := gc 1; have f1_0_1 := gf 1; have r1_0_2 := gc 2; have f1_0_2 := gf 2; clear gc gf)
        | (go_at_call 193; (with_reducible refine (none_any _ _ _ _).mono ?_); rintro e w2 ⟨rfl, xb2⟩; obtain ⟨xc2, xf2, xl2, xz2⟩ := ext_use xb2; (try simp at xz2); obtain ⟨l2_0, gc, gf⟩ := kp xb2 (w.heap.size) (by first | omega | (simp; try omega)); have r2_0 := gc 0; have f2_0 := gf 0; have r2_0_1 := gc 1; have f2_0_1 := gf 1; have r2_0_2 := gc 2; have f2_0_2 := gf 2; clear gc gf)
        | (go_at_call 194; (with_reducible refine (hlg _).mono ?_); rintro e w3 ⟨rfl, xb3⟩; obtain ⟨xc3, xf3, xl3, xz3⟩ := ext_use xb3; (try simp at xz3); obtain ⟨l3_0, gc, gf⟩ := kp xb3 (w.heap.size) (by first | omega | (simp; try omega)); have r3_0 := gc 0; have f3_0 := gf 0; have r3_0_1 := gc 1; have f3_0_1 := gf 1; have r3_0_2 := gc 2; have f3_0_2 := gf 2; clear gc gf)
        | (go_at_call 198; (with_reducible refine (hmin _).mono ?_); rintro e w' ⟨rfl, rfl⟩)
       )
      refine bodyPost_ret (v := ttV ⟨[], 4⟩) ?h rfl ⟨rfl, ?_⟩
      case h => simp [results, Tryz.results130, go_sem, bs_nil]
      repeat (first | exact ext_refl _ | assumption | refine ext_setCell ?_ (by simp; try omega) _ | refine ext_alloc ?_ _ | refine ext_drew ?_ | refine ext_drewN ?_ _ | refine ext_trans ?_ (Aft.use _) | refine ext_trans ?_ (by assumption))
    · rw [if_neg hu]
      rw [List.length_append] at hu
      go_enter Tryz.func130, Tryz.ntmps130
      go_wp2_with (first
        | (go_at_call 132; (with_reducible refine (hc _).mono ?_); rintro e w1 ⟨rfl, xb1⟩; obtain ⟨xc1, xf1, xl1, xz1⟩ := ext_use xb1; (try simp at xz1); obtain ⟨l1_0, gc, gf⟩ := kp xb1 (w.heap.size) (by first | omega | (simp; try omega)); have r1_0 := gc 0; have f1_0 := gf 0; have r1_0_1 := gc 1; have f1_0_1 := gf 1; have r1_0_2 := gc 2; have f1_0_2 := gf 2; clear gc gf)
        | (go_at_call 193; (with_reducible refine (none_any _ _ _ _).mono ?_); rintro e w2 ⟨rfl, xb2⟩; obtain ⟨xc2, xf2, xl2, xz2⟩ := ext_use xb2; (try simp at xz2); obtain ⟨l2_0, gc, gf⟩ := kp xb2 (w.heap.size) (by first | omega | (simp; try omega)); have r2_0 := gc 0; have f2_0 := gf 0; have r2_0_1 := gc 1; have f2_0_1 := gf 1; have r2_0_2 := gc 2; have f2_0_2 := gf 2; clear gc gf)
        | (go_at_call 194; (with_reducible refine (hlg _).mono ?_); rintro e w3 ⟨rfl, xb3⟩; obtain ⟨xc3, xf3, xl3, xz3⟩ := ext_use xb3; (try simp at xz3); obtain ⟨l3_0, gc, gf⟩ := kp xb3 (w.heap.size) (by first | omega | (simp; try omega)); have r3_0 := gc 0; have f3_0 := gf 0; have r3_0_1 := gc 1; have f3_0_1 := gf 1; have r3_0_2 := gc 2; have f3_0_2 := gf 2; clear gc gf)
        | (go_at_call 198; (with_reducible refine (hmin _).mono ?_); rintro e w' ⟨rfl, rfl⟩)
       )
      refine bodyPost_ret (v := ttV ⟨M ++ Z, 0⟩) ?h rfl ⟨rfl, ?_⟩
      case h => simp [results, Tryz.results130, go_sem]
      repeat (first | exact ext_refl _ | assumption | refine ext_setCell ?_ (by simp; try omega) _ | refine ext_alloc ?_ _ | refine ext_drew ?_ | refine ext_drewN ?_ _ | refine ext_trans ?_ (Aft.use _) | refine ext_trans ?_ (by assumption))
end Go.Proofs.YtiapoflkeliljaaGreatDoor
end
section
/- Plain texts. -/
namespace Go.Proofs.YtiapoflkeliljaaGreatDoor
open Go.RowKit
attribute [local go_sem] bs_size bs_extract bs_get bs_append bs_toList const_get
attribute [local go_sem] sz2 sz3 sz4 sz5 sz6 sz7 sz8
set_option maxHeartbeats 4000000
set_option maxRecDepth 100000
attribute [local irreducible] Calls
attribute [local go_sem] bs_app_lit lit_app_bs
theorem plain_any (d : Dc) (hl : d.dig.length ≤ 9223372036854775807) (he : -9223372036854775808 ≤ d.exp ∧ d.exp ≤ 9223372036854775807) (w : World) :
    Calls Tryz.prog 130 #[dcV d] w fun e w' => e = .returned (ttV (plnR d)) ∧ Ext w w' := by
  have hc := check_any' d hl
  by_cases h1 : dcE d = 0
  · rw [h1] at hc
    by_cases h2 : d.dig.length = 0
    · have R : plnR d = ⟨minusL d.neg ++ [48], 0⟩ := by unfold plnR; rw [if_neg (by simpa using h1), if_pos h2]
      rw [R]
      clear R h1
      obtain ⟨neg, l, exp⟩ := d
      obtain rfl : l = [] := List.eq_nil_of_length_eq_zero h2
      have hml := minus_len neg
      clear h2
      go_enter Tryz.func130, Tryz.ntmps130
      go_wp2_with (first
        | (go_at_call 132; (with_reducible refine (hc _).mono ?_); rintro e w1 ⟨rfl, xb1⟩; obtain ⟨xc1, xf1, xl1, xz1⟩ := ext_use xb1; (try simp at xz1); obtain ⟨l1_0, gc, gf⟩ := kp xb1 (w.heap.size) (by first | omega | (simp; try omega)); have r1_0 := gc 0; have f1_0 := gf 0; have r1_0_1 := gc 1; have f1_0_1 := gf 1; have r1_0_2 := gc 2; have f1_0_2 := gf 2; clear gc gf)
        | (go_at_call 193; (with_reducible refine (none_any _ _ _ _).mono ?_); rintro e w2 ⟨rfl, xb2⟩; obtain ⟨xc2, xf2, xl2, xz2⟩ := ext_use xb2; (try simp at xz2); obtain ⟨l2_0, gc, gf⟩ := kp xb2 (w.heap.size) (by first | omega | (simp; try omega)); have r2_0 := gc 0; have f2_0 := gf 0; have r2_0_1 := gc 1; have f2_0_1 := gf 1; have r2_0_2 := gc 2; have f2_0_2 := gf 2; clear gc gf)
        | (go_at_call 198; (with_reducible refine (minus_any _ _).mono ?_); rintro e w' ⟨rfl, rfl⟩)
       )
      refine bodyPost_ret (v := ttV ⟨minusL neg ++ [48], 0⟩) ?h rfl ⟨rfl, ?_⟩
      case h => simp [results, Tryz.results130, go_sem, bs_nil]
      repeat (first | exact ext_refl _ | assumption | refine ext_setCell ?_ (by simp; try omega) _ | refine ext_alloc ?_ _ | refine ext_drew ?_ | refine ext_drewN ?_ _ | refine ext_trans ?_ (Aft.use _) | refine ext_trans ?_ (by assumption))
    by_cases h3 : 65536 < d.exp ∨ d.exp < -65536
    · have R : plnR d = ⟨[], 4⟩ := by unfold plnR; rw [if_neg (by simpa using h1), if_neg h2, if_pos h3]
      rw [R]
      clear R h1
      obtain ⟨neg, l, exp⟩ := d
      simp only at h2 h3 he
      have hne : l.isEmpty = false := by
        cases l
        · exact absurd rfl h2
        · rfl
      have hne2 : ¬ l = [] := by intro e; rw [e] at h2; exact h2 rfl
      clear h2
      rcases h3 with h3 | h3
      all_goals
        go_enter Tryz.func130, Tryz.ntmps130
        go_wp2_with (first
          | (go_at_call 132; (with_reducible refine (hc _).mono ?_); rintro e w1 ⟨rfl, xb1⟩; obtain ⟨xc1, xf1, xl1, xz1⟩ := ext_use xb1; (try simp at xz1); obtain ⟨l1_0, gc, gf⟩ := kp xb1 (w.heap.size) (by first | omega | (simp; try omega)); have r1_0 := gc 0; have f1_0 := gf 0; have r1_0_1 := gc 1; have f1_0_1 := gf 1; have r1_0_2 := gc 2; have f1_0_2 := gf 2; clear gc gf)
          | (go_at_call 193; (with_reducible refine (none_any _ _ _ _).mono ?_); rintro e w2 ⟨rfl, xb2⟩; obtain ⟨xc2, xf2, xl2, xz2⟩ := ext_use xb2; (try simp at xz2); obtain ⟨l2_0, gc, gf⟩ := kp xb2 (w.heap.size) (by first | omega | (simp; try omega)); have r2_0 := gc 0; have f2_0 := gf 0; have r2_0_1 := gc 1; have f2_0_1 := gf 1; have r2_0_2 := gc 2; have f2_0_2 := gf 2; clear gc gf)
         )
        refine bodyPost_ret (v := ttV ⟨[], 4⟩) ?h rfl ⟨rfl, ?_⟩
        case h => simp [results, Tryz.results130, go_sem, bs_nil]
        repeat (first | exact ext_refl _ | assumption | refine ext_setCell ?_ (by simp; try omega) _ | refine ext_alloc ?_ _ | refine ext_drew ?_ | refine ext_drewN ?_ _ | refine ext_trans ?_ (Aft.use _) | refine ext_trans ?_ (by assumption))
    · have R : plnR d = if 65536 < (minusL d.neg ++ bodyL d.dig d.exp).length then ⟨[], 4⟩ else ⟨minusL d.neg ++ bodyL d.dig d.exp, 0⟩ := by unfold plnR; rw [if_neg (by simpa using h1), if_neg h2, if_neg h3]
      rw [R]
      have hok := dc_ok h1 (by omega)
      obtain ⟨neg, l, exp⟩ := d
      exact plain_some neg l exp hok hc h3 w
  · have R : plnR d = ⟨[], dcE d⟩ := by unfold plnR; rw [if_pos (by simpa using h1)]
    rw [R]
    have hne : (dcE d == 0) = false := by rw [beq_eq_false_iff_ne]; exact h1
    clear R h1
    generalize dcE d = E at hc hne
    obtain ⟨neg, l, exp⟩ := d
    go_enter Tryz.func130, Tryz.ntmps130
    go_wp2_with (first
      | (go_at_call 132; (with_reducible refine (hc _).mono ?_); rintro e w1 ⟨rfl, xb1⟩; obtain ⟨xc1, xf1, xl1, xz1⟩ := ext_use xb1; (try simp at xz1); obtain ⟨l1_0, gc, gf⟩ := kp xb1 (w.heap.size) (by first | omega | (simp; try omega)); have r1_0 := gc 0; have f1_0 := gf 0; have r1_0_1 := gc 1; have f1_0_1 := gf 1; have r1_0_2 := gc 2; have f1_0_2 := gf 2; clear gc gf)
     )
    refine bodyPost_ret (v := ttV ⟨[], E⟩) ?h rfl ⟨rfl, ?_⟩
    case h => simp [results, Tryz.results130, go_sem, bs_nil]
    repeat (first | exact ext_refl _ | assumption | refine ext_setCell ?_ (by simp; try omega) _ | refine ext_alloc ?_ _ | refine ext_drew ?_ | refine ext_drewN ?_ _ | refine ext_trans ?_ (Aft.use _) | refine ext_trans ?_ (by assumption))
end Go.Proofs.YtiapoflkeliljaaGreatDoor
end
