/- Lemmas of this proof, laid together: SumA, SumB, DecRp. -/
import Derived.Test.YtdjegfnkpagdaaaGreatDoorMg08
import Derived.Test.YtdjegfnkpagdaaaGreatDoorShelf
import Derived.Deep.DeepCutAuto
import Derived.Deep.RegionWith
set_option linter.unusedSimpArgs false
set_option linter.unusedVariables false
section
/- Order of decimals: what it comes to; small pieces. -/
namespace Go.Proofs.YtdjegfnkpagdaaaGreatDoor
open Go.RowKit
attribute [local go_sem] bs_size bs_extract bs_get bs_append bs_toList const_get
attribute [local go_sem] sz2 sz3 sz4 sz5 sz6 sz7 sz8
set_option maxHeartbeats 4000000
set_option maxRecDepth 100000
attribute [local irreducible] Calls
def chkD (a b : Dc) : Int := if dcE a = 0 then dcE b else dcE a
def sgD (d : Dc) : Int := if d.dig = [] then 0 else if d.neg then -1 else 1
def bigD (a b : Dc) : Int := if a.exp + a.dig.length < b.exp + b.dig.length then -1 else if b.exp + b.dig.length < a.exp + a.dig.length then 1 else Lib.compareBytes a.dig b.dig
structure Cc where
  c : Int
  e : Int
abbrev ccV (r : Cc) : Value := .tuple #[.int .i64 r.c, .int .i64 r.e]
def cmpR (a b : Dc) : Cc := if ¬ chkD a b = 0 then ⟨0, chkD a b⟩ else if sgD a < sgD b then ⟨-1, 0⟩ else if sgD b < sgD a then ⟨1, 0⟩ else if sgD a = 0 then ⟨0, 0⟩ else ⟨sgD a * bigD a b, 0⟩
theorem dc_last {d : Dc} (h : dcE d = 0) (h0 : 0 < d.dig.length) : ∀ i, i + 1 = d.dig.length → d.dig.getD i 48 ≠ 48 := by
  intro i hi e
  unfold dcE at h
  split at h
  · cases h
  · rw [if_neg (by omega)] at h
    split at h
    · cases h
    · rw [if_pos] at h
      · cases h
      · right; left
        rw [List.getLast?_eq_getElem?, show d.dig.length - 1 = i by omega]
        rw [List.getD_eq_getElem?_getD, List.getElem?_eq_getElem (by omega)] at e
        rw [List.getElem?_eq_getElem (by omega)]
        simpa using e
theorem cmp_lt : ∀ (k : Nat) (l r : List UInt8), digsB l = true → digsB r = true → (∀ p, p < k → l.getD p 48 = r.getD p 48) → (l.getD k 48).toNat < (r.getD k 48).toNat → Lib.compareBytes l r = -1
  | k, [], [], _, _, _, h => by simp at h
  | k, [], b :: v, _, _, _, _ => rfl
  | k, a :: u, [], hl, _, _, h => by
    exfalso
    have h2 : (([] : List UInt8).getD k 48).toNat = 48 := by simp
    rw [h2] at h
    by_cases hk : k < (a :: u).length
    · have := (digs_at hl k hk).1
      rw [List.getD_eq_getElem?_getD, List.getElem?_eq_getElem hk] at h
      simp only [Option.getD_some] at h
      omega
    · rw [List.getD_eq_getElem?_getD, List.getElem?_eq_none (by omega)] at h
      simp at h
  | 0, a :: u, b :: v, _, _, _, h => by
    have h : a < b := h
    simp [Lib.compareBytes, h]
  | k + 1, a :: u, b :: v, hl, hr, hp, h => by
    have h0 : a = b := hp 0 (by omega)
    subst h0
    have h1 : digsB u = true := by simp [digsB] at hl ⊢; exact hl.2
    have h2 : digsB v = true := by simp [digsB] at hr ⊢; exact hr.2
    have := cmp_lt k u v h1 h2 (fun p hp' => hp (p + 1) (by omega)) h
    have h3 : ¬ a < a := by rw [UInt8.lt_iff_toNat_lt]; omega
    simp [Lib.compareBytes, this, h3]
theorem cmp_gt : ∀ (k : Nat) (l r : List UInt8), digsB l = true → digsB r = true → (∀ p, p < k → l.getD p 48 = r.getD p 48) → (r.getD k 48).toNat < (l.getD k 48).toNat → Lib.compareBytes l r = 1
  | k, [], [], _, _, _, h => by simp at h
  | k, a :: u, [], _, _, _, _ => rfl
  | k, [], b :: v, _, hl, _, h => by
    exfalso
    have h2 : (([] : List UInt8).getD k 48).toNat = 48 := by simp
    rw [h2] at h
    by_cases hk : k < (b :: v).length
    · have := (digs_at hl k hk).1
      rw [List.getD_eq_getElem?_getD, List.getElem?_eq_getElem hk] at h
      simp only [Option.getD_some] at h
      omega
    · rw [List.getD_eq_getElem?_getD, List.getElem?_eq_none (by omega)] at h
      simp at h
  | 0, a :: u, b :: v, _, _, _, h => by
    have h : b < a := h
    have h2 : ¬ a < b := by rw [UInt8.lt_iff_toNat_lt] at h ⊢; omega
    simp [Lib.compareBytes, h, h2]
  | k + 1, a :: u, b :: v, hl, hr, hp, h => by
    have h0 : a = b := hp 0 (by omega)
    subst h0
    have h1 : digsB u = true := by simp [digsB] at hl ⊢; exact hl.2
    have h2 : digsB v = true := by simp [digsB] at hr ⊢; exact hr.2
    have := cmp_gt k u v h1 h2 (fun p hp' => hp (p + 1) (by omega)) h
    have h3 : ¬ a < a := by rw [UInt8.lt_iff_toNat_lt]; omega
    simp [Lib.compareBytes, this, h3]
theorem cmp_self : ∀ l : List UInt8, Lib.compareBytes l l = 0
  | [] => rfl
  | a :: u => by
    have h3 : ¬ a < a := by rw [UInt8.lt_iff_toNat_lt]; omega
    simp [Lib.compareBytes, h3, cmp_self u]
theorem cmp_eq' {l r : List UInt8} (hl : ∀ i, i + 1 = l.length → l.getD i 48 ≠ 48) (hr : ∀ i, i + 1 = r.length → r.getD i 48 ≠ 48) (h : ∀ p, p < max l.length r.length → l.getD p 48 = r.getD p 48) : Lib.compareBytes l r = 0 := by
  have e : l.length = r.length := by
    rcases Nat.lt_trichotomy l.length r.length with h1 | h1 | h1
    · exfalso
      obtain ⟨i, hi⟩ : ∃ i, i + 1 = r.length := ⟨r.length - 1, by omega⟩
      refine hr i hi ?_
      rw [← h i (by omega), List.getD_eq_getElem?_getD, List.getElem?_eq_none (by omega)]; rfl
    · exact h1
    · exfalso
      obtain ⟨i, hi⟩ : ∃ i, i + 1 = l.length := ⟨l.length - 1, by omega⟩
      refine hl i hi ?_
      rw [h i (by omega), List.getD_eq_getElem?_getD, List.getElem?_eq_none (by omega)]; rfl
  have : l = r := by
    refine List.ext_getElem e fun p h1 h2 => ?_
    have := h p (by omega)
    rwa [List.getD_eq_getElem?_getD, List.getD_eq_getElem?_getD, List.getElem?_eq_getElem h1, List.getElem?_eq_getElem h2] at this
  rw [this]; exact cmp_self r
theorem sign_any (d : Dc) (w : World) : Calls Tryz.prog 42 #[dcV d] w fun e w' => e = .returned (.int .i64 (sgD d)) ∧ Ext w w' := by
  obtain ⟨neg, l, exp⟩ := d
  rcases hl : l with _ | ⟨a, t⟩
  · rw [show sgD ⟨neg, [], exp⟩ = 0 from rfl]
    go_enter Tryz.func42, Tryz.ntmps42
    go_wp2_with (first
      | (go_at_call 38; (with_reducible refine (none_any _ _ _ _).mono ?_); rintro e w2 ⟨rfl, xb2⟩; obtain ⟨xc2, xf2, xl2, xz2⟩ := ext_use xb2; (try simp at xz2); have l2_0 := xl2 (w.heap.size) (by first | omega | (simp; try omega)); have r2_0 := xc2 (w.heap.size) 0 (by first | omega | (simp; try omega)); have f2_0 := xf2 (w.heap.size) 0 (by first | omega | (simp; try omega)); have r2_0_1 := xc2 (w.heap.size) 1 (by first | omega | (simp; try omega)); have f2_0_1 := xf2 (w.heap.size) 1 (by first | omega | (simp; try omega)); have r2_0_2 := xc2 (w.heap.size) 2 (by first | omega | (simp; try omega)); have f2_0_2 := xf2 (w.heap.size) 2 (by first | omega | (simp; try omega)))
     )
    refine bodyPost_ret (v := _) ?h rfl ⟨rfl, ?_⟩
    case h => simp [results, Tryz.results42, go_sem]
    repeat (first | exact ext_refl _ | assumption | refine ext_setCell ?_ (by simp; try omega) _ | refine ext_alloc ?_ _ | refine ext_drew ?_ | refine ext_drewN ?_ _ | refine ext_trans ?_ (Aft.use _) | refine ext_trans ?_ (by assumption))
  · cases neg
    · rw [show sgD ⟨false, a :: t, exp⟩ = 1 from rfl]
      go_enter Tryz.func42, Tryz.ntmps42
      go_wp2_with (first
        | (go_at_call 38; (with_reducible refine (none_any _ _ _ _).mono ?_); rintro e w2 ⟨rfl, xb2⟩; obtain ⟨xc2, xf2, xl2, xz2⟩ := ext_use xb2; (try simp at xz2); have l2_0 := xl2 (w.heap.size) (by first | omega | (simp; try omega)); have r2_0 := xc2 (w.heap.size) 0 (by first | omega | (simp; try omega)); have f2_0 := xf2 (w.heap.size) 0 (by first | omega | (simp; try omega)); have r2_0_1 := xc2 (w.heap.size) 1 (by first | omega | (simp; try omega)); have f2_0_1 := xf2 (w.heap.size) 1 (by first | omega | (simp; try omega)); have r2_0_2 := xc2 (w.heap.size) 2 (by first | omega | (simp; try omega)); have f2_0_2 := xf2 (w.heap.size) 2 (by first | omega | (simp; try omega)))
       )
      refine bodyPost_ret (v := _) ?h rfl ⟨rfl, ?_⟩
      case h => simp [results, Tryz.results42, go_sem]
      repeat (first | exact ext_refl _ | assumption | refine ext_setCell ?_ (by simp; try omega) _ | refine ext_alloc ?_ _ | refine ext_drew ?_ | refine ext_drewN ?_ _ | refine ext_trans ?_ (Aft.use _) | refine ext_trans ?_ (by assumption))
    · rw [show sgD ⟨true, a :: t, exp⟩ = -1 from rfl]
      go_enter Tryz.func42, Tryz.ntmps42
      go_wp2_with (first
        | (go_at_call 38; (with_reducible refine (none_any _ _ _ _).mono ?_); rintro e w2 ⟨rfl, xb2⟩; obtain ⟨xc2, xf2, xl2, xz2⟩ := ext_use xb2; (try simp at xz2); have l2_0 := xl2 (w.heap.size) (by first | omega | (simp; try omega)); have r2_0 := xc2 (w.heap.size) 0 (by first | omega | (simp; try omega)); have f2_0 := xf2 (w.heap.size) 0 (by first | omega | (simp; try omega)); have r2_0_1 := xc2 (w.heap.size) 1 (by first | omega | (simp; try omega)); have f2_0_1 := xf2 (w.heap.size) 1 (by first | omega | (simp; try omega)); have r2_0_2 := xc2 (w.heap.size) 2 (by first | omega | (simp; try omega)); have f2_0_2 := xf2 (w.heap.size) 2 (by first | omega | (simp; try omega)))
       )
      refine bodyPost_ret (v := _) ?h rfl ⟨rfl, ?_⟩
      case h => simp [results, Tryz.results42, go_sem]
      repeat (first | exact ext_refl _ | assumption | refine ext_setCell ?_ (by simp; try omega) _ | refine ext_alloc ?_ _ | refine ext_drew ?_ | refine ext_drewN ?_ _ | refine ext_trans ?_ (Aft.use _) | refine ext_trans ?_ (by assumption))
theorem both_any (a b : Dc) (ha : a.dig.length ≤ 9223372036854775807) (hb : b.dig.length ≤ 9223372036854775807) (w : World) : Calls Tryz.prog 37 #[dcV a, dcV b] w fun e w' => e = .returned (.int .i64 (chkD a b)) ∧ Ext w w' := by
  have ca := fun w => check_any' a ha w
  have cb := fun w => check_any' b hb w
  by_cases h : dcE a = 0
  · rw [show chkD a b = dcE b by unfold chkD; rw [if_pos h]]
    rw [h] at ca
    generalize dcE b = E at cb
    clear h
    obtain ⟨neg, l, exp⟩ := a
    obtain ⟨neg2, l2, exp2⟩ := b
    go_enter Tryz.func37, Tryz.ntmps37
    go_wp2_with (first
      | (go_at_call 23; (with_reducible refine (ca _).mono ?_); rintro e w1 ⟨rfl, xb1⟩; obtain ⟨xc1, xf1, xl1, xz1⟩ := ext_use xb1; (try simp at xz1); have l1_0 := xl1 (w.heap.size) (by first | omega | (simp; try omega)); have r1_0 := xc1 (w.heap.size) 0 (by first | omega | (simp; try omega)); have f1_0 := xf1 (w.heap.size) 0 (by first | omega | (simp; try omega)); have r1_0_1 := xc1 (w.heap.size) 1 (by first | omega | (simp; try omega)); have f1_0_1 := xf1 (w.heap.size) 1 (by first | omega | (simp; try omega)); have r1_0_2 := xc1 (w.heap.size) 2 (by first | omega | (simp; try omega)); have f1_0_2 := xf1 (w.heap.size) 2 (by first | omega | (simp; try omega)); have l1_1 := xl1 (w.heap.size + 1) (by first | omega | (simp; try omega)); have r1_1 := xc1 (w.heap.size + 1) 0 (by first | omega | (simp; try omega)); have f1_1 := xf1 (w.heap.size + 1) 0 (by first | omega | (simp; try omega)); have r1_1_1 := xc1 (w.heap.size + 1) 1 (by first | omega | (simp; try omega)); have f1_1_1 := xf1 (w.heap.size + 1) 1 (by first | omega | (simp; try omega)); have r1_1_2 := xc1 (w.heap.size + 1) 2 (by first | omega | (simp; try omega)); have f1_1_2 := xf1 (w.heap.size + 1) 2 (by first | omega | (simp; try omega)))
      | (go_at_call 23; (with_reducible refine (cb _).mono ?_); rintro e w2 ⟨rfl, xb2⟩; obtain ⟨xc2, xf2, xl2, xz2⟩ := ext_use xb2; (try simp at xz2); have l2_0 := xl2 (w.heap.size) (by first | omega | (simp; try omega)); have r2_0 := xc2 (w.heap.size) 0 (by first | omega | (simp; try omega)); have f2_0 := xf2 (w.heap.size) 0 (by first | omega | (simp; try omega)); have r2_0_1 := xc2 (w.heap.size) 1 (by first | omega | (simp; try omega)); have f2_0_1 := xf2 (w.heap.size) 1 (by first | omega | (simp; try omega)); have r2_0_2 := xc2 (w.heap.size) 2 (by first | omega | (simp; try omega)); have f2_0_2 := xf2 (w.heap.size) 2 (by first | omega | (simp; try omega)); have l2_1 := xl2 (w.heap.size + 1) (by first | omega | (simp; try omega)); have r2_1 := xc2 (w.heap.size + 1) 0 (by first | omega | (simp; try omega)); have f2_1 := xf2 (w.heap.size + 1) 0 (by first | omega | (simp; try omega)); have r2_1_1 := xc2 (w.heap.size + 1) 1 (by first | omega | (simp; try omega)); have f2_1_1 := xf2 (w.heap.size + 1) 1 (by first | omega | (simp; try omega)); have r2_1_2 := xc2 (w.heap.size + 1) 2 (by first | omega | (simp; try omega)); have f2_1_2 := xf2 (w.heap.size + 1) 2 (by first | omega | (simp; try omega)))
     )
    refine bodyPost_ret (v := _) ?h rfl ⟨rfl, ?_⟩
    case h => simp [results, Tryz.results37, go_sem]
    repeat (first | exact ext_refl _ | assumption | refine ext_setCell ?_ (by simp; try omega) _ | refine ext_alloc ?_ _ | refine ext_drew ?_ | refine ext_drewN ?_ _ | refine ext_trans ?_ (Aft.use _) | refine ext_trans ?_ (by assumption))
  · rw [show chkD a b = dcE a by unfold chkD; rw [if_neg h]]
    generalize dcE a = E at ca h
    have hne : (E == 0) = false := by rw [beq_eq_false_iff_ne]; exact h
    clear h
    obtain ⟨neg, l, exp⟩ := a
    obtain ⟨neg2, l2, exp2⟩ := b
    go_enter Tryz.func37, Tryz.ntmps37
    go_wp2_with (first
      | (go_at_call 23; (with_reducible refine (ca _).mono ?_); rintro e w1 ⟨rfl, xb1⟩; obtain ⟨xc1, xf1, xl1, xz1⟩ := ext_use xb1; (try simp at xz1); have l1_0 := xl1 (w.heap.size) (by first | omega | (simp; try omega)); have r1_0 := xc1 (w.heap.size) 0 (by first | omega | (simp; try omega)); have f1_0 := xf1 (w.heap.size) 0 (by first | omega | (simp; try omega)); have r1_0_1 := xc1 (w.heap.size) 1 (by first | omega | (simp; try omega)); have f1_0_1 := xf1 (w.heap.size) 1 (by first | omega | (simp; try omega)); have r1_0_2 := xc1 (w.heap.size) 2 (by first | omega | (simp; try omega)); have f1_0_2 := xf1 (w.heap.size) 2 (by first | omega | (simp; try omega)); have l1_1 := xl1 (w.heap.size + 1) (by first | omega | (simp; try omega)); have r1_1 := xc1 (w.heap.size + 1) 0 (by first | omega | (simp; try omega)); have f1_1 := xf1 (w.heap.size + 1) 0 (by first | omega | (simp; try omega)); have r1_1_1 := xc1 (w.heap.size + 1) 1 (by first | omega | (simp; try omega)); have f1_1_1 := xf1 (w.heap.size + 1) 1 (by first | omega | (simp; try omega)); have r1_1_2 := xc1 (w.heap.size + 1) 2 (by first | omega | (simp; try omega)); have f1_1_2 := xf1 (w.heap.size + 1) 2 (by first | omega | (simp; try omega)))
     )
    refine bodyPost_ret (v := _) ?h rfl ⟨rfl, ?_⟩
    case h => simp [results, Tryz.results37, go_sem]
    repeat (first | exact ext_refl _ | assumption | refine ext_setCell ?_ (by simp; try omega) _ | refine ext_alloc ?_ _ | refine ext_drew ?_ | refine ext_drewN ?_ _ | refine ext_trans ?_ (Aft.use _) | refine ext_trans ?_ (by assumption))
def datN (l : List UInt8) (j : Nat) : Nat := (l.getD j 48).toNat - 48
end Go.Proofs.YtdjegfnkpagdaaaGreatDoor
end
section
/- Order of decimals: the program's and the document's. -/
namespace Go.Proofs.YtdjegfnkpagdaaaGreatDoor
open Go.RowKit
attribute [local go_sem] bs_size bs_extract bs_get bs_append bs_toList const_get
attribute [local go_sem] sz2 sz3 sz4 sz5 sz6 sz7 sz8
set_option maxHeartbeats 4000000
set_option maxRecDepth 100000
attribute [local irreducible] Calls
theorem wrap_in (n : Int) (h : -9223372036854775808 ≤ n ∧ n ≤ 9223372036854775807) : wrap64 n = n := by unfold wrap64; omega
theorem compare_any (l r : List UInt8) (w : World) : Calls Tryz.prog 43 #[.string (bs l), .string (bs r)] w fun e w' => e = .returned (.int .i64 (Lib.compareBytes l r)) ∧ Ext w w' := by
  refine (Tryz.strings_Compare (bs l) (bs r) w).mono ?_
  rintro e w' ⟨he, rfl⟩
  refine ⟨?_, ext_refl _⟩
  rw [he]; rfl
theorem compareB (l r : List UInt8) : -1 ≤ Lib.compareBytes l r ∧ Lib.compareBytes l r ≤ 1 := by
  have : ∀ (l r : List UInt8), -1 ≤ Lib.compareBytes l r ∧ Lib.compareBytes l r ≤ 1 := by
    intro l
    induction l with
    | nil => intro r; cases r <;> simp [Lib.compareBytes]
    | cons a u ih =>
      intro r
      cases r with
      | nil => simp [Lib.compareBytes]
      | cons b v =>
        simp only [Lib.compareBytes]
        split
        · omega
        · split
          · omega
          · exact ih v
  exact this l r
theorem sgD_cases (d : Dc) : sgD d = -1 ∨ sgD d = 0 ∨ sgD d = 1 := by
  unfold sgD
  split
  · simp
  · split <;> simp
theorem cmp_any (a b : Dc) (ha : a.dig.length ≤ 9223372036854775807) (hb : b.dig.length ≤ 9223372036854775807) (w : World) : Calls Tryz.prog 12 #[dcV a, dcV b] w fun e w' => e = .returned (ccV (cmpR a b)) ∧ Ext w w' := by
  have hc := fun w => both_any a b ha hb w
  by_cases h1 : chkD a b = 0
  · rw [h1] at hc
    have ca : dcE a = 0 := by
      unfold chkD at h1
      split at h1
      · assumption
      · assumption
    have cb : dcE b = 0 := by
      unfold chkD at h1
      rwa [if_pos ca] at h1
    have sa := fun w => sign_any a w
    have sb := fun w => sign_any b w
    have hsa := sgD_cases a
    have hsb := sgD_cases b
    by_cases h2 : sgD a = sgD b ∧ sgD a ≠ 0
    · obtain ⟨h2, h3⟩ := h2
      have R : cmpR a b = ⟨sgD a * bigD a b, 0⟩ := by unfold cmpR; rw [if_neg (by simp [h1]), if_neg (by omega), if_neg (by omega), if_neg h3]
      rw [R]
      have oka := dc_ok ca (by
        rcases hl : a.dig with _ | ⟨x, t⟩
        · exact absurd (by unfold sgD; rw [if_pos hl]) h3
        · simp)
      have okb := dc_ok cb (by
        rcases hl : b.dig with _ | ⟨x, t⟩
        · exact absurd (by rw [h2]; unfold sgD; rw [if_pos hl]) h3
        · simp)
      obtain ⟨la, _, _, _, ea1, ea2⟩ := oka
      obtain ⟨lb, _, _, _, eb1, eb2⟩ := okb
      rw [← h2] at sb
      have hcc := compareB a.dig b.dig
      clear R h1 ca cb hsb h2 ha hb
      generalize sgD a = S at sa sb hsa h3
      obtain ⟨neg, l, exp⟩ := a
      obtain ⟨neg2, l2, exp2⟩ := b
      simp only [bigD] at la lb ea1 ea2 eb1 eb2 hcc ⊢
      have hS0 : (S == 0) = false := by rw [beq_eq_false_iff_ne]; exact h3
      have hpr : wrap64 (S * Lib.compareBytes l l2) = S * Lib.compareBytes l l2 := by
        refine wrap_in _ ⟨?_, ?_⟩ <;> rcases hsa with rfl | rfl | rfl <;> omega
      go_enter Tryz.func12, Tryz.ntmps12
      go_wp2_with (first
        | (go_at_call 37; (with_reducible refine (hc _).mono ?_); rintro e w1 ⟨rfl, xb1⟩; obtain ⟨xc1, xf1, xl1, xz1⟩ := ext_use xb1; (try simp at xz1); have l1_0 := xl1 (w.heap.size) (by first | omega | (simp; try omega)); have r1_0 := xc1 (w.heap.size) 0 (by first | omega | (simp; try omega)); have f1_0 := xf1 (w.heap.size) 0 (by first | omega | (simp; try omega)); have r1_0_1 := xc1 (w.heap.size) 1 (by first | omega | (simp; try omega)); have f1_0_1 := xf1 (w.heap.size) 1 (by first | omega | (simp; try omega)); have r1_0_2 := xc1 (w.heap.size) 2 (by first | omega | (simp; try omega)); have f1_0_2 := xf1 (w.heap.size) 2 (by first | omega | (simp; try omega)); have l1_1 := xl1 (w.heap.size + 1) (by first | omega | (simp; try omega)); have r1_1 := xc1 (w.heap.size + 1) 0 (by first | omega | (simp; try omega)); have f1_1 := xf1 (w.heap.size + 1) 0 (by first | omega | (simp; try omega)); have r1_1_1 := xc1 (w.heap.size + 1) 1 (by first | omega | (simp; try omega)); have f1_1_1 := xf1 (w.heap.size + 1) 1 (by first | omega | (simp; try omega)); have r1_1_2 := xc1 (w.heap.size + 1) 2 (by first | omega | (simp; try omega)); have f1_1_2 := xf1 (w.heap.size + 1) 2 (by first | omega | (simp; try omega)))
       )
      refine wp_aft (by kernel_rfl) (by kernel_rfl) (fun hq hqf => ?_)
      repeat (go_big_quiet_step (first
        | (go_at_call 42; exact aft_of (sa _))
        | (go_at_call 42; exact aft_of (sb _))
        ))
      refine wpQuiet_nil ?_
      rintro _ ⟨nq, rfl⟩
      have xl := ext_lt nq.use
      have xz := ext_size nq.use
      try simp at xz
      obtain ⟨xc2, xf2, xl2, xz2⟩ := ext_use (nq.use)
      have l2_0 := xl2 (w.heap.size) (by first | omega | (simp; try omega))
      have r2_0 := xc2 (w.heap.size) 0 (by first | omega | (simp; try omega))
      have f2_0 := xf2 (w.heap.size) 0 (by first | omega | (simp; try omega))
      have r2_0_1 := xc2 (w.heap.size) 1 (by first | omega | (simp; try omega))
      have f2_0_1 := xf2 (w.heap.size) 1 (by first | omega | (simp; try omega))
      have r2_0_2 := xc2 (w.heap.size) 2 (by first | omega | (simp; try omega))
      have f2_0_2 := xf2 (w.heap.size) 2 (by first | omega | (simp; try omega))
      have l2_1 := xl2 (w.heap.size + 1) (by first | omega | (simp; try omega))
      have r2_1 := xc2 (w.heap.size + 1) 0 (by first | omega | (simp; try omega))
      have f2_1 := xf2 (w.heap.size + 1) 0 (by first | omega | (simp; try omega))
      have r2_1_1 := xc2 (w.heap.size + 1) 1 (by first | omega | (simp; try omega))
      have f2_1_1 := xf2 (w.heap.size + 1) 1 (by first | omega | (simp; try omega))
      have r2_1_2 := xc2 (w.heap.size + 1) 2 (by first | omega | (simp; try omega))
      have f2_1_2 := xf2 (w.heap.size + 1) 2 (by first | omega | (simp; try omega))
      go_wp2
      go_quiet (fail)
      go_wp2_with (first
        | (go_at_call 43; (with_reducible refine (compare_any _ _ _).mono ?_); rintro e w5 ⟨rfl, xb5⟩; obtain ⟨xc5, xf5, xl5, xz5⟩ := ext_use xb5; (try simp at xz5))
       )
      all_goals
        refine bodyPost_ret (v := _) ?h rfl ⟨rfl, ?_⟩
        case h => simp [results, Tryz.results12, go_sem, hpr]
        repeat (first | exact ext_refl _ | assumption | refine ext_setCell ?_ (by simp; try omega) _ | refine ext_alloc ?_ _ | refine ext_drew ?_ | refine ext_drewN ?_ _ | refine ext_trans ?_ (Aft.use _) | refine ext_trans ?_ (by assumption))
    · have R : cmpR a b = ⟨if sgD a < sgD b then -1 else if sgD b < sgD a then 1 else 0, 0⟩ := by
        unfold cmpR
        rw [if_neg (by simp [h1])]
        split
        · rfl
        · split
          · rfl
          · rw [if_pos (Classical.byContradiction fun h => h2 ⟨by omega, h⟩)]
      rw [R]
      clear R h1 ca cb
      generalize sgD a = S at sa hsa h2
      generalize sgD b = T at sb hsb h2
      obtain ⟨neg, l, exp⟩ := a
      obtain ⟨neg2, l2, exp2⟩ := b
      rcases hsa with rfl | rfl | rfl <;> rcases hsb with rfl | rfl | rfl <;> first | exact absurd ⟨rfl, by decide⟩ h2 | clear h2
      all_goals
        go_enter Tryz.func12, Tryz.ntmps12
        go_wp2_with (first
          | (go_at_call 37; (with_reducible refine (hc _).mono ?_); rintro e w1 ⟨rfl, xb1⟩; obtain ⟨xc1, xf1, xl1, xz1⟩ := ext_use xb1; (try simp at xz1); have l1_0 := xl1 (w.heap.size) (by first | omega | (simp; try omega)); have r1_0 := xc1 (w.heap.size) 0 (by first | omega | (simp; try omega)); have f1_0 := xf1 (w.heap.size) 0 (by first | omega | (simp; try omega)); have r1_0_1 := xc1 (w.heap.size) 1 (by first | omega | (simp; try omega)); have f1_0_1 := xf1 (w.heap.size) 1 (by first | omega | (simp; try omega)); have r1_0_2 := xc1 (w.heap.size) 2 (by first | omega | (simp; try omega)); have f1_0_2 := xf1 (w.heap.size) 2 (by first | omega | (simp; try omega)); have l1_1 := xl1 (w.heap.size + 1) (by first | omega | (simp; try omega)); have r1_1 := xc1 (w.heap.size + 1) 0 (by first | omega | (simp; try omega)); have f1_1 := xf1 (w.heap.size + 1) 0 (by first | omega | (simp; try omega)); have r1_1_1 := xc1 (w.heap.size + 1) 1 (by first | omega | (simp; try omega)); have f1_1_1 := xf1 (w.heap.size + 1) 1 (by first | omega | (simp; try omega)); have r1_1_2 := xc1 (w.heap.size + 1) 2 (by first | omega | (simp; try omega)); have f1_1_2 := xf1 (w.heap.size + 1) 2 (by first | omega | (simp; try omega)))
         )
        refine wp_aft (by kernel_rfl) (by kernel_rfl) (fun hq hqf => ?_)
        repeat (go_big_quiet_step (first
          | (go_at_call 42; exact aft_of (sa _))
          | (go_at_call 42; exact aft_of (sb _))
          ))
        refine wpQuiet_nil ?_
        rintro _ ⟨nq, rfl⟩
        have xl := ext_lt nq.use
        have xz := ext_size nq.use
        try simp at xz
        obtain ⟨xc2, xf2, xl2, xz2⟩ := ext_use (nq.use)
        have l2_0 := xl2 (w.heap.size) (by first | omega | (simp; try omega))
        have r2_0 := xc2 (w.heap.size) 0 (by first | omega | (simp; try omega))
        have f2_0 := xf2 (w.heap.size) 0 (by first | omega | (simp; try omega))
        have r2_0_1 := xc2 (w.heap.size) 1 (by first | omega | (simp; try omega))
        have f2_0_1 := xf2 (w.heap.size) 1 (by first | omega | (simp; try omega))
        have r2_0_2 := xc2 (w.heap.size) 2 (by first | omega | (simp; try omega))
        have f2_0_2 := xf2 (w.heap.size) 2 (by first | omega | (simp; try omega))
        have l2_1 := xl2 (w.heap.size + 1) (by first | omega | (simp; try omega))
        have r2_1 := xc2 (w.heap.size + 1) 0 (by first | omega | (simp; try omega))
        have f2_1 := xf2 (w.heap.size + 1) 0 (by first | omega | (simp; try omega))
        have r2_1_1 := xc2 (w.heap.size + 1) 1 (by first | omega | (simp; try omega))
        have f2_1_1 := xf2 (w.heap.size + 1) 1 (by first | omega | (simp; try omega))
        have r2_1_2 := xc2 (w.heap.size + 1) 2 (by first | omega | (simp; try omega))
        have f2_1_2 := xf2 (w.heap.size + 1) 2 (by first | omega | (simp; try omega))
        go_wp2
        refine bodyPost_ret (v := _) ?h rfl ⟨rfl, ?_⟩
        case h =>
          simp [results, Tryz.results12, go_sem]
          try omega
        repeat (first | exact ext_refl _ | assumption | refine ext_setCell ?_ (by simp; try omega) _ | refine ext_alloc ?_ _ | refine ext_drew ?_ | refine ext_drewN ?_ _ | refine ext_trans ?_ (Aft.use _) | refine ext_trans ?_ (by assumption))
  · have R : cmpR a b = ⟨0, chkD a b⟩ := by unfold cmpR; rw [if_pos h1]
    rw [R]
    generalize chkD a b = E at hc h1
    have hne : (E == 0) = false := by rw [beq_eq_false_iff_ne]; exact h1
    clear R h1
    obtain ⟨neg, l, exp⟩ := a
    obtain ⟨neg2, l2, exp2⟩ := b
    go_enter Tryz.func12, Tryz.ntmps12
    go_wp2_with (first
      | (go_at_call 37; (with_reducible refine (hc _).mono ?_); rintro e w1 ⟨rfl, xb1⟩; obtain ⟨xc1, xf1, xl1, xz1⟩ := ext_use xb1; (try simp at xz1); have l1_0 := xl1 (w.heap.size) (by first | omega | (simp; try omega)); have r1_0 := xc1 (w.heap.size) 0 (by first | omega | (simp; try omega)); have f1_0 := xf1 (w.heap.size) 0 (by first | omega | (simp; try omega)); have r1_0_1 := xc1 (w.heap.size) 1 (by first | omega | (simp; try omega)); have f1_0_1 := xf1 (w.heap.size) 1 (by first | omega | (simp; try omega)); have r1_0_2 := xc1 (w.heap.size) 2 (by first | omega | (simp; try omega)); have f1_0_2 := xf1 (w.heap.size) 2 (by first | omega | (simp; try omega)); have l1_1 := xl1 (w.heap.size + 1) (by first | omega | (simp; try omega)); have r1_1 := xc1 (w.heap.size + 1) 0 (by first | omega | (simp; try omega)); have f1_1 := xf1 (w.heap.size + 1) 0 (by first | omega | (simp; try omega)); have r1_1_1 := xc1 (w.heap.size + 1) 1 (by first | omega | (simp; try omega)); have f1_1_1 := xf1 (w.heap.size + 1) 1 (by first | omega | (simp; try omega)); have r1_1_2 := xc1 (w.heap.size + 1) 2 (by first | omega | (simp; try omega)); have f1_1_2 := xf1 (w.heap.size + 1) 2 (by first | omega | (simp; try omega)))
     )
    refine bodyPost_ret (v := _) ?h rfl ⟨rfl, ?_⟩
    case h => simp [results, Tryz.results12, go_sem]
    repeat (first | exact ext_refl _ | assumption | refine ext_setCell ?_ (by simp; try omega) _ | refine ext_alloc ?_ _ | refine ext_drew ?_ | refine ext_drewN ?_ _ | refine ext_trans ?_ (Aft.use _) | refine ext_trans ?_ (by assumption))
theorem dat_inj {l r : List UInt8} {k : Nat} (hl : digsB l = true) (hr : digsB r = true) (h : datN l k = datN r k) : l.getD k 48 = r.getD k 48 := by
  have h1 : ∀ l : List UInt8, digsB l = true → 48 ≤ (l.getD k 48).toNat := by
    intro l hd
    rw [List.getD_eq_getElem?_getD]
    by_cases hk : k < l.length
    · rw [List.getElem?_eq_getElem hk]; exact (digs_at hd k hk).1
    · rw [List.getElem?_eq_none (by omega)]; decide
  have h2 := h1 l hl
  have h3 := h1 r hr
  unfold datN at h
  exact UInt8.toNat_inj.1 (by omega)
end Go.Proofs.YtdjegfnkpagdaaaGreatDoor
end
section
/- Noughts of the library. -/
namespace Go.Proofs.YtdjegfnkpagdaaaGreatDoor
open Go.RowKit
attribute [local go_sem] bs_size bs_extract bs_get bs_append bs_toList const_get
attribute [local go_sem] sz2 sz3 sz4 sz5 sz6 sz7 sz8
set_option maxHeartbeats 4000000
set_option maxRecDepth 100000
attribute [local irreducible] Calls
theorem bs_app_lit (a : List UInt8) (b : Array UInt8) : bs a ++ (⟨b⟩ : ByteArray) = bs (a ++ b.toList) := by
  rw [← bs_append]; rfl
theorem lit_app_bs (a : Array UInt8) (b : List UInt8) : (⟨a⟩ : ByteArray) ++ bs b = bs (a.toList ++ b) := by
  rw [← bs_append]; rfl
attribute [local go_sem] bs_app_lit lit_app_bs
theorem repeat_any (c : Nat) (hc : c ≤ 1000000) (w : World) : Calls Tryz.prog 51 #[.string ⟨#[48]⟩, .int .i64 (c : Int)] w fun e w' => e = .returned (.string (bs (zerosL c))) ∧ Ext w w' := by
  refine (Tryz.strings_Repeat ⟨#[48]⟩ c w (by omega) (by show 1 * c ≤ _; omega)).mono ?_
  rintro e w' ⟨he, hx⟩
  refine ⟨?_, hx⟩
  rw [he]
  have : Lib.repeatL [48] c = zerosL c := by
    have := Lib.repeatL_replicate 48 1 c
    rw [Nat.mul_one] at this
    exact this
  show Ending.returned (.string (bs (Lib.repeatL [48] c))) = _
  rw [this]
theorem longer_any (l : List UInt8) (n : Nat) (hl : l.length ≤ 1000000) (hn : n ≤ 1000000) (w : World) : Calls Tryz.prog 39 #[.string (bs l), .int .i64 (n : Int)] w fun e w' => e = .returned (.string (bs (l ++ zerosL n))) ∧ Ext w w' := by
  have hz : (zerosL n).length = n := by simp [zerosL]
  go_enter Tryz.func39, Tryz.ntmps39
  go_wp2_with (first
    | (go_at_call 51; (with_reducible refine (repeat_any n hn _).mono ?_); rintro e w' ⟨rfl, xb⟩; obtain ⟨xc, xf, xl, xz⟩ := ext_use xb; (try simp at xz))
   )
  go_ret
  refine ⟨rfl, ?_⟩
  repeat (first | exact ext_refl _ | assumption | refine ext_setCell ?_ (by simp; try omega) _ | refine ext_alloc ?_ _ | refine ext_drew ?_ | refine ext_drewN ?_ _ | refine ext_trans ?_ (Aft.use _) | refine ext_trans ?_ (by assumption))
end Go.Proofs.YtdjegfnkpagdaaaGreatDoor
end
