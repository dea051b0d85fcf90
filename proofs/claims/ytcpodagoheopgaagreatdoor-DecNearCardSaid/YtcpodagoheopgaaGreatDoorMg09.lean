/- Lemmas of this proof, laid together: SumA, SumB, DecRp, DecT, DecU, DecV, DecX. -/
import Derived.Test.YtcpodagoheopgaaGreatDoorMg08
import Derived.Test.YtcpodagoheopgaaGreatDoorShelf
import Derived.Deep.DeepCutAuto
import Derived.Deep.RegionWith
set_option linter.unusedSimpArgs false
set_option linter.unusedVariables false
section
/- Order of decimals: what it comes to; small pieces. -/
namespace Go.Proofs.YtcpodagoheopgaaGreatDoor
open Go.RowKit
attribute [local go_sem] bs_size bs_extract bs_get bs_append bs_toList const_get
attribute [local go_sem] sz2 sz3 sz4 sz5 sz6 sz7 sz8
set_option maxHeartbeats 4000000
set_option maxRecDepth 100000
attribute [local irreducible] Calls
def chkD (a b : Dc) : Int := if dcE a = 0 then dcE b else dcE a
def sgD (d : Dc) : Int := if d.dig = [] then 0 else if d.neg then -1 else 1
def bigD (a b : Dc) : Int := if a.exp + a.dig.length < b.exp + b.dig.length then -1 else if b.exp + b.dig.length < a.exp + a.dig.length then 1 else Lib.compareBytes a.dig b.dig
structure Cc where
  c : Int
  e : Int
abbrev ccV (r : Cc) : Value := .tuple #[.int .i64 r.c, .int .i64 r.e]
def cmpR (a b : Dc) : Cc := if ¬ chkD a b = 0 then ⟨0, chkD a b⟩ else if sgD a < sgD b then ⟨-1, 0⟩ else if sgD b < sgD a then ⟨1, 0⟩ else if sgD a = 0 then ⟨0, 0⟩ else ⟨sgD a * bigD a b, 0⟩
theorem dc_last {d : Dc} (h : dcE d = 0) (h0 : 0 < d.dig.length) : ∀ i, i + 1 = d.dig.length → d.dig.getD i 48 ≠ 48 := by
  intro i hi e
  unfold dcE at h
  split at h
  · cases h
  · rw [if_neg (by omega)] at h
    split at h
    · cases h
    · rw [if_pos] at h
      · cases h
      · right; left
        rw [List.getLast?_eq_getElem?, show d.dig.length - 1 = i by omega]
        rw [List.getD_eq_getElem?_getD, List.getElem?_eq_getElem (by omega)] at e
        rw [List.getElem?_eq_getElem (by omega)]
        simpa using e
theorem cmp_lt : ∀ (k : Nat) (l r : List UInt8), digsB l = true → digsB r = true → (∀ p, p < k → l.getD p 48 = r.getD p 48) → (l.getD k 48).toNat < (r.getD k 48).toNat → Lib.compareBytes l r = -1
  | k, [], [], _, _, _, h => by simp at h
  | k, [], b :: v, _, _, _, _ => rfl
  | k, a :: u, [], hl, _, _, h => by
    exfalso
    have h2 : (([] : List UInt8).getD k 48).toNat = 48 := by simp
    rw [h2] at h
    by_cases hk : k < (a :: u).length
    · have := (digs_at hl k hk).1
      rw [List.getD_eq_getElem?_getD, List.getElem?_eq_getElem hk] at h
      simp only [Option.getD_some] at h
      omega
    · rw [List.getD_eq_getElem?_getD, List.getElem?_eq_none (by omega)] at h
      simp at h
  | 0, a :: u, b :: v, _, _, _, h => by
    have h : a < b := h
    simp [Lib.compareBytes, h]
  | k + 1, a :: u, b :: v, hl, hr, hp, h => by
    have h0 : a = b := hp 0 (by omega)
    subst h0
    have h1 : digsB u = true := by simp [digsB] at hl ⊢; exact hl.2
    have h2 : digsB v = true := by simp [digsB] at hr ⊢; exact hr.2
    have := cmp_lt k u v h1 h2 (fun p hp' => hp (p + 1) (by omega)) h
    have h3 : ¬ a < a := by rw [UInt8.lt_iff_toNat_lt]; omega
    simp [Lib.compareBytes, this, h3]
theorem cmp_gt : ∀ (k : Nat) (l r : List UInt8), digsB l = true → digsB r = true → (∀ p, p < k → l.getD p 48 = r.getD p 48) → (r.getD k 48).toNat < (l.getD k 48).toNat → Lib.compareBytes l r = 1
  | k, [], [], _, _, _, h => by simp at h
  | k, a :: u, [], _, _, _, _ => rfl
  | k, [], b :: v, _, hl, _, h => by
    exfalso
    have h2 : (([] : List UInt8).getD k 48).toNat = 48 := by simp
    rw [h2] at h
    by_cases hk : k < (b :: v).length
    · have := (digs_at hl k hk).1
      rw [List.getD_eq_getElem?_getD, List.getElem?_eq_getElem hk] at h
      simp only [Option.getD_some] at h
      omega
    · rw [List.getD_eq_getElem?_getD, List.getElem?_eq_none (by omega)] at h
      simp at h
  | 0, a :: u, b :: v, _, _, _, h => by
    have h : b < a := h
    have h2 : ¬ a < b := by rw [UInt8.lt_iff_toNat_lt] at h ⊢; omega
    simp [Lib.compareBytes, h, h2]
  | k + 1, a :: u, b :: v, hl, hr, hp, h => by
    have h0 : a = b := hp 0 (by omega)
    subst h0
    have h1 : digsB u = true := by simp [digsB] at hl ⊢; exact hl.2
    have h2 : digsB v = true := by simp [digsB] at hr ⊢; exact hr.2
    have := cmp_gt k u v h1 h2 (fun p hp' => hp (p + 1) (by omega)) h
    have h3 : ¬ a < a := by rw [UInt8.lt_iff_toNat_lt]; omega
    simp [Lib.compareBytes, this, h3]
theorem cmp_self : ∀ l : List UInt8, Lib.compareBytes l l = 0
  | [] => rfl
  | a :: u => by
    have h3 : ¬ a < a := by rw [UInt8.lt_iff_toNat_lt]; omega
    simp [Lib.compareBytes, h3, cmp_self u]
theorem cmp_eq' {l r : List UInt8} (hl : ∀ i, i + 1 = l.length → l.getD i 48 ≠ 48) (hr : ∀ i, i + 1 = r.length → r.getD i 48 ≠ 48) (h : ∀ p, p < max l.length r.length → l.getD p 48 = r.getD p 48) : Lib.compareBytes l r = 0 := by
  have e : l.length = r.length := by
    rcases Nat.lt_trichotomy l.length r.length with h1 | h1 | h1
    · exfalso
      obtain ⟨i, hi⟩ : ∃ i, i + 1 = r.length := ⟨r.length - 1, by omega⟩
      refine hr i hi ?_
      rw [← h i (by omega), List.getD_eq_getElem?_getD, List.getElem?_eq_none (by omega)]; rfl
    · exact h1
    · exfalso
      obtain ⟨i, hi⟩ : ∃ i, i + 1 = l.length := ⟨l.length - 1, by omega⟩
      refine hl i hi ?_
      rw [h i (by omega), List.getD_eq_getElem?_getD, List.getElem?_eq_none (by omega)]; rfl
  have : l = r := by
    refine List.ext_getElem e fun p h1 h2 => ?_
    have := h p (by omega)
    rwa [List.getD_eq_getElem?_getD, List.getD_eq_getElem?_getD, List.getElem?_eq_getElem h1, List.getElem?_eq_getElem h2] at this
  rw [this]; exact cmp_self r
theorem sign_any (d : Dc) (w : World) : Calls Tryz.prog 57 #[dcV d] w fun e w' => e = .returned (.int .i64 (sgD d)) ∧ Ext w w' := by
  obtain ⟨neg, l, exp⟩ := d
  rcases hl : l with _ | ⟨a, t⟩
  · rw [show sgD ⟨neg, [], exp⟩ = 0 from rfl]
    go_enter Tryz.func57, Tryz.ntmps57
    go_wp2_with (first
      | (go_at_call 32; (with_reducible refine (none_any _ _ _ _).mono ?_); rintro e w2 ⟨rfl, xb2⟩; obtain ⟨xc2, xf2, xl2, xz2⟩ := ext_use xb2; (try simp at xz2); have l2_0 := xl2 (w.heap.size) (by first | omega | (simp; try omega)); have r2_0 := xc2 (w.heap.size) 0 (by first | omega | (simp; try omega)); have f2_0 := xf2 (w.heap.size) 0 (by first | omega | (simp; try omega)); have r2_0_1 := xc2 (w.heap.size) 1 (by first | omega | (simp; try omega)); have f2_0_1 := xf2 (w.heap.size) 1 (by first | omega | (simp; try omega)); have r2_0_2 := xc2 (w.heap.size) 2 (by first | omega | (simp; try omega)); have f2_0_2 := xf2 (w.heap.size) 2 (by first | omega | (simp; try omega)))
     )
    refine bodyPost_ret (v := _) ?h rfl ⟨rfl, ?_⟩
    case h => simp [results, Tryz.results57, go_sem]
    repeat (first | exact ext_refl _ | assumption | refine ext_setCell ?_ (by simp; try omega) _ | refine ext_alloc ?_ _ | refine ext_drew ?_ | refine ext_drewN ?_ _ | refine ext_trans ?_ (Aft.use _) | refine ext_trans ?_ (by assumption))
  · cases neg
    · rw [show sgD ⟨false, a :: t, exp⟩ = 1 from rfl]
      go_enter Tryz.func57, Tryz.ntmps57
      go_wp2_with (first
        | (go_at_call 32; (with_reducible refine (none_any _ _ _ _).mono ?_); rintro e w2 ⟨rfl, xb2⟩; obtain ⟨xc2, xf2, xl2, xz2⟩ := ext_use xb2; (try simp at xz2); have l2_0 := xl2 (w.heap.size) (by first | omega | (simp; try omega)); have r2_0 := xc2 (w.heap.size) 0 (by first | omega | (simp; try omega)); have f2_0 := xf2 (w.heap.size) 0 (by first | omega | (simp; try omega)); have r2_0_1 := xc2 (w.heap.size) 1 (by first | omega | (simp; try omega)); have f2_0_1 := xf2 (w.heap.size) 1 (by first | omega | (simp; try omega)); have r2_0_2 := xc2 (w.heap.size) 2 (by first | omega | (simp; try omega)); have f2_0_2 := xf2 (w.heap.size) 2 (by first | omega | (simp; try omega)))
       )
      refine bodyPost_ret (v := _) ?h rfl ⟨rfl, ?_⟩
      case h => simp [results, Tryz.results57, go_sem]
      repeat (first | exact ext_refl _ | assumption | refine ext_setCell ?_ (by simp; try omega) _ | refine ext_alloc ?_ _ | refine ext_drew ?_ | refine ext_drewN ?_ _ | refine ext_trans ?_ (Aft.use _) | refine ext_trans ?_ (by assumption))
    · rw [show sgD ⟨true, a :: t, exp⟩ = -1 from rfl]
      go_enter Tryz.func57, Tryz.ntmps57
      go_wp2_with (first
        | (go_at_call 32; (with_reducible refine (none_any _ _ _ _).mono ?_); rintro e w2 ⟨rfl, xb2⟩; obtain ⟨xc2, xf2, xl2, xz2⟩ := ext_use xb2; (try simp at xz2); have l2_0 := xl2 (w.heap.size) (by first | omega | (simp; try omega)); have r2_0 := xc2 (w.heap.size) 0 (by first | omega | (simp; try omega)); have f2_0 := xf2 (w.heap.size) 0 (by first | omega | (simp; try omega)); have r2_0_1 := xc2 (w.heap.size) 1 (by first | omega | (simp; try omega)); have f2_0_1 := xf2 (w.heap.size) 1 (by first | omega | (simp; try omega)); have r2_0_2 := xc2 (w.heap.size) 2 (by first | omega | (simp; try omega)); have f2_0_2 := xf2 (w.heap.size) 2 (by first | omega | (simp; try omega)))
       )
      refine bodyPost_ret (v := _) ?h rfl ⟨rfl, ?_⟩
      case h => simp [results, Tryz.results57, go_sem]
      repeat (first | exact ext_refl _ | assumption | refine ext_setCell ?_ (by simp; try omega) _ | refine ext_alloc ?_ _ | refine ext_drew ?_ | refine ext_drewN ?_ _ | refine ext_trans ?_ (Aft.use _) | refine ext_trans ?_ (by assumption))
theorem both_any (a b : Dc) (ha : a.dig.length ≤ 9223372036854775807) (hb : b.dig.length ≤ 9223372036854775807) (w : World) : Calls Tryz.prog 31 #[dcV a, dcV b] w fun e w' => e = .returned (.int .i64 (chkD a b)) ∧ Ext w w' := by
  have ca := fun w => check_any' a ha w
  have cb := fun w => check_any' b hb w
  by_cases h : dcE a = 0
  · rw [show chkD a b = dcE b by unfold chkD; rw [if_pos h]]
    rw [h] at ca
    generalize dcE b = E at cb
    clear h
    obtain ⟨neg, l, exp⟩ := a
    obtain ⟨neg2, l2, exp2⟩ := b
    go_enter Tryz.func31, Tryz.ntmps31
    go_wp2_with (first
      | (go_at_call 17; (with_reducible refine (ca _).mono ?_); rintro e w1 ⟨rfl, xb1⟩; obtain ⟨xc1, xf1, xl1, xz1⟩ := ext_use xb1; (try simp at xz1); have l1_0 := xl1 (w.heap.size) (by first | omega | (simp; try omega)); have r1_0 := xc1 (w.heap.size) 0 (by first | omega | (simp; try omega)); have f1_0 := xf1 (w.heap.size) 0 (by first | omega | (simp; try omega)); have r1_0_1 := xc1 (w.heap.size) 1 (by first | omega | (simp; try omega)); have f1_0_1 := xf1 (w.heap.size) 1 (by first | omega | (simp; try omega)); have r1_0_2 := xc1 (w.heap.size) 2 (by first | omega | (simp; try omega)); have f1_0_2 := xf1 (w.heap.size) 2 (by first | omega | (simp; try omega)); have l1_1 := xl1 (w.heap.size + 1) (by first | omega | (simp; try omega)); have r1_1 := xc1 (w.heap.size + 1) 0 (by first | omega | (simp; try omega)); have f1_1 := xf1 (w.heap.size + 1) 0 (by first | omega | (simp; try omega)); have r1_1_1 := xc1 (w.heap.size + 1) 1 (by first | omega | (simp; try omega)); have f1_1_1 := xf1 (w.heap.size + 1) 1 (by first | omega | (simp; try omega)); have r1_1_2 := xc1 (w.heap.size + 1) 2 (by first | omega | (simp; try omega)); have f1_1_2 := xf1 (w.heap.size + 1) 2 (by first | omega | (simp; try omega)))
      | (go_at_call 17; (with_reducible refine (cb _).mono ?_); rintro e w2 ⟨rfl, xb2⟩; obtain ⟨xc2, xf2, xl2, xz2⟩ := ext_use xb2; (try simp at xz2); have l2_0 := xl2 (w.heap.size) (by first | omega | (simp; try omega)); have r2_0 := xc2 (w.heap.size) 0 (by first | omega | (simp; try omega)); have f2_0 := xf2 (w.heap.size) 0 (by first | omega | (simp; try omega)); have r2_0_1 := xc2 (w.heap.size) 1 (by first | omega | (simp; try omega)); have f2_0_1 := xf2 (w.heap.size) 1 (by first | omega | (simp; try omega)); have r2_0_2 := xc2 (w.heap.size) 2 (by first | omega | (simp; try omega)); have f2_0_2 := xf2 (w.heap.size) 2 (by first | omega | (simp; try omega)); have l2_1 := xl2 (w.heap.size + 1) (by first | omega | (simp; try omega)); have r2_1 := xc2 (w.heap.size + 1) 0 (by first | omega | (simp; try omega)); have f2_1 := xf2 (w.heap.size + 1) 0 (by first | omega | (simp; try omega)); have r2_1_1 := xc2 (w.heap.size + 1) 1 (by first | omega | (simp; try omega)); have f2_1_1 := xf2 (w.heap.size + 1) 1 (by first | omega | (simp; try omega)); have r2_1_2 := xc2 (w.heap.size + 1) 2 (by first | omega | (simp; try omega)); have f2_1_2 := xf2 (w.heap.size + 1) 2 (by first | omega | (simp; try omega)))
     )
    refine bodyPost_ret (v := _) ?h rfl ⟨rfl, ?_⟩
    case h => simp [results, Tryz.results31, go_sem]
    repeat (first | exact ext_refl _ | assumption | refine ext_setCell ?_ (by simp; try omega) _ | refine ext_alloc ?_ _ | refine ext_drew ?_ | refine ext_drewN ?_ _ | refine ext_trans ?_ (Aft.use _) | refine ext_trans ?_ (by assumption))
  · rw [show chkD a b = dcE a by unfold chkD; rw [if_neg h]]
    generalize dcE a = E at ca h
    have hne : (E == 0) = false := by rw [beq_eq_false_iff_ne]; exact h
    clear h
    obtain ⟨neg, l, exp⟩ := a
    obtain ⟨neg2, l2, exp2⟩ := b
    go_enter Tryz.func31, Tryz.ntmps31
    go_wp2_with (first
      | (go_at_call 17; (with_reducible refine (ca _).mono ?_); rintro e w1 ⟨rfl, xb1⟩; obtain ⟨xc1, xf1, xl1, xz1⟩ := ext_use xb1; (try simp at xz1); have l1_0 := xl1 (w.heap.size) (by first | omega | (simp; try omega)); have r1_0 := xc1 (w.heap.size) 0 (by first | omega | (simp; try omega)); have f1_0 := xf1 (w.heap.size) 0 (by first | omega | (simp; try omega)); have r1_0_1 := xc1 (w.heap.size) 1 (by first | omega | (simp; try omega)); have f1_0_1 := xf1 (w.heap.size) 1 (by first | omega | (simp; try omega)); have r1_0_2 := xc1 (w.heap.size) 2 (by first | omega | (simp; try omega)); have f1_0_2 := xf1 (w.heap.size) 2 (by first | omega | (simp; try omega)); have l1_1 := xl1 (w.heap.size + 1) (by first | omega | (simp; try omega)); have r1_1 := xc1 (w.heap.size + 1) 0 (by first | omega | (simp; try omega)); have f1_1 := xf1 (w.heap.size + 1) 0 (by first | omega | (simp; try omega)); have r1_1_1 := xc1 (w.heap.size + 1) 1 (by first | omega | (simp; try omega)); have f1_1_1 := xf1 (w.heap.size + 1) 1 (by first | omega | (simp; try omega)); have r1_1_2 := xc1 (w.heap.size + 1) 2 (by first | omega | (simp; try omega)); have f1_1_2 := xf1 (w.heap.size + 1) 2 (by first | omega | (simp; try omega)))
     )
    refine bodyPost_ret (v := _) ?h rfl ⟨rfl, ?_⟩
    case h => simp [results, Tryz.results31, go_sem]
    repeat (first | exact ext_refl _ | assumption | refine ext_setCell ?_ (by simp; try omega) _ | refine ext_alloc ?_ _ | refine ext_drew ?_ | refine ext_drewN ?_ _ | refine ext_trans ?_ (Aft.use _) | refine ext_trans ?_ (by assumption))
def datN (l : List UInt8) (j : Nat) : Nat := (l.getD j 48).toNat - 48
end Go.Proofs.YtcpodagoheopgaaGreatDoor
end
section
/- Order of decimals: the program's and the document's. -/
namespace Go.Proofs.YtcpodagoheopgaaGreatDoor
open Go.RowKit
attribute [local go_sem] bs_size bs_extract bs_get bs_append bs_toList const_get
attribute [local go_sem] sz2 sz3 sz4 sz5 sz6 sz7 sz8
set_option maxHeartbeats 4000000
set_option maxRecDepth 100000
attribute [local irreducible] Calls
theorem wrap_in (n : Int) (h : -9223372036854775808 ≤ n ∧ n ≤ 9223372036854775807) : wrap64 n = n := by unfold wrap64; omega
theorem compare_any (l r : List UInt8) (w : World) : Calls Tryz.prog 58 #[.string (bs l), .string (bs r)] w fun e w' => e = .returned (.int .i64 (Lib.compareBytes l r)) ∧ Ext w w' := by
  refine (Tryz.strings_Compare (bs l) (bs r) w).mono ?_
  rintro e w' ⟨he, rfl⟩
  refine ⟨?_, ext_refl _⟩
  rw [he]; rfl
theorem compareB (l r : List UInt8) : -1 ≤ Lib.compareBytes l r ∧ Lib.compareBytes l r ≤ 1 := by
  have : ∀ (l r : List UInt8), -1 ≤ Lib.compareBytes l r ∧ Lib.compareBytes l r ≤ 1 := by
    intro l
    induction l with
    | nil => intro r; cases r <;> simp [Lib.compareBytes]
    | cons a u ih =>
      intro r
      cases r with
      | nil => simp [Lib.compareBytes]
      | cons b v =>
        simp only [Lib.compareBytes]
        split
        · omega
        · split
          · omega
          · exact ih v
  exact this l r
theorem sgD_cases (d : Dc) : sgD d = -1 ∨ sgD d = 0 ∨ sgD d = 1 := by
  unfold sgD
  split
  · simp
  · split <;> simp
theorem cmp_any (a b : Dc) (ha : a.dig.length ≤ 9223372036854775807) (hb : b.dig.length ≤ 9223372036854775807) (w : World) : Calls Tryz.prog 27 #[dcV a, dcV b] w fun e w' => e = .returned (ccV (cmpR a b)) ∧ Ext w w' := by
  have hc := fun w => both_any a b ha hb w
  by_cases h1 : chkD a b = 0
  · rw [h1] at hc
    have ca : dcE a = 0 := by
      unfold chkD at h1
      split at h1
      · assumption
      · assumption
    have cb : dcE b = 0 := by
      unfold chkD at h1
      rwa [if_pos ca] at h1
    have sa := fun w => sign_any a w
    have sb := fun w => sign_any b w
    have hsa := sgD_cases a
    have hsb := sgD_cases b
    by_cases h2 : sgD a = sgD b ∧ sgD a ≠ 0
    · obtain ⟨h2, h3⟩ := h2
      have R : cmpR a b = ⟨sgD a * bigD a b, 0⟩ := by unfold cmpR; rw [if_neg (by simp [h1]), if_neg (by omega), if_neg (by omega), if_neg h3]
      rw [R]
      have oka := dc_ok ca (by
        rcases hl : a.dig with _ | ⟨x, t⟩
        · exact absurd (by unfold sgD; rw [if_pos hl]) h3
        · simp)
      have okb := dc_ok cb (by
        rcases hl : b.dig with _ | ⟨x, t⟩
        · exact absurd (by rw [h2]; unfold sgD; rw [if_pos hl]) h3
        · simp)
      obtain ⟨la, _, _, _, ea1, ea2⟩ := oka
      obtain ⟨lb, _, _, _, eb1, eb2⟩ := okb
      rw [← h2] at sb
      have hcc := compareB a.dig b.dig
      clear R h1 ca cb hsb h2 ha hb
      generalize sgD a = S at sa sb hsa h3
      obtain ⟨neg, l, exp⟩ := a
      obtain ⟨neg2, l2, exp2⟩ := b
      simp only [bigD] at la lb ea1 ea2 eb1 eb2 hcc ⊢
      have hS0 : (S == 0) = false := by rw [beq_eq_false_iff_ne]; exact h3
      have hpr : wrap64 (S * Lib.compareBytes l l2) = S * Lib.compareBytes l l2 := by
        refine wrap_in _ ⟨?_, ?_⟩ <;> rcases hsa with rfl | rfl | rfl <;> omega
      go_enter Tryz.func27, Tryz.ntmps27
      go_wp2_with (first
        | (go_at_call 31; (with_reducible refine (hc _).mono ?_); rintro e w1 ⟨rfl, xb1⟩; obtain ⟨xc1, xf1, xl1, xz1⟩ := ext_use xb1; (try simp at xz1); have l1_0 := xl1 (w.heap.size) (by first | omega | (simp; try omega)); have r1_0 := xc1 (w.heap.size) 0 (by first | omega | (simp; try omega)); have f1_0 := xf1 (w.heap.size) 0 (by first | omega | (simp; try omega)); have r1_0_1 := xc1 (w.heap.size) 1 (by first | omega | (simp; try omega)); have f1_0_1 := xf1 (w.heap.size) 1 (by first | omega | (simp; try omega)); have r1_0_2 := xc1 (w.heap.size) 2 (by first | omega | (simp; try omega)); have f1_0_2 := xf1 (w.heap.size) 2 (by first | omega | (simp; try omega)); have l1_1 := xl1 (w.heap.size + 1) (by first | omega | (simp; try omega)); have r1_1 := xc1 (w.heap.size + 1) 0 (by first | omega | (simp; try omega)); have f1_1 := xf1 (w.heap.size + 1) 0 (by first | omega | (simp; try omega)); have r1_1_1 := xc1 (w.heap.size + 1) 1 (by first | omega | (simp; try omega)); have f1_1_1 := xf1 (w.heap.size + 1) 1 (by first | omega | (simp; try omega)); have r1_1_2 := xc1 (w.heap.size + 1) 2 (by first | omega | (simp; try omega)); have f1_1_2 := xf1 (w.heap.size + 1) 2 (by first | omega | (simp; try omega)))
       )
      refine wp_aft (by kernel_rfl) (by kernel_rfl) (fun hq hqf => ?_)
      repeat (go_big_quiet_step (first
        | (go_at_call 57; exact aft_of (sa _))
        | (go_at_call 57; exact aft_of (sb _))
        ))
      refine wpQuiet_nil ?_
      rintro _ ⟨nq, rfl⟩
      have xl := ext_lt nq.use
      have xz := ext_size nq.use
      try simp at xz
      obtain ⟨xc2, xf2, xl2, xz2⟩ := ext_use (nq.use)
      have l2_0 := xl2 (w.heap.size) (by first | omega | (simp; try omega))
      have r2_0 := xc2 (w.heap.size) 0 (by first | omega | (simp; try omega))
      have f2_0 := xf2 (w.heap.size) 0 (by first | omega | (simp; try omega))
      have r2_0_1 := xc2 (w.heap.size) 1 (by first | omega | (simp; try omega))
      have f2_0_1 := xf2 (w.heap.size) 1 (by first | omega | (simp; try omega))
      have r2_0_2 := xc2 (w.heap.size) 2 (by first | omega | (simp; try omega))
      have f2_0_2 := xf2 (w.heap.size) 2 (by first | omega | (simp; try omega))
      have l2_1 := xl2 (w.heap.size + 1) (by first | omega | (simp; try omega))
      have r2_1 := xc2 (w.heap.size + 1) 0 (by first | omega | (simp; try omega))
      have f2_1 := xf2 (w.heap.size + 1) 0 (by first | omega | (simp; try omega))
      have r2_1_1 := xc2 (w.heap.size + 1) 1 (by first | omega | (simp; try omega))
      have f2_1_1 := xf2 (w.heap.size + 1) 1 (by first | omega | (simp; try omega))
      have r2_1_2 := xc2 (w.heap.size + 1) 2 (by first | omega | (simp; try omega))
      have f2_1_2 := xf2 (w.heap.size + 1) 2 (by first | omega | (simp; try omega))
      go_wp2
      go_quiet (fail)
      go_wp2_with (first
        | (go_at_call 58; (with_reducible refine (compare_any _ _ _).mono ?_); rintro e w5 ⟨rfl, xb5⟩; obtain ⟨xc5, xf5, xl5, xz5⟩ := ext_use xb5; (try simp at xz5))
       )
      all_goals
        refine bodyPost_ret (v := _) ?h rfl ⟨rfl, ?_⟩
        case h => simp [results, Tryz.results27, go_sem, hpr]
        repeat (first | exact ext_refl _ | assumption | refine ext_setCell ?_ (by simp; try omega) _ | refine ext_alloc ?_ _ | refine ext_drew ?_ | refine ext_drewN ?_ _ | refine ext_trans ?_ (Aft.use _) | refine ext_trans ?_ (by assumption))
    · have R : cmpR a b = ⟨if sgD a < sgD b then -1 else if sgD b < sgD a then 1 else 0, 0⟩ := by
        unfold cmpR
        rw [if_neg (by simp [h1])]
        split
        · rfl
        · split
          · rfl
          · rw [if_pos (Classical.byContradiction fun h => h2 ⟨by omega, h⟩)]
      rw [R]
      clear R h1 ca cb
      generalize sgD a = S at sa hsa h2
      generalize sgD b = T at sb hsb h2
      obtain ⟨neg, l, exp⟩ := a
      obtain ⟨neg2, l2, exp2⟩ := b
      rcases hsa with rfl | rfl | rfl <;> rcases hsb with rfl | rfl | rfl <;> first | exact absurd ⟨rfl, by decide⟩ h2 | clear h2
      all_goals
        go_enter Tryz.func27, Tryz.ntmps27
        go_wp2_with (first
          | (go_at_call 31; (with_reducible refine (hc _).mono ?_); rintro e w1 ⟨rfl, xb1⟩; obtain ⟨xc1, xf1, xl1, xz1⟩ := ext_use xb1; (try simp at xz1); have l1_0 := xl1 (w.heap.size) (by first | omega | (simp; try omega)); have r1_0 := xc1 (w.heap.size) 0 (by first | omega | (simp; try omega)); have f1_0 := xf1 (w.heap.size) 0 (by first | omega | (simp; try omega)); have r1_0_1 := xc1 (w.heap.size) 1 (by first | omega | (simp; try omega)); have f1_0_1 := xf1 (w.heap.size) 1 (by first | omega | (simp; try omega)); have r1_0_2 := xc1 (w.heap.size) 2 (by first | omega | (simp; try omega)); have f1_0_2 := xf1 (w.heap.size) 2 (by first | omega | (simp; try omega)); have l1_1 := xl1 (w.heap.size + 1) (by first | omega | (simp; try omega)); have r1_1 := xc1 (w.heap.size + 1) 0 (by first | omega | (simp; try omega)); have f1_1 := xf1 (w.heap.size + 1) 0 (by first | omega | (simp; try omega)); have r1_1_1 := xc1 (w.heap.size + 1) 1 (by first | omega | (simp; try omega)); have f1_1_1 := xf1 (w.heap.size + 1) 1 (by first | omega | (simp; try omega)); have r1_1_2 := xc1 (w.heap.size + 1) 2 (by first | omega | (simp; try omega)); have f1_1_2 := xf1 (w.heap.size + 1) 2 (by first | omega | (simp; try omega)))
         )
        refine wp_aft (by kernel_rfl) (by kernel_rfl) (fun hq hqf => ?_)
        repeat (go_big_quiet_step (first
          | (go_at_call 57; exact aft_of (sa _))
          | (go_at_call 57; exact aft_of (sb _))
          ))
        refine wpQuiet_nil ?_
        rintro _ ⟨nq, rfl⟩
        have xl := ext_lt nq.use
        have xz := ext_size nq.use
        try simp at xz
        obtain ⟨xc2, xf2, xl2, xz2⟩ := ext_use (nq.use)
        have l2_0 := xl2 (w.heap.size) (by first | omega | (simp; try omega))
        have r2_0 := xc2 (w.heap.size) 0 (by first | omega | (simp; try omega))
        have f2_0 := xf2 (w.heap.size) 0 (by first | omega | (simp; try omega))
        have r2_0_1 := xc2 (w.heap.size) 1 (by first | omega | (simp; try omega))
        have f2_0_1 := xf2 (w.heap.size) 1 (by first | omega | (simp; try omega))
        have r2_0_2 := xc2 (w.heap.size) 2 (by first | omega | (simp; try omega))
        have f2_0_2 := xf2 (w.heap.size) 2 (by first | omega | (simp; try omega))
        have l2_1 := xl2 (w.heap.size + 1) (by first | omega | (simp; try omega))
        have r2_1 := xc2 (w.heap.size + 1) 0 (by first | omega | (simp; try omega))
        have f2_1 := xf2 (w.heap.size + 1) 0 (by first | omega | (simp; try omega))
        have r2_1_1 := xc2 (w.heap.size + 1) 1 (by first | omega | (simp; try omega))
        have f2_1_1 := xf2 (w.heap.size + 1) 1 (by first | omega | (simp; try omega))
        have r2_1_2 := xc2 (w.heap.size + 1) 2 (by first | omega | (simp; try omega))
        have f2_1_2 := xf2 (w.heap.size + 1) 2 (by first | omega | (simp; try omega))
        go_wp2
        refine bodyPost_ret (v := _) ?h rfl ⟨rfl, ?_⟩
        case h =>
          simp [results, Tryz.results27, go_sem]
          try omega
        repeat (first | exact ext_refl _ | assumption | refine ext_setCell ?_ (by simp; try omega) _ | refine ext_alloc ?_ _ | refine ext_drew ?_ | refine ext_drewN ?_ _ | refine ext_trans ?_ (Aft.use _) | refine ext_trans ?_ (by assumption))
  · have R : cmpR a b = ⟨0, chkD a b⟩ := by unfold cmpR; rw [if_pos h1]
    rw [R]
    generalize chkD a b = E at hc h1
    have hne : (E == 0) = false := by rw [beq_eq_false_iff_ne]; exact h1
    clear R h1
    obtain ⟨neg, l, exp⟩ := a
    obtain ⟨neg2, l2, exp2⟩ := b
    go_enter Tryz.func27, Tryz.ntmps27
    go_wp2_with (first
      | (go_at_call 31; (with_reducible refine (hc _).mono ?_); rintro e w1 ⟨rfl, xb1⟩; obtain ⟨xc1, xf1, xl1, xz1⟩ := ext_use xb1; (try simp at xz1); have l1_0 := xl1 (w.heap.size) (by first | omega | (simp; try omega)); have r1_0 := xc1 (w.heap.size) 0 (by first | omega | (simp; try omega)); have f1_0 := xf1 (w.heap.size) 0 (by first | omega | (simp; try omega)); have r1_0_1 := xc1 (w.heap.size) 1 (by first | omega | (simp; try omega)); have f1_0_1 := xf1 (w.heap.size) 1 (by first | omega | (simp; try omega)); have r1_0_2 := xc1 (w.heap.size) 2 (by first | omega | (simp; try omega)); have f1_0_2 := xf1 (w.heap.size) 2 (by first | omega | (simp; try omega)); have l1_1 := xl1 (w.heap.size + 1) (by first | omega | (simp; try omega)); have r1_1 := xc1 (w.heap.size + 1) 0 (by first | omega | (simp; try omega)); have f1_1 := xf1 (w.heap.size + 1) 0 (by first | omega | (simp; try omega)); have r1_1_1 := xc1 (w.heap.size + 1) 1 (by first | omega | (simp; try omega)); have f1_1_1 := xf1 (w.heap.size + 1) 1 (by first | omega | (simp; try omega)); have r1_1_2 := xc1 (w.heap.size + 1) 2 (by first | omega | (simp; try omega)); have f1_1_2 := xf1 (w.heap.size + 1) 2 (by first | omega | (simp; try omega)))
     )
    refine bodyPost_ret (v := _) ?h rfl ⟨rfl, ?_⟩
    case h => simp [results, Tryz.results27, go_sem]
    repeat (first | exact ext_refl _ | assumption | refine ext_setCell ?_ (by simp; try omega) _ | refine ext_alloc ?_ _ | refine ext_drew ?_ | refine ext_drewN ?_ _ | refine ext_trans ?_ (Aft.use _) | refine ext_trans ?_ (by assumption))
theorem dat_inj {l r : List UInt8} {k : Nat} (hl : digsB l = true) (hr : digsB r = true) (h : datN l k = datN r k) : l.getD k 48 = r.getD k 48 := by
  have h1 : ∀ l : List UInt8, digsB l = true → 48 ≤ (l.getD k 48).toNat := by
    intro l hd
    rw [List.getD_eq_getElem?_getD]
    by_cases hk : k < l.length
    · rw [List.getElem?_eq_getElem hk]; exact (digs_at hd k hk).1
    · rw [List.getElem?_eq_none (by omega)]; decide
  have h2 := h1 l hl
  have h3 := h1 r hr
  unfold datN at h
  exact UInt8.toNat_inj.1 (by omega)
end Go.Proofs.YtcpodagoheopgaaGreatDoor
end
section
/- Noughts of the library. -/
namespace Go.Proofs.YtcpodagoheopgaaGreatDoor
open Go.RowKit
attribute [local go_sem] bs_size bs_extract bs_get bs_append bs_toList const_get
attribute [local go_sem] sz2 sz3 sz4 sz5 sz6 sz7 sz8
set_option maxHeartbeats 4000000
set_option maxRecDepth 100000
attribute [local irreducible] Calls
theorem bs_app_lit (a : List UInt8) (b : Array UInt8) : bs a ++ (⟨b⟩ : ByteArray) = bs (a ++ b.toList) := by
  rw [← bs_append]; rfl
theorem lit_app_bs (a : Array UInt8) (b : List UInt8) : (⟨a⟩ : ByteArray) ++ bs b = bs (a.toList ++ b) := by
  rw [← bs_append]; rfl
attribute [local go_sem] bs_app_lit lit_app_bs
theorem repeat_any (c : Nat) (hc : c ≤ 1000000) (w : World) : Calls Tryz.prog 55 #[.string ⟨#[48]⟩, .int .i64 (c : Int)] w fun e w' => e = .returned (.string (bs (zerosL c))) ∧ Ext w w' := by
  refine (Tryz.strings_Repeat ⟨#[48]⟩ c w (by omega) (by show 1 * c ≤ _; omega)).mono ?_
  rintro e w' ⟨he, hx⟩
  refine ⟨?_, hx⟩
  rw [he]
  have : Lib.repeatL [48] c = zerosL c := by
    have := Lib.repeatL_replicate 48 1 c
    rw [Nat.mul_one] at this
    exact this
  show Ending.returned (.string (bs (Lib.repeatL [48] c))) = _
  rw [this]
theorem longer_any (l : List UInt8) (n : Nat) (hl : l.length ≤ 1000000) (hn : n ≤ 1000000) (w : World) : Calls Tryz.prog 34 #[.string (bs l), .int .i64 (n : Int)] w fun e w' => e = .returned (.string (bs (l ++ zerosL n))) ∧ Ext w w' := by
  have hz : (zerosL n).length = n := by simp [zerosL]
  go_enter Tryz.func34, Tryz.ntmps34
  go_wp2_with (first
    | (go_at_call 55; (with_reducible refine (repeat_any n hn _).mono ?_); rintro e w' ⟨rfl, xb⟩; obtain ⟨xc, xf, xl, xz⟩ := ext_use xb; (try simp at xz))
   )
  go_ret
  refine ⟨rfl, ?_⟩
  repeat (first | exact ext_refl _ | assumption | refine ext_setCell ?_ (by simp; try omega) _ | refine ext_alloc ?_ _ | refine ext_drew ?_ | refine ext_drewN ?_ _ | refine ext_trans ?_ (Aft.use _) | refine ext_trans ?_ (by assumption))
end Go.Proofs.YtcpodagoheopgaaGreatDoor
end
section
/- Plain texts: what they come to; the library's texts. -/
namespace Go.Proofs.YtcpodagoheopgaaGreatDoor
open Go.RowKit
attribute [local go_sem] bs_size bs_extract bs_get bs_append bs_toList const_get
attribute [local go_sem] sz2 sz3 sz4 sz5 sz6 sz7 sz8
set_option maxHeartbeats 4000000
set_option maxRecDepth 100000
attribute [local irreducible] Calls
attribute [local go_sem] bs_app_lit lit_app_bs
theorem dec_digits (n : Nat) : Lib.decDigits n = dtext n := by
  induction n using Nat.strongRecOn with
  | _ n ih =>
    rw [Lib.decDigits]
    by_cases h : n < 10
    · rw [dif_pos h]
      unfold dtext
      by_cases h0 : n = 0
      · subst h0; rfl
      · rw [if_neg h0, digs_pos h0, Nat.div_eq_of_lt h, digs_zero, Nat.mod_eq_of_lt h]; rfl
    · rw [dif_neg h, ih (n / 10) (by omega)]
      unfold dtext
      rw [if_neg (by omega), if_neg (by omega), digs_pos (n := n) (by omega)]
theorem itoa_eq (n : Int) : Lib.itoa n = itoaL n := by
  unfold Lib.itoa itoaL minusL
  by_cases h : n < 0
  · rw [if_pos h, dec_digits]; simp [h]
  · rw [if_neg h, dec_digits]
    have : n.natAbs = n.toNat := by omega
    simp [h, this]
/-- The digits of a plain text, with the point. -/
def bodyL (l : List UInt8) (exp : Int) : List UInt8 :=
  if 0 ≤ exp then l ++ zerosL exp.toNat else
  ((zerosL (1 + (-exp).toNat - l.length) ++ l).take ((zerosL (1 + (-exp).toNat - l.length) ++ l).length - (-exp).toNat) ++ [46]) ++ (zerosL (1 + (-exp).toNat - l.length) ++ l).drop ((zerosL (1 + (-exp).toNat - l.length) ++ l).length - (-exp).toNat)
structure Tt where
  s : List UInt8
  e : Int
abbrev ttV (t : Tt) : Value := .tuple #[.string (bs t.s), .int .i64 t.e]
def plnR (d : Dc) : Tt :=
  if dcE d ≠ 0 then ⟨[], dcE d⟩ else if d.dig.length = 0 then ⟨minusL d.neg ++ [48], 0⟩ else if 65536 < d.exp ∨ d.exp < -65536 then ⟨[], 4⟩ else
  if 65536 < (minusL d.neg ++ bodyL d.dig d.exp).length then ⟨[], 4⟩ else ⟨minusL d.neg ++ bodyL d.dig d.exp, 0⟩
theorem minus_len (neg : Bool) : (minusL neg).length ≤ 1 := by cases neg <;> decide
theorem plain_some (neg : Bool) (l : List UInt8) (exp : Int) (hok : Ok ⟨neg, l, exp⟩) (hc : ∀ w, Calls Tryz.prog 17 #[dcV ⟨neg, l, exp⟩] w fun e w' => e = .returned (.int .i64 0) ∧ Ext w w') (hx : ¬ (65536 < exp ∨ exp < -65536)) (w : World) :
    Calls Tryz.prog 23 #[dcV ⟨neg, l, exp⟩] w fun e w' => e = .returned (ttV (if 65536 < (minusL neg ++ bodyL l exp).length then ⟨[], 4⟩ else ⟨minusL neg ++ bodyL l exp, 0⟩)) ∧ Ext w w' := by
  obtain ⟨hl, hpos, hd, hld, he1, he2⟩ := hok
  simp only at hl hpos hd hld he1 he2
  have hx1 : ¬ 65536 < exp := fun h => hx (.inl h)
  have hx2 : ¬ exp < -65536 := fun h => hx (.inr h)
  clear hd hld hx
  obtain ⟨M, hM⟩ : ∃ M, M = minusL neg := ⟨_, rfl⟩
  have hml : M.length ≤ 1 := by rw [hM]; exact minus_len neg
  have hmin : ∀ w, Calls Tryz.prog 54 #[.bool neg] w fun e w' => e = .returned (.string (bs M)) ∧ w = w' := fun w => by rw [hM]; exact minus_any neg w
  have hne : l.isEmpty = false := by simp [List.length_pos_iff.1 hpos]
  rw [← hM]
  clear hM
  rcases Int.lt_or_le exp 0 with h0 | h0
  · obtain ⟨q, hq⟩ : ∃ q : Nat, q = (-exp).toNat := ⟨_, rfl⟩
    have hq1 : exp = -(q : Int) := by omega
    have hq0 : 0 < q := by omega
    obtain ⟨k, hk⟩ : ∃ k, k = 1 + q - l.length := ⟨_, rfl⟩
    obtain ⟨z, hz⟩ : ∃ z, zerosL k ++ l = z := ⟨_, rfl⟩
    have hzl : z.length = k + l.length := by rw [← hz]; simp [zerosL]
    obtain ⟨m, hm⟩ : ∃ m, m = z.length - q := ⟨_, rfl⟩
    have hb : bodyL l exp = (z.take m ++ [46]) ++ z.drop m := by
      unfold bodyL
      rw [if_neg (by omega), ← hq, ← hk, hz, ← hm]
    rw [hb]
    clear hb
    have hzk : (zerosL k).length = k := by simp [zerosL]
    have hmz : (z.length : Int) + exp = (m : Int) := by omega
    have hmz1 : (k : Int) + l.length + exp = (m : Int) := by omega
    have hml2 : m ≤ z.length := by omega
    have hmax : max 0 (1 - exp - (l.length : Int)) = (k : Int) := by omega
    have hrep : ∀ w, Calls Tryz.prog 55 #[.string ⟨#[48]⟩, .int .i64 (k : Int)] w fun e w' => e = .returned (.string (bs (zerosL k))) ∧ Ext w w' := fun w => repeat_any k (by omega) w
    obtain ⟨U, hU⟩ : ∃ U, (z.take m ++ [46]) ++ z.drop m = U := ⟨_, rfl⟩
    have hUl : U.length = z.length + 1 := by rw [← hU]; simp; omega
    have hkb : k ≤ 65537 := by omega
    have hUl2 : U.length ≤ 200000 := by omega
    clear hk hm hq hq1
    rw [hU]
    have hUb : List.take m z ++ 46 :: List.drop m (List.take (k + l.length) z) = U := by
      rw [List.take_of_length_le (l := z) (i := k + l.length) (by omega), ← hU, List.append_assoc]; rfl
    clear hU
    by_cases hu : 65536 < (M ++ U).length
    · rw [if_pos hu]
      rw [List.length_append] at hu
      go_enter Tryz.func23, Tryz.ntmps23
      go_wp2_with (first
        | (go_at_call 17; (with_reducible refine (hc _).mono ?_); rintro e w1 ⟨rfl, xb1⟩; obtain ⟨xc1, xf1, xl1, xz1⟩ := ext_use xb1; (try simp at xz1); have l1_0 := xl1 (w.heap.size) (by first | omega | (simp; try omega)); have r1_0 := xc1 (w.heap.size) 0 (by first | omega | (simp; try omega)); have f1_0 := xf1 (w.heap.size) 0 (by first | omega | (simp; try omega)); have r1_0_1 := xc1 (w.heap.size) 1 (by first | omega | (simp; try omega)); have f1_0_1 := xf1 (w.heap.size) 1 (by first | omega | (simp; try omega)); have r1_0_2 := xc1 (w.heap.size) 2 (by first | omega | (simp; try omega)); have f1_0_2 := xf1 (w.heap.size) 2 (by first | omega | (simp; try omega)))
        | (go_at_call 32; (with_reducible refine (none_any _ _ _ _).mono ?_); rintro e w2 ⟨rfl, xb2⟩; obtain ⟨xc2, xf2, xl2, xz2⟩ := ext_use xb2; (try simp at xz2); have l2_0 := xl2 (w.heap.size) (by first | omega | (simp; try omega)); have r2_0 := xc2 (w.heap.size) 0 (by first | omega | (simp; try omega)); have f2_0 := xf2 (w.heap.size) 0 (by first | omega | (simp; try omega)); have r2_0_1 := xc2 (w.heap.size) 1 (by first | omega | (simp; try omega)); have f2_0_1 := xf2 (w.heap.size) 1 (by first | omega | (simp; try omega)); have r2_0_2 := xc2 (w.heap.size) 2 (by first | omega | (simp; try omega)); have f2_0_2 := xf2 (w.heap.size) 2 (by first | omega | (simp; try omega)))
        | (go_at_call 55; (with_reducible refine (hrep _).mono ?_); rintro e w3 ⟨rfl, xb3⟩; obtain ⟨xc3, xf3, xl3, xz3⟩ := ext_use xb3; (try simp at xz3); have l3_0 := xl3 (w.heap.size) (by first | omega | (simp; try omega)); have r3_0 := xc3 (w.heap.size) 0 (by first | omega | (simp; try omega)); have f3_0 := xf3 (w.heap.size) 0 (by first | omega | (simp; try omega)); have r3_0_1 := xc3 (w.heap.size) 1 (by first | omega | (simp; try omega)); have f3_0_1 := xf3 (w.heap.size) 1 (by first | omega | (simp; try omega)); have r3_0_2 := xc3 (w.heap.size) 2 (by first | omega | (simp; try omega)); have f3_0_2 := xf3 (w.heap.size) 2 (by first | omega | (simp; try omega)))
       )
      go_quiet (fail)
      clear hUb hz hmax hmz hmz1 hml2 hzk hrep hUl hzl
      go_wp2_with (first
        | (go_at_call 54; (with_reducible refine (hmin _).mono ?_); rintro e w' ⟨rfl, rfl⟩)
       )
      refine bodyPost_ret (v := ttV ⟨[], 4⟩) ?h rfl ⟨rfl, ?_⟩
      case h => simp [results, Tryz.results23, go_sem, bs_nil]
      repeat (first | exact ext_refl _ | assumption | refine ext_setCell ?_ (by simp; try omega) _ | refine ext_alloc ?_ _ | refine ext_drew ?_ | refine ext_drewN ?_ _ | refine ext_trans ?_ (Aft.use _) | refine ext_trans ?_ (by assumption))
    · rw [if_neg hu]
      rw [List.length_append] at hu
      go_enter Tryz.func23, Tryz.ntmps23
      go_wp2_with (first
        | (go_at_call 17; (with_reducible refine (hc _).mono ?_); rintro e w1 ⟨rfl, xb1⟩; obtain ⟨xc1, xf1, xl1, xz1⟩ := ext_use xb1; (try simp at xz1); have l1_0 := xl1 (w.heap.size) (by first | omega | (simp; try omega)); have r1_0 := xc1 (w.heap.size) 0 (by first | omega | (simp; try omega)); have f1_0 := xf1 (w.heap.size) 0 (by first | omega | (simp; try omega)); have r1_0_1 := xc1 (w.heap.size) 1 (by first | omega | (simp; try omega)); have f1_0_1 := xf1 (w.heap.size) 1 (by first | omega | (simp; try omega)); have r1_0_2 := xc1 (w.heap.size) 2 (by first | omega | (simp; try omega)); have f1_0_2 := xf1 (w.heap.size) 2 (by first | omega | (simp; try omega)))
        | (go_at_call 32; (with_reducible refine (none_any _ _ _ _).mono ?_); rintro e w2 ⟨rfl, xb2⟩; obtain ⟨xc2, xf2, xl2, xz2⟩ := ext_use xb2; (try simp at xz2); have l2_0 := xl2 (w.heap.size) (by first | omega | (simp; try omega)); have r2_0 := xc2 (w.heap.size) 0 (by first | omega | (simp; try omega)); have f2_0 := xf2 (w.heap.size) 0 (by first | omega | (simp; try omega)); have r2_0_1 := xc2 (w.heap.size) 1 (by first | omega | (simp; try omega)); have f2_0_1 := xf2 (w.heap.size) 1 (by first | omega | (simp; try omega)); have r2_0_2 := xc2 (w.heap.size) 2 (by first | omega | (simp; try omega)); have f2_0_2 := xf2 (w.heap.size) 2 (by first | omega | (simp; try omega)))
        | (go_at_call 55; (with_reducible refine (hrep _).mono ?_); rintro e w3 ⟨rfl, xb3⟩; obtain ⟨xc3, xf3, xl3, xz3⟩ := ext_use xb3; (try simp at xz3); have l3_0 := xl3 (w.heap.size) (by first | omega | (simp; try omega)); have r3_0 := xc3 (w.heap.size) 0 (by first | omega | (simp; try omega)); have f3_0 := xf3 (w.heap.size) 0 (by first | omega | (simp; try omega)); have r3_0_1 := xc3 (w.heap.size) 1 (by first | omega | (simp; try omega)); have f3_0_1 := xf3 (w.heap.size) 1 (by first | omega | (simp; try omega)); have r3_0_2 := xc3 (w.heap.size) 2 (by first | omega | (simp; try omega)); have f3_0_2 := xf3 (w.heap.size) 2 (by first | omega | (simp; try omega)))
       )
      go_quiet (fail)
      clear hUb hz hmax hmz hmz1 hml2 hzk hrep hUl hzl
      go_wp2_with (first
        | (go_at_call 54; (with_reducible refine (hmin _).mono ?_); rintro e w' ⟨rfl, rfl⟩)
       )
      refine bodyPost_ret (v := ttV ⟨M ++ U, 0⟩) ?h rfl ⟨rfl, ?_⟩
      case h => simp [results, Tryz.results23, go_sem]
      repeat (first | exact ext_refl _ | assumption | refine ext_setCell ?_ (by simp; try omega) _ | refine ext_alloc ?_ _ | refine ext_drew ?_ | refine ext_drewN ?_ _ | refine ext_trans ?_ (Aft.use _) | refine ext_trans ?_ (by assumption))
  · obtain ⟨q, rfl⟩ : ∃ q : Nat, exp = q := ⟨exp.toNat, by omega⟩
    have hb : bodyL l q = l ++ zerosL q := by unfold bodyL; rw [if_pos h0]; rfl
    rw [hb]
    clear hb
    obtain ⟨Z, hZ⟩ : ∃ Z, Z = l ++ zerosL q := ⟨_, rfl⟩
    have hZl : Z.length = l.length + q := by rw [hZ]; simp [zerosL]
    have hlg : ∀ w, Calls Tryz.prog 34 #[.string (bs l), .int .i64 (q : Int)] w fun e w' => e = .returned (.string (bs Z)) ∧ Ext w w' := fun w => by rw [hZ]; exact longer_any l q (by omega) (by omega) w
    rw [← hZ]
    clear hZ
    by_cases hu : 65536 < (M ++ Z).length
    · rw [if_pos hu]
      rw [List.length_append] at hu
      go_enter Tryz.func23, Tryz.ntmps23
      go_wp2_with (first
        | (go_at_call 17; (with_reducible refine (hc _).mono ?_); rintro e w1 ⟨rfl, xb1⟩; obtain ⟨xc1, xf1, xl1, xz1⟩ := ext_use xb1; (try simp at xz1); have l1_0 := xl1 (w.heap.size) (by first | omega | (simp; try omega)); have r1_0 := xc1 (w.heap.size) 0 (by first | omega | (simp; try omega)); have f1_0 := xf1 (w.heap.size) 0 (by first | omega | (simp; try omega)); have r1_0_1 := xc1 (w.heap.size) 1 (by first | omega | (simp; try omega)); have f1_0_1 := xf1 (w.heap.size) 1 (by first | omega | (simp; try omega)); have r1_0_2 := xc1 (w.heap.size) 2 (by first | omega | (simp; try omega)); have f1_0_2 := xf1 (w.heap.size) 2 (by first | omega | (simp; try omega)))
        | (go_at_call 32; (with_reducible refine (none_any _ _ _ _).mono ?_); rintro e w2 ⟨rfl, xb2⟩; obtain ⟨xc2, xf2, xl2, xz2⟩ := ext_use xb2; (try simp at xz2); have l2_0 := xl2 (w.heap.size) (by first | omega | (simp; try omega)); have r2_0 := xc2 (w.heap.size) 0 (by first | omega | (simp; try omega)); have f2_0 := xf2 (w.heap.size) 0 (by first | omega | (simp; try omega)); have r2_0_1 := xc2 (w.heap.size) 1 (by first | omega | (simp; try omega)); have f2_0_1 := xf2 (w.heap.size) 1 (by first | omega | (simp; try omega)); have r2_0_2 := xc2 (w.heap.size) 2 (by first | omega | (simp; try omega)); have f2_0_2 := xf2 (w.heap.size) 2 (by first | omega | (simp; try omega)))
        | (go_at_call 34; (with_reducible refine (hlg _).mono ?_); rintro e w3 ⟨rfl, xb3⟩; obtain ⟨xc3, xf3, xl3, xz3⟩ := ext_use xb3; (try simp at xz3); have l3_0 := xl3 (w.heap.size) (by first | omega | (simp; try omega)); have r3_0 := xc3 (w.heap.size) 0 (by first | omega | (simp; try omega)); have f3_0 := xf3 (w.heap.size) 0 (by first | omega | (simp; try omega)); have r3_0_1 := xc3 (w.heap.size) 1 (by first | omega | (simp; try omega)); have f3_0_1 := xf3 (w.heap.size) 1 (by first | omega | (simp; try omega)); have r3_0_2 := xc3 (w.heap.size) 2 (by first | omega | (simp; try omega)); have f3_0_2 := xf3 (w.heap.size) 2 (by first | omega | (simp; try omega)))
        | (go_at_call 54; (with_reducible refine (hmin _).mono ?_); rintro e w' ⟨rfl, rfl⟩)
       )
      refine bodyPost_ret (v := ttV ⟨[], 4⟩) ?h rfl ⟨rfl, ?_⟩
      case h => simp [results, Tryz.results23, go_sem, bs_nil]
      repeat (first | exact ext_refl _ | assumption | refine ext_setCell ?_ (by simp; try omega) _ | refine ext_alloc ?_ _ | refine ext_drew ?_ | refine ext_drewN ?_ _ | refine ext_trans ?_ (Aft.use _) | refine ext_trans ?_ (by assumption))
    · rw [if_neg hu]
      rw [List.length_append] at hu
      go_enter Tryz.func23, Tryz.ntmps23
      go_wp2_with (first
        | (go_at_call 17; (with_reducible refine (hc _).mono ?_); rintro e w1 ⟨rfl, xb1⟩; obtain ⟨xc1, xf1, xl1, xz1⟩ := ext_use xb1; (try simp at xz1); have l1_0 := xl1 (w.heap.size) (by first | omega | (simp; try omega)); have r1_0 := xc1 (w.heap.size) 0 (by first | omega | (simp; try omega)); have f1_0 := xf1 (w.heap.size) 0 (by first | omega | (simp; try omega)); have r1_0_1 := xc1 (w.heap.size) 1 (by first | omega | (simp; try omega)); have f1_0_1 := xf1 (w.heap.size) 1 (by first | omega | (simp; try omega)); have r1_0_2 := xc1 (w.heap.size) 2 (by first | omega | (simp; try omega)); have f1_0_2 := xf1 (w.heap.size) 2 (by first | omega | (simp; try omega)))
        | (go_at_call 32; (with_reducible refine (none_any _ _ _ _).mono ?_); rintro e w2 ⟨rfl, xb2⟩; obtain ⟨xc2, xf2, xl2, xz2⟩ := ext_use xb2; (try simp at xz2); have l2_0 := xl2 (w.heap.size) (by first | omega | (simp; try omega)); have r2_0 := xc2 (w.heap.size) 0 (by first | omega | (simp; try omega)); have f2_0 := xf2 (w.heap.size) 0 (by first | omega | (simp; try omega)); have r2_0_1 := xc2 (w.heap.size) 1 (by first | omega | (simp; try omega)); have f2_0_1 := xf2 (w.heap.size) 1 (by first | omega | (simp; try omega)); have r2_0_2 := xc2 (w.heap.size) 2 (by first | omega | (simp; try omega)); have f2_0_2 := xf2 (w.heap.size) 2 (by first | omega | (simp; try omega)))
        | (go_at_call 34; (with_reducible refine (hlg _).mono ?_); rintro e w3 ⟨rfl, xb3⟩; obtain ⟨xc3, xf3, xl3, xz3⟩ := ext_use xb3; (try simp at xz3); have l3_0 := xl3 (w.heap.size) (by first | omega | (simp; try omega)); have r3_0 := xc3 (w.heap.size) 0 (by first | omega | (simp; try omega)); have f3_0 := xf3 (w.heap.size) 0 (by first | omega | (simp; try omega)); have r3_0_1 := xc3 (w.heap.size) 1 (by first | omega | (simp; try omega)); have f3_0_1 := xf3 (w.heap.size) 1 (by first | omega | (simp; try omega)); have r3_0_2 := xc3 (w.heap.size) 2 (by first | omega | (simp; try omega)); have f3_0_2 := xf3 (w.heap.size) 2 (by first | omega | (simp; try omega)))
        | (go_at_call 54; (with_reducible refine (hmin _).mono ?_); rintro e w' ⟨rfl, rfl⟩)
       )
      refine bodyPost_ret (v := ttV ⟨M ++ Z, 0⟩) ?h rfl ⟨rfl, ?_⟩
      case h => simp [results, Tryz.results23, go_sem]
      repeat (first | exact ext_refl _ | assumption | refine ext_setCell ?_ (by simp; try omega) _ | refine ext_alloc ?_ _ | refine ext_drew ?_ | refine ext_drewN ?_ _ | refine ext_trans ?_ (Aft.use _) | refine ext_trans ?_ (by assumption))
end Go.Proofs.YtcpodagoheopgaaGreatDoor
end
section
/- Plain texts. -/
namespace Go.Proofs.YtcpodagoheopgaaGreatDoor
open Go.RowKit
attribute [local go_sem] bs_size bs_extract bs_get bs_append bs_toList const_get
attribute [local go_sem] sz2 sz3 sz4 sz5 sz6 sz7 sz8
set_option maxHeartbeats 4000000
set_option maxRecDepth 100000
attribute [local irreducible] Calls
attribute [local go_sem] bs_app_lit lit_app_bs
theorem plain_any (d : Dc) (hl : d.dig.length ≤ 9223372036854775807) (he : -9223372036854775808 ≤ d.exp ∧ d.exp ≤ 9223372036854775807) (w : World) :
    Calls Tryz.prog 23 #[dcV d] w fun e w' => e = .returned (ttV (plnR d)) ∧ Ext w w' := by
  have hc := check_any' d hl
  by_cases h1 : dcE d = 0
  · rw [h1] at hc
    by_cases h2 : d.dig.length = 0
    · have R : plnR d = ⟨minusL d.neg ++ [48], 0⟩ := by unfold plnR; rw [if_neg (by simpa using h1), if_pos h2]
      rw [R]
      clear R h1
      obtain ⟨neg, l, exp⟩ := d
      obtain rfl : l = [] := List.eq_nil_of_length_eq_zero h2
      have hml := minus_len neg
      clear h2
      go_enter Tryz.func23, Tryz.ntmps23
      go_wp2_with (first
        | (go_at_call 17; (with_reducible refine (hc _).mono ?_); rintro e w1 ⟨rfl, xb1⟩; obtain ⟨xc1, xf1, xl1, xz1⟩ := ext_use xb1; (try simp at xz1); have l1_0 := xl1 (w.heap.size) (by first | omega | (simp; try omega)); have r1_0 := xc1 (w.heap.size) 0 (by first | omega | (simp; try omega)); have f1_0 := xf1 (w.heap.size) 0 (by first | omega | (simp; try omega)); have r1_0_1 := xc1 (w.heap.size) 1 (by first | omega | (simp; try omega)); have f1_0_1 := xf1 (w.heap.size) 1 (by first | omega | (simp; try omega)); have r1_0_2 := xc1 (w.heap.size) 2 (by first | omega | (simp; try omega)); have f1_0_2 := xf1 (w.heap.size) 2 (by first | omega | (simp; try omega)))
        | (go_at_call 32; (with_reducible refine (none_any _ _ _ _).mono ?_); rintro e w2 ⟨rfl, xb2⟩; obtain ⟨xc2, xf2, xl2, xz2⟩ := ext_use xb2; (try simp at xz2); have l2_0 := xl2 (w.heap.size) (by first | omega | (simp; try omega)); have r2_0 := xc2 (w.heap.size) 0 (by first | omega | (simp; try omega)); have f2_0 := xf2 (w.heap.size) 0 (by first | omega | (simp; try omega)); have r2_0_1 := xc2 (w.heap.size) 1 (by first | omega | (simp; try omega)); have f2_0_1 := xf2 (w.heap.size) 1 (by first | omega | (simp; try omega)); have r2_0_2 := xc2 (w.heap.size) 2 (by first | omega | (simp; try omega)); have f2_0_2 := xf2 (w.heap.size) 2 (by first | omega | (simp; try omega)))
        | (go_at_call 54; (with_reducible refine (minus_any _ _).mono ?_); rintro e w' ⟨rfl, rfl⟩)
       )
      refine bodyPost_ret (v := ttV ⟨minusL neg ++ [48], 0⟩) ?h rfl ⟨rfl, ?_⟩
      case h => simp [results, Tryz.results23, go_sem, bs_nil]
      repeat (first | exact ext_refl _ | assumption | refine ext_setCell ?_ (by simp; try omega) _ | refine ext_alloc ?_ _ | refine ext_drew ?_ | refine ext_drewN ?_ _ | refine ext_trans ?_ (Aft.use _) | refine ext_trans ?_ (by assumption))
    by_cases h3 : 65536 < d.exp ∨ d.exp < -65536
    · have R : plnR d = ⟨[], 4⟩ := by unfold plnR; rw [if_neg (by simpa using h1), if_neg h2, if_pos h3]
      rw [R]
      clear R h1
      obtain ⟨neg, l, exp⟩ := d
      simp only at h2 h3 he
      have hne : l.isEmpty = false := by
        cases l
        · exact absurd rfl h2
        · rfl
      have hne2 : ¬ l = [] := by intro e; rw [e] at h2; exact h2 rfl
      clear h2
      rcases h3 with h3 | h3
      all_goals
        go_enter Tryz.func23, Tryz.ntmps23
        go_wp2_with (first
          | (go_at_call 17; (with_reducible refine (hc _).mono ?_); rintro e w1 ⟨rfl, xb1⟩; obtain ⟨xc1, xf1, xl1, xz1⟩ := ext_use xb1; (try simp at xz1); have l1_0 := xl1 (w.heap.size) (by first | omega | (simp; try omega)); have r1_0 := xc1 (w.heap.size) 0 (by first | omega | (simp; try omega)); have f1_0 := xf1 (w.heap.size) 0 (by first | omega | (simp; try omega)); have r1_0_1 := xc1 (w.heap.size) 1 (by first | omega | (simp; try omega)); have f1_0_1 := xf1 (w.heap.size) 1 (by first | omega | (simp; try omega)); have r1_0_2 := xc1 (w.heap.size) 2 (by first | omega | (simp; try omega)); have f1_0_2 := xf1 (w.heap.size) 2 (by first | omega | (simp; try omega)))
          | (go_at_call 32; (with_reducible refine (none_any _ _ _ _).mono ?_); rintro e w2 ⟨rfl, xb2⟩; obtain ⟨xc2, xf2, xl2, xz2⟩ := ext_use xb2; (try simp at xz2); have l2_0 := xl2 (w.heap.size) (by first | omega | (simp; try omega)); have r2_0 := xc2 (w.heap.size) 0 (by first | omega | (simp; try omega)); have f2_0 := xf2 (w.heap.size) 0 (by first | omega | (simp; try omega)); have r2_0_1 := xc2 (w.heap.size) 1 (by first | omega | (simp; try omega)); have f2_0_1 := xf2 (w.heap.size) 1 (by first | omega | (simp; try omega)); have r2_0_2 := xc2 (w.heap.size) 2 (by first | omega | (simp; try omega)); have f2_0_2 := xf2 (w.heap.size) 2 (by first | omega | (simp; try omega)))
         )
        refine bodyPost_ret (v := ttV ⟨[], 4⟩) ?h rfl ⟨rfl, ?_⟩
        case h => simp [results, Tryz.results23, go_sem, bs_nil]
        repeat (first | exact ext_refl _ | assumption | refine ext_setCell ?_ (by simp; try omega) _ | refine ext_alloc ?_ _ | refine ext_drew ?_ | refine ext_drewN ?_ _ | refine ext_trans ?_ (Aft.use _) | refine ext_trans ?_ (by assumption))
    · have R : plnR d = if 65536 < (minusL d.neg ++ bodyL d.dig d.exp).length then ⟨[], 4⟩ else ⟨minusL d.neg ++ bodyL d.dig d.exp, 0⟩ := by unfold plnR; rw [if_neg (by simpa using h1), if_neg h2, if_neg h3]
      rw [R]
      have hok := dc_ok h1 (by omega)
      obtain ⟨neg, l, exp⟩ := d
      exact plain_some neg l exp hok hc h3 w
  · have R : plnR d = ⟨[], dcE d⟩ := by unfold plnR; rw [if_pos (by simpa using h1)]
    rw [R]
    have hne : (dcE d == 0) = false := by rw [beq_eq_false_iff_ne]; exact h1
    clear R h1
    generalize dcE d = E at hc hne
    obtain ⟨neg, l, exp⟩ := d
    go_enter Tryz.func23, Tryz.ntmps23
    go_wp2_with (first
      | (go_at_call 17; (with_reducible refine (hc _).mono ?_); rintro e w1 ⟨rfl, xb1⟩; obtain ⟨xc1, xf1, xl1, xz1⟩ := ext_use xb1; (try simp at xz1); have l1_0 := xl1 (w.heap.size) (by first | omega | (simp; try omega)); have r1_0 := xc1 (w.heap.size) 0 (by first | omega | (simp; try omega)); have f1_0 := xf1 (w.heap.size) 0 (by first | omega | (simp; try omega)); have r1_0_1 := xc1 (w.heap.size) 1 (by first | omega | (simp; try omega)); have f1_0_1 := xf1 (w.heap.size) 1 (by first | omega | (simp; try omega)); have r1_0_2 := xc1 (w.heap.size) 2 (by first | omega | (simp; try omega)); have f1_0_2 := xf1 (w.heap.size) 2 (by first | omega | (simp; try omega)))
     )
    refine bodyPost_ret (v := ttV ⟨[], E⟩) ?h rfl ⟨rfl, ?_⟩
    case h => simp [results, Tryz.results23, go_sem, bs_nil]
    repeat (first | exact ext_refl _ | assumption | refine ext_setCell ?_ (by simp; try omega) _ | refine ext_alloc ?_ _ | refine ext_drew ?_ | refine ext_drewN ?_ _ | refine ext_trans ?_ (Aft.use _) | refine ext_trans ?_ (by assumption))
end Go.Proofs.YtcpodagoheopgaaGreatDoor
end
section
/- Scientific texts, shifts. -/
namespace Go.Proofs.YtcpodagoheopgaaGreatDoor
open Go.RowKit
attribute [local go_sem] bs_size bs_extract bs_get bs_append bs_toList const_get
attribute [local go_sem] sz2 sz3 sz4 sz5 sz6 sz7 sz8
set_option maxHeartbeats 4000000
set_option maxRecDepth 100000
attribute [local irreducible] Calls
attribute [local go_sem] bs_app_lit lit_app_bs
def sciL (neg : Bool) (l : List UInt8) (exp : Int) : List UInt8 := (minusL neg ++ l.take 1 ++ (if 1 < l.length then 46 :: l.drop 1 else [])) ++ [101] ++ itoaL (exp + l.length - 1)
def sciR (d : Dc) : Tt :=
  if dcE d ≠ 0 then ⟨[], dcE d⟩ else if d.dig.length = 0 then ⟨minusL d.neg ++ [48, 101, 48], 0⟩ else ⟨sciL d.neg d.dig d.exp, 0⟩
structure Dt where
  d : Dc
  e : Int
abbrev dtV (t : Dt) : Value := .tuple #[dcV t.d, .int .i64 t.e]
def shfR (d : Dc) (n : Int) : Dt :=
  if dcE d ≠ 0 then ⟨Dc.zero, dcE d⟩ else if d.dig.length = 0 then ⟨d, 0⟩ else if 2147483648 < n ∨ n < -2147483648 ∨ far (d.exp + n) = true then ⟨Dc.zero, 4⟩ else ⟨⟨d.neg, d.dig, d.exp + n⟩, 0⟩
/-- The library's table of powers stands in memory. -/
abbrev Pw (w : World) : Prop := Lib.TabIs Tryz.prog w "internal/strconv.uint64pow10" .u64 Lib.pow10Tab
theorem pw_ext {w w' : World} (h : Pw w) (he : Ext w w') : Pw w' := by
  unfold Pw Lib.TabIs World.var? at *
  cases hg : Program.globalNamed Tryz.prog "internal/strconv.uint64pow10" with
  | none => rw [hg] at h; cases h
  | some g =>
    rw [hg] at h
    simp only [Option.bind_some] at h ⊢
    have hlt : g < w.heap.size := by
      rcases Nat.lt_or_ge g w.heap.size with h1 | h1
      · exact h1
      · rw [Array.getElem?_eq_none h1] at h; cases h
    rw [he.block g hlt]
    exact h
theorem ext_grow (w : World) (k : Nat) (os : Array Obj) : Ext w (Go.Sort.grow (w.drewN k) os) := by
  refine ⟨rfl, rfl, rfl, by simp [Go.Sort.grow], fun i hi => ?_⟩
  show (w.heap ++ os)[i]? = w.heap[i]?
  rw [Array.getElem?_append_left hi]
theorem itoa_any (n : Int) (hn : -9223372036854775807 ≤ n ∧ n ≤ 9223372036854775807) (w : World) (hp : Hid (Pw w)) : Calls Tryz.prog 56 #[.int .i64 n] w fun e w' => e = .returned (.string (bs (itoaL n))) ∧ Ext w w' := by
  refine (Tryz.strconv_Itoa n (by omega) (by omega) w hp.out).mono ?_
  rintro e w' ⟨he, k, os, rfl⟩
  refine ⟨?_, ext_grow w k os⟩
  rw [he, itoa_eq]
  rfl
theorem itoa_len (n : Int) (hn : -9223372036854775807 ≤ n ∧ n ≤ 9223372036854775807) : (itoaL n).length ≤ 21 := by
  have h1 : (dtext n.natAbs).length ≤ 20 := by
    unfold dtext
    split
    · simp
    · exact digs_len (by omega)
  have h2 := minus_len (decide (n < 0))
  unfold itoaL
  rw [List.length_append]
  omega
theorem sci_some (neg : Bool) (l : List UInt8) (exp : Int) (hok : Ok ⟨neg, l, exp⟩) (hc : ∀ w, Calls Tryz.prog 17 #[dcV ⟨neg, l, exp⟩] w fun e w' => e = .returned (.int .i64 0) ∧ Ext w w') (w : World) (hp : Pw w) :
    Calls Tryz.prog 24 #[dcV ⟨neg, l, exp⟩] w fun e w' => e = .returned (ttV ⟨sciL neg l exp, 0⟩) ∧ Ext w w' := by
  obtain ⟨hl, hpos, hd, hld, he1, he2⟩ := hok
  simp only at hl hpos hd hld he1 he2
  clear hd hld
  obtain ⟨M, hM⟩ : ∃ M, minusL neg = M := ⟨_, rfl⟩
  have hml : M.length ≤ 1 := by rw [← hM]; exact minus_len neg
  have hmin : ∀ w, Calls Tryz.prog 54 #[.bool neg] w fun e w' => e = .returned (.string (bs M)) ∧ w = w' := fun w => by rw [← hM]; exact minus_any neg w
  have hne : l.isEmpty = false := by simp [List.length_pos_iff.1 hpos]
  have hIl := itoa_len (exp + l.length - 1) (by omega)
  have hI : ∀ w', Hid (Ext w w') → Calls Tryz.prog 56 #[.int .i64 (exp + l.length - 1)] w' fun e w'' => e = .returned (.string (bs (itoaL (exp + l.length - 1)))) ∧ Ext w' w'' := fun w' he => itoa_any _ (by omega) w' (Lib.hid (pw_ext hp he.out))
  unfold sciL
  rw [hM]
  generalize itoaL (exp + l.length - 1) = I at hI hIl
  clear hM hp
  rcases Nat.lt_or_ge 1 l.length with h1 | h1
  · rw [if_pos h1]
    go_enter Tryz.func24, Tryz.ntmps24
    go_wp2_with (first
      | (go_at_call 17; (with_reducible refine (hc _).mono ?_); rintro e w1 ⟨rfl, xb1⟩; obtain ⟨xc1, xf1, xl1, xz1⟩ := ext_use xb1; (try simp at xz1); have l1_0 := xl1 (w.heap.size) (by first | omega | (simp; try omega)); have r1_0 := xc1 (w.heap.size) 0 (by first | omega | (simp; try omega)); have f1_0 := xf1 (w.heap.size) 0 (by first | omega | (simp; try omega)); have r1_0_1 := xc1 (w.heap.size) 1 (by first | omega | (simp; try omega)); have f1_0_1 := xf1 (w.heap.size) 1 (by first | omega | (simp; try omega)); have r1_0_2 := xc1 (w.heap.size) 2 (by first | omega | (simp; try omega)); have f1_0_2 := xf1 (w.heap.size) 2 (by first | omega | (simp; try omega)))
      | (go_at_call 32; (with_reducible refine (none_any _ _ _ _).mono ?_); rintro e w2 ⟨rfl, xb2⟩; obtain ⟨xc2, xf2, xl2, xz2⟩ := ext_use xb2; (try simp at xz2); have l2_0 := xl2 (w.heap.size) (by first | omega | (simp; try omega)); have r2_0 := xc2 (w.heap.size) 0 (by first | omega | (simp; try omega)); have f2_0 := xf2 (w.heap.size) 0 (by first | omega | (simp; try omega)); have r2_0_1 := xc2 (w.heap.size) 1 (by first | omega | (simp; try omega)); have f2_0_1 := xf2 (w.heap.size) 1 (by first | omega | (simp; try omega)); have r2_0_2 := xc2 (w.heap.size) 2 (by first | omega | (simp; try omega)); have f2_0_2 := xf2 (w.heap.size) 2 (by first | omega | (simp; try omega)))
     )
    refine wp_aft (by kernel_rfl) (by kernel_rfl) (fun hq hqf => ?_)
    repeat (go_big_quiet_step (first
      | (go_at_call 54; exact aft_same (hmin _))
      ))
    refine wpQuiet_nil ?_
    rintro _ ⟨nq, rfl⟩
    have xl := ext_lt nq.use
    have xz := ext_size nq.use
    try simp at xz
    go_wp2_with (first
      | (go_at_call 56; (with_reducible refine (hI _ (Lib.hid (by (repeat (first | exact ext_refl _ | assumption | refine ext_setCell ?_ (by simp; try omega) _ | refine ext_alloc ?_ _ | refine ext_drew ?_ | refine ext_drewN ?_ _ | refine ext_trans ?_ (Aft.use _) | refine ext_trans ?_ (by assumption)))))).mono ?_); rintro e w4 ⟨rfl, xb4⟩; obtain ⟨xc4, xf4, xl4, xz4⟩ := ext_use xb4; (try simp at xz4); have l4_0 := xl4 (w.heap.size) (by first | omega | (simp; try omega)); have r4_0 := xc4 (w.heap.size) 0 (by first | omega | (simp; try omega)); have f4_0 := xf4 (w.heap.size) 0 (by first | omega | (simp; try omega)); have r4_0_1 := xc4 (w.heap.size) 1 (by first | omega | (simp; try omega)); have f4_0_1 := xf4 (w.heap.size) 1 (by first | omega | (simp; try omega)); have r4_0_2 := xc4 (w.heap.size) 2 (by first | omega | (simp; try omega)); have f4_0_2 := xf4 (w.heap.size) 2 (by first | omega | (simp; try omega)))
     )
    refine bodyPost_ret (v := ttV ⟨M ++ (l.take 1 ++ 46 :: (l.tail ++ 101 :: I)), 0⟩) ?h rfl ⟨by simp, ?_⟩
    case h => simp [results, Tryz.results24, go_sem]
    repeat (first | exact ext_refl _ | assumption | refine ext_setCell ?_ (by simp; try omega) _ | refine ext_alloc ?_ _ | refine ext_drew ?_ | refine ext_drewN ?_ _ | refine ext_trans ?_ (Aft.use _) | refine ext_trans ?_ (by assumption))
  · rw [if_neg (by omega)]
    have h2 : l.length = 1 := by omega
    have e2 : exp + (l.length : Int) - 1 = exp := by omega
    rw [e2] at hI
    clear h1 e2
    go_enter Tryz.func24, Tryz.ntmps24
    go_wp2_with (first
      | (go_at_call 17; (with_reducible refine (hc _).mono ?_); rintro e w1 ⟨rfl, xb1⟩; obtain ⟨xc1, xf1, xl1, xz1⟩ := ext_use xb1; (try simp at xz1); have l1_0 := xl1 (w.heap.size) (by first | omega | (simp; try omega)); have r1_0 := xc1 (w.heap.size) 0 (by first | omega | (simp; try omega)); have f1_0 := xf1 (w.heap.size) 0 (by first | omega | (simp; try omega)); have r1_0_1 := xc1 (w.heap.size) 1 (by first | omega | (simp; try omega)); have f1_0_1 := xf1 (w.heap.size) 1 (by first | omega | (simp; try omega)); have r1_0_2 := xc1 (w.heap.size) 2 (by first | omega | (simp; try omega)); have f1_0_2 := xf1 (w.heap.size) 2 (by first | omega | (simp; try omega)))
      | (go_at_call 32; (with_reducible refine (none_any _ _ _ _).mono ?_); rintro e w2 ⟨rfl, xb2⟩; obtain ⟨xc2, xf2, xl2, xz2⟩ := ext_use xb2; (try simp at xz2); have l2_0 := xl2 (w.heap.size) (by first | omega | (simp; try omega)); have r2_0 := xc2 (w.heap.size) 0 (by first | omega | (simp; try omega)); have f2_0 := xf2 (w.heap.size) 0 (by first | omega | (simp; try omega)); have r2_0_1 := xc2 (w.heap.size) 1 (by first | omega | (simp; try omega)); have f2_0_1 := xf2 (w.heap.size) 1 (by first | omega | (simp; try omega)); have r2_0_2 := xc2 (w.heap.size) 2 (by first | omega | (simp; try omega)); have f2_0_2 := xf2 (w.heap.size) 2 (by first | omega | (simp; try omega)))
     )
    refine wp_aft (by kernel_rfl) (by kernel_rfl) (fun hq hqf => ?_)
    repeat (go_big_quiet_step (first
      | (go_at_call 54; exact aft_same (hmin _))
      ))
    refine wpQuiet_nil ?_
    rintro _ ⟨nq, rfl⟩
    have xl := ext_lt nq.use
    have xz := ext_size nq.use
    try simp at xz
    go_wp2_with (first
      | (go_at_call 56; (with_reducible refine (hI _ (Lib.hid (by (repeat (first | exact ext_refl _ | assumption | refine ext_setCell ?_ (by simp; try omega) _ | refine ext_alloc ?_ _ | refine ext_drew ?_ | refine ext_drewN ?_ _ | refine ext_trans ?_ (Aft.use _) | refine ext_trans ?_ (by assumption)))))).mono ?_); rintro e w4 ⟨rfl, xb4⟩; obtain ⟨xc4, xf4, xl4, xz4⟩ := ext_use xb4; (try simp at xz4); have l4_0 := xl4 (w.heap.size) (by first | omega | (simp; try omega)); have r4_0 := xc4 (w.heap.size) 0 (by first | omega | (simp; try omega)); have f4_0 := xf4 (w.heap.size) 0 (by first | omega | (simp; try omega)); have r4_0_1 := xc4 (w.heap.size) 1 (by first | omega | (simp; try omega)); have f4_0_1 := xf4 (w.heap.size) 1 (by first | omega | (simp; try omega)); have r4_0_2 := xc4 (w.heap.size) 2 (by first | omega | (simp; try omega)); have f4_0_2 := xf4 (w.heap.size) 2 (by first | omega | (simp; try omega)))
     )
    refine bodyPost_ret (v := ttV ⟨M ++ (l.take 1 ++ 101 :: I), 0⟩) ?h rfl ⟨by simp, ?_⟩
    case h => simp [results, Tryz.results24, go_sem]
    repeat (first | exact ext_refl _ | assumption | refine ext_setCell ?_ (by simp; try omega) _ | refine ext_alloc ?_ _ | refine ext_drew ?_ | refine ext_drewN ?_ _ | refine ext_trans ?_ (Aft.use _) | refine ext_trans ?_ (by assumption))
theorem sci_any (d : Dc) (hl : d.dig.length ≤ 9223372036854775807) (he : -9223372036854775808 ≤ d.exp ∧ d.exp ≤ 9223372036854775807) (w : World) (hp : Pw w) :
    Calls Tryz.prog 24 #[dcV d] w fun e w' => e = .returned (ttV (sciR d)) ∧ Ext w w' := by
  have hc := check_any' d hl
  by_cases h1 : dcE d = 0
  · rw [h1] at hc
    by_cases h2 : d.dig.length = 0
    · have R : sciR d = ⟨minusL d.neg ++ [48, 101, 48], 0⟩ := by unfold sciR; rw [if_neg (by simpa using h1), if_pos h2]
      rw [R]
      clear R h1
      obtain ⟨neg, l, exp⟩ := d
      obtain rfl : l = [] := List.eq_nil_of_length_eq_zero h2
      have hml := minus_len neg
      clear h2
      go_enter Tryz.func24, Tryz.ntmps24
      go_wp2_with (first
        | (go_at_call 17; (with_reducible refine (hc _).mono ?_); rintro e w1 ⟨rfl, xb1⟩; obtain ⟨xc1, xf1, xl1, xz1⟩ := ext_use xb1; (try simp at xz1); have l1_0 := xl1 (w.heap.size) (by first | omega | (simp; try omega)); have r1_0 := xc1 (w.heap.size) 0 (by first | omega | (simp; try omega)); have f1_0 := xf1 (w.heap.size) 0 (by first | omega | (simp; try omega)); have r1_0_1 := xc1 (w.heap.size) 1 (by first | omega | (simp; try omega)); have f1_0_1 := xf1 (w.heap.size) 1 (by first | omega | (simp; try omega)); have r1_0_2 := xc1 (w.heap.size) 2 (by first | omega | (simp; try omega)); have f1_0_2 := xf1 (w.heap.size) 2 (by first | omega | (simp; try omega)))
        | (go_at_call 32; (with_reducible refine (none_any _ _ _ _).mono ?_); rintro e w2 ⟨rfl, xb2⟩; obtain ⟨xc2, xf2, xl2, xz2⟩ := ext_use xb2; (try simp at xz2); have l2_0 := xl2 (w.heap.size) (by first | omega | (simp; try omega)); have r2_0 := xc2 (w.heap.size) 0 (by first | omega | (simp; try omega)); have f2_0 := xf2 (w.heap.size) 0 (by first | omega | (simp; try omega)); have r2_0_1 := xc2 (w.heap.size) 1 (by first | omega | (simp; try omega)); have f2_0_1 := xf2 (w.heap.size) 1 (by first | omega | (simp; try omega)); have r2_0_2 := xc2 (w.heap.size) 2 (by first | omega | (simp; try omega)); have f2_0_2 := xf2 (w.heap.size) 2 (by first | omega | (simp; try omega)))
        | (go_at_call 54; (with_reducible refine (minus_any _ _).mono ?_); rintro e w' ⟨rfl, rfl⟩)
       )
      refine bodyPost_ret (v := ttV ⟨minusL neg ++ [48, 101, 48], 0⟩) ?h rfl ⟨rfl, ?_⟩
      case h => simp [results, Tryz.results24, go_sem]
      repeat (first | exact ext_refl _ | assumption | refine ext_setCell ?_ (by simp; try omega) _ | refine ext_alloc ?_ _ | refine ext_drew ?_ | refine ext_drewN ?_ _ | refine ext_trans ?_ (Aft.use _) | refine ext_trans ?_ (by assumption))
    · have R : sciR d = ⟨sciL d.neg d.dig d.exp, 0⟩ := by unfold sciR; rw [if_neg (by simpa using h1), if_neg h2]
      rw [R]
      have hok := dc_ok h1 (by omega)
      obtain ⟨neg, l, exp⟩ := d
      exact sci_some neg l exp hok hc w hp
  · have R : sciR d = ⟨[], dcE d⟩ := by unfold sciR; rw [if_pos (by simpa using h1)]
    rw [R]
    have hne : (dcE d == 0) = false := by rw [beq_eq_false_iff_ne]; exact h1
    clear R h1
    generalize dcE d = E at hc hne
    obtain ⟨neg, l, exp⟩ := d
    go_enter Tryz.func24, Tryz.ntmps24
    go_wp2_with (first
      | (go_at_call 17; (with_reducible refine (hc _).mono ?_); rintro e w1 ⟨rfl, xb1⟩; obtain ⟨xc1, xf1, xl1, xz1⟩ := ext_use xb1; (try simp at xz1); have l1_0 := xl1 (w.heap.size) (by first | omega | (simp; try omega)); have r1_0 := xc1 (w.heap.size) 0 (by first | omega | (simp; try omega)); have f1_0 := xf1 (w.heap.size) 0 (by first | omega | (simp; try omega)); have r1_0_1 := xc1 (w.heap.size) 1 (by first | omega | (simp; try omega)); have f1_0_1 := xf1 (w.heap.size) 1 (by first | omega | (simp; try omega)); have r1_0_2 := xc1 (w.heap.size) 2 (by first | omega | (simp; try omega)); have f1_0_2 := xf1 (w.heap.size) 2 (by first | omega | (simp; try omega)))
     )
    refine bodyPost_ret (v := ttV ⟨[], E⟩) ?h rfl ⟨rfl, ?_⟩
    case h => simp [results, Tryz.results24, go_sem, bs_nil]
    repeat (first | exact ext_refl _ | assumption | refine ext_setCell ?_ (by simp; try omega) _ | refine ext_alloc ?_ _ | refine ext_drew ?_ | refine ext_drewN ?_ _ | refine ext_trans ?_ (Aft.use _) | refine ext_trans ?_ (by assumption))
end Go.Proofs.YtcpodagoheopgaaGreatDoor
end
section
/- Shifts. -/
namespace Go.Proofs.YtcpodagoheopgaaGreatDoor
open Go.RowKit
attribute [local go_sem] bs_size bs_extract bs_get bs_append bs_toList const_get
attribute [local go_sem] sz2 sz3 sz4 sz5 sz6 sz7 sz8
set_option maxHeartbeats 4000000
set_option maxRecDepth 100000
attribute [local irreducible] Calls
attribute [local go_sem] bs_app_lit lit_app_bs
theorem shift_any (d : Dc) (n : Int) (hl : d.dig.length ≤ 9223372036854775807) (he : -9223372036854775808 ≤ d.exp ∧ d.exp ≤ 9223372036854775807) (hn : -9223372036854775808 ≤ n ∧ n ≤ 9223372036854775807) (w : World) :
    Calls Tryz.prog 11 #[dcV d, .int .i64 n] w fun e w' => e = .returned (dtV (shfR d n)) ∧ Ext w w' := by
  have hc := check_any' d hl
  by_cases h1 : dcE d = 0
  · rw [h1] at hc
    by_cases h2 : d.dig.length = 0
    · have R : shfR d n = ⟨d, 0⟩ := by unfold shfR; rw [if_neg (by simpa using h1), if_pos h2]
      rw [R]
      clear R h1
      obtain ⟨neg, l, exp⟩ := d
      obtain rfl : l = [] := List.eq_nil_of_length_eq_zero h2
      clear h2
      go_enter Tryz.func11, Tryz.ntmps11
      go_wp2_with (first
        | (go_at_call 17; (with_reducible refine (hc _).mono ?_); rintro e w1 ⟨rfl, xb1⟩; obtain ⟨xc1, xf1, xl1, xz1⟩ := ext_use xb1; (try simp at xz1); have l1_0 := xl1 (w.heap.size) (by first | omega | (simp; try omega)); have r1_0 := xc1 (w.heap.size) 0 (by first | omega | (simp; try omega)); have f1_0 := xf1 (w.heap.size) 0 (by first | omega | (simp; try omega)); have r1_0_1 := xc1 (w.heap.size) 1 (by first | omega | (simp; try omega)); have f1_0_1 := xf1 (w.heap.size) 1 (by first | omega | (simp; try omega)); have r1_0_2 := xc1 (w.heap.size) 2 (by first | omega | (simp; try omega)); have f1_0_2 := xf1 (w.heap.size) 2 (by first | omega | (simp; try omega)); have l1_1 := xl1 (w.heap.size + 1) (by first | omega | (simp; try omega)); have r1_1 := xc1 (w.heap.size + 1) 0 (by first | omega | (simp; try omega)); have f1_1 := xf1 (w.heap.size + 1) 0 (by first | omega | (simp; try omega)); have r1_1_1 := xc1 (w.heap.size + 1) 1 (by first | omega | (simp; try omega)); have f1_1_1 := xf1 (w.heap.size + 1) 1 (by first | omega | (simp; try omega)); have r1_1_2 := xc1 (w.heap.size + 1) 2 (by first | omega | (simp; try omega)); have f1_1_2 := xf1 (w.heap.size + 1) 2 (by first | omega | (simp; try omega)))
        | (go_at_call 32; (with_reducible refine (none_any _ _ _ _).mono ?_); rintro e w2 ⟨rfl, xb2⟩; obtain ⟨xc2, xf2, xl2, xz2⟩ := ext_use xb2; (try simp at xz2); have l2_0 := xl2 (w.heap.size) (by first | omega | (simp; try omega)); have r2_0 := xc2 (w.heap.size) 0 (by first | omega | (simp; try omega)); have f2_0 := xf2 (w.heap.size) 0 (by first | omega | (simp; try omega)); have r2_0_1 := xc2 (w.heap.size) 1 (by first | omega | (simp; try omega)); have f2_0_1 := xf2 (w.heap.size) 1 (by first | omega | (simp; try omega)); have r2_0_2 := xc2 (w.heap.size) 2 (by first | omega | (simp; try omega)); have f2_0_2 := xf2 (w.heap.size) 2 (by first | omega | (simp; try omega)); have l2_1 := xl2 (w.heap.size + 1) (by first | omega | (simp; try omega)); have r2_1 := xc2 (w.heap.size + 1) 0 (by first | omega | (simp; try omega)); have f2_1 := xf2 (w.heap.size + 1) 0 (by first | omega | (simp; try omega)); have r2_1_1 := xc2 (w.heap.size + 1) 1 (by first | omega | (simp; try omega)); have f2_1_1 := xf2 (w.heap.size + 1) 1 (by first | omega | (simp; try omega)); have r2_1_2 := xc2 (w.heap.size + 1) 2 (by first | omega | (simp; try omega)); have f2_1_2 := xf2 (w.heap.size + 1) 2 (by first | omega | (simp; try omega)))
       )
      refine bodyPost_ret (v := dtV ⟨⟨neg, [], exp⟩, 0⟩) ?h rfl ⟨rfl, ?_⟩
      case h => simp [results, Tryz.results11, go_sem, *, bs_nil]
      repeat (first | exact ext_refl _ | assumption | refine ext_setCell ?_ (by simp; try omega) _ | refine ext_alloc ?_ _ | refine ext_drew ?_ | refine ext_drewN ?_ _ | refine ext_trans ?_ (Aft.use _) | refine ext_trans ?_ (by assumption))
    have hok := dc_ok h1 (by omega)
    have hb := hok.exp
    by_cases h3 : 2147483648 < n ∨ n < -2147483648 ∨ far (d.exp + n) = true
    · have R : shfR d n = ⟨Dc.zero, 4⟩ := by unfold shfR; rw [if_neg (by simpa using h1), if_neg h2, if_pos h3]
      rw [R]
      clear R h1 hok
      obtain ⟨neg, l, exp⟩ := d
      simp only at h2 h3 he hb
      have hne2 : ¬ l = [] := by intro e; rw [e] at h2; exact h2 rfl
      have hne : l.isEmpty = false := by simp [hne2]
      clear h2
      by_cases h4 : 2147483648 < n
      · clear h3
        go_enter Tryz.func11, Tryz.ntmps11
        go_wp2_with (first
        | (go_at_call 17; (with_reducible refine (hc _).mono ?_); rintro e w1 ⟨rfl, xb1⟩; obtain ⟨xc1, xf1, xl1, xz1⟩ := ext_use xb1; (try simp at xz1); have l1_0 := xl1 (w.heap.size) (by first | omega | (simp; try omega)); have r1_0 := xc1 (w.heap.size) 0 (by first | omega | (simp; try omega)); have f1_0 := xf1 (w.heap.size) 0 (by first | omega | (simp; try omega)); have r1_0_1 := xc1 (w.heap.size) 1 (by first | omega | (simp; try omega)); have f1_0_1 := xf1 (w.heap.size) 1 (by first | omega | (simp; try omega)); have r1_0_2 := xc1 (w.heap.size) 2 (by first | omega | (simp; try omega)); have f1_0_2 := xf1 (w.heap.size) 2 (by first | omega | (simp; try omega)); have l1_1 := xl1 (w.heap.size + 1) (by first | omega | (simp; try omega)); have r1_1 := xc1 (w.heap.size + 1) 0 (by first | omega | (simp; try omega)); have f1_1 := xf1 (w.heap.size + 1) 0 (by first | omega | (simp; try omega)); have r1_1_1 := xc1 (w.heap.size + 1) 1 (by first | omega | (simp; try omega)); have f1_1_1 := xf1 (w.heap.size + 1) 1 (by first | omega | (simp; try omega)); have r1_1_2 := xc1 (w.heap.size + 1) 2 (by first | omega | (simp; try omega)); have f1_1_2 := xf1 (w.heap.size + 1) 2 (by first | omega | (simp; try omega)))
        | (go_at_call 32; (with_reducible refine (none_any _ _ _ _).mono ?_); rintro e w2 ⟨rfl, xb2⟩; obtain ⟨xc2, xf2, xl2, xz2⟩ := ext_use xb2; (try simp at xz2); have l2_0 := xl2 (w.heap.size) (by first | omega | (simp; try omega)); have r2_0 := xc2 (w.heap.size) 0 (by first | omega | (simp; try omega)); have f2_0 := xf2 (w.heap.size) 0 (by first | omega | (simp; try omega)); have r2_0_1 := xc2 (w.heap.size) 1 (by first | omega | (simp; try omega)); have f2_0_1 := xf2 (w.heap.size) 1 (by first | omega | (simp; try omega)); have r2_0_2 := xc2 (w.heap.size) 2 (by first | omega | (simp; try omega)); have f2_0_2 := xf2 (w.heap.size) 2 (by first | omega | (simp; try omega)); have l2_1 := xl2 (w.heap.size + 1) (by first | omega | (simp; try omega)); have r2_1 := xc2 (w.heap.size + 1) 0 (by first | omega | (simp; try omega)); have f2_1 := xf2 (w.heap.size + 1) 0 (by first | omega | (simp; try omega)); have r2_1_1 := xc2 (w.heap.size + 1) 1 (by first | omega | (simp; try omega)); have f2_1_1 := xf2 (w.heap.size + 1) 1 (by first | omega | (simp; try omega)); have r2_1_2 := xc2 (w.heap.size + 1) 2 (by first | omega | (simp; try omega)); have f2_1_2 := xf2 (w.heap.size + 1) 2 (by first | omega | (simp; try omega)))
         )
        refine bodyPost_ret (v := dtV ⟨Dc.zero, 4⟩) ?h rfl ⟨rfl, ?_⟩
        case h => simp [results, Tryz.results11, go_sem, *, Dc.zero, bs_nil]
        repeat (first | exact ext_refl _ | assumption | refine ext_setCell ?_ (by simp; try omega) _ | refine ext_alloc ?_ _ | refine ext_drew ?_ | refine ext_drewN ?_ _ | refine ext_trans ?_ (Aft.use _) | refine ext_trans ?_ (by assumption))
      by_cases h5 : n < -2147483648
      · clear h3
        go_enter Tryz.func11, Tryz.ntmps11
        go_wp2_with (first
        | (go_at_call 17; (with_reducible refine (hc _).mono ?_); rintro e w1 ⟨rfl, xb1⟩; obtain ⟨xc1, xf1, xl1, xz1⟩ := ext_use xb1; (try simp at xz1); have l1_0 := xl1 (w.heap.size) (by first | omega | (simp; try omega)); have r1_0 := xc1 (w.heap.size) 0 (by first | omega | (simp; try omega)); have f1_0 := xf1 (w.heap.size) 0 (by first | omega | (simp; try omega)); have r1_0_1 := xc1 (w.heap.size) 1 (by first | omega | (simp; try omega)); have f1_0_1 := xf1 (w.heap.size) 1 (by first | omega | (simp; try omega)); have r1_0_2 := xc1 (w.heap.size) 2 (by first | omega | (simp; try omega)); have f1_0_2 := xf1 (w.heap.size) 2 (by first | omega | (simp; try omega)); have l1_1 := xl1 (w.heap.size + 1) (by first | omega | (simp; try omega)); have r1_1 := xc1 (w.heap.size + 1) 0 (by first | omega | (simp; try omega)); have f1_1 := xf1 (w.heap.size + 1) 0 (by first | omega | (simp; try omega)); have r1_1_1 := xc1 (w.heap.size + 1) 1 (by first | omega | (simp; try omega)); have f1_1_1 := xf1 (w.heap.size + 1) 1 (by first | omega | (simp; try omega)); have r1_1_2 := xc1 (w.heap.size + 1) 2 (by first | omega | (simp; try omega)); have f1_1_2 := xf1 (w.heap.size + 1) 2 (by first | omega | (simp; try omega)))
        | (go_at_call 32; (with_reducible refine (none_any _ _ _ _).mono ?_); rintro e w2 ⟨rfl, xb2⟩; obtain ⟨xc2, xf2, xl2, xz2⟩ := ext_use xb2; (try simp at xz2); have l2_0 := xl2 (w.heap.size) (by first | omega | (simp; try omega)); have r2_0 := xc2 (w.heap.size) 0 (by first | omega | (simp; try omega)); have f2_0 := xf2 (w.heap.size) 0 (by first | omega | (simp; try omega)); have r2_0_1 := xc2 (w.heap.size) 1 (by first | omega | (simp; try omega)); have f2_0_1 := xf2 (w.heap.size) 1 (by first | omega | (simp; try omega)); have r2_0_2 := xc2 (w.heap.size) 2 (by first | omega | (simp; try omega)); have f2_0_2 := xf2 (w.heap.size) 2 (by first | omega | (simp; try omega)); have l2_1 := xl2 (w.heap.size + 1) (by first | omega | (simp; try omega)); have r2_1 := xc2 (w.heap.size + 1) 0 (by first | omega | (simp; try omega)); have f2_1 := xf2 (w.heap.size + 1) 0 (by first | omega | (simp; try omega)); have r2_1_1 := xc2 (w.heap.size + 1) 1 (by first | omega | (simp; try omega)); have f2_1_1 := xf2 (w.heap.size + 1) 1 (by first | omega | (simp; try omega)); have r2_1_2 := xc2 (w.heap.size + 1) 2 (by first | omega | (simp; try omega)); have f2_1_2 := xf2 (w.heap.size + 1) 2 (by first | omega | (simp; try omega)))
         )
        refine bodyPost_ret (v := dtV ⟨Dc.zero, 4⟩) ?h rfl ⟨rfl, ?_⟩
        case h => simp [results, Tryz.results11, go_sem, *, Dc.zero, bs_nil]
        repeat (first | exact ext_refl _ | assumption | refine ext_setCell ?_ (by simp; try omega) _ | refine ext_alloc ?_ _ | refine ext_drew ?_ | refine ext_drewN ?_ _ | refine ext_trans ?_ (Aft.use _) | refine ext_trans ?_ (by assumption))
      have h6 : far (exp + n) = true := by
        rcases h3 with h | h | h
        · exact absurd h h4
        · exact absurd h h5
        · exact h
      clear h3
      go_enter Tryz.func11, Tryz.ntmps11
      go_wp2_with (first
        | (go_at_call 17; (with_reducible refine (hc _).mono ?_); rintro e w1 ⟨rfl, xb1⟩; obtain ⟨xc1, xf1, xl1, xz1⟩ := ext_use xb1; (try simp at xz1); have l1_0 := xl1 (w.heap.size) (by first | omega | (simp; try omega)); have r1_0 := xc1 (w.heap.size) 0 (by first | omega | (simp; try omega)); have f1_0 := xf1 (w.heap.size) 0 (by first | omega | (simp; try omega)); have r1_0_1 := xc1 (w.heap.size) 1 (by first | omega | (simp; try omega)); have f1_0_1 := xf1 (w.heap.size) 1 (by first | omega | (simp; try omega)); have r1_0_2 := xc1 (w.heap.size) 2 (by first | omega | (simp; try omega)); have f1_0_2 := xf1 (w.heap.size) 2 (by first | omega | (simp; try omega)); have l1_1 := xl1 (w.heap.size + 1) (by first | omega | (simp; try omega)); have r1_1 := xc1 (w.heap.size + 1) 0 (by first | omega | (simp; try omega)); have f1_1 := xf1 (w.heap.size + 1) 0 (by first | omega | (simp; try omega)); have r1_1_1 := xc1 (w.heap.size + 1) 1 (by first | omega | (simp; try omega)); have f1_1_1 := xf1 (w.heap.size + 1) 1 (by first | omega | (simp; try omega)); have r1_1_2 := xc1 (w.heap.size + 1) 2 (by first | omega | (simp; try omega)); have f1_1_2 := xf1 (w.heap.size + 1) 2 (by first | omega | (simp; try omega)))
        | (go_at_call 32; (with_reducible refine (none_any _ _ _ _).mono ?_); rintro e w2 ⟨rfl, xb2⟩; obtain ⟨xc2, xf2, xl2, xz2⟩ := ext_use xb2; (try simp at xz2); have l2_0 := xl2 (w.heap.size) (by first | omega | (simp; try omega)); have r2_0 := xc2 (w.heap.size) 0 (by first | omega | (simp; try omega)); have f2_0 := xf2 (w.heap.size) 0 (by first | omega | (simp; try omega)); have r2_0_1 := xc2 (w.heap.size) 1 (by first | omega | (simp; try omega)); have f2_0_1 := xf2 (w.heap.size) 1 (by first | omega | (simp; try omega)); have r2_0_2 := xc2 (w.heap.size) 2 (by first | omega | (simp; try omega)); have f2_0_2 := xf2 (w.heap.size) 2 (by first | omega | (simp; try omega)); have l2_1 := xl2 (w.heap.size + 1) (by first | omega | (simp; try omega)); have r2_1 := xc2 (w.heap.size + 1) 0 (by first | omega | (simp; try omega)); have f2_1 := xf2 (w.heap.size + 1) 0 (by first | omega | (simp; try omega)); have r2_1_1 := xc2 (w.heap.size + 1) 1 (by first | omega | (simp; try omega)); have f2_1_1 := xf2 (w.heap.size + 1) 1 (by first | omega | (simp; try omega)); have r2_1_2 := xc2 (w.heap.size + 1) 2 (by first | omega | (simp; try omega)); have f2_1_2 := xf2 (w.heap.size + 1) 2 (by first | omega | (simp; try omega)))
        | (go_at_call 38; (with_reducible refine (far_any _ _).mono ?_); rintro e w' ⟨rfl, rfl⟩)
       )
      refine bodyPost_ret (v := dtV ⟨Dc.zero, 4⟩) ?h rfl ⟨rfl, ?_⟩
      case h => simp [results, Tryz.results11, go_sem, *, Dc.zero, bs_nil]
      repeat (first | exact ext_refl _ | assumption | refine ext_setCell ?_ (by simp; try omega) _ | refine ext_alloc ?_ _ | refine ext_drew ?_ | refine ext_drewN ?_ _ | refine ext_trans ?_ (Aft.use _) | refine ext_trans ?_ (by assumption))
    · have R : shfR d n = ⟨⟨d.neg, d.dig, d.exp + n⟩, 0⟩ := by unfold shfR; rw [if_neg (by simpa using h1), if_neg h2, if_neg h3]
      rw [R]
      clear R h1 hok
      obtain ⟨neg, l, exp⟩ := d
      simp only at h2 h3 he hb
      have hne2 : ¬ l = [] := by intro e; rw [e] at h2; exact h2 rfl
      have hne : l.isEmpty = false := by simp [hne2]
      have h4 : ¬ 2147483648 < n := fun h => h3 (.inl h)
      have h5 : ¬ n < -2147483648 := fun h => h3 (.inr (.inl h))
      have h6 : far (exp + n) = false := by
        cases hf : far (exp + n)
        · rfl
        · exact absurd (.inr (.inr hf)) h3
      clear h2 h3
      go_enter Tryz.func11, Tryz.ntmps11
      go_wp2_with (first
        | (go_at_call 17; (with_reducible refine (hc _).mono ?_); rintro e w1 ⟨rfl, xb1⟩; obtain ⟨xc1, xf1, xl1, xz1⟩ := ext_use xb1; (try simp at xz1); have l1_0 := xl1 (w.heap.size) (by first | omega | (simp; try omega)); have r1_0 := xc1 (w.heap.size) 0 (by first | omega | (simp; try omega)); have f1_0 := xf1 (w.heap.size) 0 (by first | omega | (simp; try omega)); have r1_0_1 := xc1 (w.heap.size) 1 (by first | omega | (simp; try omega)); have f1_0_1 := xf1 (w.heap.size) 1 (by first | omega | (simp; try omega)); have r1_0_2 := xc1 (w.heap.size) 2 (by first | omega | (simp; try omega)); have f1_0_2 := xf1 (w.heap.size) 2 (by first | omega | (simp; try omega)); have l1_1 := xl1 (w.heap.size + 1) (by first | omega | (simp; try omega)); have r1_1 := xc1 (w.heap.size + 1) 0 (by first | omega | (simp; try omega)); have f1_1 := xf1 (w.heap.size + 1) 0 (by first | omega | (simp; try omega)); have r1_1_1 := xc1 (w.heap.size + 1) 1 (by first | omega | (simp; try omega)); have f1_1_1 := xf1 (w.heap.size + 1) 1 (by first | omega | (simp; try omega)); have r1_1_2 := xc1 (w.heap.size + 1) 2 (by first | omega | (simp; try omega)); have f1_1_2 := xf1 (w.heap.size + 1) 2 (by first | omega | (simp; try omega)))
        | (go_at_call 32; (with_reducible refine (none_any _ _ _ _).mono ?_); rintro e w2 ⟨rfl, xb2⟩; obtain ⟨xc2, xf2, xl2, xz2⟩ := ext_use xb2; (try simp at xz2); have l2_0 := xl2 (w.heap.size) (by first | omega | (simp; try omega)); have r2_0 := xc2 (w.heap.size) 0 (by first | omega | (simp; try omega)); have f2_0 := xf2 (w.heap.size) 0 (by first | omega | (simp; try omega)); have r2_0_1 := xc2 (w.heap.size) 1 (by first | omega | (simp; try omega)); have f2_0_1 := xf2 (w.heap.size) 1 (by first | omega | (simp; try omega)); have r2_0_2 := xc2 (w.heap.size) 2 (by first | omega | (simp; try omega)); have f2_0_2 := xf2 (w.heap.size) 2 (by first | omega | (simp; try omega)); have l2_1 := xl2 (w.heap.size + 1) (by first | omega | (simp; try omega)); have r2_1 := xc2 (w.heap.size + 1) 0 (by first | omega | (simp; try omega)); have f2_1 := xf2 (w.heap.size + 1) 0 (by first | omega | (simp; try omega)); have r2_1_1 := xc2 (w.heap.size + 1) 1 (by first | omega | (simp; try omega)); have f2_1_1 := xf2 (w.heap.size + 1) 1 (by first | omega | (simp; try omega)); have r2_1_2 := xc2 (w.heap.size + 1) 2 (by first | omega | (simp; try omega)); have f2_1_2 := xf2 (w.heap.size + 1) 2 (by first | omega | (simp; try omega)))
        | (go_at_call 38; (with_reducible refine (far_any _ _).mono ?_); rintro e w' ⟨rfl, rfl⟩)
       )
      refine bodyPost_ret (v := dtV ⟨⟨neg, l, exp + n⟩, 0⟩) ?h rfl ⟨rfl, ?_⟩
      case h => simp [results, Tryz.results11, go_sem, *]
      repeat (first | exact ext_refl _ | assumption | refine ext_setCell ?_ (by simp; try omega) _ | refine ext_alloc ?_ _ | refine ext_drew ?_ | refine ext_drewN ?_ _ | refine ext_trans ?_ (Aft.use _) | refine ext_trans ?_ (by assumption))
  · have R : shfR d n = ⟨Dc.zero, dcE d⟩ := by unfold shfR; rw [if_pos (by simpa using h1)]
    rw [R]
    have hne : (dcE d == 0) = false := by rw [beq_eq_false_iff_ne]; exact h1
    clear R h1
    generalize dcE d = E at hc hne
    obtain ⟨neg, l, exp⟩ := d
    go_enter Tryz.func11, Tryz.ntmps11
    go_wp2_with (first
      | (go_at_call 17; (with_reducible refine (hc _).mono ?_); rintro e w1 ⟨rfl, xb1⟩; obtain ⟨xc1, xf1, xl1, xz1⟩ := ext_use xb1; (try simp at xz1); have l1_0 := xl1 (w.heap.size) (by first | omega | (simp; try omega)); have r1_0 := xc1 (w.heap.size) 0 (by first | omega | (simp; try omega)); have f1_0 := xf1 (w.heap.size) 0 (by first | omega | (simp; try omega)); have r1_0_1 := xc1 (w.heap.size) 1 (by first | omega | (simp; try omega)); have f1_0_1 := xf1 (w.heap.size) 1 (by first | omega | (simp; try omega)); have r1_0_2 := xc1 (w.heap.size) 2 (by first | omega | (simp; try omega)); have f1_0_2 := xf1 (w.heap.size) 2 (by first | omega | (simp; try omega)); have l1_1 := xl1 (w.heap.size + 1) (by first | omega | (simp; try omega)); have r1_1 := xc1 (w.heap.size + 1) 0 (by first | omega | (simp; try omega)); have f1_1 := xf1 (w.heap.size + 1) 0 (by first | omega | (simp; try omega)); have r1_1_1 := xc1 (w.heap.size + 1) 1 (by first | omega | (simp; try omega)); have f1_1_1 := xf1 (w.heap.size + 1) 1 (by first | omega | (simp; try omega)); have r1_1_2 := xc1 (w.heap.size + 1) 2 (by first | omega | (simp; try omega)); have f1_1_2 := xf1 (w.heap.size + 1) 2 (by first | omega | (simp; try omega)))
     )
    refine bodyPost_ret (v := dtV ⟨Dc.zero, E⟩) ?h rfl ⟨rfl, ?_⟩
    case h => simp [results, Tryz.results11, go_sem, *, Dc.zero, bs_nil]
    repeat (first | exact ext_refl _ | assumption | refine ext_setCell ?_ (by simp; try omega) _ | refine ext_alloc ?_ _ | refine ext_drew ?_ | refine ext_drewN ?_ _ | refine ext_trans ?_ (Aft.use _) | refine ext_trans ?_ (by assumption))
end Go.Proofs.YtcpodagoheopgaaGreatDoor
end
