/- Lemmas of this proof, laid together: BigK0. -/
import Derived.Test.YtnkajjealkggdaaGreatDoorMg15
import Derived.Lib.ItoaNum
import Derived.Shelf.Small.Bits
set_option linter.unusedSimpArgs false
set_option linter.unusedVariables false
section
/- Division of words: the plain part. -/
namespace Go.Proofs.YtnkajjealkggdaaGreatDoor
/-- The zeros ahead of a word's first bit. -/
def lz (x : Nat) : Nat := 32 - Lib.bitLen x
theorem lz_spec {x : Nat} (h0 : x ≠ 0) (h : x < 4294967296) : Lib.bitLen x ≤ 32 ∧ lz x < 32 ∧ 2147483648 ≤ x * 2 ^ lz x ∧ (x + 1) * 2 ^ lz x ≤ 4294967296 := by
  have hb := Lib.bitLenAux_bounds 64 x (by omega) h0
  have hl : Lib.bitLen x ≤ 32 := Lib.bitLen_le x 32 (by omega) (by omega)
  change 1 ≤ Lib.bitLen x ∧ 2 ^ (Lib.bitLen x - 1) ≤ x ∧ x < 2 ^ Lib.bitLen x at hb
  obtain ⟨h1, h2, h3⟩ := hb
  refine ⟨hl, by unfold lz; omega, ?_, ?_⟩
  · have h4 := Nat.mul_le_mul_right (2 ^ lz x) h2
    rw [← Nat.pow_add, show Lib.bitLen x - 1 + lz x = 31 by unfold lz; omega] at h4
    exact h4
  · have h4 := Nat.mul_le_mul_right (2 ^ lz x) (show x + 1 ≤ 2 ^ Lib.bitLen x from h3)
    rw [← Nat.pow_add, show Lib.bitLen x + lz x = 32 by unfold lz; omega] at h4
    exact h4
/-- A divisor, shifted until its first bit is 1. -/
theorem shifted {b m top : Nat} (hm : (lim b).length = m) (h2 : 1 ≤ m) (ht : (lim b).getD (m - 1) 0 = top) : top ≠ 0 ∧ top < 4294967296 ∧ (lim (b * 2 ^ lz top)).length = m ∧ 2147483648 ≤ (lim (b * 2 ^ lz top)).getD (m - 1) 0 := by
  have hb0 : b ≠ 0 := by rintro rfl; rw [lim_zero] at hm; simp at hm; omega
  have ht0 : top ≠ 0 := by have := lim_last hb0; rwa [hm, ht] at this
  have htb : top < 4294967296 := by rw [← ht]; exact lb_getD (lb_lim b) _
  obtain ⟨-, h3, h4, h5⟩ := lz_spec ht0 htb
  have hlt : b < Bs ^ m := by have := lim_lt b; rwa [hm] at this
  obtain ⟨k, rfl⟩ : ∃ k, m = k + 1 := ⟨m - 1, by omega⟩
  simp only [Nat.add_sub_cancel] at ht ⊢
  have hpk : 0 < Bs ^ k := Nat.pow_pos (by decide)
  have hdiv : b / Bs ^ k = top := by
    rw [limb_at, Nat.mod_eq_of_lt] at ht
    · exact ht
    · rw [Nat.div_lt_iff_lt_mul hpk, Nat.mul_comm, ← Nat.pow_succ]; exact hlt
  have hlo : Bs ^ k * top ≤ b := by rw [← hdiv, Nat.mul_comm]; exact Nat.div_mul_le_self _ _
  have hhi : b < Bs ^ k * (top + 1) := by
    rw [← hdiv]; exact Nat.lt_mul_div_succ b hpk
  generalize lz top = s at *
  have h6 : Bs ^ k * 2147483648 ≤ b * 2 ^ s := Nat.le_trans (Nat.mul_le_mul_left _ h4) (by rw [← Nat.mul_assoc]; exact Nat.mul_le_mul_right _ hlo)
  have h7 : b * 2 ^ s < Bs ^ k * Bs := by
    refine Nat.lt_of_lt_of_le (Nat.mul_lt_mul_of_pos_right hhi (Nat.two_pow_pos s)) ?_
    rw [Nat.mul_assoc]; exact Nat.mul_le_mul_left _ h5
  have hq : 2147483648 ≤ b * 2 ^ s / Bs ^ k := by rw [Nat.le_div_iff_mul_le hpk, Nat.mul_comm]; exact h6
  have hq2 : b * 2 ^ s / Bs ^ k < Bs := by rw [Nat.div_lt_iff_lt_mul hpk, Nat.mul_comm Bs]; exact h7
  refine ⟨ht0, htb, ?_, ?_⟩
  · have h8 : (lim (b * 2 ^ s)).length ≤ k + 1 := lim_le (by rw [Nat.pow_succ]; exact h7)
    have h9 : k < (lim (b * 2 ^ s)).length := by
      refine Nat.lt_of_not_le fun h => ?_
      have h10 := Nat.lt_of_lt_of_le (lim_lt (b * 2 ^ s)) (Nat.pow_le_pow_right (by decide) h)
      have h11 : Bs ^ k * 1 ≤ Bs ^ k * 2147483648 := Nat.mul_le_mul_left _ (by omega)
      omega
    omega
  · rw [limb_at, Nat.mod_eq_of_lt hq2]; exact hq
theorem scale_div {a b s : Nat} : a * 2 ^ s / (b * 2 ^ s) = a / b ∧ a * 2 ^ s % (b * 2 ^ s) = a % b * 2 ^ s :=
  ⟨Nat.mul_div_mul_right _ _ (Nat.two_pow_pos s), Nat.mul_mod_mul_right _ _ _⟩
/-- What the division's loop keeps: so many words of the quotient still to come. -/
def DivInv (U V m N t : Nat) (os qs : List Nat) : Prop := Lb os ∧ os.length = N ∧ Lb qs ∧ qs.length + m = N ∧ seg os t m < V ∧ (∀ p, t + m ≤ p → os.getD p 0 = 0) ∧ U = seg os 0 (t + m) + Bs ^ t * (V * val (qs.drop t))
theorem div_start {U V a b s n m : Nat} {os : List Nat} (hU : U = a * 2 ^ s) (hV : V = b * 2 ^ s) (ha : (lim a).length = n) (hb : (lim b).length = m) (hm : 1 ≤ m) (hmn : m ≤ n) (hl : os.length = n + 1) (ho : Lb os) (hv : val os = U) :
    DivInv U V m (n + 1) (n + 1 - m) os (List.replicate (n + 1 - m) 0) := by
  have hb0 : b ≠ 0 := by rintro rfl; rw [lim_zero] at hb; simp at hb; omega
  refine ⟨ho, hl, lb_replicate _, by simp; omega, ?_, fun p hp => getD_ge (by omega), ?_⟩
  · have h1 : Bs ^ (n + 1 - m) * seg os (n + 1 - m) m ≤ U := by
      have := seg_split os 0 (n + 1 - m) m
      rw [Nat.zero_add, show n + 1 - m + m = n + 1 by omega, seg_val _ hl, hv] at this
      omega
    have h2 : U < Bs ^ (n + 1 - m) * V := by
      have h3 : a < Bs ^ n := by have := lim_lt a; rwa [ha] at this
      have h4 := (lim_len hb0).1
      rw [hb] at h4
      have h5 : Bs ^ (n + 1 - m) * Bs ^ (m - 1) = Bs ^ n := by rw [← Nat.pow_add]; congr 1; omega
      have h6 := Nat.mul_le_mul_left (Bs ^ (n + 1 - m)) h4
      rw [h5] at h6
      rw [hU, hV, ← Nat.mul_assoc]
      exact Nat.mul_lt_mul_of_pos_right (Nat.lt_of_lt_of_le h3 h6) (Nat.two_pow_pos s)
    exact Nat.lt_of_mul_lt_mul_left (Nat.lt_of_le_of_lt h1 h2)
  · rw [show n + 1 - m + m = n + 1 by omega, seg_val _ hl, hv, List.drop_eq_nil_of_le (by simp)]
    simp [val]
theorem div_pre {U V m N t : Nat} {os qs : List Nat} (h : DivInv U V m N (t + 1) os qs) : seg os t (m + 1) < Bs * V := by
  obtain ⟨h1, -, -, -, h2, -⟩ := h
  have e := seg_split os t 1 m
  rw [Nat.add_comm 1 m] at e
  have e2 : seg os t 1 = os.getD t 0 := by rw [show 1 = 0 + 1 by rfl, seg_succ, seg_zero]; simp
  rw [e, e2, Nat.pow_one]
  have h3 := lb_getD h1 t
  have h4 := Nat.mul_le_mul_left Bs (show seg os (t + 1) m + 1 ≤ V from h2)
  rw [Nat.mul_succ] at h4
  unfold Bs at *
  omega
theorem div_step {U V m N t : Nat} {os os' qs : List Nat} (h : DivInv U V m N (t + 1) os qs) (hV : V < Bs ^ m) (hV0 : 0 < V) (hl : os'.length = N) (hb : Lb os') (h1 : seg os' t (m + 1) = seg os t (m + 1) % V) (h2 : ∀ p, p < t ∨ t + m + 1 ≤ p → os'.getD p 0 = os.getD p 0) (ht : t < qs.length) :
    DivInv U V m N t os' (qs.set t (seg os t (m + 1) / V)) := by
  have hp := div_pre h
  obtain ⟨k1, k2, k3, k4, k5, k6, k7⟩ := h
  obtain ⟨W, hW⟩ : ∃ W, W = seg os t (m + 1) := ⟨_, rfl⟩
  rw [← hW] at h1 hp ⊢
  have hlt : W % V < V := Nat.mod_lt _ hV0
  have hsp : seg os' t (m + 1) = seg os' t m + Bs ^ m * os'.getD (t + m) 0 := seg_succ _ _ _
  have hz : os'.getD (t + m) 0 = 0 := by
    rcases Nat.eq_zero_or_pos (os'.getD (t + m) 0) with h | h
    · exact h
    · have := Nat.mul_le_mul_left (Bs ^ m) h
      omega
  rw [hz, Nat.mul_zero, Nat.add_zero] at hsp
  have hq : W / V < Bs := by rw [Nat.div_lt_iff_lt_mul hV0]; exact hp
  refine ⟨hb, hl, lb_set k3 _ hq, by simpa using k4, by omega, fun p hp => ?_, ?_⟩
  · rcases Nat.lt_or_ge (t + m) p with h | h
    · rw [h2 p (by omega)]; exact k6 p (by omega)
    · obtain rfl : p = t + m := by omega
      exact hz
  · have e1 : seg os 0 (t + 1 + m) = seg os 0 t + Bs ^ t * W := by
      have := seg_split os 0 t (m + 1)
      rw [Nat.zero_add] at this
      rw [hW, ← this]; congr 1; omega
    have e2 : seg os' 0 (t + m) = seg os 0 t + Bs ^ t * (W % V) := by
      have := seg_split os' 0 t m
      rw [Nat.zero_add] at this
      rw [this, show seg os' t m = W % V by omega, seg_congr (l := os') (r := os) t (fun p hp => h2 _ (by omega))]
    have e3 : (qs.set t (W / V)).drop t = W / V :: qs.drop (t + 1) := by
      rw [List.drop_eq_getElem_cons (by simpa using ht), List.getElem_set_self, List.drop_set_of_lt (by omega)]
    rw [k7, e1, e2, e3, val]
    have e4 : W = V * (W / V) + W % V := (Nat.div_add_mod W V).symm
    have e5 : Bs ^ t * W = Bs ^ t * (V * (W / V)) + Bs ^ t * (W % V) := by rw [← Nat.mul_add, ← e4]
    have e6 : Bs ^ (t + 1) * (V * val (qs.drop (t + 1))) = Bs ^ t * (V * (Bs * val (qs.drop (t + 1)))) := by
      rw [Nat.pow_succ, Nat.mul_assoc, Nat.mul_left_comm Bs V]
    rw [e5, e6, Nat.mul_add, Nat.mul_add]
    omega
theorem div_end {U V m N : Nat} {os qs : List Nat} (h : DivInv U V m N 0 os qs) : val qs = U / V ∧ val (os.take m) = U % V := by
  obtain ⟨k1, k2, k3, k4, k5, k6, k7⟩ := h
  rw [Nat.zero_add, Nat.pow_zero, Nat.one_mul, List.drop_zero] at k7
  have e : val (os.take m) = seg os 0 m := by unfold seg; rw [List.drop_zero]
  rw [e]
  have hV0 : 0 < V := by omega
  constructor
  · rw [k7, Nat.add_mul_div_left _ _ hV0, Nat.div_eq_of_lt k5, Nat.zero_add]
  · rw [k7, Nat.add_mul_mod_self_left, Nat.mod_eq_of_lt k5]
end Go.Proofs.YtnkajjealkggdaaGreatDoor
end
