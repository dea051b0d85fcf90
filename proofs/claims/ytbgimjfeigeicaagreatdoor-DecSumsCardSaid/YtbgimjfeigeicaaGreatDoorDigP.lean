/- Digits as texts: plain lists. -/
import Derived.Test.YtbgimjfeigeicaaGreatDoorDecP
namespace Go.Proofs.YtbgimjfeigeicaaGreatDoor
/-- Digits as a number. -/
def dval (l : List UInt8) : Nat := l.foldl (fun a b => 10 * a + (b.toNat - 48)) 0
theorem dval_snoc (l : List UInt8) (b : UInt8) : dval (l ++ [b]) = 10 * dval l + (b.toNat - 48) := by simp [dval]
theorem snoc_at {α : Type} {n : Nat} (l : List α) (h : l.length = n + 1) : ∃ t x, l = t ++ [x] ∧ t.length = n := by
  have hne : l ≠ [] := by intro e; subst e; simp at h
  refine ⟨l.dropLast, l.getLast hne, (List.dropLast_concat_getLast hne).symm, by simp; omega⟩
theorem dval_append (a b : List UInt8) : dval (a ++ b) = dval a * 10 ^ b.length + dval b := by
  induction hn : b.length generalizing b with
  | zero =>
    obtain rfl : b = [] := List.eq_nil_of_length_eq_zero hn
    simp [dval]
  | succ n ih =>
    obtain ⟨t, x, rfl, ht⟩ := snoc_at b hn
    rw [← List.append_assoc, dval_snoc, dval_snoc, ih t ht, Nat.pow_succ, Nat.mul_add, Nat.mul_comm (10 ^ n) 10, Nat.mul_left_comm]
    omega
theorem dval_lt (l : List UInt8) (h : digsB l = true) : dval l < 10 ^ l.length := by
  induction hn : l.length generalizing l with
  | zero =>
    obtain rfl : l = [] := List.eq_nil_of_length_eq_zero hn
    simp [dval]
  | succ n ih =>
    obtain ⟨t, x, rfl, ht⟩ := snoc_at l hn
    have h2 : digsB t = true ∧ isD x = true := by simpa [digsB] using h
    have h3 := ih t h2.1 ht
    have h4 := isD_yes x h2.2
    rw [dval_snoc, Nat.pow_succ]
    omega
theorem digs_take {l : List UInt8} (h : digsB l = true) (i : Nat) : digsB (l.take i) = true := by
  unfold digsB at *
  rw [List.all_eq_true] at *
  exact fun x hx => h x (List.mem_of_mem_take hx)
theorem digs_drop {l : List UInt8} (h : digsB l = true) (i : Nat) : digsB (l.drop i) = true := by
  unfold digsB at *
  rw [List.all_eq_true] at *
  exact fun x hx => h x (List.mem_of_mem_drop hx)
theorem digs_at {l : List UInt8} (h : digsB l = true) (i : Nat) (hi : i < l.length) : 48 ≤ l[i].toNat ∧ l[i].toNat ≤ 57 := by
  unfold digsB at h
  rw [List.all_eq_true] at h
  exact isD_yes _ (h _ (List.getElem_mem hi))
/-- A number's digits; none of 0. -/
def digs (n : Nat) : List UInt8 := if _h : n = 0 then [] else digs (n / 10) ++ [UInt8.ofNat (48 + n % 10)]
termination_by n
decreasing_by omega
theorem digs_zero : digs 0 = [] := by unfold digs; simp
theorem digs_pos {n : Nat} (h : n ≠ 0) : digs n = digs (n / 10) ++ [UInt8.ofNat (48 + n % 10)] := by rw [digs]; simp [h]
def dtext (n : Nat) : List UInt8 := if n = 0 then [48] else digs n
theorem digs_len {n k : Nat} (h : n < 10 ^ k) : (digs n).length ≤ k := by
  induction k generalizing n with
  | zero =>
    obtain rfl : n = 0 := by simpa using h
    rw [digs_zero]; simp
  | succ k ih =>
    by_cases h0 : n = 0
    · subst h0; rw [digs_zero]; simp
    · rw [digs_pos h0]
      have := ih (n := n / 10) (by rw [Nat.pow_succ] at h; omega)
      simp; omega
theorem ofNat_isD {d : Nat} (h : d < 10) : isD (UInt8.ofNat (48 + d)) = true := by
  have : d = 0 ∨ d = 1 ∨ d = 2 ∨ d = 3 ∨ d = 4 ∨ d = 5 ∨ d = 6 ∨ d = 7 ∨ d = 8 ∨ d = 9 := by omega
  rcases this with rfl | rfl | rfl | rfl | rfl | rfl | rfl | rfl | rfl | rfl <;> decide
theorem digs_digs (n : Nat) : digsB (digs n) = true := by
  induction n using Nat.strongRecOn with
  | _ n ih =>
    by_cases h0 : n = 0
    · subst h0; rw [digs_zero]; rfl
    · rw [digs_pos h0]
      have h1 := ih (n / 10) (by omega)
      have h3 := ofNat_isD (Nat.mod_lt n (by decide : 0 < 10))
      unfold digsB at *
      rw [List.all_append, h1, List.all_cons, h3]
      rfl
theorem dval_digs (n : Nat) : dval (digs n) = n := by
  induction n using Nat.strongRecOn with
  | _ n ih =>
    by_cases h0 : n = 0
    · subst h0; rw [digs_zero]; rfl
    · rw [digs_pos h0, dval_snoc, ih (n / 10) (by omega)]
      have : (UInt8.ofNat (48 + n % 10)).toNat = 48 + n % 10 := by simp; omega
      rw [this]; omega
/-- No nought ahead. -/
def lead (l : List UInt8) : Prop := ∀ x, l.head? = some x → x ≠ 48
theorem dval_pos {l : List UInt8} (hd : digsB l = true) (hl : lead l) (hne : l ≠ []) : 0 < dval l := by
  induction hn : l.length generalizing l with
  | zero => exact absurd (List.eq_nil_of_length_eq_zero hn) hne
  | succ n ih =>
    obtain ⟨t, x, rfl, ht⟩ := snoc_at l hn
    have h2 : digsB t = true ∧ isD x = true := by simpa [digsB] using hd
    have h4 := isD_yes x h2.2
    rw [dval_snoc]
    by_cases h0 : t = []
    · subst h0
      have h5 := hl x rfl
      have : x.toNat ≠ 48 := fun e => h5 (UInt8.toNat_inj.1 e)
      omega
    · have := ih h2.1 (fun y hy => hl y (by rw [List.head?_append]; simp [hy])) h0 ht
      omega
theorem digs_dval {l : List UInt8} (hd : digsB l = true) (hl : lead l) : digs (dval l) = l := by
  induction hn : l.length generalizing l with
  | zero =>
    obtain rfl : l = [] := List.eq_nil_of_length_eq_zero hn
    exact digs_zero
  | succ n ih =>
    have hp := dval_pos hd hl (by intro e; subst e; simp at hn)
    obtain ⟨t, x, rfl, ht⟩ := snoc_at l hn
    have h2 : digsB t = true ∧ isD x = true := by simpa [digsB] using hd
    have h4 := isD_yes x h2.2
    have hlt : lead t := fun y hy => hl y (by rw [List.head?_append]; simp [hy])
    rw [digs_pos (by omega), dval_snoc]
    have e1 : (10 * dval t + (x.toNat - 48)) / 10 = dval t := by omega
    have e2 : (10 * dval t + (x.toNat - 48)) % 10 = x.toNat - 48 := by omega
    rw [e1, e2, ih h2.1 hlt ht]
    have : UInt8.ofNat (48 + (x.toNat - 48)) = x := by
      rw [show 48 + (x.toNat - 48) = x.toNat by omega]; simp
    rw [this]
/-- Digits and one. -/
def nx (l : List UInt8) : List UInt8 := digs (dval l + 1)
theorem dval_nines (k : Nat) : dval (List.replicate k 57) + 1 = 10 ^ k := by
  induction k with
  | zero => rfl
  | succ k ih =>
    rw [List.replicate_succ', dval_snoc, Nat.pow_succ]
    have : (57 : UInt8).toNat - 48 = 9 := rfl
    omega
theorem dval_noughts (k : Nat) : dval (List.replicate k 48) = 0 := by
  induction k with
  | zero => rfl
  | succ k ih => rw [List.replicate_succ', dval_snoc, ih]; rfl
theorem digs_noughts (k : Nat) : digsB (List.replicate k 48) = true := by
  unfold digsB
  rw [List.all_eq_true]
  intro x hx
  rw [(List.mem_replicate.1 hx).2]; decide
/-- All nines: one more digit. -/
theorem nx_all (k : Nat) : nx (List.replicate k 57) = 49 :: List.replicate k 48 := by
  unfold nx
  have e : dval (49 :: List.replicate k 48) = dval (List.replicate k 57) + 1 := by
    rw [dval_nines, show (49 : UInt8) :: List.replicate k 48 = [49] ++ List.replicate k 48 from rfl, dval_append, dval_noughts]
    simp [dval]
  rw [← e]
  refine digs_dval ?_ (fun x hx => by simp at hx; rw [← hx]; decide)
  have := digs_noughts k
  unfold digsB at *
  simp [this]; decide
/-- A digit that is no nine, nines behind it. -/
theorem nx_at (a : List UInt8) (x : UInt8) (k : Nat) (hd : digsB (a ++ [x]) = true) (hl : lead (a ++ [x])) (hx : x ≠ 57) : nx (a ++ [x] ++ List.replicate k 57) = a ++ [UInt8.ofNat (x.toNat + 1)] ++ List.replicate k 48 := by
  unfold nx
  have h2 : digsB a = true ∧ isD x = true := by simpa [digsB] using hd
  have h4 := isD_yes x h2.2
  have h5 : x.toNat ≠ 57 := fun e => hx (UInt8.toNat_inj.1 e)
  have hn : (UInt8.ofNat (x.toNat + 1)).toNat = x.toNat + 1 := by simp; omega
  have h8 : isD (UInt8.ofNat (x.toNat + 1)) = true := by
    have := ofNat_isD (d := x.toNat + 1 - 48) (by omega)
    rwa [show 48 + (x.toNat + 1 - 48) = x.toNat + 1 by omega] at this
  generalize UInt8.ofNat (x.toNat + 1) = z at hn h8
  have e : dval (a ++ [z] ++ List.replicate k 48) = dval (a ++ [x] ++ List.replicate k 57) + 1 := by
    rw [dval_append (a ++ [z]), dval_append (a ++ [x]), dval_noughts, dval_snoc, dval_snoc, hn]
    have := dval_nines k
    simp only [List.length_replicate]
    have e2 : 10 * dval a + (x.toNat + 1 - 48) = 10 * dval a + (x.toNat - 48) + 1 := by omega
    rw [e2, Nat.add_mul]
    omega
  rw [← e]
  refine digs_dval ?_ ?_
  · have h6 := digs_noughts k
    have h7 := h2.1
    unfold digsB at *
    rw [List.all_append, List.all_append, h6, h7, List.all_cons, h8]
    rfl
  · intro y hy
    cases a with
    | nil =>
      simp at hy
      intro e
      rw [e] at hy
      have := congrArg UInt8.toNat hy
      rw [hn] at this
      have : x.toNat + 1 = 48 := this
      omega
    | cons w t => exact hl y (by simpa using hy)
/-- What the text of a number is, of digits. -/
theorem dtext_dval {l : List UInt8} (hd : digsB l = true) (hl : lead l) : dtext (dval l) = if l = [] then [48] else l := by
  unfold dtext
  by_cases h : l = []
  · subst h; rfl
  · have := dval_pos hd hl h
    rw [if_neg (by omega), if_neg h, digs_dval hd hl]
theorem dtext_next (l : List UInt8) : dtext (dval l + 1) = nx l := by
  unfold dtext nx
  rw [if_neg (by omega)]
end Go.Proofs.YtbgimjfeigeicaaGreatDoor
