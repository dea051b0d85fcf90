/- Decimals: what the functions come to, in plain lists and numbers. -/
import Derived.Below
namespace Go.Proofs.YtbgimjfeigeicaaGreatDoor
def isD (c : UInt8) : Bool := decide (48 ≤ c.toNat) && decide (c.toNat ≤ 57)
theorem isD_cases (c : UInt8) (h : isD c = false) : c.toNat < 48 ∨ 57 < c.toNat := by
  unfold isD at h; simp at h; omega
theorem isD_yes (c : UInt8) (h : isD c = true) : 48 ≤ c.toNat ∧ c.toNat ≤ 57 := by
  unfold isD at h; simpa using h
def digsB (l : List UInt8) : Bool := l.all isD
def trimL (c : UInt8) (l : List UInt8) : List UInt8 := l.dropWhile (· == c)
def trimR (c : UInt8) (l : List UInt8) : List UInt8 := (trimL c l.reverse).reverse
theorem trimL_nil (c : UInt8) : trimL c [] = [] := rfl
theorem trimL_yes (c : UInt8) (l : List UInt8) (h : 0 < l.length) (hc : l[0] = c) : trimL c l.tail = trimL c l := by
  cases l with
  | nil => simp at h
  | cons a t => simp at hc; subst hc; simp [trimL]
theorem trimL_no (c : UInt8) (l : List UInt8) (h : 0 < l.length) (hc : l[0] ≠ c) : trimL c l = l := by
  cases l with
  | nil => simp at h
  | cons a t => simp at hc; simp [trimL, hc]
theorem snoc_of (l : List UInt8) (h : 0 < l.length) : ∃ t a, l = t ++ [a] :=
  ⟨l.dropLast, l.getLast (by intro h0; subst h0; simp at h), (List.dropLast_concat_getLast _).symm⟩
theorem trimR_yes (c : UInt8) (l : List UInt8) (h : 0 < l.length) (hc : l[l.length - 1] = c) : trimR c (l.take (l.length - 1)) = trimR c l := by
  obtain ⟨t, a, rfl⟩ := snoc_of l h
  simp at hc
  subst hc
  simp [trimR, trimL]
theorem trimR_no (c : UInt8) (l : List UInt8) (h : 0 < l.length) (hc : l[l.length - 1] ≠ c) : trimR c l = l := by
  obtain ⟨t, a, rfl⟩ := snoc_of l h
  simp at hc
  simp [trimR, trimL, hc]
theorem trimL_le (c : UInt8) (l : List UInt8) : (trimL c l).length ≤ l.length := (List.dropWhile_sublist _).length_le
theorem trimR_le (c : UInt8) (l : List UInt8) : (trimR c l).length ≤ l.length := by
  unfold trimR; rw [List.length_reverse]; have := trimL_le c l.reverse; simpa using this
theorem trimL_at (c : UInt8) : ∀ (k : Nat) (l : List UInt8) (hk : k < l.length), (∀ i (h : i < l.length), i < k → l[i] = c) → l[k] ≠ c → trimL c l = l.drop k
  | 0, l, hk, _, hn => by rw [trimL_no c l hk hn]; rfl
  | k + 1, [], hk, _, _ => by simp at hk
  | k + 1, a :: t, hk, hz, hn => by
    have h0 := hz 0 (by simp) (by omega)
    rw [← trimL_yes c (a :: t) (by simp) h0]
    simp only [List.tail_cons, List.drop_succ_cons]
    exact trimL_at c k t (by simpa using hk) (fun i h hi => by have := hz (i + 1) (by simpa using h) (by omega); simpa using this) (by simpa using hn)
theorem trimL_all (c : UInt8) (l : List UInt8) (h : ∀ i (h : i < l.length), l[i] = c) : trimL c l = [] := by
  induction l with
  | nil => rfl
  | cons a t ih =>
    have h0 := h 0 (by simp)
    rw [← trimL_yes c (a :: t) (by simp) h0]
    exact ih (fun i hi => by have := h (i + 1) (by simpa using hi); simpa using this)
theorem trimR_at (c : UInt8) (l : List UInt8) : ∀ (d t : Nat) (ht : t + d = l.length) (h0 : 0 < t), (∀ i (h : i < l.length), t ≤ i → l[i] = c) → l[t - 1] ≠ c → trimR c l = l.take t := by
  intro d t ht h0 hz hn
  have hk : d < l.reverse.length := by simp; omega
  have := trimL_at c d l.reverse hk (fun i h hi => by
    rw [List.getElem_reverse]
    exact hz _ _ (by omega)) (by
    rw [List.getElem_reverse]
    have e : l.length - 1 - d = t - 1 := by omega
    simp only [e]; exact hn)
  unfold trimR
  rw [this, List.drop_reverse, List.reverse_reverse]
  congr 1; omega
theorem trimR_all (c : UInt8) (l : List UInt8) (h : ∀ i (h : i < l.length), l[i] = c) : trimR c l = [] := by
  unfold trimR
  rw [trimL_all c l.reverse (fun i hi => by rw [List.getElem_reverse]; exact h _ _)]
  rfl
def far (n : Int) : Bool := decide (n < -1073741824) || decide (1073741824 < n)
/-- A decimal. -/
structure Dc where
  neg : Bool
  dig : List UInt8
  exp : Int
def Dc.zero : Dc := ⟨false, [], 0⟩
def mkDig (l : List UInt8) : List UInt8 := trimL 48 (trimR 48 l)
def mkN (l : List UInt8) : Int := (l.length : Int) - (trimR 48 l).length
/-- Make: the decimal, the error. -/
def mkE (l : List UInt8) (e : Int) : Int :=
  if 65536 < l.length then 4 else if digsB l = false then 100 else if mkDig l = [] then 0 else
  if 1073741824 < e ∨ e < -2147483648 ∨ far (e + mkN l) = true then 4 else 0
def mkD (neg : Bool) (l : List UInt8) (e : Int) : Dc :=
  if mkE l e = 0 then (if mkDig l = [] then ⟨neg, [], 0⟩ else ⟨neg, mkDig l, e + mkN l⟩) else Dc.zero
/-- The digits between. -/
theorem mk_between (l : List UInt8) (k t : Nat) (hk : k < t) (ht : t ≤ l.length) (hz : ∀ i (h : i < l.length), i < k → l[i] = 48) (hy : ∀ i (h : i < l.length), t ≤ i → l[i] = 48)
    (hn : l[k] ≠ 48) (hm : l[t - 1] ≠ 48) : mkDig l = (l.take t).drop k ∧ mkN l = (l.length : Int) - t := by
  have e : trimR 48 l = l.take t := trimR_at 48 l (l.length - t) t (by omega) (by omega) hy hm
  have hlen : (l.take t).length = t := by simp; omega
  refine ⟨?_, ?_⟩
  · unfold mkDig
    rw [e]
    refine trimL_at 48 k (l.take t) (by omega) (fun i h hi => ?_) ?_
    · rw [List.getElem_take]; exact hz i (by omega) hi
    · rw [List.getElem_take]; exact hn
  · unfold mkN; rw [e, hlen]
theorem mk_none (l : List UInt8) (k : Nat) (hz : ∀ i (h : i < l.length), i < k → l[i] = 48) (hy : ∀ i (h : i < l.length), k ≤ i → l[i] = 48) : mkDig l = [] := by
  have : ∀ i (h : i < l.length), l[i] = 48 := fun i h => by
    rcases Nat.lt_or_ge i k with h1 | h1
    · exact hz i h h1
    · exact hy i h h1
  unfold mkDig
  rw [trimR_all 48 l this]; rfl
end Go.Proofs.YtbgimjfeigeicaaGreatDoor
