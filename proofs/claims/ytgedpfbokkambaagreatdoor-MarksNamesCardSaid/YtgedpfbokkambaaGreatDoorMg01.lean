/- Lemmas of this proof, laid together: DecP, NatP. -/
import Derived.Below
set_option linter.unusedSimpArgs false
set_option linter.unusedVariables false
section
/- Decimals: what the functions come to, in plain lists and numbers. -/
namespace Go.Proofs.YtgedpfbokkambaaGreatDoor
def isD (c : UInt8) : Bool := decide (48 ≤ c.toNat) && decide (c.toNat ≤ 57)
theorem isD_cases (c : UInt8) (h : isD c = false) : c.toNat < 48 ∨ 57 < c.toNat := by
  unfold isD at h; simp at h; omega
theorem isD_yes (c : UInt8) (h : isD c = true) : 48 ≤ c.toNat ∧ c.toNat ≤ 57 := by
  unfold isD at h; simpa using h
def digsB (l : List UInt8) : Bool := l.all isD
def trimL (c : UInt8) (l : List UInt8) : List UInt8 := l.dropWhile (· == c)
def trimR (c : UInt8) (l : List UInt8) : List UInt8 := (trimL c l.reverse).reverse
theorem trimL_nil (c : UInt8) : trimL c [] = [] := rfl
theorem trimL_yes (c : UInt8) (l : List UInt8) (h : 0 < l.length) (hc : l[0] = c) : trimL c l.tail = trimL c l := by
  cases l with
  | nil => simp at h
  | cons a t => simp at hc; subst hc; simp [trimL]
theorem trimL_no (c : UInt8) (l : List UInt8) (h : 0 < l.length) (hc : l[0] ≠ c) : trimL c l = l := by
  cases l with
  | nil => simp at h
  | cons a t => simp at hc; simp [trimL, hc]
theorem snoc_of (l : List UInt8) (h : 0 < l.length) : ∃ t a, l = t ++ [a] :=
  ⟨l.dropLast, l.getLast (by intro h0; subst h0; simp at h), (List.dropLast_concat_getLast _).symm⟩
theorem trimR_yes (c : UInt8) (l : List UInt8) (h : 0 < l.length) (hc : l[l.length - 1] = c) : trimR c (l.take (l.length - 1)) = trimR c l := by
  obtain ⟨t, a, rfl⟩ := snoc_of l h
  simp at hc
  subst hc
  simp [trimR, trimL]
theorem trimR_no (c : UInt8) (l : List UInt8) (h : 0 < l.length) (hc : l[l.length - 1] ≠ c) : trimR c l = l := by
  obtain ⟨t, a, rfl⟩ := snoc_of l h
  simp at hc
  simp [trimR, trimL, hc]
theorem trimL_le (c : UInt8) (l : List UInt8) : (trimL c l).length ≤ l.length := (List.dropWhile_sublist _).length_le
theorem trimR_le (c : UInt8) (l : List UInt8) : (trimR c l).length ≤ l.length := by
  unfold trimR; rw [List.length_reverse]; have := trimL_le c l.reverse; simpa using this
theorem trimL_at (c : UInt8) : ∀ (k : Nat) (l : List UInt8) (hk : k < l.length), (∀ i (h : i < l.length), i < k → l[i] = c) → l[k] ≠ c → trimL c l = l.drop k
  | 0, l, hk, _, hn => by rw [trimL_no c l hk hn]; rfl
  | k + 1, [], hk, _, _ => by simp at hk
  | k + 1, a :: t, hk, hz, hn => by
    have h0 := hz 0 (by simp) (by omega)
    rw [← trimL_yes c (a :: t) (by simp) h0]
    simp only [List.tail_cons, List.drop_succ_cons]
    exact trimL_at c k t (by simpa using hk) (fun i h hi => by have := hz (i + 1) (by simpa using h) (by omega); simpa using this) (by simpa using hn)
theorem trimL_all (c : UInt8) (l : List UInt8) (h : ∀ i (h : i < l.length), l[i] = c) : trimL c l = [] := by
  induction l with
  | nil => rfl
  | cons a t ih =>
    have h0 := h 0 (by simp)
    rw [← trimL_yes c (a :: t) (by simp) h0]
    exact ih (fun i hi => by have := h (i + 1) (by simpa using hi); simpa using this)
theorem trimR_at (c : UInt8) (l : List UInt8) : ∀ (d t : Nat) (ht : t + d = l.length) (h0 : 0 < t), (∀ i (h : i < l.length), t ≤ i → l[i] = c) → l[t - 1] ≠ c → trimR c l = l.take t := by
  intro d t ht h0 hz hn
  have hk : d < l.reverse.length := by simp; omega
  have := trimL_at c d l.reverse hk (fun i h hi => by
    rw [List.getElem_reverse]
    exact hz _ _ (by omega)) (by
    rw [List.getElem_reverse]
    have e : l.length - 1 - d = t - 1 := by omega
    simp only [e]; exact hn)
  unfold trimR
  rw [this, List.drop_reverse, List.reverse_reverse]
  congr 1; omega
theorem trimR_all (c : UInt8) (l : List UInt8) (h : ∀ i (h : i < l.length), l[i] = c) : trimR c l = [] := by
  unfold trimR
  rw [trimL_all c l.reverse (fun i hi => by rw [List.getElem_reverse]; exact h _ _)]
  rfl
def far (n : Int) : Bool := decide (n < -1073741824) || decide (1073741824 < n)
/-- A decimal. -/
structure Dc where
  neg : Bool
  dig : List UInt8
  exp : Int
def Dc.zero : Dc := ⟨false, [], 0⟩
def mkDig (l : List UInt8) : List UInt8 := trimL 48 (trimR 48 l)
def mkN (l : List UInt8) : Int := (l.length : Int) - (trimR 48 l).length
/-- Make: the decimal, the error. -/
def mkE (l : List UInt8) (e : Int) : Int :=
  if 65536 < l.length then 4 else if digsB l = false then 100 else if mkDig l = [] then 0 else
  if 1073741824 < e ∨ e < -2147483648 ∨ far (e + mkN l) = true then 4 else 0
def mkD (neg : Bool) (l : List UInt8) (e : Int) : Dc :=
  if mkE l e = 0 then (if mkDig l = [] then ⟨neg, [], 0⟩ else ⟨neg, mkDig l, e + mkN l⟩) else Dc.zero
/-- The digits between. -/
theorem mk_between (l : List UInt8) (k t : Nat) (hk : k < t) (ht : t ≤ l.length) (hz : ∀ i (h : i < l.length), i < k → l[i] = 48) (hy : ∀ i (h : i < l.length), t ≤ i → l[i] = 48)
    (hn : l[k] ≠ 48) (hm : l[t - 1] ≠ 48) : mkDig l = (l.take t).drop k ∧ mkN l = (l.length : Int) - t := by
  have e : trimR 48 l = l.take t := trimR_at 48 l (l.length - t) t (by omega) (by omega) hy hm
  have hlen : (l.take t).length = t := by simp; omega
  refine ⟨?_, ?_⟩
  · unfold mkDig
    rw [e]
    refine trimL_at 48 k (l.take t) (by omega) (fun i h hi => ?_) ?_
    · rw [List.getElem_take]; exact hz i (by omega) hi
    · rw [List.getElem_take]; exact hn
  · unfold mkN; rw [e, hlen]
theorem mk_none (l : List UInt8) (k : Nat) (hz : ∀ i (h : i < l.length), i < k → l[i] = 48) (hy : ∀ i (h : i < l.length), k ≤ i → l[i] = 48) : mkDig l = [] := by
  have : ∀ i (h : i < l.length), l[i] = 48 := fun i h => by
    rcases Nat.lt_or_ge i k with h1 | h1
    · exact hz i h h1
    · exact hy i h h1
  unfold mkDig
  rw [trimR_all 48 l this]; rfl
end Go.Proofs.YtgedpfbokkambaaGreatDoor
end
section
/- Whole numbers as limbs of 32 bits, the lowest first: plain lists. -/
namespace Go.Proofs.YtgedpfbokkambaaGreatDoor
abbrev Bs : Nat := 4294967296
def val : List Nat → Nat
  | [] => 0
  | x :: t => x + Bs * val t
def Lb (l : List Nat) : Prop := ∀ x ∈ l, x < Bs
theorem val_append (a b : List Nat) : val (a ++ b) = val a + Bs ^ a.length * val b := by
  induction a with
  | nil => simp [val]
  | cons x t ih =>
    simp only [List.cons_append, val, ih, List.length_cons, Nat.pow_succ]
    rw [Nat.mul_add, Nat.add_assoc, ← Nat.mul_assoc, Nat.mul_comm Bs (Bs ^ t.length)]
theorem val_snoc (a : List Nat) (x : Nat) : val (a ++ [x]) = val a + Bs ^ a.length * x := by rw [val_append]; simp [val]
theorem lb_append {a b : List Nat} : Lb (a ++ b) ↔ Lb a ∧ Lb b := by
  unfold Lb; constructor
  · intro h; exact ⟨fun x hx => h x (by simp [hx]), fun x hx => h x (by simp [hx])⟩
  · rintro ⟨h1, h2⟩ x hx
    rcases List.mem_append.1 hx with h | h
    · exact h1 x h
    · exact h2 x h
theorem lb_snoc {a : List Nat} {x : Nat} : Lb (a ++ [x]) ↔ Lb a ∧ x < Bs := by
  rw [lb_append]; unfold Lb; simp
theorem val_lt : ∀ (l : List Nat), Lb l → val l < Bs ^ l.length
  | [], _ => by simp [val]
  | x :: t, h => by
    have h1 := val_lt t (fun y hy => h y (by simp [hy]))
    have h2 := h x (by simp)
    simp only [val, List.length_cons, Nat.pow_succ]
    have : Bs * (val t + 1) ≤ Bs * Bs ^ t.length := Nat.mul_le_mul_left _ h1
    rw [Nat.mul_comm (Bs ^ t.length)]
    rw [Nat.mul_add, Nat.mul_one] at this
    omega
theorem val_take (l : List Nat) (i : Nat) (h : i < l.length) : val (l.take (i + 1)) = val (l.take i) + Bs ^ i * l[i] := by
  rw [List.take_succ_eq_append_getElem h, val_snoc, List.length_take, Nat.min_eq_left (by omega)]
theorem val_replicate (n : Nat) : val (List.replicate n 0) = 0 := by
  induction n with
  | zero => rfl
  | succ n ih => simp [List.replicate_succ, val, ih]
/-- The limbs of a number. -/
def lim (n : Nat) : List Nat := if _h : n = 0 then [] else n % Bs :: lim (n / Bs)
termination_by n
decreasing_by exact Nat.div_lt_self (Nat.pos_of_ne_zero _h) (by decide)
theorem lim_zero : lim 0 = [] := by unfold lim; simp
theorem lim_pos {n : Nat} (h : n ≠ 0) : lim n = n % Bs :: lim (n / Bs) := by rw [lim]; simp [h]
theorem val_lim (n : Nat) : val (lim n) = n := by
  induction n using Nat.strongRecOn with
  | _ n ih =>
    by_cases h : n = 0
    · subst h; rw [lim_zero]; rfl
    · rw [lim_pos h]
      simp only [val]
      rw [ih (n / Bs) (Nat.div_lt_self (Nat.pos_of_ne_zero h) (by decide))]
      exact Nat.mod_add_div n Bs
theorem lb_lim (n : Nat) : Lb (lim n) := by
  induction n using Nat.strongRecOn with
  | _ n ih =>
    by_cases h : n = 0
    · subst h; rw [lim_zero]; intro x hx; cases hx
    · rw [lim_pos h]
      intro x hx
      rcases List.mem_cons.1 hx with rfl | hx
      · exact Nat.mod_lt _ (by decide)
      · exact ih _ (Nat.div_lt_self (Nat.pos_of_ne_zero h) (by decide)) x hx
theorem val_inj : ∀ (a b : List Nat), Lb a → Lb b → a.length = b.length → val a = val b → a = b
  | [], [], _, _, _, _ => rfl
  | [], _ :: _, _, _, h, _ => by simp at h
  | _ :: _, [], _, _, h, _ => by simp at h
  | x :: s, y :: t, ha, hb, hl, hv => by
    simp only [val] at hv
    have hx := ha x (by simp)
    have hy := hb y (by simp)
    have h1 : x = y := by
      have := congrArg (· % Bs) hv
      simp only [Nat.add_mul_mod_self_left] at this
      rwa [Nat.mod_eq_of_lt hx, Nat.mod_eq_of_lt hy] at this
    subst h1
    have h2 : val s = val t := Nat.eq_of_mul_eq_mul_left (by decide : 0 < Bs) (by omega)
    rw [val_inj s t (fun z hz => ha z (by simp [hz])) (fun z hz => hb z (by simp [hz])) (by simpa using hl) h2]
/-- A list whose last limb is not 0 is the limbs of its number. -/
theorem lim_of : ∀ (l : List Nat), Lb l → (l ≠ [] → Bs ^ (l.length - 1) ≤ val l) → l = lim (val l)
  | [], _, _ => by simp [val, lim_zero]
  | x :: t, hb, hp => by
    have hx := hb x (by simp)
    have h1 := hp (by simp)
    have hpos : val (x :: t) ≠ 0 := by
      have : 0 < Bs ^ ((x :: t).length - 1) := Nat.pow_pos (by decide)
      omega
    have hm : val (x :: t) % Bs = x := by simp only [val]; rw [Nat.add_mul_mod_self_left, Nat.mod_eq_of_lt hx]
    have hd : val (x :: t) / Bs = val t := by
      simp only [val]
      rw [Nat.add_mul_div_left _ _ (by decide), Nat.div_eq_of_lt hx]; omega
    rw [lim_pos hpos, hm, hd]
    congr 1
    refine lim_of t (fun y hy => hb y (by simp [hy])) (fun hne => ?_)
    have hlen : 0 < t.length := List.length_pos_iff.2 hne
    simp only [List.length_cons, Nat.add_sub_cancel] at h1
    rw [← hd]
    have e : Bs ^ t.length = Bs ^ (t.length - 1) * Bs := by rw [← Nat.pow_succ]; congr 1; omega
    rw [e] at h1
    exact (Nat.le_div_iff_mul_le (by decide)).2 h1
theorem lim_len {n : Nat} (h : n ≠ 0) : Bs ^ ((lim n).length - 1) ≤ n ∧ 0 < (lim n).length := by
  induction n using Nat.strongRecOn with
  | _ n ih =>
    rw [lim_pos h]
    refine ⟨?_, by simp⟩
    simp only [List.length_cons, Nat.add_sub_cancel]
    by_cases h2 : n / Bs = 0
    · rw [h2, lim_zero]; simp; omega
    · obtain ⟨h3, h4⟩ := ih (n / Bs) (Nat.div_lt_self (Nat.pos_of_ne_zero h) (by decide)) h2
      have e : Bs ^ (lim (n / Bs)).length = Bs ^ ((lim (n / Bs)).length - 1) * Bs := by rw [← Nat.pow_succ]; congr 1; omega
      rw [e]
      exact (Nat.le_div_iff_mul_le (by decide)).1 h3
theorem lim_lt (n : Nat) : n < Bs ^ (lim n).length := by
  have := val_lt (lim n) (lb_lim n)
  rwa [val_lim] at this
theorem lim_nil {n : Nat} : lim n = [] ↔ n = 0 := by
  constructor
  · intro h; have := val_lim n; rw [h] at this; exact this.symm
  · rintro rfl; exact lim_zero
theorem lim_mono {a b : Nat} (h : a ≤ b) : (lim a).length ≤ (lim b).length := by
  by_cases ha : a = 0
  · subst ha; rw [lim_zero]; simp
  · have h1 := (lim_len ha).1
    have h2 := lim_lt b
    rcases Nat.lt_or_ge (lim b).length (lim a).length with h3 | h3
    · have : Bs ^ (lim b).length ≤ Bs ^ ((lim a).length - 1) := Nat.pow_le_pow_right (by decide) (by omega)
      omega
    · exact h3
/-- A list without its limbs 0 at the end. -/
def trimZ (l : List Nat) : List Nat := (l.reverse.dropWhile (· == 0)).reverse
theorem trimZ_snoc (l : List Nat) (x : Nat) : trimZ (l ++ [x]) = if x = 0 then trimZ l else l ++ [x] := by
  unfold trimZ
  by_cases h : x = 0 <;> simp [h]
theorem trimZ_lim (l : List Nat) (hb : Lb l) : trimZ l = lim (val l) := by
  induction hn : l.length generalizing l with
  | zero =>
    obtain rfl : l = [] := List.eq_nil_of_length_eq_zero hn
    simp [trimZ, val, lim_zero]
  | succ n ih =>
    have hne : l ≠ [] := by intro h; subst h; simp at hn
    obtain ⟨t, x, rfl⟩ : ∃ t x, l = t ++ [x] := ⟨l.dropLast, l.getLast hne, (List.dropLast_concat_getLast hne).symm⟩
    rw [trimZ_snoc]
    have hb' := lb_snoc.1 hb
    split
    · rename_i h0
      subst h0
      rw [ih t hb'.1 (by simpa using hn), val_snoc]; simp
    · rename_i h0
      refine lim_of _ hb (fun _ => ?_)
      rw [val_snoc]
      simp only [List.length_append, List.length_cons, List.length_nil, Nat.add_sub_cancel]
      have : Bs ^ t.length * 1 ≤ Bs ^ t.length * x := Nat.mul_le_mul_left _ (Nat.pos_of_ne_zero h0)
      omega
theorem trimZ_prefix (l : List Nat) : ∃ n, n ≤ l.length ∧ trimZ l = l.take n := by
  induction hn : l.length generalizing l with
  | zero =>
    obtain rfl : l = [] := List.eq_nil_of_length_eq_zero hn
    exact ⟨0, by simp, rfl⟩
  | succ n ih =>
    have hne : l ≠ [] := by intro h; subst h; simp at hn
    obtain ⟨t, x, rfl⟩ : ∃ t x, l = t ++ [x] := ⟨l.dropLast, l.getLast hne, (List.dropLast_concat_getLast hne).symm⟩
    rw [trimZ_snoc]
    split
    · obtain ⟨k, hk, he⟩ := ih t (by simpa using hn)
      exact ⟨k, by omega, by rw [he, List.take_append_of_le_length (by simp at hn; omega)]⟩
    · exact ⟨n + 1, by omega, by rw [← hn, List.take_length]⟩
theorem val_take_succ (l : List Nat) (k : Nat) : val (l.take (k + 1)) = val (l.take k) + Bs ^ k * l.getD k 0 := by
  rcases Nat.lt_or_ge k l.length with h | h
  · rw [List.take_succ_eq_append_getElem h, val_snoc, List.length_take, List.getD_eq_getElem?_getD, List.getElem?_eq_getElem h, Nat.min_eq_left (by omega)]; rfl
  · rw [List.take_of_length_le (by omega), List.take_of_length_le h, List.getD_eq_getElem?_getD, List.getElem?_eq_none h]; simp
theorem lb_getD {l : List Nat} (h : Lb l) (k : Nat) : l.getD k 0 < 4294967296 := by
  rcases Nat.lt_or_ge k l.length with h1 | h1
  · rw [List.getD_eq_getElem?_getD, List.getElem?_eq_getElem h1]; exact h _ (List.getElem_mem h1)
  · rw [List.getD_eq_getElem?_getD, List.getElem?_eq_none h1]; decide
/-- One round of a sum by hand. -/
theorem plus_step {os xs ys : List Nat} {k cy x y : Nat} (hl : os.length = k) (hv : val os + Bs ^ k * cy = val (xs.take k) + val (ys.take k)) (hx : xs.getD k 0 = x) (hy : ys.getD k 0 = y) :
    val (os ++ [(x + y + cy) % 4294967296]) + Bs ^ (k + 1) * ((x + y + cy) / 4294967296) = val (xs.take (k + 1)) + val (ys.take (k + 1)) := by
  rw [val_snoc, hl, val_take_succ, val_take_succ, hx, hy, Nat.pow_succ, Nat.mul_assoc, Nat.add_assoc, ← Nat.mul_add]
  have e : (x + y + cy) % 4294967296 + Bs * ((x + y + cy) / 4294967296) = x + y + cy := Nat.mod_add_div _ _
  rw [e, Nat.mul_add, Nat.mul_add]
  omega
theorem getD_ge {l : List Nat} {k : Nat} (h : l.length ≤ k) : l.getD k 0 = 0 := by
  rw [List.getD_eq_getElem?_getD, List.getElem?_eq_none h]; rfl
theorem take_ge {l : List Nat} {k : Nat} (h : l.length ≤ k) : l.take k = l := List.take_of_length_le h
theorem lim_last {v : Nat} (h : v ≠ 0) : (lim v).getD ((lim v).length - 1) 0 ≠ 0 := by
  induction v using Nat.strongRecOn with
  | _ v ih =>
    rw [lim_pos h]
    by_cases h2 : v / Bs = 0
    · rw [h2, lim_zero]
      simp only [List.length_cons, List.length_nil]
      show v % Bs ≠ 0
      have := Nat.mod_add_div v Bs
      rw [h2] at this
      omega
    · have h3 := ih (v / Bs) (Nat.div_lt_self (Nat.pos_of_ne_zero h) (by decide)) h2
      have h4 := (lim_len h2).2
      obtain ⟨k, hk⟩ : ∃ k, (lim (v / Bs)).length = k + 1 := ⟨(lim (v / Bs)).length - 1, by omega⟩
      rw [hk] at h3
      simp only [List.length_cons, hk, Nat.add_sub_cancel, List.getD_cons_succ] at h3 ⊢
      exact h3
/-- The refusal of a number: 4 too many limbs, 10 a limb 0 at its end. -/
def chk (xs : List Nat) : Nat := if 16384 < xs.length then 4 else if 0 < xs.length ∧ xs.getD (xs.length - 1) 0 = 0 then 10 else 0
theorem chk_lim {v : Nat} (h : (lim v).length ≤ 16384) : chk (lim v) = 0 := by
  unfold chk
  rw [if_neg (by omega), if_neg]
  rintro ⟨h1, h2⟩
  by_cases hv : v = 0
  · subst hv; rw [lim_zero] at h1; simp at h1
  · exact lim_last hv h2
theorem chk_zero {xs : List Nat} (hb : Lb xs) (h : chk xs = 0) : xs.length ≤ 16384 ∧ xs = lim (val xs) := by
  unfold chk at h
  split at h
  · cases h
  · split at h
    · cases h
    · rename_i h1 h2
      refine ⟨by omega, ?_⟩
      rw [← trimZ_lim xs hb]
      rcases List.eq_nil_or_concat xs with rfl | ⟨t, x, rfl⟩
      · rfl
      · rw [List.concat_eq_append] at *
        rw [trimZ_snoc, if_neg]
        intro h0
        exact h2 ⟨by simp, by simp [h0]⟩
/-- One round of a quotient by hand, from the highest limb on. -/
theorem over_step {xs os : List Nat} {d j r x : Nat} (_hd : 0 < d) (hj : 0 < j) (hjn : j ≤ xs.length) (hl : os.length = xs.length) (hv : val (xs.drop j) = d * val (os.drop j) + r) (hx : xs.getD (j - 1) 0 = x) :
    val (xs.drop (j - 1)) = d * val ((os.set (j - 1) ((r * 4294967296 + x) / d)).drop (j - 1)) + (r * 4294967296 + x) % d := by
  have h1 : j - 1 < xs.length := by omega
  have e1 : xs.drop (j - 1) = x :: xs.drop j := by
    rw [List.drop_eq_getElem_cons h1, show j - 1 + 1 = j by omega]
    rw [List.getD_eq_getElem?_getD, List.getElem?_eq_getElem h1] at hx
    congr 1
  have h2 : j - 1 < (os.set (j - 1) ((r * 4294967296 + x) / d)).length := by rw [List.length_set]; omega
  have e2 : (os.set (j - 1) ((r * 4294967296 + x) / d)).drop (j - 1) = (r * 4294967296 + x) / d :: os.drop j := by
    rw [List.drop_eq_getElem_cons h2, show j - 1 + 1 = j by omega, List.getElem_set_self, List.drop_set_of_lt (by omega)]
  rw [e1, e2]
  simp only [val]
  rw [hv, Nat.mul_add, Nat.mul_add]
  have h3 := Nat.div_add_mod (r * 4294967296 + x) d
  have h4 : Bs = 4294967296 := rfl
  have h5 : d * (Bs * val (os.drop j)) = Bs * (d * val (os.drop j)) := by rw [← Nat.mul_assoc, Nat.mul_comm d Bs, Nat.mul_assoc]
  rw [h5, h4] at *
  omega
theorem lb_set {l : List Nat} (h : Lb l) (i : Nat) {y : Nat} (hy : y < Bs) : Lb (l.set i y) := by
  intro x hx
  rcases List.mem_or_eq_of_mem_set hx with h1 | h1
  · exact h x h1
  · rw [h1]; exact hy
theorem lb_replicate (n : Nat) : Lb (List.replicate n 0) := by
  intro x hx
  have := (List.mem_replicate.1 hx).2
  rw [this]; decide
theorem val_set : ∀ (l : List Nat) (p z : Nat), p < l.length → val (l.set p z) + Bs ^ p * l.getD p 0 = val l + Bs ^ p * z
  | [], p, z, h => by simp at h
  | x :: t, 0, z, _ => by simp [val]; omega
  | x :: t, p + 1, z, h => by
    have ih := val_set t p z (by simpa using h)
    simp only [List.set_cons_succ, List.getD_cons_succ, val]
    have e : ∀ u, Bs ^ (p + 1) * u = Bs * (Bs ^ p * u) := fun u => by rw [Nat.pow_succ, Nat.mul_comm (Bs ^ p) Bs, Nat.mul_assoc]
    rw [e, e, Nat.add_assoc, Nat.add_assoc, ← Nat.mul_add, ← Nat.mul_add, ih]
theorem getD_set_ne {l : List Nat} {p q z : Nat} (h : p ≠ q) : (l.set p z).getD q 0 = l.getD q 0 := by
  rw [List.getD_eq_getElem?_getD, List.getD_eq_getElem?_getD, List.getElem?_set_ne h]
theorem times_step {os ys : List Nat} {i k cy x y o T : Nat} (hl : i + k < os.length) (hv : val os + Bs ^ (i + k) * cy = T + Bs ^ i * (x * val (ys.take k))) (ho : os.getD (i + k) 0 = o) (hy : ys.getD k 0 = y) :
    val (os.set (i + k) ((x * y + o + cy) % 4294967296)) + Bs ^ (i + (k + 1)) * ((x * y + o + cy) / 4294967296) = T + Bs ^ i * (x * val (ys.take (k + 1))) := by
  have h1 := val_set os (i + k) ((x * y + o + cy) % 4294967296) hl
  have h2 : (x * y + o + cy) % 4294967296 + Bs * ((x * y + o + cy) / 4294967296) = x * y + o + cy := Nat.mod_add_div _ _
  rw [ho] at h1
  rw [val_take_succ, hy]
  have e1 : Bs ^ (i + (k + 1)) * ((x * y + o + cy) / 4294967296) = Bs ^ (i + k) * (Bs * ((x * y + o + cy) / 4294967296)) := by
    rw [← Nat.add_assoc, Nat.pow_succ, Nat.mul_assoc]
  have e2 : Bs ^ (i + k) * ((x * y + o + cy) % 4294967296) + Bs ^ (i + k) * (Bs * ((x * y + o + cy) / 4294967296)) = Bs ^ (i + k) * (x * y) + Bs ^ (i + k) * o + Bs ^ (i + k) * cy := by
    rw [← Nat.mul_add, h2, Nat.mul_add, Nat.mul_add]
  have e3 : Bs ^ i * (x * (val (ys.take k) + Bs ^ k * y)) = Bs ^ i * (x * val (ys.take k)) + Bs ^ (i + k) * (x * y) := by
    rw [Nat.mul_add, Nat.mul_add, Nat.pow_add, Nat.mul_left_comm x, Nat.mul_assoc (Bs ^ i)]
  rw [e1, e3]
  omega
theorem times_last {os xs ys : List Nat} {i m cy x : Nat} (hl : i + m < os.length) (hv : val os + Bs ^ (i + m) * cy = val (xs.take i) * val ys + Bs ^ i * (x * val ys)) (ho : os.getD (i + m) 0 = 0) (hx : xs.getD i 0 = x) :
    val (os.set (i + m) cy) = val (xs.take (i + 1)) * val ys := by
  have h1 := val_set os (i + m) cy hl
  rw [ho, Nat.mul_zero, Nat.add_zero] at h1
  rw [h1, hv, val_take_succ, hx, Nat.add_mul, Nat.mul_assoc]
theorem getD_replicate0 (n p : Nat) : (List.replicate n 0).getD p 0 = 0 := by
  rw [List.getD_eq_getElem?_getD, List.getElem?_replicate]; split <;> rfl
end Go.Proofs.YtgedpfbokkambaaGreatDoor
end
