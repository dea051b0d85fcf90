/- Lemmas of this proof, laid together: NatP, NatQ, DecP, DigP, BigI. -/
import Derived.Below
set_option linter.unusedSimpArgs false
set_option linter.unusedVariables false
section
/- Whole numbers as limbs of 32 bits, the lowest first: plain lists. -/
namespace Go.Proofs.YtnkajjealkggdaaGreatDoor
abbrev Bs : Nat := 4294967296
def val : List Nat → Nat
  | [] => 0
  | x :: t => x + Bs * val t
def Lb (l : List Nat) : Prop := ∀ x ∈ l, x < Bs
theorem val_append (a b : List Nat) : val (a ++ b) = val a + Bs ^ a.length * val b := by
  induction a with
  | nil => simp [val]
  | cons x t ih =>
    simp only [List.cons_append, val, ih, List.length_cons, Nat.pow_succ]
    rw [Nat.mul_add, Nat.add_assoc, ← Nat.mul_assoc, Nat.mul_comm Bs (Bs ^ t.length)]
theorem val_snoc (a : List Nat) (x : Nat) : val (a ++ [x]) = val a + Bs ^ a.length * x := by rw [val_append]; simp [val]
theorem lb_append {a b : List Nat} : Lb (a ++ b) ↔ Lb a ∧ Lb b := by
  unfold Lb; constructor
  · intro h; exact ⟨fun x hx => h x (by simp [hx]), fun x hx => h x (by simp [hx])⟩
  · rintro ⟨h1, h2⟩ x hx
    rcases List.mem_append.1 hx with h | h
    · exact h1 x h
    · exact h2 x h
theorem lb_snoc {a : List Nat} {x : Nat} : Lb (a ++ [x]) ↔ Lb a ∧ x < Bs := by
  rw [lb_append]; unfold Lb; simp
theorem val_lt : ∀ (l : List Nat), Lb l → val l < Bs ^ l.length
  | [], _ => by simp [val]
  | x :: t, h => by
    have h1 := val_lt t (fun y hy => h y (by simp [hy]))
    have h2 := h x (by simp)
    simp only [val, List.length_cons, Nat.pow_succ]
    have : Bs * (val t + 1) ≤ Bs * Bs ^ t.length := Nat.mul_le_mul_left _ h1
    rw [Nat.mul_comm (Bs ^ t.length)]
    rw [Nat.mul_add, Nat.mul_one] at this
    omega
theorem val_replicate (n : Nat) : val (List.replicate n 0) = 0 := by
  induction n with
  | zero => rfl
  | succ n ih => simp [List.replicate_succ, val, ih]
/-- The limbs of a number. -/
def lim (n : Nat) : List Nat := if _h : n = 0 then [] else n % Bs :: lim (n / Bs)
termination_by n
decreasing_by exact Nat.div_lt_self (Nat.pos_of_ne_zero _h) (by decide)
theorem lim_zero : lim 0 = [] := by unfold lim; simp
theorem lim_pos {n : Nat} (h : n ≠ 0) : lim n = n % Bs :: lim (n / Bs) := by rw [lim]; simp [h]
theorem val_lim (n : Nat) : val (lim n) = n := by
  induction n using Nat.strongRecOn with
  | _ n ih =>
    by_cases h : n = 0
    · subst h; rw [lim_zero]; rfl
    · rw [lim_pos h]
      simp only [val]
      rw [ih (n / Bs) (Nat.div_lt_self (Nat.pos_of_ne_zero h) (by decide))]
      exact Nat.mod_add_div n Bs
theorem lb_lim (n : Nat) : Lb (lim n) := by
  induction n using Nat.strongRecOn with
  | _ n ih =>
    by_cases h : n = 0
    · subst h; rw [lim_zero]; intro x hx; cases hx
    · rw [lim_pos h]
      intro x hx
      rcases List.mem_cons.1 hx with rfl | hx
      · exact Nat.mod_lt _ (by decide)
      · exact ih _ (Nat.div_lt_self (Nat.pos_of_ne_zero h) (by decide)) x hx
theorem val_inj : ∀ (a b : List Nat), Lb a → Lb b → a.length = b.length → val a = val b → a = b
  | [], [], _, _, _, _ => rfl
  | [], _ :: _, _, _, h, _ => by simp at h
  | _ :: _, [], _, _, h, _ => by simp at h
  | x :: s, y :: t, ha, hb, hl, hv => by
    simp only [val] at hv
    have hx := ha x (by simp)
    have hy := hb y (by simp)
    have h1 : x = y := by
      have := congrArg (· % Bs) hv
      simp only [Nat.add_mul_mod_self_left] at this
      rwa [Nat.mod_eq_of_lt hx, Nat.mod_eq_of_lt hy] at this
    subst h1
    have h2 : val s = val t := Nat.eq_of_mul_eq_mul_left (by decide : 0 < Bs) (by omega)
    rw [val_inj s t (fun z hz => ha z (by simp [hz])) (fun z hz => hb z (by simp [hz])) (by simpa using hl) h2]
/-- A list whose last limb is not 0 is the limbs of its number. -/
theorem lim_of : ∀ (l : List Nat), Lb l → (l ≠ [] → Bs ^ (l.length - 1) ≤ val l) → l = lim (val l)
  | [], _, _ => by simp [val, lim_zero]
  | x :: t, hb, hp => by
    have hx := hb x (by simp)
    have h1 := hp (by simp)
    have hpos : val (x :: t) ≠ 0 := by
      have : 0 < Bs ^ ((x :: t).length - 1) := Nat.pow_pos (by decide)
      omega
    have hm : val (x :: t) % Bs = x := by simp only [val]; rw [Nat.add_mul_mod_self_left, Nat.mod_eq_of_lt hx]
    have hd : val (x :: t) / Bs = val t := by
      simp only [val]
      rw [Nat.add_mul_div_left _ _ (by decide), Nat.div_eq_of_lt hx]; omega
    rw [lim_pos hpos, hm, hd]
    congr 1
    refine lim_of t (fun y hy => hb y (by simp [hy])) (fun hne => ?_)
    have hlen : 0 < t.length := List.length_pos_iff.2 hne
    simp only [List.length_cons, Nat.add_sub_cancel] at h1
    rw [← hd]
    have e : Bs ^ t.length = Bs ^ (t.length - 1) * Bs := by rw [← Nat.pow_succ]; congr 1; omega
    rw [e] at h1
    exact (Nat.le_div_iff_mul_le (by decide)).2 h1
theorem lim_len {n : Nat} (h : n ≠ 0) : Bs ^ ((lim n).length - 1) ≤ n ∧ 0 < (lim n).length := by
  induction n using Nat.strongRecOn with
  | _ n ih =>
    rw [lim_pos h]
    refine ⟨?_, by simp⟩
    simp only [List.length_cons, Nat.add_sub_cancel]
    by_cases h2 : n / Bs = 0
    · rw [h2, lim_zero]; simp; omega
    · obtain ⟨h3, h4⟩ := ih (n / Bs) (Nat.div_lt_self (Nat.pos_of_ne_zero h) (by decide)) h2
      have e : Bs ^ (lim (n / Bs)).length = Bs ^ ((lim (n / Bs)).length - 1) * Bs := by rw [← Nat.pow_succ]; congr 1; omega
      rw [e]
      exact (Nat.le_div_iff_mul_le (by decide)).1 h3
theorem lim_lt (n : Nat) : n < Bs ^ (lim n).length := by
  have := val_lt (lim n) (lb_lim n)
  rwa [val_lim] at this
theorem lim_nil {n : Nat} : lim n = [] ↔ n = 0 := by
  constructor
  · intro h; have := val_lim n; rw [h] at this; exact this.symm
  · rintro rfl; exact lim_zero
theorem lim_mono {a b : Nat} (h : a ≤ b) : (lim a).length ≤ (lim b).length := by
  by_cases ha : a = 0
  · subst ha; rw [lim_zero]; simp
  · have h1 := (lim_len ha).1
    have h2 := lim_lt b
    rcases Nat.lt_or_ge (lim b).length (lim a).length with h3 | h3
    · have : Bs ^ (lim b).length ≤ Bs ^ ((lim a).length - 1) := Nat.pow_le_pow_right (by decide) (by omega)
      omega
    · exact h3
/-- A list without its limbs 0 at the end. -/
def trimZ (l : List Nat) : List Nat := (l.reverse.dropWhile (· == 0)).reverse
theorem trimZ_snoc (l : List Nat) (x : Nat) : trimZ (l ++ [x]) = if x = 0 then trimZ l else l ++ [x] := by
  unfold trimZ
  by_cases h : x = 0 <;> simp [h]
theorem trimZ_lim (l : List Nat) (hb : Lb l) : trimZ l = lim (val l) := by
  induction hn : l.length generalizing l with
  | zero =>
    obtain rfl : l = [] := List.eq_nil_of_length_eq_zero hn
    simp [trimZ, val, lim_zero]
  | succ n ih =>
    have hne : l ≠ [] := by intro h; subst h; simp at hn
    obtain ⟨t, x, rfl⟩ : ∃ t x, l = t ++ [x] := ⟨l.dropLast, l.getLast hne, (List.dropLast_concat_getLast hne).symm⟩
    rw [trimZ_snoc]
    have hb' := lb_snoc.1 hb
    split
    · rename_i h0
      subst h0
      rw [ih t hb'.1 (by simpa using hn), val_snoc]; simp
    · rename_i h0
      refine lim_of _ hb (fun _ => ?_)
      rw [val_snoc]
      simp only [List.length_append, List.length_cons, List.length_nil, Nat.add_sub_cancel]
      have : Bs ^ t.length * 1 ≤ Bs ^ t.length * x := Nat.mul_le_mul_left _ (Nat.pos_of_ne_zero h0)
      omega
theorem trimZ_prefix (l : List Nat) : ∃ n, n ≤ l.length ∧ trimZ l = l.take n := by
  induction hn : l.length generalizing l with
  | zero =>
    obtain rfl : l = [] := List.eq_nil_of_length_eq_zero hn
    exact ⟨0, by simp, rfl⟩
  | succ n ih =>
    have hne : l ≠ [] := by intro h; subst h; simp at hn
    obtain ⟨t, x, rfl⟩ : ∃ t x, l = t ++ [x] := ⟨l.dropLast, l.getLast hne, (List.dropLast_concat_getLast hne).symm⟩
    rw [trimZ_snoc]
    split
    · obtain ⟨k, hk, he⟩ := ih t (by simpa using hn)
      exact ⟨k, by omega, by rw [he, List.take_append_of_le_length (by simp at hn; omega)]⟩
    · exact ⟨n + 1, by omega, by rw [← hn, List.take_length]⟩
theorem val_take_succ (l : List Nat) (k : Nat) : val (l.take (k + 1)) = val (l.take k) + Bs ^ k * l.getD k 0 := by
  rcases Nat.lt_or_ge k l.length with h | h
  · rw [List.take_succ_eq_append_getElem h, val_snoc, List.length_take, List.getD_eq_getElem?_getD, List.getElem?_eq_getElem h, Nat.min_eq_left (by omega)]; rfl
  · rw [List.take_of_length_le (by omega), List.take_of_length_le h, List.getD_eq_getElem?_getD, List.getElem?_eq_none h]; simp
theorem lb_getD {l : List Nat} (h : Lb l) (k : Nat) : l.getD k 0 < 4294967296 := by
  rcases Nat.lt_or_ge k l.length with h1 | h1
  · rw [List.getD_eq_getElem?_getD, List.getElem?_eq_getElem h1]; exact h _ (List.getElem_mem h1)
  · rw [List.getD_eq_getElem?_getD, List.getElem?_eq_none h1]; decide
theorem getD_ge {l : List Nat} {k : Nat} (h : l.length ≤ k) : l.getD k 0 = 0 := by
  rw [List.getD_eq_getElem?_getD, List.getElem?_eq_none h]; rfl
theorem take_ge {l : List Nat} {k : Nat} (h : l.length ≤ k) : l.take k = l := List.take_of_length_le h
theorem lim_last {v : Nat} (h : v ≠ 0) : (lim v).getD ((lim v).length - 1) 0 ≠ 0 := by
  induction v using Nat.strongRecOn with
  | _ v ih =>
    rw [lim_pos h]
    by_cases h2 : v / Bs = 0
    · rw [h2, lim_zero]
      simp only [List.length_cons, List.length_nil]
      show v % Bs ≠ 0
      have := Nat.mod_add_div v Bs
      rw [h2] at this
      omega
    · have h3 := ih (v / Bs) (Nat.div_lt_self (Nat.pos_of_ne_zero h) (by decide)) h2
      have h4 := (lim_len h2).2
      obtain ⟨k, hk⟩ : ∃ k, (lim (v / Bs)).length = k + 1 := ⟨(lim (v / Bs)).length - 1, by omega⟩
      rw [hk] at h3
      simp only [List.length_cons, hk, Nat.add_sub_cancel, List.getD_cons_succ] at h3 ⊢
      exact h3
/-- The refusal of a number: 4 too many limbs, 10 a limb 0 at its end. -/
def chk (xs : List Nat) : Nat := if 16384 < xs.length then 4 else if 0 < xs.length ∧ xs.getD (xs.length - 1) 0 = 0 then 10 else 0
theorem chk_zero {xs : List Nat} (hb : Lb xs) (h : chk xs = 0) : xs.length ≤ 16384 ∧ xs = lim (val xs) := by
  unfold chk at h
  split at h
  · cases h
  · split at h
    · cases h
    · rename_i h1 h2
      refine ⟨by omega, ?_⟩
      rw [← trimZ_lim xs hb]
      rcases List.eq_nil_or_concat xs with rfl | ⟨t, x, rfl⟩
      · rfl
      · rw [List.concat_eq_append] at *
        rw [trimZ_snoc, if_neg]
        intro h0
        exact h2 ⟨by simp, by simp [h0]⟩
/-- One round of a quotient by hand, from the highest limb on. -/
theorem over_step {xs os : List Nat} {d j r x : Nat} (_hd : 0 < d) (hj : 0 < j) (hjn : j ≤ xs.length) (hl : os.length = xs.length) (hv : val (xs.drop j) = d * val (os.drop j) + r) (hx : xs.getD (j - 1) 0 = x) :
    val (xs.drop (j - 1)) = d * val ((os.set (j - 1) ((r * 4294967296 + x) / d)).drop (j - 1)) + (r * 4294967296 + x) % d := by
  have h1 : j - 1 < xs.length := by omega
  have e1 : xs.drop (j - 1) = x :: xs.drop j := by
    rw [List.drop_eq_getElem_cons h1, show j - 1 + 1 = j by omega]
    rw [List.getD_eq_getElem?_getD, List.getElem?_eq_getElem h1] at hx
    congr 1
  have h2 : j - 1 < (os.set (j - 1) ((r * 4294967296 + x) / d)).length := by rw [List.length_set]; omega
  have e2 : (os.set (j - 1) ((r * 4294967296 + x) / d)).drop (j - 1) = (r * 4294967296 + x) / d :: os.drop j := by
    rw [List.drop_eq_getElem_cons h2, show j - 1 + 1 = j by omega, List.getElem_set_self, List.drop_set_of_lt (by omega)]
  rw [e1, e2]
  simp only [val]
  rw [hv, Nat.mul_add, Nat.mul_add]
  have h3 := Nat.div_add_mod (r * 4294967296 + x) d
  have h4 : Bs = 4294967296 := rfl
  have h5 : d * (Bs * val (os.drop j)) = Bs * (d * val (os.drop j)) := by rw [← Nat.mul_assoc, Nat.mul_comm d Bs, Nat.mul_assoc]
  rw [h5, h4] at *
  omega
theorem lb_set {l : List Nat} (h : Lb l) (i : Nat) {y : Nat} (hy : y < Bs) : Lb (l.set i y) := by
  intro x hx
  rcases List.mem_or_eq_of_mem_set hx with h1 | h1
  · exact h x h1
  · rw [h1]; exact hy
theorem lb_replicate (n : Nat) : Lb (List.replicate n 0) := by
  intro x hx
  have := (List.mem_replicate.1 hx).2
  rw [this]; decide
theorem val_set : ∀ (l : List Nat) (p z : Nat), p < l.length → val (l.set p z) + Bs ^ p * l.getD p 0 = val l + Bs ^ p * z
  | [], p, z, h => by simp at h
  | x :: t, 0, z, _ => by simp [val]; omega
  | x :: t, p + 1, z, h => by
    have ih := val_set t p z (by simpa using h)
    simp only [List.set_cons_succ, List.getD_cons_succ, val]
    have e : ∀ u, Bs ^ (p + 1) * u = Bs * (Bs ^ p * u) := fun u => by rw [Nat.pow_succ, Nat.mul_comm (Bs ^ p) Bs, Nat.mul_assoc]
    rw [e, e, Nat.add_assoc, Nat.add_assoc, ← Nat.mul_add, ← Nat.mul_add, ih]
theorem getD_set_ne {l : List Nat} {p q z : Nat} (h : p ≠ q) : (l.set p z).getD q 0 = l.getD q 0 := by
  rw [List.getD_eq_getElem?_getD, List.getD_eq_getElem?_getD, List.getElem?_set_ne h]
theorem times_step {os ys : List Nat} {i k cy x y o T : Nat} (hl : i + k < os.length) (hv : val os + Bs ^ (i + k) * cy = T + Bs ^ i * (x * val (ys.take k))) (ho : os.getD (i + k) 0 = o) (hy : ys.getD k 0 = y) :
    val (os.set (i + k) ((x * y + o + cy) % 4294967296)) + Bs ^ (i + (k + 1)) * ((x * y + o + cy) / 4294967296) = T + Bs ^ i * (x * val (ys.take (k + 1))) := by
  have h1 := val_set os (i + k) ((x * y + o + cy) % 4294967296) hl
  have h2 : (x * y + o + cy) % 4294967296 + Bs * ((x * y + o + cy) / 4294967296) = x * y + o + cy := Nat.mod_add_div _ _
  rw [ho] at h1
  rw [val_take_succ, hy]
  have e1 : Bs ^ (i + (k + 1)) * ((x * y + o + cy) / 4294967296) = Bs ^ (i + k) * (Bs * ((x * y + o + cy) / 4294967296)) := by
    rw [← Nat.add_assoc, Nat.pow_succ, Nat.mul_assoc]
  have e2 : Bs ^ (i + k) * ((x * y + o + cy) % 4294967296) + Bs ^ (i + k) * (Bs * ((x * y + o + cy) / 4294967296)) = Bs ^ (i + k) * (x * y) + Bs ^ (i + k) * o + Bs ^ (i + k) * cy := by
    rw [← Nat.mul_add, h2, Nat.mul_add, Nat.mul_add]
  have e3 : Bs ^ i * (x * (val (ys.take k) + Bs ^ k * y)) = Bs ^ i * (x * val (ys.take k)) + Bs ^ (i + k) * (x * y) := by
    rw [Nat.mul_add, Nat.mul_add, Nat.pow_add, Nat.mul_left_comm x, Nat.mul_assoc (Bs ^ i)]
  rw [e1, e3]
  omega
theorem times_last {os xs ys : List Nat} {i m cy x : Nat} (hl : i + m < os.length) (hv : val os + Bs ^ (i + m) * cy = val (xs.take i) * val ys + Bs ^ i * (x * val ys)) (ho : os.getD (i + m) 0 = 0) (hx : xs.getD i 0 = x) :
    val (os.set (i + m) cy) = val (xs.take (i + 1)) * val ys := by
  have h1 := val_set os (i + m) cy hl
  rw [ho, Nat.mul_zero, Nat.add_zero] at h1
  rw [h1, hv, val_take_succ, hx, Nat.add_mul, Nat.mul_assoc]
theorem getD_replicate0 (n p : Nat) : (List.replicate n 0).getD p 0 = 0 := by
  rw [List.getD_eq_getElem?_getD, List.getElem?_replicate]; split <;> rfl
end Go.Proofs.YtnkajjealkggdaaGreatDoor
end
section
/- Plain laws for the program's sums, differences, products. -/
namespace Go.Proofs.YtnkajjealkggdaaGreatDoor
/-- One limb of a sum, in a row that is there. -/
theorem sum_step {os xs ys : List Nat} {k cy x y : Nat} (hl : k < os.length) (hv : val os + Bs ^ k * cy = val (xs.take k) + val (ys.take k)) (ho : os.getD k 0 = 0) (hx : xs.getD k 0 = x) (hy : ys.getD k 0 = y) :
    val (os.set k ((x + y + cy) % 4294967296)) + Bs ^ (k + 1) * ((x + y + cy) / 4294967296) = val (xs.take (k + 1)) + val (ys.take (k + 1)) := by
  have h1 := val_set os k ((x + y + cy) % 4294967296) hl
  have h2 : (x + y + cy) % 4294967296 + Bs * ((x + y + cy) / 4294967296) = x + y + cy := Nat.mod_add_div _ _
  rw [ho, Nat.mul_zero, Nat.add_zero] at h1
  rw [h1, val_take_succ, val_take_succ, hx, hy, Nat.pow_succ, Nat.mul_assoc, Nat.add_assoc, ← Nat.mul_add, h2, Nat.mul_add, Nat.mul_add]
  omega
/-- One limb of a difference. -/
theorem dif_step {os xs ys : List Nat} {k lt x y : Nat} (hl : k < os.length) (_hb : lt ≤ 1) (hxb : x < 4294967296) (hyb : y < 4294967296) (hv : val os + val (ys.take k) = val (xs.take k) + Bs ^ k * lt) (ho : os.getD k 0 = 0) (hx : xs.getD k 0 = x) (hy : ys.getD k 0 = y) :
    val (os.set k ((x + 8589934592 - y - lt) % 4294967296)) + val (ys.take (k + 1)) = val (xs.take (k + 1)) + Bs ^ (k + 1) * (if x < y + lt then 1 else 0) := by
  have h1 := val_set os k ((x + 8589934592 - y - lt) % 4294967296) hl
  rw [ho, Nat.mul_zero, Nat.add_zero] at h1
  have h2 : (x + 8589934592 - y - lt) % 4294967296 + y + lt = x + Bs * (if x < y + lt then 1 else 0) := by
    unfold Bs
    split <;> omega
  have h3 : Bs ^ k * ((x + 8589934592 - y - lt) % 4294967296) + Bs ^ k * y + Bs ^ k * lt = Bs ^ k * x + Bs ^ (k + 1) * (if x < y + lt then 1 else 0) := by
    rw [← Nat.mul_add, ← Nat.mul_add, h2, Nat.mul_add, Nat.pow_succ, Nat.mul_assoc]
  rw [h1, val_take_succ, val_take_succ, hx, hy]
  omega
/-- Lists in order: from the highest limb on. -/
theorem val_cmp {a b : List Nat} (ha : Lb a) (_hb : Lb b) {k x y : Nat} (hk : k < a.length) (hl : a.length = b.length) (hx : a.getD k 0 = x) (hy : b.getD k 0 = y) (h : a.drop (k + 1) = b.drop (k + 1)) (hlt : x < y) : val a < val b := by
  have sp : ∀ l : List Nat, k < l.length → val l = val (l.take k) + Bs ^ k * (l.getD k 0 + Bs * val (l.drop (k + 1))) := by
    intro l hl
    have e : l = l.take k ++ l[k] :: l.drop (k + 1) := by rw [← List.drop_eq_getElem_cons hl, List.take_append_drop]
    conv => lhs; rw [e]
    rw [val_append, List.length_take, Nat.min_eq_left (by omega), List.getD_eq_getElem?_getD, List.getElem?_eq_getElem hl]
    rfl
  rw [sp a hk, sp b (by omega), hx, hy, h]
  have h1 := val_lt (a.take k) (fun z hz => ha z (List.mem_of_mem_take hz))
  rw [List.length_take, Nat.min_eq_left (by omega)] at h1
  have h2 : Bs ^ k * (x + Bs * val (b.drop (k + 1)) + 1) ≤ Bs ^ k * (y + Bs * val (b.drop (k + 1))) := Nat.mul_le_mul_left _ (by omega)
  rw [Nat.mul_add, Nat.mul_one] at h2
  omega
theorem val_lt_len {a b : Nat} (h : (lim a).length < (lim b).length) : a < b := by
  have h1 := lim_lt a
  have h2 : b ≠ 0 := by intro e; subst e; rw [lim_zero] at h; simp at h
  have h3 := (lim_len h2).1
  have h4 : Bs ^ (lim a).length ≤ Bs ^ ((lim b).length - 1) := Nat.pow_le_pow_right (by decide) (by omega)
  omega
/-- How two numbers compare. -/
def cmpN (a b : Nat) : Int := if a < b then -1 else if b < a then 1 else 0
end Go.Proofs.YtnkajjealkggdaaGreatDoor
end
section
/- Decimals: what the functions come to, in plain lists and numbers. -/
namespace Go.Proofs.YtnkajjealkggdaaGreatDoor
def isD (c : UInt8) : Bool := decide (48 ≤ c.toNat) && decide (c.toNat ≤ 57)
theorem isD_yes (c : UInt8) (h : isD c = true) : 48 ≤ c.toNat ∧ c.toNat ≤ 57 := by
  unfold isD at h; simpa using h
def digsB (l : List UInt8) : Bool := l.all isD
def trimL (c : UInt8) (l : List UInt8) : List UInt8 := l.dropWhile (· == c)
def trimR (c : UInt8) (l : List UInt8) : List UInt8 := (trimL c l.reverse).reverse
theorem trimL_yes (c : UInt8) (l : List UInt8) (h : 0 < l.length) (hc : l[0] = c) : trimL c l.tail = trimL c l := by
  cases l with
  | nil => simp at h
  | cons a t => simp at hc; subst hc; simp [trimL]
theorem trimL_no (c : UInt8) (l : List UInt8) (h : 0 < l.length) (hc : l[0] ≠ c) : trimL c l = l := by
  cases l with
  | nil => simp at h
  | cons a t => simp at hc; simp [trimL, hc]
theorem snoc_of (l : List UInt8) (h : 0 < l.length) : ∃ t a, l = t ++ [a] :=
  ⟨l.dropLast, l.getLast (by intro h0; subst h0; simp at h), (List.dropLast_concat_getLast _).symm⟩
theorem trimR_yes (c : UInt8) (l : List UInt8) (h : 0 < l.length) (hc : l[l.length - 1] = c) : trimR c (l.take (l.length - 1)) = trimR c l := by
  obtain ⟨t, a, rfl⟩ := snoc_of l h
  simp at hc
  subst hc
  simp [trimR, trimL]
theorem trimR_no (c : UInt8) (l : List UInt8) (h : 0 < l.length) (hc : l[l.length - 1] ≠ c) : trimR c l = l := by
  obtain ⟨t, a, rfl⟩ := snoc_of l h
  simp at hc
  simp [trimR, trimL, hc]
def far (n : Int) : Bool := decide (n < -1073741824) || decide (1073741824 < n)
/-- A decimal. -/
structure Dc where
  neg : Bool
  dig : List UInt8
  exp : Int
def Dc.zero : Dc := ⟨false, [], 0⟩
end Go.Proofs.YtnkajjealkggdaaGreatDoor
end
section
/- Digits as texts: plain lists. -/
namespace Go.Proofs.YtnkajjealkggdaaGreatDoor
/-- Digits as a number. -/
def dval (l : List UInt8) : Nat := l.foldl (fun a b => 10 * a + (b.toNat - 48)) 0
theorem dval_snoc (l : List UInt8) (b : UInt8) : dval (l ++ [b]) = 10 * dval l + (b.toNat - 48) := by simp [dval]
theorem snoc_at {α : Type} {n : Nat} (l : List α) (h : l.length = n + 1) : ∃ t x, l = t ++ [x] ∧ t.length = n := by
  have hne : l ≠ [] := by intro e; subst e; simp at h
  refine ⟨l.dropLast, l.getLast hne, (List.dropLast_concat_getLast hne).symm, by simp; omega⟩
theorem dval_append (a b : List UInt8) : dval (a ++ b) = dval a * 10 ^ b.length + dval b := by
  induction hn : b.length generalizing b with
  | zero =>
    obtain rfl : b = [] := List.eq_nil_of_length_eq_zero hn
    simp [dval]
  | succ n ih =>
    obtain ⟨t, x, rfl, ht⟩ := snoc_at b hn
    rw [← List.append_assoc, dval_snoc, dval_snoc, ih t ht, Nat.pow_succ, Nat.mul_add, Nat.mul_comm (10 ^ n) 10, Nat.mul_left_comm]
    omega
/-- A number's digits; none of 0. -/
def digs (n : Nat) : List UInt8 := if _h : n = 0 then [] else digs (n / 10) ++ [UInt8.ofNat (48 + n % 10)]
termination_by n
decreasing_by omega
theorem digs_zero : digs 0 = [] := by unfold digs; simp
theorem digs_pos {n : Nat} (h : n ≠ 0) : digs n = digs (n / 10) ++ [UInt8.ofNat (48 + n % 10)] := by rw [digs]; simp [h]
def dtext (n : Nat) : List UInt8 := if n = 0 then [48] else digs n
theorem digs_len {n k : Nat} (h : n < 10 ^ k) : (digs n).length ≤ k := by
  induction k generalizing n with
  | zero =>
    obtain rfl : n = 0 := by simpa using h
    rw [digs_zero]; simp
  | succ k ih =>
    by_cases h0 : n = 0
    · subst h0; rw [digs_zero]; simp
    · rw [digs_pos h0]
      have := ih (n := n / 10) (by rw [Nat.pow_succ] at h; omega)
      simp; omega
end Go.Proofs.YtnkajjealkggdaaGreatDoor
end
section
/- One figure of a quotient (Knuth's D): the plain part. -/
namespace Go.Proofs.YtnkajjealkggdaaGreatDoor
theorem knuth_lt {V V' W W' B g : Nat} (hV : V' * B ≤ V) (hW : W < (W' + 1) * B) (h : W' < g * V') (h0 : 0 < V) : W / V < g := by
  rw [Nat.div_lt_iff_lt_mul h0]
  have h1 : (W' + 1) * B ≤ g * V' * B := Nat.mul_le_mul_right _ h
  have h2 : g * V' * B ≤ g * V := by rw [Nat.mul_assoc]; exact Nat.mul_le_mul_left _ hV
  omega
theorem knuth_ge {V V' W W' B g : Nat} (hV : V ≤ (V' + 1) * B) (hW : W' * B ≤ W) (h : g * V' ≤ W') (hg : g ≤ V' + 1) (h0 : 0 < V) : g ≤ W / V + 1 := by
  cases g with
  | zero => exact Nat.zero_le _
  | succ k =>
    refine Nat.succ_le_succ ((Nat.le_div_iff_mul_le h0).2 ?_)
    have h1 : k * V ≤ k * ((V' + 1) * B) := Nat.mul_le_mul_left _ hV
    have h2 : k * ((V' + 1) * B) ≤ (k + 1) * V' * B := by
      rw [← Nat.mul_assoc]
      refine Nat.mul_le_mul_right _ ?_
      rw [Nat.mul_add, Nat.add_mul]
      omega
    have h3 : (k + 1) * V' * B ≤ W' * B := Nat.mul_le_mul_right _ h
    omega
theorem guess_iff {g top rest num x y : Nat} (hn : num = g * top + rest) : (num * 4294967296 + y < g * (top * 4294967296 + x)) ↔ rest * 4294967296 + y < g * x := by
  have e1 : g * (top * 4294967296 + x) = g * top * 4294967296 + g * x := by rw [Nat.mul_add, Nat.mul_assoc]
  have e2 : num * 4294967296 = g * top * 4294967296 + rest * 4294967296 := by rw [hn, Nat.add_mul]
  omega
/-- Part of a row, as a number. -/
def seg (l : List Nat) (j i : Nat) : Nat := val ((l.drop j).take i)
theorem seg_zero (l : List Nat) (j : Nat) : seg l j 0 = 0 := by simp [seg, val]
theorem seg_succ (l : List Nat) (j i : Nat) : seg l j (i + 1) = seg l j i + Bs ^ i * l.getD (j + i) 0 := by
  unfold seg
  rw [val_take_succ]
  congr 2
  rw [List.getD_eq_getElem?_getD, List.getD_eq_getElem?_getD, List.getElem?_drop]
theorem seg_lt {l : List Nat} (h : Lb l) (j i : Nat) : seg l j i < Bs ^ i := by
  unfold seg
  have h1 := val_lt ((l.drop j).take i) (fun x hx => h x (List.mem_of_mem_drop (List.mem_of_mem_take hx)))
  exact Nat.lt_of_lt_of_le h1 (Nat.pow_le_pow_right (by decide) (by rw [List.length_take]; exact Nat.min_le_left _ _))
theorem seg_congr {l r : List Nat} {j : Nat} : ∀ (i : Nat), (∀ p, p < i → l.getD (j + p) 0 = r.getD (j + p) 0) → seg l j i = seg r j i
  | 0, _ => by rw [seg_zero, seg_zero]
  | i + 1, h => by rw [seg_succ, seg_succ, seg_congr i (fun p hp => h p (by omega)), h i (by omega)]
theorem seg_set {l : List Nat} {j i z : Nat} (h : j + i < l.length) : seg (l.set (j + i) z) j (i + 1) = seg l j i + Bs ^ i * z := by
  rw [seg_succ, seg_congr (l := l.set (j + i) z) (r := l) i (fun p hp => getD_set_ne (by omega))]
  congr 2
  rw [List.getD_eq_getElem?_getD, List.getElem?_set_self h]; rfl
theorem seg_split (l : List Nat) (j a b : Nat) : seg l j (a + b) = seg l j a + Bs ^ a * seg l (j + a) b := by
  induction b with
  | zero => simp [seg_zero]
  | succ b ih =>
    rw [← Nat.add_assoc, seg_succ, ih, seg_succ, Nat.mul_add, ← Nat.mul_assoc, ← Nat.pow_add, Nat.add_assoc, Nat.add_assoc]
theorem seg_val (l : List Nat) {n : Nat} (h : l.length = n) : seg l 0 n = val l := by unfold seg; rw [List.drop_zero, take_ge (by omega)]
theorem mulsub_num {g v cy bo x : Nat} (hg : g < 4294967296) (hv : v < 4294967296) (hc : cy < 4294967296) (hb : bo ≤ 1) (hx : x < 4294967296) :
    (g * v + cy) / 4294967296 < 4294967296 ∧ (x + 8589934592 - (g * v + cy) % 4294967296 - bo) % 4294967296 + (g * v + cy + bo) = x + 4294967296 * ((g * v + cy) / 4294967296 + (if x < (g * v + cy) % 4294967296 + bo then 1 else 0)) := by
  have h1 : g * v ≤ 4294967295 * 4294967295 := Nat.mul_le_mul (by omega) (by omega)
  generalize g * v = p at *
  refine ⟨by omega, ?_⟩
  split <;> omega
theorem mulsub_step {os os0 vs : List Nat} {j i g v cy bo x : Nat} (hl : j + i < os.length) (hg : g < 4294967296) (hv : v < 4294967296) (hc : cy < 4294967296) (hb : bo ≤ 1) (hx : x < 4294967296)
    (h : seg os j i + g * val (vs.take i) = seg os0 j i + Bs ^ i * (cy + bo)) (hx0 : os0.getD (j + i) 0 = x) (hv0 : vs.getD i 0 = v) :
    seg (os.set (j + i) ((x + 8589934592 - (g * v + cy) % 4294967296 - bo) % 4294967296)) j (i + 1) + g * val (vs.take (i + 1)) = seg os0 j (i + 1) + Bs ^ (i + 1) * ((g * v + cy) / 4294967296 + (if x < (g * v + cy) % 4294967296 + bo then 1 else 0)) := by
  have h1 := (mulsub_num hg hv hc hb hx).2
  rw [seg_set hl, seg_succ os0, val_take_succ, hx0, hv0]
  generalize (x + 8589934592 - (g * v + cy) % 4294967296 - bo) % 4294967296 = z at *
  generalize (g * v + cy) / 4294967296 + (if x < (g * v + cy) % 4294967296 + bo then 1 else 0) = r at *
  have e1 : Bs ^ (i + 1) * r = Bs ^ i * (4294967296 * r) := by rw [Nat.pow_succ, Nat.mul_assoc]
  have e2 : Bs ^ i * z + Bs ^ i * (g * v) + Bs ^ i * (cy + bo) = Bs ^ i * x + Bs ^ i * (4294967296 * r) := by
    rw [← Nat.mul_add, ← Nat.mul_add, ← Nat.mul_add]; congr 1; omega
  have e3 : g * (val (vs.take i) + Bs ^ i * v) = g * val (vs.take i) + Bs ^ i * (g * v) := by rw [Nat.mul_add, Nat.mul_left_comm]
  rw [e1, e3]
  omega
theorem addback_step {os os1 vs : List Nat} {j i c x v : Nat} (hl : j + i < os.length) (h : seg os j i + Bs ^ i * c = seg os1 j i + val (vs.take i)) (hx : os1.getD (j + i) 0 = x) (hv : vs.getD i 0 = v) :
    seg (os.set (j + i) ((x + v + c) % 4294967296)) j (i + 1) + Bs ^ (i + 1) * ((x + v + c) / 4294967296) = seg os1 j (i + 1) + val (vs.take (i + 1)) := by
  rw [seg_set hl, seg_succ os1, val_take_succ, hx, hv]
  have h2 : (x + v + c) % 4294967296 + Bs * ((x + v + c) / 4294967296) = x + v + c := Nat.mod_add_div _ _
  have e1 : Bs ^ i * ((x + v + c) % 4294967296) + Bs ^ (i + 1) * ((x + v + c) / 4294967296) = Bs ^ i * x + Bs ^ i * v + Bs ^ i * c := by
    rw [Nat.pow_succ, Nat.mul_assoc, ← Nat.mul_add, h2, Nat.mul_add, Nat.mul_add]
  omega
/-- Behind the subtraction: one too many or not. -/
theorem figure_end {W V q g S T X cb P : Nat} (hq : q = W / V) (hV : 0 < V) (hVP : V < P) (hg : g = q ∨ g = q + 1) (hS : S < P) (hT : W = T + P * X) (h : S + g * V = T + P * cb) :
    (g = q → cb = X ∧ S = W % V) ∧ (g = q + 1 → cb = X + 1 ∧ S + V = P + W % V) := by
  have h1 := Nat.div_add_mod W V
  have h2 := Nat.mod_lt W hV
  rw [← hq, Nat.mul_comm] at h1
  refine ⟨fun e => ?_, fun e => ?_⟩
  · subst e
    have h3 : S + P * X = W % V + P * cb := by omega
    have h4 : X = cb := by
      rcases Nat.lt_trichotomy X cb with h5 | h5 | h5
      · have := Nat.mul_le_mul_left P h5
        rw [Nat.mul_succ] at this; omega
      · exact h5
      · have := Nat.mul_le_mul_left P h5
        rw [Nat.mul_succ] at this; omega
    subst h4
    exact ⟨rfl, by omega⟩
  · subst e
    have h3 : S + V + P * X = W % V + P * cb := by rw [Nat.add_mul] at h; omega
    have h4 : cb = X + 1 := by
      rcases Nat.lt_trichotomy (X + 1) cb with h5 | h5 | h5
      · have := Nat.mul_le_mul_left P h5
        rw [Nat.mul_succ, Nat.mul_succ] at this; omega
      · exact h5.symm
      · have h6 : cb ≤ X := by omega
        have := Nat.mul_le_mul_left P h6
        omega
    subst h4
    rw [Nat.mul_succ] at h3
    exact ⟨rfl, by omega⟩
end Go.Proofs.YtnkajjealkggdaaGreatDoor
end
