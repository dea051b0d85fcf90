/- Lemmas of this proof, laid together: DbP, DbD, DbE. -/
import Derived.Test.YtiapoflkeliljaaGreatDoorMg25
import Derived.Test.YtiapoflkeliljaaGreatDoorMg30
import Derived.Test.YtiapoflkeliljaaGreatDoorMg08
import Derived.Test.YtiapoflkeliljaaGreatDoorMg27
import Derived.Deep.DeepCutAuto
import Derived.Deep.RegionWith
import Derived.Deep.LoopGhost
set_option linter.unusedSimpArgs false
set_option linter.unusedVariables false
section
/- Decimals and fractions there and back: the plain law. -/
namespace Go.Proofs.YtiapoflkeliljaaGreatDoor
open Go.RowKit
theorem ten_uniq' : ∀ (p q a b : Nat), a % 10 ≠ 0 → b % 10 ≠ 0 → a * 10 ^ p = b * 10 ^ q → p = q ∧ a = b
  | 0, 0, a, b, _, _, h => ⟨rfl, by simpa using h⟩
  | 0, q + 1, a, b, ha, _, h => by rw [Nat.pow_zero, Nat.mul_one, Nat.pow_succ, ← Nat.mul_assoc] at h; omega
  | p + 1, 0, a, b, _, hb, h => by rw [Nat.pow_zero, Nat.mul_one, Nat.pow_succ, ← Nat.mul_assoc] at h; omega
  | p + 1, q + 1, a, b, ha, hb, h => by
    rw [Nat.pow_succ, Nat.pow_succ, ← Nat.mul_assoc, ← Nat.mul_assoc] at h
    obtain ⟨h1, h2⟩ := ten_uniq' p q a b ha hb (Nat.eq_of_mul_eq_mul_right (by decide) h)
    exact ⟨by omega, h2⟩
theorem dval_mod {l : List UInt8} (hd : digsB l = true) (hl : ∀ x, l.getLast? = some x → x ≠ 48) (hne : l ≠ []) : dval l % 10 ≠ 0 := by
  obtain ⟨t, x, rfl, -⟩ := snoc_at (n := l.length - 1) l (by have := List.length_pos_iff.2 hne; omega)
  have h1 := hl x (by simp)
  have h2 : isD x = true := by unfold digsB at hd; rw [List.all_append] at hd; simp at hd; exact hd.2
  have h3 := isD_yes x h2
  have h4 : x.toNat ≠ 48 := fun e => h1 (by rw [← UInt8.ofNat_toNat (x := x), e]; rfl)
  rw [dval_snoc]
  omega
theorem sgn_inj {s t : Bool} {x y : Nat} (hx : 0 < x) (h : sgn s x = sgn t y) : s = t ∧ x = y := by
  have h1 := congrArg Int.natAbs h
  rw [sgn_abs, sgn_abs] at h1
  subst h1
  refine ⟨?_, rfl⟩
  cases s <;> cases t <;> simp [sgn] at h ⊢ <;> omega
theorem dc_uniq {x z : Dc} (hx : dcE x = 0) (hz : dcE z = 0) (hx0 : x.dig ≠ []) {F : Int} (h1 : F ≤ x.exp) (h2 : F ≤ z.exp) (h : wv x F = wv z F) : z = x := by
  have hp := mag_pos hx hx0 F
  unfold wv at h
  obtain ⟨e1, e2⟩ := sgn_inj hp h
  have hz0 : z.dig ≠ [] := fun e => by rw [e2, mag_nil e] at hp; exact absurd hp (Nat.lt_irrefl _)
  unfold mag at e2
  have px : 0 < x.dig.length := List.length_pos_iff.2 hx0
  have pz : 0 < z.dig.length := List.length_pos_iff.2 hz0
  obtain ⟨g1, g2⟩ := ten_uniq' _ _ _ _ (dval_mod (dc_digs hx) (dc_lastq hx px) hx0) (dval_mod (dc_digs hz) (dc_lastq hz pz) hz0) e2
  have g3 : x.exp = z.exp := by omega
  have g4 : x.dig = z.dig := by rw [← digs_dval (dc_ok hx px).digs (dc_ok hx px).lead, ← digs_dval (dc_ok hz pz).digs (dc_ok hz pz).lead, g2]
  obtain ⟨a, b, c⟩ := x
  obtain ⟨a', b', c'⟩ := z
  simp only at e1 g3 g4
  rw [e1, g3, g4]
/-- What is multiplied by, so that twos and fives are as many. -/
def ofB (t j : Nat) : Nat := if j ≤ t then 5 ^ (t - j) else 2 ^ (j - t)
theorem ofB_mul (t j : Nat) : 2 ^ t * 5 ^ j * ofB t j = 10 ^ (max t j) := by
  unfold ofB
  have e : ∀ n : Nat, 10 ^ n = 2 ^ n * 5 ^ n := fun n => by rw [← Nat.mul_pow]
  split
  · rename_i h
    rw [Nat.max_eq_left h, e, Nat.mul_assoc, ← Nat.pow_add]; congr 2; omega
  · rename_i h
    rw [Nat.max_eq_right (by omega), e, Nat.mul_comm, ← Nat.mul_assoc, ← Nat.pow_add]; congr 2; omega
def ofT (a t j : Nat) : List UInt8 := trimR 48 (dtext (a * ofB t j))
def ofE (a t j : Nat) : Int := ((dtext (a * ofB t j)).length : Int) - (ofT a t j).length - (max t j : Nat)
theorem ofT_spec (a t j : Nat) : ∃ b : Nat, ofE a t j = (b : Int) - (max t j : Nat) ∧ a * ofB t j = dval (ofT a t j) * 10 ^ b ∧ digsB (ofT a t j) = true := by
  obtain ⟨h1, h2⟩ := dtext_val (a * ofB t j)
  obtain ⟨b, hb, -⟩ := trimR_spec 48 (dtext (a * ofB t j))
  have hl := congrArg List.length hb
  rw [List.length_append, List.length_replicate] at hl
  refine ⟨b, by unfold ofE ofT; omega, ?_, ?_⟩
  · conv => lhs; rw [← h1, hb]
    rw [dval_append, dval_noughts, List.length_replicate]; rfl
  · rw [hb] at h2
    unfold digsB at h2 ⊢
    rw [List.all_append] at h2
    simp only [Bool.and_eq_true] at h2
    exact h2.1
theorem ofT_nil (a t j : Nat) : ofT a t j = [] ↔ a = 0 := by
  obtain ⟨b, -, h2, -⟩ := ofT_spec a t j
  have hB : 0 < ofB t j := by unfold ofB; split <;> exact Nat.pow_pos (by decide)
  constructor
  · intro h
    have h3 : a * ofB t j = 0 := by rw [h2, h]; simp [dval]
    rcases Nat.mul_eq_zero.1 h3 with h4 | h4
    · exact h4
    · omega
  · intro h
    subst h
    unfold ofT
    rw [Nat.zero_mul]
    rfl
/-- What is made is the fraction. -/
theorem of_made {a d t j : Nat} (neg : Bool) (ha : a ≠ 0) (hd : d = 2 ^ t * 5 ^ j) (hg : Nat.gcd a d = 1) (ht : t ≤ 4000) (hj : j ≤ 4000) (hl : (lim (a * ofB t j)).length ≤ 16384) (hm : mkE (ofT a t j) (ofE a t j) = 0) :
    dcE (mkD neg (ofT a t j) (ofE a t j)) = 0 ∧ (mkD neg (ofT a t j) (ofE a t j)).neg = neg ∧ (mkD neg (ofT a t j) (ofE a t j)).dig ≠ [] ∧ (-4000 ≤ (mkD neg (ofT a t j) (ofE a t j)).exp ∧ (mkD neg (ofT a t j) (ofE a t j)).exp ≤ 524288) ∧
      (lim (dz (mkD neg (ofT a t j) (ofE a t j))).natAbs).length ≤ 16384 ∧ wv (mkD neg (ofT a t j) (ofE a t j)) (-(max t j : Nat)) = sgn neg (a * ofB t j) ∧ (-(max t j : Nat) : Int) ≤ (mkD neg (ofT a t j) (ofE a t j)).exp ∧
      canN (dz (mkD neg (ofT a t j) (ofE a t j))) (dp (mkD neg (ofT a t j) (ofE a t j))) = sgn neg a ∧ canD (dz (mkD neg (ofT a t j) (ofE a t j))) (dp (mkD neg (ofT a t j) (ofE a t j))) = d := by
  obtain ⟨b, hb, hN, hT⟩ := ofT_spec a t j
  have hB : 0 < ofB t j := by unfold ofB; split <;> exact Nat.pow_pos (by decide)
  obtain ⟨h1, h2, h3, h4⟩ := mk_wv (neg := neg) hT hm
  obtain ⟨-, h5, -⟩ := mk_bounds (neg := neg) (l := ofT a t j) (E := ofE a t j) (Nat.le_refl _)
  have hlen : ((dtext (a * ofB t j)).length : Int) ≤ 524288 := by
    have := digs_lim hl
    unfold dtext
    split
    · decide
    · omega
  have hmag := h3 (-(max t j : Nat)) (by rw [hb]; omega)
  have hmag2 : mag (mkD neg (ofT a t j) (ofE a t j)) (-(max t j : Nat)) = a * ofB t j := by rw [hmag, hN]; congr 2; rw [hb]; omega
  have h0 : (mkD neg (ofT a t j) (ofE a t j)).dig ≠ [] := fun e => by
    rw [mag_nil e] at hmag2
    rcases Nat.mul_eq_zero.1 hmag2.symm with e' | e'
    · exact ha e'
    · omega
  have h6 := h5 h0
  have hwv : wv (mkD neg (ofT a t j) (ofE a t j)) (-(max t j : Nat)) = sgn neg (a * ofB t j) := by unfold wv; rw [h2, hmag2]
  have hx : ofE a t j + (ofT a t j).length = (dtext (a * ofB t j)).length - (max t j : Nat) := by unfold ofE; omega
  generalize mkD neg (ofT a t j) (ofE a t j) = z at *
  have hzE : (-(max t j : Nat) : Int) ≤ z.exp := by have := h6.1; rw [hb] at this; omega
  have hz := dz_wv z (F := (-(max t j : Nat) : Int)) (by omega) hzE
  rw [hwv, Int.neg_neg, Int.toNat_natCast] at hz
  have hcan : sgn neg a * (dp z : Int) = dz z * (d : Int) := by
    have hT' : ((10 ^ (max t j) : Nat) : Int) ≠ 0 := ten_ne _
    have e1 : (sgn neg (a * ofB t j) : Int) * (d : Int) = sgn neg a * ((10 ^ (max t j) : Nat) : Int) := by
      rw [← ofB_mul, ← hd, sgn_mul, Int.mul_assoc, ← Int.natCast_mul, Nat.mul_comm (ofB t j)]
    have e2 : (sgn neg a * (dp z : Int)) * ((10 ^ (max t j) : Nat) : Int) = (dz z * (d : Int)) * ((10 ^ (max t j) : Nat) : Int) := by
      generalize ((10 ^ (max t j) : Nat) : Int) = T at *
      generalize (dp z : Int) = p at *
      grind
    exact Int.eq_of_mul_eq_mul_right hT' e2
  have hd0 : d ≠ 0 := by rw [hd]; exact Nat.ne_of_gt (Nat.mul_pos (Nat.pow_pos (by decide)) (Nat.pow_pos (by decide)))
  obtain ⟨c1, c2⟩ := can_uniq hd0 (dp_ne z) (by rw [sgn_abs]; exact hg) hcan
  refine ⟨h1, h2, h0, ⟨by omega, by omega⟩, ?_, hwv, hzE, c1.symm, c2.symm⟩
  refine Nat.le_trans (lim_mono ?_) hl
  rw [← hmag2]
  unfold dz mag
  rw [sgn_abs]
  exact Nat.mul_le_mul_left _ (Nat.pow_le_pow_right (by decide) (by omega))
/-- Its twos, its fives and the rest. -/
theorem parts_of {d : Nat} (hd : d ≠ 0) : ∃ t j r : Nat, 2 ^ t ∣ d ∧ d / 2 ^ t % 2 = 1 ∧ 5 ^ j ∣ d / 2 ^ t ∧ d / 2 ^ t / 5 ^ j % 5 ≠ 0 ∧ r = d / 2 ^ t / 5 ^ j ∧ d = 2 ^ t * 5 ^ j * r ∧ r % 2 = 1 ∧ r % 5 ≠ 0 := by
  obtain ⟨t, h1, h2⟩ := twos_of d hd
  have h3 : d / 2 ^ t ≠ 0 := fun e => by rw [e] at h2; simp at h2
  obtain ⟨j, h4, h5⟩ := fives_of (d / 2 ^ t) h3
  have e1 : d = 2 ^ t * (d / 2 ^ t) := (Nat.mul_div_cancel' h1).symm
  have e2 : d / 2 ^ t = 5 ^ j * (d / 2 ^ t / 5 ^ j) := (Nat.mul_div_cancel' h4).symm
  refine ⟨t, j, _, h1, h2, h4, h5, rfl, by rw [Nat.mul_assoc, ← e2, ← e1], ?_, h5⟩
  have h6 : d / 2 ^ t / 5 ^ j ∣ d / 2 ^ t := ⟨5 ^ j, by rw [Nat.mul_comm]; exact e2⟩
  rcases Nat.mod_two_eq_zero_or_one (d / 2 ^ t / 5 ^ j) with h | h
  · have : 2 ∣ d / 2 ^ t := Nat.dvd_trans (Nat.dvd_of_mod_eq_zero h) h6
    omega
  · exact h
theorem co_two {r : Nat} (h : r % 2 = 1) : Nat.Coprime r 2 := by
  unfold Nat.Coprime; rw [Nat.gcd_comm, Nat.gcd_rec, h, Nat.gcd_one_left]
theorem co_five {r : Nat} (h : r % 5 ≠ 0) : Nat.Coprime r 5 := by
  unfold Nat.Coprime
  rw [Nat.gcd_comm, Nat.gcd_rec]
  have h5 : r % 5 < 5 := Nat.mod_lt _ (by decide)
  generalize r % 5 = x at *
  match x, h, h5 with
  | 1, _, _ => rfl
  | 2, _, _ => rfl
  | 3, _, _ => rfl
  | 4, _, _ => rfl
theorem ten_parts (e : Nat) : (10 : Nat) ^ e = 2 ^ e * 5 ^ e := by rw [← Nat.mul_pow]
theorem tens_rest {P e t j r : Nat} (h : P ∣ 10 ^ e) (hP : P = 2 ^ t * 5 ^ j * r) (h2 : r % 2 = 1) (h5 : r % 5 ≠ 0) : r = 1 ∧ t ≤ e ∧ j ≤ e := by
  have c1 : Nat.Coprime r (10 ^ e) := by
    rw [ten_parts]
    exact Nat.Coprime.mul_right (Nat.Coprime.pow_right _ (co_two h2)) (Nat.Coprime.pow_right _ (co_five h5))
  have d1 : r ∣ 10 ^ e := Nat.dvd_trans ⟨2 ^ t * 5 ^ j, by rw [hP, Nat.mul_comm]⟩ h
  have d2 : 2 ^ t ∣ 10 ^ e := Nat.dvd_trans ⟨5 ^ j * r, by rw [hP, Nat.mul_assoc]⟩ h
  have d5 : 5 ^ j ∣ 10 ^ e := Nat.dvd_trans ⟨2 ^ t * r, by rw [hP, Nat.mul_assoc, Nat.mul_left_comm]⟩ h
  have c25 : ∀ a b : Nat, Nat.Coprime (2 ^ a) (5 ^ b) := fun a b => Nat.Coprime.pow _ _ (by decide)
  rw [ten_parts] at d2 d5
  refine ⟨Nat.Coprime.eq_one_of_dvd c1 d1, ?_, ?_⟩
  · exact (Nat.pow_dvd_pow_iff_le_right (by decide)).1 (Nat.Coprime.dvd_of_dvd_mul_right (c25 _ _) d2)
  · exact (Nat.pow_dvd_pow_iff_le_right (by decide)).1 (Nat.Coprime.dvd_of_dvd_mul_left (Nat.Coprime.symm (c25 _ _)) d5)
/-- A decimal's fraction is that decimal. -/
theorem of_back {x : Dc} (hx : dcE x = 0) (hx0 : x.dig ≠ []) (hl : x.dig.length ≤ 800) (he : -1500 ≤ x.exp ∧ x.exp ≤ 1500) {t j r : Nat} (hP : canD (dz x) (dp x) = 2 ^ t * 5 ^ j * r) (h2 : r % 2 = 1) (h5 : r % 5 ≠ 0) :
    r = 1 ∧ t ≤ 1500 ∧ j ≤ 1500 ∧ (canN (dz x) (dp x)).natAbs ≠ 0 ∧ (lim ((canN (dz x) (dp x)).natAbs * ofB t j)).length ≤ 16384 ∧ mkE (ofT (canN (dz x) (dp x)).natAbs t j) (ofE (canN (dz x) (dp x)).natAbs t j) = 0 ∧
      mkD (decide (canN (dz x) (dp x) < 0)) (ofT (canN (dz x) (dp x)).natAbs t j) (ofE (canN (dz x) (dp x)).natAbs t j) = x := by
  have hdv : canD (dz x) (dp x) ∣ 10 ^ (-x.exp).toNat := by
    unfold canD dp
    exact Nat.div_dvd_of_dvd (Nat.gcd_dvd_right _ _)
  obtain ⟨r1, t1, j1⟩ := tens_rest hdv hP h2 h5
  subst r1
  rw [Nat.mul_one] at hP
  have hza : 0 < (dz x).natAbs := by
    unfold dz; rw [sgn_abs]
    have := mag_pos hx hx0 (x.exp - x.exp.toNat)
    unfold mag at this
    have e : (x.exp - (x.exp - x.exp.toNat)).toNat = x.exp.toNat := by omega
    rwa [e] at this
  have hdn : dz x ≠ 0 := by omega
  have hw := can_worth (z := dz x) (dp_ne x)
  have hcn : (canN (dz x) (dp x)).natAbs ≠ 0 := by
    intro h
    have h' : canN (dz x) (dp x) = 0 := by omega
    rw [h', Int.zero_mul] at hw
    rcases Int.mul_eq_zero.1 hw.symm with h6 | h6
    · exact hdn h6
    · exact canD_pos (z := dz x) (dp_ne x) (by omega)
  obtain ⟨K0, hK0⟩ : ∃ K0 : Nat, K0 = 800 := ⟨_, rfl⟩
  obtain ⟨K1, hK1⟩ : ∃ K1 : Nat, K1 = 1500 := ⟨_, rfl⟩
  rw [← hK0] at hl
  have hXle : (canN (dz x) (dp x)).natAbs ≤ 10 ^ (K0 + K1) := by
    unfold canN
    rw [sgn_abs]
    refine Nat.le_trans (Nat.div_le_self _ _) ?_
    unfold dz
    rw [sgn_abs, Nat.pow_add]
    exact Nat.mul_le_mul (Nat.le_of_lt (Nat.lt_of_lt_of_le (dval_lt _ (dc_digs hx)) (Nat.pow_le_pow_right (by decide) hl))) (Nat.pow_le_pow_right (by decide) (by omega))
  have hBle : ofB t j ≤ 10 ^ K1 := by
    unfold ofB
    split
    · exact Nat.le_trans (Nat.pow_le_pow_left (show 5 ≤ 10 by decide) _) (Nat.pow_le_pow_right (by decide) (by omega))
    · exact Nat.le_trans (Nat.pow_le_pow_left (show 2 ≤ 10 by decide) _) (Nat.pow_le_pow_right (by decide) (by omega))
  have hg := can_gcd (z := dz x) (dp_ne x)
  have hs := sgn_self (canN (dz x) (dp x))
  have hpX : canD (dz x) (dp x) ≠ 0 := canD_pos (dp_ne x)
  generalize hX : canN (dz x) (dp x) = X at *
  generalize hPP : canD (dz x) (dp x) = P at *
  have hN : X.natAbs * ofB t j ≤ 10 ^ (K0 + K1 + K1) := by rw [Nat.pow_add _ (K0 + K1)]; exact Nat.mul_le_mul hXle hBle
  obtain ⟨K, hK⟩ : ∃ K : Nat, K = K0 + K1 + K1 := ⟨_, rfl⟩
  rw [← hK] at hN
  have hlim : (lim (X.natAbs * ofB t j)).length ≤ 16384 := lim_fits (n := K) hN (by omega) (by decide)
  have hlen : (dtext (X.natAbs * ofB t j)).length ≤ 3801 := by
    unfold dtext
    split
    · decide
    · have := digs_len (k := K + 1) (Nat.lt_of_le_of_lt hN (Nat.pow_lt_pow_right (by decide) (Nat.lt_succ_self _)))
      omega
  obtain ⟨b, hb, hNv, hT⟩ := ofT_spec X.natAbs t j
  have hTl : (ofT X.natAbs t j).length ≤ (dtext (X.natAbs * ofB t j)).length := trimR_le _ _
  have hE : ofE X.natAbs t j = ((dtext (X.natAbs * ofB t j)).length : Int) - (ofT X.natAbs t j).length - (max t j : Nat) := rfl
  have hm : mkE (ofT X.natAbs t j) (ofE X.natAbs t j) = 0 := by
    have hmn : 0 ≤ mkN (ofT X.natAbs t j) ∧ mkN (ofT X.natAbs t j) ≤ (ofT X.natAbs t j).length := by
      obtain ⟨a', b', g1, g2, -⟩ := mk_spec (ofT X.natAbs t j)
      have := congrArg List.length g1
      simp [zerosL] at this
      omega
    unfold mkE
    rw [if_neg (by omega), if_neg (by rw [hT]; simp)]
    split
    · rfl
    · rw [if_neg]
      rintro (h | h | h)
      · omega
      · omega
      · unfold far at h
        simp at h
        omega
  obtain ⟨z1, z2, z3, z4, z5, z6, z7, z8, z9⟩ := of_made (decide (X < 0)) hcn hP hg (by omega) (by omega) hlim hm
  refine ⟨rfl, by omega, by omega, hcn, hlim, hm, ?_⟩
  generalize mkD (decide (X < 0)) (ofT X.natAbs t j) (ofE X.natAbs t j) = z at *
  rw [hs] at z8
  -- the same worth
  have w1 := can_worth (z := dz z) (dp_ne z)
  rw [z8, z9] at w1
  have v1 := dz_wv z (F := -5000) (by omega) (by omega)
  have v2 := dz_wv x (F := -5000) (by omega) (by omega)
  refine dc_uniq (F := -5000) hx z1 hx0 (by omega) (by omega) ?_
  have hT5 : ((10 ^ (- -5000 : Int).toNat : Nat) : Int) ≠ 0 := ten_ne _
  have hdx : (dp x : Int) ≠ 0 := by have := dp_ne x; omega
  have hdz : (dp z : Int) ≠ 0 := by have := dp_ne z; omega
  have hP0 : (P : Int) ≠ 0 := by omega
  generalize ((10 ^ (- -5000 : Int).toNat : Nat) : Int) = T at *
  generalize (dp x : Int) = px at *
  generalize (dp z : Int) = pz at *
  generalize wv x (-5000) = u at *
  generalize wv z (-5000) = v at *
  generalize (P : Int) = p at *
  refine Int.eq_of_mul_eq_mul_right hdx (Int.eq_of_mul_eq_mul_right hdz (Int.eq_of_mul_eq_mul_right hP0 ?_))
  grind
end Go.Proofs.YtiapoflkeliljaaGreatDoor
end
section
/- The program's decimals: what a fraction is as one. -/
namespace Go.Proofs.YtiapoflkeliljaaGreatDoor
open Go.RowKit
attribute [local go_sem] bs_size bs_extract bs_get bs_append bs_toList const_get
attribute [local go_sem] sz2 sz3 sz4 sz5 sz6 sz7 sz8
set_option maxHeartbeats 4000000
set_option maxRecDepth 100000
attribute [local irreducible] Calls
attribute [local go_sem] D2.Oper.detAt D2.detUpon D2.relUpon
namespace D2
def REq (v : Value) : List Value → Value → World → Prop := fun _ u _ => u = v
theorem stays_eq (v : Value) : Stays (REq v) := fun _ _ _ _ h _ => h
end D2
/-- No decimal. -/
abbrev noDc (e : Int) : Value := .tuple #[.agg #[.bool false, .string ⟨#[]⟩, .int .i64 0], .bool false, .int .i64 e]
theorem of_refused (neg : Bool) (A : Option Addr) (n c : Nat) (D : Option Addr) (m k : Nat) (w : World) (hck : ∀ w', Ext w w' → Calls Tryz.prog 30 #[ratV neg A n c D m k] w' fun e w'' => e = .returned (.int .i64 20) ∧ Ext w' w'') :
    Calls Tryz.prog 58 #[ratV neg A n c D m k] w fun e w' => e = .returned (noDc 20) ∧ Ext w w' := by
  go_enter Tryz.func58, Tryz.ntmps58
  go_wp2_with (first
    | (go_at_call 30; (with_reducible refine (hck _ (by (repeat (first | exact ext_refl _ | assumption | refine ext_setCell ?_ (by simp; try omega) _ | refine ext_alloc ?_ _ | refine ext_drew ?_ | refine ext_drewN ?_ _ | refine ext_trans ?_ (Aft.use _) | refine ext_trans ?_ (by assumption))))).mono ?_); rintro e w1 ⟨rfl, xb1⟩; obtain ⟨xc1, xf1, xl1, xz1⟩ := ext_use xb1; (try simp at xz1); obtain ⟨l1_0, gc, gf⟩ := kp xb1 (w.heap.size) (by first | omega | (simp; try omega)); have r1_0 := gc 0; have f1_0 := gf 0; have r1_0_1 := gc 1; have f1_0_1 := gf 1; have r1_0_2 := gc 2; have f1_0_2 := gf 2; clear gc gf; obtain ⟨l1_1, gc, gf⟩ := kp xb1 (w.heap.size + 1) (by first | omega | (simp; try omega)); have r1_1 := gc 0; have f1_1 := gf 0; have r1_1_1 := gc 1; have f1_1_1 := gf 1; have r1_1_2 := gc 2; have f1_1_2 := gf 2; clear gc gf)
   )
  have z0 : w1.cell? ⟨w.heap.size + 1, 0, none⟩ = some (.bool false) := by simp [go_sem, *]
  have z1 : w1.cell? ⟨w.heap.size + 1, 1, none⟩ = some (.string ⟨#[]⟩) := by simp [go_sem, *]
  have z2 : w1.cell? ⟨w.heap.size + 1, 2, none⟩ = some (.int .i64 0) := by simp [go_sem, *]
  obtain ⟨q0, q1, q2⟩ := set3 (b := w.heap.size + 1) z0 z1 z2 (.bool false) (.string ⟨#[]⟩) (.int .i64 0)
  have hEE : Ext w w1 := by (repeat (first | exact ext_refl _ | assumption | refine ext_setCell ?_ (by simp; try omega) _ | refine ext_alloc ?_ _ | refine ext_drew ?_ | refine ext_drewN ?_ _ | refine ext_trans ?_ (Aft.use _) | refine ext_trans ?_ (by assumption)))
  refine bodyPost_ret (v := noDc 20) ?h rfl ⟨rfl, ext_set3 hEE (by omega) _ _ _⟩
  case h => simp [results, Tryz.results58, go_sem, q0, q1, q2]
/-- What stands below the line, taken apart. -/
theorem of_many (neg : Bool) (A : Option Addr) (n c : Nat) (D : Option Addr) (m k d1 r t j : Nat) (C : Int) (hC : C ≠ 0) (w : World) 
    (hck : ∀ w', Ext w w' → Calls Tryz.prog 30 #[ratV neg A n c D m k] w' fun e w'' => e = .returned (.int .i64 0) ∧ Ext w' w'')
    (kT : ∀ w', Ext w w' → Calls Tryz.prog 137 #[natV D m k] w' fun e w'' => ∃ (A' : Option Addr) (k : Nat), e = .returned (.tuple #[.int .i64 (t : Int), natV A' k k]) ∧ Hid (Rd w'' A' k k (lim d1) ∧ Fr w' A') ∧ Ext w' w'')
    (kO : ∀ A' k' w', Rd w' A' k' k' (lim d1) → Calls Tryz.prog 138 #[natV A' k' k', .int .u64 5] w' fun e w'' => ∃ (B : Option Addr) (k l : Nat), e = .returned (.tuple #[.int .i64 (j : Int), natV B k l]) ∧ Hid (Rd w'' B k l (lim r)) ∧ Ext w' w'')
    (kC : ∀ B k l F f w', Rd w' B k l (lim r) → Rd w' F f f (lim 1) → Calls Tryz.prog 139 #[natV B k l, natV F f f] w' fun e w'' => e = .returned (.tuple #[.int .i64 C, .int .i64 0]) ∧ Ext w' w'') :
    Calls Tryz.prog 58 #[ratV neg A n c D m k] w fun e w' => e = .returned (noDc 0) ∧ Ext w w' := by
  have hC0 : (C == 0) = false := by rw [beq_eq_false_iff_ne]; exact hC
  go_enter Tryz.func58, Tryz.ntmps58
  go_wp2_with (first
    | (go_at_call 30; (with_reducible refine (hck _ (by (repeat (first | exact ext_refl _ | assumption | refine ext_setCell ?_ (by simp; try omega) _ | refine ext_alloc ?_ _ | refine ext_drew ?_ | refine ext_drewN ?_ _ | refine ext_trans ?_ (Aft.use _) | refine ext_trans ?_ (by assumption))))).mono ?_); rintro e w1 ⟨rfl, xb1⟩; obtain ⟨xc1, xf1, xl1, xz1⟩ := ext_use xb1; (try simp at xz1); obtain ⟨l1_0, gc, gf⟩ := kp xb1 (w.heap.size) (by first | omega | (simp; try omega)); have r1_0 := gc 0; have f1_0 := gf 0; have r1_0_1 := gc 1; have f1_0_1 := gf 1; have r1_0_2 := gc 2; have f1_0_2 := gf 2; clear gc gf; obtain ⟨l1_1, gc, gf⟩ := kp xb1 (w.heap.size + 1) (by first | omega | (simp; try omega)); have r1_1 := gc 0; have f1_1 := gf 0; have r1_1_1 := gc 1; have f1_1_1 := gf 1; have r1_1_2 := gc 2; have f1_1_2 := gf 2; clear gc gf)
    | (go_at_call 137; (with_reducible refine (kT _ (by (repeat (first | exact ext_refl _ | assumption | refine ext_setCell ?_ (by simp; try omega) _ | refine ext_alloc ?_ _ | refine ext_drew ?_ | refine ext_drewN ?_ _ | refine ext_trans ?_ (Aft.use _) | refine ext_trans ?_ (by assumption))))).mono ?_); rintro e w2 ⟨A2, k2, rfl, hR2, xb2⟩; obtain ⟨xc2, xf2, xl2, xz2⟩ := ext_use xb2; (try simp at xz2); obtain ⟨l2_0, gc, gf⟩ := kp xb2 (w.heap.size) (by first | omega | (simp; try omega)); have r2_0 := gc 0; have f2_0 := gf 0; have r2_0_1 := gc 1; have f2_0_1 := gf 1; have r2_0_2 := gc 2; have f2_0_2 := gf 2; clear gc gf; obtain ⟨l2_1, gc, gf⟩ := kp xb2 (w.heap.size + 1) (by first | omega | (simp; try omega)); have r2_1 := gc 0; have f2_1 := gf 0; have r2_1_1 := gc 1; have f2_1_1 := gf 1; have r2_1_2 := gc 2; have f2_1_2 := gf 2; clear gc gf)
    | (go_at_call 138; (with_reducible refine (kO _ _ _ (hR2.out.1.ext (by (repeat (first | exact ext_refl _ | assumption | refine ext_setCell ?_ (by simp; try omega) _ | refine ext_alloc ?_ _ | refine ext_drew ?_ | refine ext_drewN ?_ _ | refine ext_trans ?_ (Aft.use _) | refine ext_trans ?_ (by assumption)))))).mono ?_); rintro e w3 ⟨B3, k3, l3, rfl, hR3, xb3⟩; obtain ⟨xc3, xf3, xl3, xz3⟩ := ext_use xb3; (try simp at xz3); obtain ⟨l3_0, gc, gf⟩ := kp xb3 (w.heap.size) (by first | omega | (simp; try omega)); have r3_0 := gc 0; have f3_0 := gf 0; have r3_0_1 := gc 1; have f3_0_1 := gf 1; have r3_0_2 := gc 2; have f3_0_2 := gf 2; clear gc gf; obtain ⟨l3_1, gc, gf⟩ := kp xb3 (w.heap.size + 1) (by first | omega | (simp; try omega)); have r3_1 := gc 0; have f3_1 := gf 0; have r3_1_1 := gc 1; have f3_1_1 := gf 1; have r3_1_2 := gc 2; have f3_1_2 := gf 2; clear gc gf; obtain ⟨l3_2, gc, gf⟩ := kp xb3 (w2.heap.size) (by first | omega | (simp; try omega)); have r3_2 := gc 0; have f3_2 := gf 0; clear gc gf)
   )
  have hb2 : w3.heap[w2.heap.size]? = some (.cells #[.slice A2 k2 k2] 30 (0, 0)) := (xb3.block _ (by simp)).trans (heap_alloc_new w2 _)
  have l2 : w2.heap.size < w3.heap.size := by have := ext_size xb3; simp at this; omega
  have hR3' : Rd (w3.setCell ⟨w2.heap.size, 0, none⟩ (.slice B3 k3 l3)) B3 k3 l3 (lim r) := rd_apart2 hR3.out hb2 (fun _ e => by cases e) _
  have y6 : (w3.setCell ⟨w2.heap.size, 0, none⟩ (.slice B3 k3 l3)).cell? ⟨w2.heap.size, 0, none⟩ = some (.slice B3 k3 l3) := World.cell?_setCell_same _ _ _ (cell_of_block hb2 0)
  have m6 : w2.heap.size < (w3.setCell ⟨w2.heap.size, 0, none⟩ (.slice B3 k3 l3)).heap.size := by simpa using l2
  have hE3 : Hid (Ext w (w3.setCell ⟨w2.heap.size, 0, none⟩ (.slice B3 k3 l3))) := by show Ext w _; exact ext_setCell (show Ext w w3 by (repeat (first | exact ext_refl _ | assumption | refine ext_setCell ?_ (by simp; try omega) _ | refine ext_alloc ?_ _ | refine ext_drew ?_ | refine ext_drewN ?_ _ | refine ext_trans ?_ (Aft.use _) | refine ext_trans ?_ (by assumption)))) (by have := ext_size xb1; have := ext_size xb2; simp at *; omega) _
  have z0 : (w3.setCell ⟨w2.heap.size, 0, none⟩ (.slice B3 k3 l3)).cell? ⟨w.heap.size + 1, 0, none⟩ = some (.bool false) := by simp [go_sem, *]
  have z1 : (w3.setCell ⟨w2.heap.size, 0, none⟩ (.slice B3 k3 l3)).cell? ⟨w.heap.size + 1, 1, none⟩ = some (.string ⟨#[]⟩) := by simp [go_sem, *]
  have z2 : (w3.setCell ⟨w2.heap.size, 0, none⟩ (.slice B3 k3 l3)).cell? ⟨w.heap.size + 1, 2, none⟩ = some (.int .i64 0) := by simp [go_sem, *]
  have e0 : (w3.setCell ⟨w2.heap.size, 0, none⟩ (.slice B3 k3 l3)).frozen? ⟨w.heap.size + 1, 0, none⟩ = false := by simp [go_sem, *]
  have e1 : (w3.setCell ⟨w2.heap.size, 0, none⟩ (.slice B3 k3 l3)).frozen? ⟨w.heap.size + 1, 1, none⟩ = false := by simp [go_sem, *]
  have e2 : (w3.setCell ⟨w2.heap.size, 0, none⟩ (.slice B3 k3 l3)).frozen? ⟨w.heap.size + 1, 2, none⟩ = false := by simp [go_sem, *]
  have x0 : (w3.setCell ⟨w2.heap.size, 0, none⟩ (.slice B3 k3 l3)).cell? ⟨w.heap.size, 0, none⟩ = some (.bool neg) := by simp [go_sem, *]
  have x1 : (w3.setCell ⟨w2.heap.size, 0, none⟩ (.slice B3 k3 l3)).cell? ⟨w.heap.size, 1, none⟩ = some (.slice A n c) := by simp [go_sem, *]
  have m1 : w.heap.size + 1 < (w3.setCell ⟨w2.heap.size, 0, none⟩ (.slice B3 k3 l3)).heap.size := by have := ext_size xb1; have := ext_size xb2; have := ext_size xb3; simp at *; omega
  refine D2.wp_drawn (D2.tab [(1, D2.RNum 1), (2, D2.REq (.tuple #[.int .i64 C, .int .i64 0]))]) (by kernel_rfl) (by kernel_rfl) (D2.tab_stays (by simp [D2.stays_num, D2.stays_eq])) (fun hq hqf => ?_)
  have u6 := fun nq => (hq nq w2.heap.size 0 m6).trans y6
  refine D2.wpK_det rfl (fun K hK => ?_)
  go_simp
  first
    | (refine hK _ ?_; clear hK K)
    | (apply Exists.intro; refine ⟨fun x => ?_, hK _ ?_⟩; (first | exact u6 x | (simp [u6]; done) | (simp [u6]; rfl)); clear hK K)
  refine D2.wpK_rel _ rfl rfl ?_ ?_
  · rintro _ ⟨nn, rfl⟩ _
    unfold D2.Oper.relAt
    go_simp
    exact D2.rel_num (nof_one _)
  rintro v ⟨_, ⟨nn, rfl⟩, hr⟩
  obtain ⟨F, f, rfl, -⟩ := hr
  clear nn
  refine D2.wpK_rel _ rfl rfl ?_ ?_
  · rintro _ ⟨nn, rfl⟩ hdep
    have q1 := hdep 1 (by kernel_rfl)
    simp only [D2.Facts.put] at q1
    have q2 := D2.num_at (vals := []) q1
    unfold D2.Oper.relAt
    go_simp
    refine (kC B3 k3 l3 F f _ (hR3'.ext nn.use) q2).mono ?_
    rintro e w' ⟨rfl, h4⟩
    exact ⟨_, rfl, h4, (fun b hb => by simp [D2.blk] at hb), rfl⟩
  rintro v ⟨_, ⟨nn, rfl⟩, rfl⟩
  clear nn
  iterate 5
    (refine D2.wpK_det rfl (fun K hK => ?_)
     go_simp
     refine hK _ ?_; clear hK K)
  refine D2.wpK_nil ?_
  intro nq hG
  have hE := Lib.hid nq.use
  clear hG u6 hq hqf
  have z0 := (Below.cell (p := ⟨w.heap.size + 1, 0, none⟩) hE.out m1).trans z0
  have z1 := (Below.cell (p := ⟨w.heap.size + 1, 1, none⟩) hE.out m1).trans z1
  have z2 := (Below.cell (p := ⟨w.heap.size + 1, 2, none⟩) hE.out m1).trans z2
  have e0 := (Below.frozen (p := ⟨w.heap.size + 1, 0, none⟩) hE.out m1).trans e0
  have e1 := (Below.frozen (p := ⟨w.heap.size + 1, 1, none⟩) hE.out m1).trans e1
  have e2 := (Below.frozen (p := ⟨w.heap.size + 1, 2, none⟩) hE.out m1).trans e2
  have m1 := ext_lt hE.out _ m1
  have hEE : Ext w nq.out := ext_trans hE3.out hE.out
  obtain ⟨q0, q1, q2⟩ := set3 (b := w.heap.size + 1) z0 z1 z2 (.bool false) (.string ⟨#[]⟩) (.int .i64 0)
  clear xb1 xb2 xb3
  go_wp2
  refine bodyPost_ret (v := noDc 0) ?h rfl ⟨rfl, ext_set3 hEE (by omega) _ _ _⟩
  case h => simp [results, Tryz.results58, go_sem, q0, q1, q2]
end Go.Proofs.YtiapoflkeliljaaGreatDoor
end
section
/- The program's decimals: a fraction that ends in tens. -/
namespace Go.Proofs.YtiapoflkeliljaaGreatDoor
open Go.RowKit
attribute [local go_sem] bs_size bs_extract bs_get bs_append bs_toList const_get
attribute [local go_sem] sz2 sz3 sz4 sz5 sz6 sz7 sz8
set_option maxHeartbeats 4000000
set_option maxRecDepth 100000
attribute [local irreducible] Calls
attribute [local go_sem] D2.Oper.detAt D2.detUpon D2.relUpon
theorem of_long_ge (neg : Bool) (A : Option Addr) (n c : Nat) (D : Option Addr) (m k d1 r t j p5 bv : Nat) (ht : t ≤ 1000000) (hj : j ≤ 1000000) (htj : (j : Int) ≤ (t : Int)) (hp5 : max (0 : Int) ((t : Int) - (j : Int)) = (p5 : Int)) (w : World)
    (hck : ∀ w', Ext w w' → Calls Tryz.prog 30 #[ratV neg A n c D m k] w' fun e w'' => e = .returned (.int .i64 0) ∧ Ext w' w'')
    (kT : ∀ w', Ext w w' → Calls Tryz.prog 137 #[natV D m k] w' fun e w'' => ∃ (A' : Option Addr) (k : Nat), e = .returned (.tuple #[.int .i64 (t : Int), natV A' k k]) ∧ Hid (Rd w'' A' k k (lim d1) ∧ Fr w' A') ∧ Ext w' w'')
    (kO : ∀ A' k' w', Rd w' A' k' k' (lim d1) → Calls Tryz.prog 138 #[natV A' k' k', .int .u64 5] w' fun e w'' => ∃ (B : Option Addr) (k l : Nat), e = .returned (.tuple #[.int .i64 (j : Int), natV B k l]) ∧ Hid (Rd w'' B k l (lim r)) ∧ Ext w' w'')
    (kC : ∀ B k l F f w', Rd w' B k l (lim r) → Rd w' F f f (lim 1) → Calls Tryz.prog 139 #[natV B k l, natV F f f] w' fun e w'' => e = .returned (.tuple #[.int .i64 0, .int .i64 0]) ∧ Ext w' w'')
    (kP5 : ∀ w', Calls Tryz.prog 134 #[.int .u32 5, .int .i64 (p5 : Int)] w' (NatPost0 w' bv))
    (kM : ∀ P p w', Ext w w' → Rd w' P p p (lim bv) → Calls Tryz.prog 135 #[natV A n c, natV P p p] w' fun e w'' => e = .returned (.tuple #[natV none 0 0, .int .i64 4]) ∧ Ext w' w'') :
    Calls Tryz.prog 58 #[ratV neg A n c D m k] w fun e w' => e = .returned (noDc 4) ∧ Ext w w' := by
  go_enter Tryz.func58, Tryz.ntmps58
  go_wp2_with (first
    | (go_at_call 30; (with_reducible refine (hck _ (by (repeat (first | exact ext_refl _ | assumption | refine ext_setCell ?_ (by simp; try omega) _ | refine ext_alloc ?_ _ | refine ext_drew ?_ | refine ext_drewN ?_ _ | refine ext_trans ?_ (Aft.use _) | refine ext_trans ?_ (by assumption))))).mono ?_); rintro e w1 ⟨rfl, xb1⟩; obtain ⟨xc1, xf1, xl1, xz1⟩ := ext_use xb1; (try simp at xz1); obtain ⟨l1_0, gc, gf⟩ := kp xb1 (w.heap.size) (by first | omega | (simp; try omega)); have r1_0 := gc 0; have f1_0 := gf 0; have r1_0_1 := gc 1; have f1_0_1 := gf 1; have r1_0_2 := gc 2; have f1_0_2 := gf 2; clear gc gf; obtain ⟨l1_1, gc, gf⟩ := kp xb1 (w.heap.size + 1) (by first | omega | (simp; try omega)); have r1_1 := gc 0; have f1_1 := gf 0; have r1_1_1 := gc 1; have f1_1_1 := gf 1; have r1_1_2 := gc 2; have f1_1_2 := gf 2; clear gc gf)
    | (go_at_call 137; (with_reducible refine (kT _ (by (repeat (first | exact ext_refl _ | assumption | refine ext_setCell ?_ (by simp; try omega) _ | refine ext_alloc ?_ _ | refine ext_drew ?_ | refine ext_drewN ?_ _ | refine ext_trans ?_ (Aft.use _) | refine ext_trans ?_ (by assumption))))).mono ?_); rintro e w2 ⟨A2, k2, rfl, hR2, xb2⟩; obtain ⟨xc2, xf2, xl2, xz2⟩ := ext_use xb2; (try simp at xz2); obtain ⟨l2_0, gc, gf⟩ := kp xb2 (w.heap.size) (by first | omega | (simp; try omega)); have r2_0 := gc 0; have f2_0 := gf 0; have r2_0_1 := gc 1; have f2_0_1 := gf 1; have r2_0_2 := gc 2; have f2_0_2 := gf 2; clear gc gf; obtain ⟨l2_1, gc, gf⟩ := kp xb2 (w.heap.size + 1) (by first | omega | (simp; try omega)); have r2_1 := gc 0; have f2_1 := gf 0; have r2_1_1 := gc 1; have f2_1_1 := gf 1; have r2_1_2 := gc 2; have f2_1_2 := gf 2; clear gc gf)
    | (go_at_call 138; (with_reducible refine (kO _ _ _ (hR2.out.1.ext (by (repeat (first | exact ext_refl _ | assumption | refine ext_setCell ?_ (by simp; try omega) _ | refine ext_alloc ?_ _ | refine ext_drew ?_ | refine ext_drewN ?_ _ | refine ext_trans ?_ (Aft.use _) | refine ext_trans ?_ (by assumption)))))).mono ?_); rintro e w3 ⟨B3, k3, l3, rfl, hR3, xb3⟩; obtain ⟨xc3, xf3, xl3, xz3⟩ := ext_use xb3; (try simp at xz3); obtain ⟨l3_0, gc, gf⟩ := kp xb3 (w.heap.size) (by first | omega | (simp; try omega)); have r3_0 := gc 0; have f3_0 := gf 0; have r3_0_1 := gc 1; have f3_0_1 := gf 1; have r3_0_2 := gc 2; have f3_0_2 := gf 2; clear gc gf; obtain ⟨l3_1, gc, gf⟩ := kp xb3 (w.heap.size + 1) (by first | omega | (simp; try omega)); have r3_1 := gc 0; have f3_1 := gf 0; have r3_1_1 := gc 1; have f3_1_1 := gf 1; have r3_1_2 := gc 2; have f3_1_2 := gf 2; clear gc gf; obtain ⟨l3_2, gc, gf⟩ := kp xb3 (w2.heap.size) (by first | omega | (simp; try omega)); have r3_2 := gc 0; have f3_2 := gf 0; clear gc gf)
   )
  have hb2 : w3.heap[w2.heap.size]? = some (.cells #[.slice A2 k2 k2] 30 (0, 0)) := (xb3.block _ (by simp)).trans (heap_alloc_new w2 _)
  have l2 : w2.heap.size < w3.heap.size := by have := ext_size xb3; simp at this; omega
  have hR3' : Rd (w3.setCell ⟨w2.heap.size, 0, none⟩ (.slice B3 k3 l3)) B3 k3 l3 (lim r) := rd_apart2 hR3.out hb2 (fun _ e => by cases e) _
  have y6 : (w3.setCell ⟨w2.heap.size, 0, none⟩ (.slice B3 k3 l3)).cell? ⟨w2.heap.size, 0, none⟩ = some (.slice B3 k3 l3) := World.cell?_setCell_same _ _ _ (cell_of_block hb2 0)
  have m6 : w2.heap.size < (w3.setCell ⟨w2.heap.size, 0, none⟩ (.slice B3 k3 l3)).heap.size := by simpa using l2
  have hE3 : Hid (Ext w (w3.setCell ⟨w2.heap.size, 0, none⟩ (.slice B3 k3 l3))) := by show Ext w _; exact ext_setCell (show Ext w w3 by (repeat (first | exact ext_refl _ | assumption | refine ext_setCell ?_ (by simp; try omega) _ | refine ext_alloc ?_ _ | refine ext_drew ?_ | refine ext_drewN ?_ _ | refine ext_trans ?_ (Aft.use _) | refine ext_trans ?_ (by assumption)))) (by have := ext_size xb1; have := ext_size xb2; simp at *; omega) _
  have z0 : (w3.setCell ⟨w2.heap.size, 0, none⟩ (.slice B3 k3 l3)).cell? ⟨w.heap.size + 1, 0, none⟩ = some (.bool false) := by simp [go_sem, *]
  have z1 : (w3.setCell ⟨w2.heap.size, 0, none⟩ (.slice B3 k3 l3)).cell? ⟨w.heap.size + 1, 1, none⟩ = some (.string ⟨#[]⟩) := by simp [go_sem, *]
  have z2 : (w3.setCell ⟨w2.heap.size, 0, none⟩ (.slice B3 k3 l3)).cell? ⟨w.heap.size + 1, 2, none⟩ = some (.int .i64 0) := by simp [go_sem, *]
  have e0 : (w3.setCell ⟨w2.heap.size, 0, none⟩ (.slice B3 k3 l3)).frozen? ⟨w.heap.size + 1, 0, none⟩ = false := by simp [go_sem, *]
  have e1 : (w3.setCell ⟨w2.heap.size, 0, none⟩ (.slice B3 k3 l3)).frozen? ⟨w.heap.size + 1, 1, none⟩ = false := by simp [go_sem, *]
  have e2 : (w3.setCell ⟨w2.heap.size, 0, none⟩ (.slice B3 k3 l3)).frozen? ⟨w.heap.size + 1, 2, none⟩ = false := by simp [go_sem, *]
  have x0 : (w3.setCell ⟨w2.heap.size, 0, none⟩ (.slice B3 k3 l3)).cell? ⟨w.heap.size, 0, none⟩ = some (.bool neg) := by simp [go_sem, *]
  have x1 : (w3.setCell ⟨w2.heap.size, 0, none⟩ (.slice B3 k3 l3)).cell? ⟨w.heap.size, 1, none⟩ = some (.slice A n c) := by simp [go_sem, *]
  have m1 : w.heap.size + 1 < (w3.setCell ⟨w2.heap.size, 0, none⟩ (.slice B3 k3 l3)).heap.size := by have := ext_size xb1; have := ext_size xb2; have := ext_size xb3; simp at *; omega
  refine D2.wp_drawn (D2.tab [(1, D2.RNum 1), (2, D2.REq (.tuple #[.int .i64 0, .int .i64 0]))]) (by kernel_rfl) (by kernel_rfl) (D2.tab_stays (by simp [D2.stays_num, D2.stays_eq])) (fun hq hqf => ?_)
  have u6 := fun nq => (hq nq w2.heap.size 0 m6).trans y6
  refine D2.wpK_det rfl (fun K hK => ?_)
  go_simp
  first
    | (refine hK _ ?_; clear hK K)
    | (apply Exists.intro; refine ⟨fun x => ?_, hK _ ?_⟩; (first | exact u6 x | (simp [u6]; done) | (simp [u6]; rfl)); clear hK K)
  refine D2.wpK_rel _ rfl rfl ?_ ?_
  · rintro _ ⟨nn, rfl⟩ _
    unfold D2.Oper.relAt
    go_simp
    exact D2.rel_num (nof_one _)
  rintro v ⟨_, ⟨nn, rfl⟩, hr⟩
  obtain ⟨F, f, rfl, -⟩ := hr
  clear nn
  refine D2.wpK_rel _ rfl rfl ?_ ?_
  · rintro _ ⟨nn, rfl⟩ hdep
    have q1 := hdep 1 (by kernel_rfl)
    simp only [D2.Facts.put] at q1
    have q2 := D2.num_at (vals := []) q1
    unfold D2.Oper.relAt
    go_simp
    refine (kC B3 k3 l3 F f _ (hR3'.ext nn.use) q2).mono ?_
    rintro e w' ⟨rfl, h4⟩
    exact ⟨_, rfl, h4, (fun b hb => by simp [D2.blk] at hb), rfl⟩
  rintro v ⟨_, ⟨nn, rfl⟩, rfl⟩
  clear nn
  iterate 5
    (refine D2.wpK_det rfl (fun K hK => ?_)
     go_simp
     refine hK _ ?_; clear hK K)
  refine D2.wpK_nil ?_
  intro nq hG
  have hE := Lib.hid nq.use
  clear hG u6 hq hqf
  have z0 := (Below.cell (p := ⟨w.heap.size + 1, 0, none⟩) hE.out m1).trans z0
  have z1 := (Below.cell (p := ⟨w.heap.size + 1, 1, none⟩) hE.out m1).trans z1
  have z2 := (Below.cell (p := ⟨w.heap.size + 1, 2, none⟩) hE.out m1).trans z2
  have e0 := (Below.frozen (p := ⟨w.heap.size + 1, 0, none⟩) hE.out m1).trans e0
  have e1 := (Below.frozen (p := ⟨w.heap.size + 1, 1, none⟩) hE.out m1).trans e1
  have e2 := (Below.frozen (p := ⟨w.heap.size + 1, 2, none⟩) hE.out m1).trans e2
  have x0 := (Below.cell (p := ⟨w.heap.size, 0, none⟩) hE.out (Nat.lt_of_succ_lt m1)).trans x0
  have x1 := (Below.cell (p := ⟨w.heap.size, 1, none⟩) hE.out (Nat.lt_of_succ_lt m1)).trans x1
  have m0 := ext_lt hE.out _ (Nat.lt_of_succ_lt m1)
  have m1 := ext_lt hE.out _ m1
  have hEE := Lib.hid (ext_trans hE3.out hE.out)
  clear xb1 xb2 xb3 y6 m6 l2 hb2 hR3' hE3 hE
  go_upto_region 13 with (first
    | (go_at_call 134; (with_reducible refine (kP5 _).mono ?_); rintro e w6 ⟨P6, p6, rfl, hP6, xb6⟩; obtain ⟨xc6, xf6, xl6, xz6⟩ := ext_use xb6; (try simp at xz6); obtain ⟨l6_0, gc, gf⟩ := kp xb6 (w.heap.size) (by first | omega | (simp; try omega)); have r6_0 := gc 0; have f6_0 := gf 0; have r6_0_1 := gc 1; have f6_0_1 := gf 1; clear gc gf; obtain ⟨l6_1, gc, gf⟩ := kp xb6 (w.heap.size + 1) (by first | omega | (simp; try omega)); have r6_1 := gc 0; have f6_1 := gf 0; have r6_1_1 := gc 1; have f6_1_1 := gf 1; have r6_1_2 := gc 2; have f6_1_2 := gf 2; clear gc gf)
   )
  have hby : Hid (Rd (w6.alloc (Obj.cells #[.slice P6 p6 p6] 30)) P6 p6 p6 (lim bv)) := hP6.out.1.ext (ext_alloc (ext_refl _) _)
  go_wp2_with (first
    | (go_at_call 135; (with_reducible refine (kM _ _ _ (ext_trans hEE.out (by (repeat (first | exact ext_refl _ | assumption | refine ext_setCell ?_ (by simp; try omega) _ | refine ext_alloc ?_ _ | refine ext_drew ?_ | refine ext_drewN ?_ _ | refine ext_trans ?_ (Aft.use _) | refine ext_trans ?_ (by assumption))))) hby.out).mono ?_); rintro e w8 ⟨rfl, xb8⟩; obtain ⟨xc8, xf8, xl8, xz8⟩ := ext_use xb8; (try simp at xz8); obtain ⟨l8_0, gc, gf⟩ := kp xb8 (w.heap.size) (by first | omega | (simp; try omega)); have r8_0 := gc 0; have f8_0 := gf 0; have r8_0_1 := gc 1; have f8_0_1 := gf 1; clear gc gf; obtain ⟨l8_1, gc, gf⟩ := kp xb8 (w.heap.size + 1) (by first | omega | (simp; try omega)); have r8_1 := gc 0; have f8_1 := gf 0; have r8_1_1 := gc 1; have f8_1_1 := gf 1; have r8_1_2 := gc 2; have f8_1_2 := gf 2; clear gc gf)
   )
  have z0 : w8.cell? ⟨w.heap.size + 1, 0, none⟩ = some (.bool false) := by simp [go_sem, *]
  have z1 : w8.cell? ⟨w.heap.size + 1, 1, none⟩ = some (.string ⟨#[]⟩) := by simp [go_sem, *]
  have z2 : w8.cell? ⟨w.heap.size + 1, 2, none⟩ = some (.int .i64 0) := by simp [go_sem, *]
  have lW : w.heap.size + 1 < w8.heap.size := by assumption
  obtain ⟨q0, q1, q2⟩ := set3 (b := w.heap.size + 1) z0 z1 z2 (.bool false) (.string ⟨#[]⟩) (.int .i64 0)
  have hWx : Ext (((w8.setCell ⟨w.heap.size + 1, 0, none⟩ (.bool false)).setCell ⟨w.heap.size + 1, 1, none⟩ (.string ⟨#[]⟩)).setCell ⟨w.heap.size + 1, 2, none⟩ (.int .i64 0)) ((((w8.setCell ⟨w.heap.size + 1, 0, none⟩ (.bool false)).setCell ⟨w.heap.size + 1, 1, none⟩ (.string ⟨#[]⟩)).setCell ⟨w.heap.size + 1, 2, none⟩ (.int .i64 0)).alloc (Obj.cells #[.slice none 0 0] 30)) := ext_alloc (ext_refl _) _
  have q0 := (Below.cell (p := ⟨w.heap.size + 1, 0, none⟩) hWx (by simpa using lW)).trans q0
  have q1 := (Below.cell (p := ⟨w.heap.size + 1, 1, none⟩) hWx (by simpa using lW)).trans q1
  have q2 := (Below.cell (p := ⟨w.heap.size + 1, 2, none⟩) hWx (by simpa using lW)).trans q2
  have hEW : Ext w w8 := by
    refine ext_trans hEE.out ?_
    (repeat (first | exact ext_refl _ | assumption | refine ext_setCell ?_ (by simp; try omega) _ | refine ext_alloc ?_ _ | refine ext_drew ?_ | refine ext_drewN ?_ _ | refine ext_trans ?_ (Aft.use _) | refine ext_trans ?_ (by assumption)))
  refine bodyPost_ret (v := noDc 4) ?h rfl ⟨rfl, ext_trans (ext_set3 hEW (by omega) _ _ _) hWx⟩
  case h => simp [results, Tryz.results58, go_sem, q0, q1, q2]
theorem of_good_ge (neg : Bool) (A : Option Addr) (n c : Nat) (D : Option Addr) (m k d1 r t j p5 bv : Nat) (ht : t ≤ 1000000) (hj : j ≤ 1000000) (htj : (j : Int) ≤ (t : Int)) (hp5 : max (0 : Int) ((t : Int) - (j : Int)) = (p5 : Int)) (w : World)
    (hck : ∀ w', Ext w w' → Calls Tryz.prog 30 #[ratV neg A n c D m k] w' fun e w'' => e = .returned (.int .i64 0) ∧ Ext w' w'')
    (kT : ∀ w', Ext w w' → Calls Tryz.prog 137 #[natV D m k] w' fun e w'' => ∃ (A' : Option Addr) (k : Nat), e = .returned (.tuple #[.int .i64 (t : Int), natV A' k k]) ∧ Hid (Rd w'' A' k k (lim d1) ∧ Fr w' A') ∧ Ext w' w'')
    (kO : ∀ A' k' w', Rd w' A' k' k' (lim d1) → Calls Tryz.prog 138 #[natV A' k' k', .int .u64 5] w' fun e w'' => ∃ (B : Option Addr) (k l : Nat), e = .returned (.tuple #[.int .i64 (j : Int), natV B k l]) ∧ Hid (Rd w'' B k l (lim r)) ∧ Ext w' w'')
    (kC : ∀ B k l F f w', Rd w' B k l (lim r) → Rd w' F f f (lim 1) → Calls Tryz.prog 139 #[natV B k l, natV F f f] w' fun e w'' => e = .returned (.tuple #[.int .i64 0, .int .i64 0]) ∧ Ext w' w'')
    (kP5 : ∀ w', Calls Tryz.prog 134 #[.int .u32 5, .int .i64 (p5 : Int)] w' (NatPost0 w' bv))
    (N : Nat) (s T : List UInt8) (mx : Nat) (hs : s.length ≤ 600000) (hTl : T.length ≤ s.length) (hmx : max (t : Int) (j : Int) = (mx : Int))
    (kM : ∀ P p w', Ext w w' → Rd w' P p p (lim bv) → Calls Tryz.prog 135 #[natV A n c, natV P p p] w' (NatPost0 w' N))
    (kTx : ∀ B k w', Rd w' B k k (lim N) → Calls Tryz.prog 140 #[natV B k k] w' fun e w'' => e = .returned (.tuple #[.string (bs s), .int .i64 0]) ∧ Ext w' w'')
    (kR : ∀ w', Calls Tryz.prog 141 #[.string (bs s), .string ⟨#[48]⟩] w' fun e w'' => e = .returned (.string (bs T)) ∧ w' = w'') (hT0 : T.isEmpty = false)
    (mn : Bool) (ml : List UInt8) (me : Int) (kMk : ∀ w', Calls Tryz.prog 142 #[.bool neg, .string (bs T), .int .i64 ((s.length : Int) - (T.length : Int) - (mx : Int))] w' fun e w'' => e = .returned (.tuple #[.agg #[.bool mn, .string (bs ml), .int .i64 me], .int .i64 0]) ∧ Ext w' w'') :
    Calls Tryz.prog 58 #[ratV neg A n c D m k] w fun e w' => e = .returned (.tuple #[.agg #[.bool mn, .string (bs ml), .int .i64 me], .bool true, .int .i64 0]) ∧ Ext w w' := by
  go_enter Tryz.func58, Tryz.ntmps58
  go_wp2_with (first
    | (go_at_call 30; (with_reducible refine (hck _ (by (repeat (first | exact ext_refl _ | assumption | refine ext_setCell ?_ (by simp; try omega) _ | refine ext_alloc ?_ _ | refine ext_drew ?_ | refine ext_drewN ?_ _ | refine ext_trans ?_ (Aft.use _) | refine ext_trans ?_ (by assumption))))).mono ?_); rintro e w1 ⟨rfl, xb1⟩; obtain ⟨xc1, xf1, xl1, xz1⟩ := ext_use xb1; (try simp at xz1); obtain ⟨l1_0, gc, gf⟩ := kp xb1 (w.heap.size) (by first | omega | (simp; try omega)); have r1_0 := gc 0; have f1_0 := gf 0; have r1_0_1 := gc 1; have f1_0_1 := gf 1; have r1_0_2 := gc 2; have f1_0_2 := gf 2; clear gc gf; obtain ⟨l1_1, gc, gf⟩ := kp xb1 (w.heap.size + 1) (by first | omega | (simp; try omega)); have r1_1 := gc 0; have f1_1 := gf 0; have r1_1_1 := gc 1; have f1_1_1 := gf 1; have r1_1_2 := gc 2; have f1_1_2 := gf 2; clear gc gf)
    | (go_at_call 137; (with_reducible refine (kT _ (by (repeat (first | exact ext_refl _ | assumption | refine ext_setCell ?_ (by simp; try omega) _ | refine ext_alloc ?_ _ | refine ext_drew ?_ | refine ext_drewN ?_ _ | refine ext_trans ?_ (Aft.use _) | refine ext_trans ?_ (by assumption))))).mono ?_); rintro e w2 ⟨A2, k2, rfl, hR2, xb2⟩; obtain ⟨xc2, xf2, xl2, xz2⟩ := ext_use xb2; (try simp at xz2); obtain ⟨l2_0, gc, gf⟩ := kp xb2 (w.heap.size) (by first | omega | (simp; try omega)); have r2_0 := gc 0; have f2_0 := gf 0; have r2_0_1 := gc 1; have f2_0_1 := gf 1; have r2_0_2 := gc 2; have f2_0_2 := gf 2; clear gc gf; obtain ⟨l2_1, gc, gf⟩ := kp xb2 (w.heap.size + 1) (by first | omega | (simp; try omega)); have r2_1 := gc 0; have f2_1 := gf 0; have r2_1_1 := gc 1; have f2_1_1 := gf 1; have r2_1_2 := gc 2; have f2_1_2 := gf 2; clear gc gf)
    | (go_at_call 138; (with_reducible refine (kO _ _ _ (hR2.out.1.ext (by (repeat (first | exact ext_refl _ | assumption | refine ext_setCell ?_ (by simp; try omega) _ | refine ext_alloc ?_ _ | refine ext_drew ?_ | refine ext_drewN ?_ _ | refine ext_trans ?_ (Aft.use _) | refine ext_trans ?_ (by assumption)))))).mono ?_); rintro e w3 ⟨B3, k3, l3, rfl, hR3, xb3⟩; obtain ⟨xc3, xf3, xl3, xz3⟩ := ext_use xb3; (try simp at xz3); obtain ⟨l3_0, gc, gf⟩ := kp xb3 (w.heap.size) (by first | omega | (simp; try omega)); have r3_0 := gc 0; have f3_0 := gf 0; have r3_0_1 := gc 1; have f3_0_1 := gf 1; have r3_0_2 := gc 2; have f3_0_2 := gf 2; clear gc gf; obtain ⟨l3_1, gc, gf⟩ := kp xb3 (w.heap.size + 1) (by first | omega | (simp; try omega)); have r3_1 := gc 0; have f3_1 := gf 0; have r3_1_1 := gc 1; have f3_1_1 := gf 1; have r3_1_2 := gc 2; have f3_1_2 := gf 2; clear gc gf; obtain ⟨l3_2, gc, gf⟩ := kp xb3 (w2.heap.size) (by first | omega | (simp; try omega)); have r3_2 := gc 0; have f3_2 := gf 0; clear gc gf)
   )
  have hb2 : w3.heap[w2.heap.size]? = some (.cells #[.slice A2 k2 k2] 30 (0, 0)) := (xb3.block _ (by simp)).trans (heap_alloc_new w2 _)
  have l2 : w2.heap.size < w3.heap.size := by have := ext_size xb3; simp at this; omega
  have hR3' : Rd (w3.setCell ⟨w2.heap.size, 0, none⟩ (.slice B3 k3 l3)) B3 k3 l3 (lim r) := rd_apart2 hR3.out hb2 (fun _ e => by cases e) _
  have y6 : (w3.setCell ⟨w2.heap.size, 0, none⟩ (.slice B3 k3 l3)).cell? ⟨w2.heap.size, 0, none⟩ = some (.slice B3 k3 l3) := World.cell?_setCell_same _ _ _ (cell_of_block hb2 0)
  have m6 : w2.heap.size < (w3.setCell ⟨w2.heap.size, 0, none⟩ (.slice B3 k3 l3)).heap.size := by simpa using l2
  have hE3 : Hid (Ext w (w3.setCell ⟨w2.heap.size, 0, none⟩ (.slice B3 k3 l3))) := by show Ext w _; exact ext_setCell (show Ext w w3 by (repeat (first | exact ext_refl _ | assumption | refine ext_setCell ?_ (by simp; try omega) _ | refine ext_alloc ?_ _ | refine ext_drew ?_ | refine ext_drewN ?_ _ | refine ext_trans ?_ (Aft.use _) | refine ext_trans ?_ (by assumption)))) (by have := ext_size xb1; have := ext_size xb2; simp at *; omega) _
  have z0 : (w3.setCell ⟨w2.heap.size, 0, none⟩ (.slice B3 k3 l3)).cell? ⟨w.heap.size + 1, 0, none⟩ = some (.bool false) := by simp [go_sem, *]
  have z1 : (w3.setCell ⟨w2.heap.size, 0, none⟩ (.slice B3 k3 l3)).cell? ⟨w.heap.size + 1, 1, none⟩ = some (.string ⟨#[]⟩) := by simp [go_sem, *]
  have z2 : (w3.setCell ⟨w2.heap.size, 0, none⟩ (.slice B3 k3 l3)).cell? ⟨w.heap.size + 1, 2, none⟩ = some (.int .i64 0) := by simp [go_sem, *]
  have e0 : (w3.setCell ⟨w2.heap.size, 0, none⟩ (.slice B3 k3 l3)).frozen? ⟨w.heap.size + 1, 0, none⟩ = false := by simp [go_sem, *]
  have e1 : (w3.setCell ⟨w2.heap.size, 0, none⟩ (.slice B3 k3 l3)).frozen? ⟨w.heap.size + 1, 1, none⟩ = false := by simp [go_sem, *]
  have e2 : (w3.setCell ⟨w2.heap.size, 0, none⟩ (.slice B3 k3 l3)).frozen? ⟨w.heap.size + 1, 2, none⟩ = false := by simp [go_sem, *]
  have x0 : (w3.setCell ⟨w2.heap.size, 0, none⟩ (.slice B3 k3 l3)).cell? ⟨w.heap.size, 0, none⟩ = some (.bool neg) := by simp [go_sem, *]
  have x1 : (w3.setCell ⟨w2.heap.size, 0, none⟩ (.slice B3 k3 l3)).cell? ⟨w.heap.size, 1, none⟩ = some (.slice A n c) := by simp [go_sem, *]
  have m1 : w.heap.size + 1 < (w3.setCell ⟨w2.heap.size, 0, none⟩ (.slice B3 k3 l3)).heap.size := by have := ext_size xb1; have := ext_size xb2; have := ext_size xb3; simp at *; omega
  refine D2.wp_drawn (D2.tab [(1, D2.RNum 1), (2, D2.REq (.tuple #[.int .i64 0, .int .i64 0]))]) (by kernel_rfl) (by kernel_rfl) (D2.tab_stays (by simp [D2.stays_num, D2.stays_eq])) (fun hq hqf => ?_)
  have u6 := fun nq => (hq nq w2.heap.size 0 m6).trans y6
  refine D2.wpK_det rfl (fun K hK => ?_)
  go_simp
  first
    | (refine hK _ ?_; clear hK K)
    | (apply Exists.intro; refine ⟨fun x => ?_, hK _ ?_⟩; (first | exact u6 x | (simp [u6]; done) | (simp [u6]; rfl)); clear hK K)
  refine D2.wpK_rel _ rfl rfl ?_ ?_
  · rintro _ ⟨nn, rfl⟩ _
    unfold D2.Oper.relAt
    go_simp
    exact D2.rel_num (nof_one _)
  rintro v ⟨_, ⟨nn, rfl⟩, hr⟩
  obtain ⟨F, f, rfl, -⟩ := hr
  clear nn
  refine D2.wpK_rel _ rfl rfl ?_ ?_
  · rintro _ ⟨nn, rfl⟩ hdep
    have q1 := hdep 1 (by kernel_rfl)
    simp only [D2.Facts.put] at q1
    have q2 := D2.num_at (vals := []) q1
    unfold D2.Oper.relAt
    go_simp
    refine (kC B3 k3 l3 F f _ (hR3'.ext nn.use) q2).mono ?_
    rintro e w' ⟨rfl, h4⟩
    exact ⟨_, rfl, h4, (fun b hb => by simp [D2.blk] at hb), rfl⟩
  rintro v ⟨_, ⟨nn, rfl⟩, rfl⟩
  clear nn
  iterate 5
    (refine D2.wpK_det rfl (fun K hK => ?_)
     go_simp
     refine hK _ ?_; clear hK K)
  refine D2.wpK_nil ?_
  intro nq hG
  have hE := Lib.hid nq.use
  clear hG u6 hq hqf
  have z0 := (Below.cell (p := ⟨w.heap.size + 1, 0, none⟩) hE.out m1).trans z0
  have z1 := (Below.cell (p := ⟨w.heap.size + 1, 1, none⟩) hE.out m1).trans z1
  have z2 := (Below.cell (p := ⟨w.heap.size + 1, 2, none⟩) hE.out m1).trans z2
  have e0 := (Below.frozen (p := ⟨w.heap.size + 1, 0, none⟩) hE.out m1).trans e0
  have e1 := (Below.frozen (p := ⟨w.heap.size + 1, 1, none⟩) hE.out m1).trans e1
  have e2 := (Below.frozen (p := ⟨w.heap.size + 1, 2, none⟩) hE.out m1).trans e2
  have x0 := (Below.cell (p := ⟨w.heap.size, 0, none⟩) hE.out (Nat.lt_of_succ_lt m1)).trans x0
  have x1 := (Below.cell (p := ⟨w.heap.size, 1, none⟩) hE.out (Nat.lt_of_succ_lt m1)).trans x1
  have m0 := ext_lt hE.out _ (Nat.lt_of_succ_lt m1)
  have m1 := ext_lt hE.out _ m1
  have hEE := Lib.hid (ext_trans hE3.out hE.out)
  clear xb1 xb2 xb3 y6 m6 l2 hb2 hR3' hE3 hE
  go_upto_region 13 with (first
    | (go_at_call 134; (with_reducible refine (kP5 _).mono ?_); rintro e w6 ⟨P6, p6, rfl, hP6, xb6⟩; obtain ⟨xc6, xf6, xl6, xz6⟩ := ext_use xb6; (try simp at xz6); obtain ⟨l6_0, gc, gf⟩ := kp xb6 (w.heap.size) (by first | omega | (simp; try omega)); have r6_0 := gc 0; have f6_0 := gf 0; have r6_0_1 := gc 1; have f6_0_1 := gf 1; clear gc gf; obtain ⟨l6_1, gc, gf⟩ := kp xb6 (w.heap.size + 1) (by first | omega | (simp; try omega)); have r6_1 := gc 0; have f6_1 := gf 0; have r6_1_1 := gc 1; have f6_1_1 := gf 1; have r6_1_2 := gc 2; have f6_1_2 := gf 2; clear gc gf)
   )
  have hby : Hid (Rd (w6.alloc (Obj.cells #[.slice P6 p6 p6] 30)) P6 p6 p6 (lim bv)) := hP6.out.1.ext (ext_alloc (ext_refl _) _)
  go_wp2_with (first
    | (go_at_call 135; (with_reducible refine (kM _ _ _ (ext_trans hEE.out (by (repeat (first | exact ext_refl _ | assumption | refine ext_setCell ?_ (by simp; try omega) _ | refine ext_alloc ?_ _ | refine ext_drew ?_ | refine ext_drewN ?_ _ | refine ext_trans ?_ (Aft.use _) | refine ext_trans ?_ (by assumption))))) hby.out).mono ?_); rintro e w8 ⟨C8, k8, rfl, hR8, xb8⟩; obtain ⟨xc8, xf8, xl8, xz8⟩ := ext_use xb8; (try simp at xz8); obtain ⟨l8_0, gc, gf⟩ := kp xb8 (w.heap.size) (by first | omega | (simp; try omega)); have r8_0 := gc 0; have f8_0 := gf 0; have r8_0_1 := gc 1; have f8_0_1 := gf 1; clear gc gf; obtain ⟨l8_1, gc, gf⟩ := kp xb8 (w.heap.size + 1) (by first | omega | (simp; try omega)); have r8_1 := gc 0; have f8_1 := gf 0; have r8_1_1 := gc 1; have f8_1_1 := gf 1; have r8_1_2 := gc 2; have f8_1_2 := gf 2; clear gc gf)
    | (go_at_call 140; (with_reducible refine (kTx _ _ _ (hR8.out.1.ext (by (repeat (first | exact ext_refl _ | assumption | refine ext_setCell ?_ (by simp; try omega) _ | refine ext_alloc ?_ _ | refine ext_drew ?_ | refine ext_drewN ?_ _ | refine ext_trans ?_ (Aft.use _) | refine ext_trans ?_ (by assumption)))))).mono ?_); rintro e w9 ⟨rfl, xb9⟩; obtain ⟨xc9, xf9, xl9, xz9⟩ := ext_use xb9; (try simp at xz9); obtain ⟨l9_0, gc, gf⟩ := kp xb9 (w.heap.size) (by first | omega | (simp; try omega)); have r9_0 := gc 0; have f9_0 := gf 0; have r9_0_1 := gc 1; have f9_0_1 := gf 1; clear gc gf; obtain ⟨l9_1, gc, gf⟩ := kp xb9 (w.heap.size + 1) (by first | omega | (simp; try omega)); have r9_1 := gc 0; have f9_1 := gf 0; have r9_1_1 := gc 1; have f9_1_1 := gf 1; have r9_1_2 := gc 2; have f9_1_2 := gf 2; clear gc gf)
    | (go_at_call 141; (with_reducible refine (kR _).mono ?_); rintro e w' ⟨rfl, rfl⟩)
    | (go_at_call 142; (with_reducible refine (kMk _).mono ?_); rintro e w11 ⟨rfl, xb11⟩; obtain ⟨xc11, xf11, xl11, xz11⟩ := ext_use xb11; (try simp at xz11); obtain ⟨l11_0, gc, gf⟩ := kp xb11 (w.heap.size) (by first | omega | (simp; try omega)); have r11_0 := gc 0; have f11_0 := gf 0; have r11_0_1 := gc 1; have f11_0_1 := gf 1; clear gc gf; obtain ⟨l11_1, gc, gf⟩ := kp xb11 (w.heap.size + 1) (by first | omega | (simp; try omega)); have r11_1 := gc 0; have f11_1 := gf 0; have r11_1_1 := gc 1; have f11_1_1 := gf 1; have r11_1_2 := gc 2; have f11_1_2 := gf 2; clear gc gf)
   )
  have z0 : w11.cell? ⟨w.heap.size + 1, 0, none⟩ = some (.bool false) := by simp [go_sem, *]
  have z1 : w11.cell? ⟨w.heap.size + 1, 1, none⟩ = some (.string ⟨#[]⟩) := by simp [go_sem, *]
  have z2 : w11.cell? ⟨w.heap.size + 1, 2, none⟩ = some (.int .i64 0) := by simp [go_sem, *]
  have lW : w.heap.size + 1 < w11.heap.size := by assumption
  obtain ⟨q0, q1, q2⟩ := set3 (b := w.heap.size + 1) z0 z1 z2 (.bool mn) (.string (bs ml)) (.int .i64 me)
  have hWx : Ext (((w11.setCell ⟨w.heap.size + 1, 0, none⟩ (.bool mn)).setCell ⟨w.heap.size + 1, 1, none⟩ (.string (bs ml))).setCell ⟨w.heap.size + 1, 2, none⟩ (.int .i64 me)) ((((w11.setCell ⟨w.heap.size + 1, 0, none⟩ (.bool mn)).setCell ⟨w.heap.size + 1, 1, none⟩ (.string (bs ml))).setCell ⟨w.heap.size + 1, 2, none⟩ (.int .i64 me)).alloc (Obj.cells #[.bool mn, .string (bs ml), .int .i64 me] 72)) := ext_alloc (ext_refl _) _
  have q0 := (Below.cell (p := ⟨w.heap.size + 1, 0, none⟩) hWx (by simpa using lW)).trans q0
  have q1 := (Below.cell (p := ⟨w.heap.size + 1, 1, none⟩) hWx (by simpa using lW)).trans q1
  have q2 := (Below.cell (p := ⟨w.heap.size + 1, 2, none⟩) hWx (by simpa using lW)).trans q2
  have hEW : Ext w w11 := by
    refine ext_trans hEE.out ?_
    (repeat (first | exact ext_refl _ | assumption | refine ext_setCell ?_ (by simp; try omega) _ | refine ext_alloc ?_ _ | refine ext_drew ?_ | refine ext_drewN ?_ _ | refine ext_trans ?_ (Aft.use _) | refine ext_trans ?_ (by assumption)))
  refine bodyPost_ret (v := .tuple #[.agg #[.bool mn, .string (bs ml), .int .i64 me], .bool true, .int .i64 0]) ?h rfl ⟨rfl, ext_trans (ext_set3 hEW (by omega) _ _ _) hWx⟩
  case h => simp [results, Tryz.results58, go_sem, q0, q1, q2]
theorem of_long_lt (neg : Bool) (A : Option Addr) (n c : Nat) (D : Option Addr) (m k d1 r t j p5 bv : Nat) (ht : t ≤ 1000000) (hj : j ≤ 1000000) (htj : (t : Int) < (j : Int)) (hp5 : max (0 : Int) ((t : Int) - (j : Int)) = (p5 : Int)) (w : World)
    (hck : ∀ w', Ext w w' → Calls Tryz.prog 30 #[ratV neg A n c D m k] w' fun e w'' => e = .returned (.int .i64 0) ∧ Ext w' w'')
    (kT : ∀ w', Ext w w' → Calls Tryz.prog 137 #[natV D m k] w' fun e w'' => ∃ (A' : Option Addr) (k : Nat), e = .returned (.tuple #[.int .i64 (t : Int), natV A' k k]) ∧ Hid (Rd w'' A' k k (lim d1) ∧ Fr w' A') ∧ Ext w' w'')
    (kO : ∀ A' k' w', Rd w' A' k' k' (lim d1) → Calls Tryz.prog 138 #[natV A' k' k', .int .u64 5] w' fun e w'' => ∃ (B : Option Addr) (k l : Nat), e = .returned (.tuple #[.int .i64 (j : Int), natV B k l]) ∧ Hid (Rd w'' B k l (lim r)) ∧ Ext w' w'')
    (kC : ∀ B k l F f w', Rd w' B k l (lim r) → Rd w' F f f (lim 1) → Calls Tryz.prog 139 #[natV B k l, natV F f f] w' fun e w'' => e = .returned (.tuple #[.int .i64 0, .int .i64 0]) ∧ Ext w' w'')
    (kP5 : ∀ w', Calls Tryz.prog 134 #[.int .u32 5, .int .i64 (p5 : Int)] w' (NatPost0 w' 1)) (kP2 : ∀ w', Calls Tryz.prog 134 #[.int .u32 2, .int .i64 ((j : Int) - (t : Int))] w' (NatPost0 w' bv))
    (kM : ∀ P p w', Ext w w' → Rd w' P p p (lim bv) → Calls Tryz.prog 135 #[natV A n c, natV P p p] w' fun e w'' => e = .returned (.tuple #[natV none 0 0, .int .i64 4]) ∧ Ext w' w'') :
    Calls Tryz.prog 58 #[ratV neg A n c D m k] w fun e w' => e = .returned (noDc 4) ∧ Ext w w' := by
  go_enter Tryz.func58, Tryz.ntmps58
  go_wp2_with (first
    | (go_at_call 30; (with_reducible refine (hck _ (by (repeat (first | exact ext_refl _ | assumption | refine ext_setCell ?_ (by simp; try omega) _ | refine ext_alloc ?_ _ | refine ext_drew ?_ | refine ext_drewN ?_ _ | refine ext_trans ?_ (Aft.use _) | refine ext_trans ?_ (by assumption))))).mono ?_); rintro e w1 ⟨rfl, xb1⟩; obtain ⟨xc1, xf1, xl1, xz1⟩ := ext_use xb1; (try simp at xz1); obtain ⟨l1_0, gc, gf⟩ := kp xb1 (w.heap.size) (by first | omega | (simp; try omega)); have r1_0 := gc 0; have f1_0 := gf 0; have r1_0_1 := gc 1; have f1_0_1 := gf 1; have r1_0_2 := gc 2; have f1_0_2 := gf 2; clear gc gf; obtain ⟨l1_1, gc, gf⟩ := kp xb1 (w.heap.size + 1) (by first | omega | (simp; try omega)); have r1_1 := gc 0; have f1_1 := gf 0; have r1_1_1 := gc 1; have f1_1_1 := gf 1; have r1_1_2 := gc 2; have f1_1_2 := gf 2; clear gc gf)
    | (go_at_call 137; (with_reducible refine (kT _ (by (repeat (first | exact ext_refl _ | assumption | refine ext_setCell ?_ (by simp; try omega) _ | refine ext_alloc ?_ _ | refine ext_drew ?_ | refine ext_drewN ?_ _ | refine ext_trans ?_ (Aft.use _) | refine ext_trans ?_ (by assumption))))).mono ?_); rintro e w2 ⟨A2, k2, rfl, hR2, xb2⟩; obtain ⟨xc2, xf2, xl2, xz2⟩ := ext_use xb2; (try simp at xz2); obtain ⟨l2_0, gc, gf⟩ := kp xb2 (w.heap.size) (by first | omega | (simp; try omega)); have r2_0 := gc 0; have f2_0 := gf 0; have r2_0_1 := gc 1; have f2_0_1 := gf 1; have r2_0_2 := gc 2; have f2_0_2 := gf 2; clear gc gf; obtain ⟨l2_1, gc, gf⟩ := kp xb2 (w.heap.size + 1) (by first | omega | (simp; try omega)); have r2_1 := gc 0; have f2_1 := gf 0; have r2_1_1 := gc 1; have f2_1_1 := gf 1; have r2_1_2 := gc 2; have f2_1_2 := gf 2; clear gc gf)
    | (go_at_call 138; (with_reducible refine (kO _ _ _ (hR2.out.1.ext (by (repeat (first | exact ext_refl _ | assumption | refine ext_setCell ?_ (by simp; try omega) _ | refine ext_alloc ?_ _ | refine ext_drew ?_ | refine ext_drewN ?_ _ | refine ext_trans ?_ (Aft.use _) | refine ext_trans ?_ (by assumption)))))).mono ?_); rintro e w3 ⟨B3, k3, l3, rfl, hR3, xb3⟩; obtain ⟨xc3, xf3, xl3, xz3⟩ := ext_use xb3; (try simp at xz3); obtain ⟨l3_0, gc, gf⟩ := kp xb3 (w.heap.size) (by first | omega | (simp; try omega)); have r3_0 := gc 0; have f3_0 := gf 0; have r3_0_1 := gc 1; have f3_0_1 := gf 1; have r3_0_2 := gc 2; have f3_0_2 := gf 2; clear gc gf; obtain ⟨l3_1, gc, gf⟩ := kp xb3 (w.heap.size + 1) (by first | omega | (simp; try omega)); have r3_1 := gc 0; have f3_1 := gf 0; have r3_1_1 := gc 1; have f3_1_1 := gf 1; have r3_1_2 := gc 2; have f3_1_2 := gf 2; clear gc gf; obtain ⟨l3_2, gc, gf⟩ := kp xb3 (w2.heap.size) (by first | omega | (simp; try omega)); have r3_2 := gc 0; have f3_2 := gf 0; clear gc gf)
   )
  have hb2 : w3.heap[w2.heap.size]? = some (.cells #[.slice A2 k2 k2] 30 (0, 0)) := (xb3.block _ (by simp)).trans (heap_alloc_new w2 _)
  have l2 : w2.heap.size < w3.heap.size := by have := ext_size xb3; simp at this; omega
  have hR3' : Rd (w3.setCell ⟨w2.heap.size, 0, none⟩ (.slice B3 k3 l3)) B3 k3 l3 (lim r) := rd_apart2 hR3.out hb2 (fun _ e => by cases e) _
  have y6 : (w3.setCell ⟨w2.heap.size, 0, none⟩ (.slice B3 k3 l3)).cell? ⟨w2.heap.size, 0, none⟩ = some (.slice B3 k3 l3) := World.cell?_setCell_same _ _ _ (cell_of_block hb2 0)
  have m6 : w2.heap.size < (w3.setCell ⟨w2.heap.size, 0, none⟩ (.slice B3 k3 l3)).heap.size := by simpa using l2
  have hE3 : Hid (Ext w (w3.setCell ⟨w2.heap.size, 0, none⟩ (.slice B3 k3 l3))) := by show Ext w _; exact ext_setCell (show Ext w w3 by (repeat (first | exact ext_refl _ | assumption | refine ext_setCell ?_ (by simp; try omega) _ | refine ext_alloc ?_ _ | refine ext_drew ?_ | refine ext_drewN ?_ _ | refine ext_trans ?_ (Aft.use _) | refine ext_trans ?_ (by assumption)))) (by have := ext_size xb1; have := ext_size xb2; simp at *; omega) _
  have z0 : (w3.setCell ⟨w2.heap.size, 0, none⟩ (.slice B3 k3 l3)).cell? ⟨w.heap.size + 1, 0, none⟩ = some (.bool false) := by simp [go_sem, *]
  have z1 : (w3.setCell ⟨w2.heap.size, 0, none⟩ (.slice B3 k3 l3)).cell? ⟨w.heap.size + 1, 1, none⟩ = some (.string ⟨#[]⟩) := by simp [go_sem, *]
  have z2 : (w3.setCell ⟨w2.heap.size, 0, none⟩ (.slice B3 k3 l3)).cell? ⟨w.heap.size + 1, 2, none⟩ = some (.int .i64 0) := by simp [go_sem, *]
  have e0 : (w3.setCell ⟨w2.heap.size, 0, none⟩ (.slice B3 k3 l3)).frozen? ⟨w.heap.size + 1, 0, none⟩ = false := by simp [go_sem, *]
  have e1 : (w3.setCell ⟨w2.heap.size, 0, none⟩ (.slice B3 k3 l3)).frozen? ⟨w.heap.size + 1, 1, none⟩ = false := by simp [go_sem, *]
  have e2 : (w3.setCell ⟨w2.heap.size, 0, none⟩ (.slice B3 k3 l3)).frozen? ⟨w.heap.size + 1, 2, none⟩ = false := by simp [go_sem, *]
  have x0 : (w3.setCell ⟨w2.heap.size, 0, none⟩ (.slice B3 k3 l3)).cell? ⟨w.heap.size, 0, none⟩ = some (.bool neg) := by simp [go_sem, *]
  have x1 : (w3.setCell ⟨w2.heap.size, 0, none⟩ (.slice B3 k3 l3)).cell? ⟨w.heap.size, 1, none⟩ = some (.slice A n c) := by simp [go_sem, *]
  have m1 : w.heap.size + 1 < (w3.setCell ⟨w2.heap.size, 0, none⟩ (.slice B3 k3 l3)).heap.size := by have := ext_size xb1; have := ext_size xb2; have := ext_size xb3; simp at *; omega
  refine D2.wp_drawn (D2.tab [(1, D2.RNum 1), (2, D2.REq (.tuple #[.int .i64 0, .int .i64 0]))]) (by kernel_rfl) (by kernel_rfl) (D2.tab_stays (by simp [D2.stays_num, D2.stays_eq])) (fun hq hqf => ?_)
  have u6 := fun nq => (hq nq w2.heap.size 0 m6).trans y6
  refine D2.wpK_det rfl (fun K hK => ?_)
  go_simp
  first
    | (refine hK _ ?_; clear hK K)
    | (apply Exists.intro; refine ⟨fun x => ?_, hK _ ?_⟩; (first | exact u6 x | (simp [u6]; done) | (simp [u6]; rfl)); clear hK K)
  refine D2.wpK_rel _ rfl rfl ?_ ?_
  · rintro _ ⟨nn, rfl⟩ _
    unfold D2.Oper.relAt
    go_simp
    exact D2.rel_num (nof_one _)
  rintro v ⟨_, ⟨nn, rfl⟩, hr⟩
  obtain ⟨F, f, rfl, -⟩ := hr
  clear nn
  refine D2.wpK_rel _ rfl rfl ?_ ?_
  · rintro _ ⟨nn, rfl⟩ hdep
    have q1 := hdep 1 (by kernel_rfl)
    simp only [D2.Facts.put] at q1
    have q2 := D2.num_at (vals := []) q1
    unfold D2.Oper.relAt
    go_simp
    refine (kC B3 k3 l3 F f _ (hR3'.ext nn.use) q2).mono ?_
    rintro e w' ⟨rfl, h4⟩
    exact ⟨_, rfl, h4, (fun b hb => by simp [D2.blk] at hb), rfl⟩
  rintro v ⟨_, ⟨nn, rfl⟩, rfl⟩
  clear nn
  iterate 5
    (refine D2.wpK_det rfl (fun K hK => ?_)
     go_simp
     refine hK _ ?_; clear hK K)
  refine D2.wpK_nil ?_
  intro nq hG
  have hE := Lib.hid nq.use
  clear hG u6 hq hqf
  have z0 := (Below.cell (p := ⟨w.heap.size + 1, 0, none⟩) hE.out m1).trans z0
  have z1 := (Below.cell (p := ⟨w.heap.size + 1, 1, none⟩) hE.out m1).trans z1
  have z2 := (Below.cell (p := ⟨w.heap.size + 1, 2, none⟩) hE.out m1).trans z2
  have e0 := (Below.frozen (p := ⟨w.heap.size + 1, 0, none⟩) hE.out m1).trans e0
  have e1 := (Below.frozen (p := ⟨w.heap.size + 1, 1, none⟩) hE.out m1).trans e1
  have e2 := (Below.frozen (p := ⟨w.heap.size + 1, 2, none⟩) hE.out m1).trans e2
  have x0 := (Below.cell (p := ⟨w.heap.size, 0, none⟩) hE.out (Nat.lt_of_succ_lt m1)).trans x0
  have x1 := (Below.cell (p := ⟨w.heap.size, 1, none⟩) hE.out (Nat.lt_of_succ_lt m1)).trans x1
  have m0 := ext_lt hE.out _ (Nat.lt_of_succ_lt m1)
  have m1 := ext_lt hE.out _ m1
  have hEE := Lib.hid (ext_trans hE3.out hE.out)
  clear xb1 xb2 xb3 y6 m6 l2 hb2 hR3' hE3 hE
  go_upto_region 13 with (first
    | (go_at_call 134; (with_reducible refine (kP5 _).mono ?_); rintro e w6 ⟨P6, p6, rfl, hP6, xb6⟩; obtain ⟨xc6, xf6, xl6, xz6⟩ := ext_use xb6; (try simp at xz6); obtain ⟨l6_0, gc, gf⟩ := kp xb6 (w.heap.size) (by first | omega | (simp; try omega)); have r6_0 := gc 0; have f6_0 := gf 0; have r6_0_1 := gc 1; have f6_0_1 := gf 1; clear gc gf; obtain ⟨l6_1, gc, gf⟩ := kp xb6 (w.heap.size + 1) (by first | omega | (simp; try omega)); have r6_1 := gc 0; have f6_1 := gf 0; have r6_1_1 := gc 1; have f6_1_1 := gf 1; have r6_1_2 := gc 2; have f6_1_2 := gf 2; clear gc gf)
    | (go_at_call 134; (with_reducible refine (kP2 _).mono ?_); rintro e w7 ⟨P7, p7, rfl, hP7, xb7⟩; obtain ⟨xc7, xf7, xl7, xz7⟩ := ext_use xb7; (try simp at xz7); obtain ⟨l7_0, gc, gf⟩ := kp xb7 (w.heap.size) (by first | omega | (simp; try omega)); have r7_0 := gc 0; have f7_0 := gf 0; have r7_0_1 := gc 1; have f7_0_1 := gf 1; clear gc gf; obtain ⟨l7_1, gc, gf⟩ := kp xb7 (w.heap.size + 1) (by first | omega | (simp; try omega)); have r7_1 := gc 0; have f7_1 := gf 0; have r7_1_1 := gc 1; have f7_1_1 := gf 1; have r7_1_2 := gc 2; have f7_1_2 := gf 2; clear gc gf; obtain ⟨l7_2, gc, gf⟩ := kp xb7 (w6.heap.size) (by first | omega | (simp; try omega)); have r7_2 := gc 0; have f7_2 := gf 0; clear gc gf)
   )
  have hb6 : w7.heap[w6.heap.size]? = some (.cells #[.slice P6 p6 p6] 30 (0, 0)) := (xb7.block _ (by simp)).trans (heap_alloc_new w6 _)
  have hby : Hid (Rd (w7.setCell ⟨w6.heap.size, 0, none⟩ (.slice P7 p7 p7)) P7 p7 p7 (lim bv)) := rd_apart2 hP7.out.1 hb6 (fun _ e => by cases e) _
  go_wp2_with (first
    | (go_at_call 135; (with_reducible refine (kM _ _ _ (ext_trans hEE.out (by (repeat (first | exact ext_refl _ | assumption | refine ext_setCell ?_ (by simp; try omega) _ | refine ext_alloc ?_ _ | refine ext_drew ?_ | refine ext_drewN ?_ _ | refine ext_trans ?_ (Aft.use _) | refine ext_trans ?_ (by assumption))))) hby.out).mono ?_); rintro e w8 ⟨rfl, xb8⟩; obtain ⟨xc8, xf8, xl8, xz8⟩ := ext_use xb8; (try simp at xz8); obtain ⟨l8_0, gc, gf⟩ := kp xb8 (w.heap.size) (by first | omega | (simp; try omega)); have r8_0 := gc 0; have f8_0 := gf 0; have r8_0_1 := gc 1; have f8_0_1 := gf 1; clear gc gf; obtain ⟨l8_1, gc, gf⟩ := kp xb8 (w.heap.size + 1) (by first | omega | (simp; try omega)); have r8_1 := gc 0; have f8_1 := gf 0; have r8_1_1 := gc 1; have f8_1_1 := gf 1; have r8_1_2 := gc 2; have f8_1_2 := gf 2; clear gc gf)
   )
  have z0 : w8.cell? ⟨w.heap.size + 1, 0, none⟩ = some (.bool false) := by simp [go_sem, *]
  have z1 : w8.cell? ⟨w.heap.size + 1, 1, none⟩ = some (.string ⟨#[]⟩) := by simp [go_sem, *]
  have z2 : w8.cell? ⟨w.heap.size + 1, 2, none⟩ = some (.int .i64 0) := by simp [go_sem, *]
  have lW : w.heap.size + 1 < w8.heap.size := by assumption
  obtain ⟨q0, q1, q2⟩ := set3 (b := w.heap.size + 1) z0 z1 z2 (.bool false) (.string ⟨#[]⟩) (.int .i64 0)
  have hWx : Ext (((w8.setCell ⟨w.heap.size + 1, 0, none⟩ (.bool false)).setCell ⟨w.heap.size + 1, 1, none⟩ (.string ⟨#[]⟩)).setCell ⟨w.heap.size + 1, 2, none⟩ (.int .i64 0)) ((((w8.setCell ⟨w.heap.size + 1, 0, none⟩ (.bool false)).setCell ⟨w.heap.size + 1, 1, none⟩ (.string ⟨#[]⟩)).setCell ⟨w.heap.size + 1, 2, none⟩ (.int .i64 0)).alloc (Obj.cells #[.slice none 0 0] 30)) := ext_alloc (ext_refl _) _
  have q0 := (Below.cell (p := ⟨w.heap.size + 1, 0, none⟩) hWx (by simpa using lW)).trans q0
  have q1 := (Below.cell (p := ⟨w.heap.size + 1, 1, none⟩) hWx (by simpa using lW)).trans q1
  have q2 := (Below.cell (p := ⟨w.heap.size + 1, 2, none⟩) hWx (by simpa using lW)).trans q2
  have hEW : Ext w w8 := by
    refine ext_trans hEE.out ?_
    (repeat (first | exact ext_refl _ | assumption | refine ext_setCell ?_ (by simp; try omega) _ | refine ext_alloc ?_ _ | refine ext_drew ?_ | refine ext_drewN ?_ _ | refine ext_trans ?_ (Aft.use _) | refine ext_trans ?_ (by assumption)))
  refine bodyPost_ret (v := noDc 4) ?h rfl ⟨rfl, ext_trans (ext_set3 hEW (by omega) _ _ _) hWx⟩
  case h => simp [results, Tryz.results58, go_sem, q0, q1, q2]
theorem of_good_lt (neg : Bool) (A : Option Addr) (n c : Nat) (D : Option Addr) (m k d1 r t j p5 bv : Nat) (ht : t ≤ 1000000) (hj : j ≤ 1000000) (htj : (t : Int) < (j : Int)) (hp5 : max (0 : Int) ((t : Int) - (j : Int)) = (p5 : Int)) (w : World)
    (hck : ∀ w', Ext w w' → Calls Tryz.prog 30 #[ratV neg A n c D m k] w' fun e w'' => e = .returned (.int .i64 0) ∧ Ext w' w'')
    (kT : ∀ w', Ext w w' → Calls Tryz.prog 137 #[natV D m k] w' fun e w'' => ∃ (A' : Option Addr) (k : Nat), e = .returned (.tuple #[.int .i64 (t : Int), natV A' k k]) ∧ Hid (Rd w'' A' k k (lim d1) ∧ Fr w' A') ∧ Ext w' w'')
    (kO : ∀ A' k' w', Rd w' A' k' k' (lim d1) → Calls Tryz.prog 138 #[natV A' k' k', .int .u64 5] w' fun e w'' => ∃ (B : Option Addr) (k l : Nat), e = .returned (.tuple #[.int .i64 (j : Int), natV B k l]) ∧ Hid (Rd w'' B k l (lim r)) ∧ Ext w' w'')
    (kC : ∀ B k l F f w', Rd w' B k l (lim r) → Rd w' F f f (lim 1) → Calls Tryz.prog 139 #[natV B k l, natV F f f] w' fun e w'' => e = .returned (.tuple #[.int .i64 0, .int .i64 0]) ∧ Ext w' w'')
    (kP5 : ∀ w', Calls Tryz.prog 134 #[.int .u32 5, .int .i64 (p5 : Int)] w' (NatPost0 w' 1)) (kP2 : ∀ w', Calls Tryz.prog 134 #[.int .u32 2, .int .i64 ((j : Int) - (t : Int))] w' (NatPost0 w' bv))
    (N : Nat) (s T : List UInt8) (mx : Nat) (hs : s.length ≤ 600000) (hTl : T.length ≤ s.length) (hmx : max (t : Int) (j : Int) = (mx : Int))
    (kM : ∀ P p w', Ext w w' → Rd w' P p p (lim bv) → Calls Tryz.prog 135 #[natV A n c, natV P p p] w' (NatPost0 w' N))
    (kTx : ∀ B k w', Rd w' B k k (lim N) → Calls Tryz.prog 140 #[natV B k k] w' fun e w'' => e = .returned (.tuple #[.string (bs s), .int .i64 0]) ∧ Ext w' w'')
    (kR : ∀ w', Calls Tryz.prog 141 #[.string (bs s), .string ⟨#[48]⟩] w' fun e w'' => e = .returned (.string (bs T)) ∧ w' = w'') (hT0 : T.isEmpty = false)
    (mn : Bool) (ml : List UInt8) (me : Int) (kMk : ∀ w', Calls Tryz.prog 142 #[.bool neg, .string (bs T), .int .i64 ((s.length : Int) - (T.length : Int) - (mx : Int))] w' fun e w'' => e = .returned (.tuple #[.agg #[.bool mn, .string (bs ml), .int .i64 me], .int .i64 0]) ∧ Ext w' w'') :
    Calls Tryz.prog 58 #[ratV neg A n c D m k] w fun e w' => e = .returned (.tuple #[.agg #[.bool mn, .string (bs ml), .int .i64 me], .bool true, .int .i64 0]) ∧ Ext w w' := by
  go_enter Tryz.func58, Tryz.ntmps58
  go_wp2_with (first
    | (go_at_call 30; (with_reducible refine (hck _ (by (repeat (first | exact ext_refl _ | assumption | refine ext_setCell ?_ (by simp; try omega) _ | refine ext_alloc ?_ _ | refine ext_drew ?_ | refine ext_drewN ?_ _ | refine ext_trans ?_ (Aft.use _) | refine ext_trans ?_ (by assumption))))).mono ?_); rintro e w1 ⟨rfl, xb1⟩; obtain ⟨xc1, xf1, xl1, xz1⟩ := ext_use xb1; (try simp at xz1); obtain ⟨l1_0, gc, gf⟩ := kp xb1 (w.heap.size) (by first | omega | (simp; try omega)); have r1_0 := gc 0; have f1_0 := gf 0; have r1_0_1 := gc 1; have f1_0_1 := gf 1; have r1_0_2 := gc 2; have f1_0_2 := gf 2; clear gc gf; obtain ⟨l1_1, gc, gf⟩ := kp xb1 (w.heap.size + 1) (by first | omega | (simp; try omega)); have r1_1 := gc 0; have f1_1 := gf 0; have r1_1_1 := gc 1; have f1_1_1 := gf 1; have r1_1_2 := gc 2; have f1_1_2 := gf 2; clear gc gf)
    | (go_at_call 137; (with_reducible refine (kT _ (by (repeat (first | exact ext_refl _ | assumption | refine ext_setCell ?_ (by simp; try omega) _ | refine ext_alloc ?_ _ | refine ext_drew ?_ | refine ext_drewN ?_ _ | refine ext_trans ?_ (Aft.use _) | refine ext_trans ?_ (by assumption))))).mono ?_); rintro e w2 ⟨A2, k2, rfl, hR2, xb2⟩; obtain ⟨xc2, xf2, xl2, xz2⟩ := ext_use xb2; (try simp at xz2); obtain ⟨l2_0, gc, gf⟩ := kp xb2 (w.heap.size) (by first | omega | (simp; try omega)); have r2_0 := gc 0; have f2_0 := gf 0; have r2_0_1 := gc 1; have f2_0_1 := gf 1; have r2_0_2 := gc 2; have f2_0_2 := gf 2; clear gc gf; obtain ⟨l2_1, gc, gf⟩ := kp xb2 (w.heap.size + 1) (by first | omega | (simp; try omega)); have r2_1 := gc 0; have f2_1 := gf 0; have r2_1_1 := gc 1; have f2_1_1 := gf 1; have r2_1_2 := gc 2; have f2_1_2 := gf 2; clear gc gf)
    | (go_at_call 138; (with_reducible refine (kO _ _ _ (hR2.out.1.ext (by (repeat (first | exact ext_refl _ | assumption | refine ext_setCell ?_ (by simp; try omega) _ | refine ext_alloc ?_ _ | refine ext_drew ?_ | refine ext_drewN ?_ _ | refine ext_trans ?_ (Aft.use _) | refine ext_trans ?_ (by assumption)))))).mono ?_); rintro e w3 ⟨B3, k3, l3, rfl, hR3, xb3⟩; obtain ⟨xc3, xf3, xl3, xz3⟩ := ext_use xb3; (try simp at xz3); obtain ⟨l3_0, gc, gf⟩ := kp xb3 (w.heap.size) (by first | omega | (simp; try omega)); have r3_0 := gc 0; have f3_0 := gf 0; have r3_0_1 := gc 1; have f3_0_1 := gf 1; have r3_0_2 := gc 2; have f3_0_2 := gf 2; clear gc gf; obtain ⟨l3_1, gc, gf⟩ := kp xb3 (w.heap.size + 1) (by first | omega | (simp; try omega)); have r3_1 := gc 0; have f3_1 := gf 0; have r3_1_1 := gc 1; have f3_1_1 := gf 1; have r3_1_2 := gc 2; have f3_1_2 := gf 2; clear gc gf; obtain ⟨l3_2, gc, gf⟩ := kp xb3 (w2.heap.size) (by first | omega | (simp; try omega)); have r3_2 := gc 0; have f3_2 := gf 0; clear gc gf)
   )
  have hb2 : w3.heap[w2.heap.size]? = some (.cells #[.slice A2 k2 k2] 30 (0, 0)) := (xb3.block _ (by simp)).trans (heap_alloc_new w2 _)
  have l2 : w2.heap.size < w3.heap.size := by have := ext_size xb3; simp at this; omega
  have hR3' : Rd (w3.setCell ⟨w2.heap.size, 0, none⟩ (.slice B3 k3 l3)) B3 k3 l3 (lim r) := rd_apart2 hR3.out hb2 (fun _ e => by cases e) _
  have y6 : (w3.setCell ⟨w2.heap.size, 0, none⟩ (.slice B3 k3 l3)).cell? ⟨w2.heap.size, 0, none⟩ = some (.slice B3 k3 l3) := World.cell?_setCell_same _ _ _ (cell_of_block hb2 0)
  have m6 : w2.heap.size < (w3.setCell ⟨w2.heap.size, 0, none⟩ (.slice B3 k3 l3)).heap.size := by simpa using l2
  have hE3 : Hid (Ext w (w3.setCell ⟨w2.heap.size, 0, none⟩ (.slice B3 k3 l3))) := by show Ext w _; exact ext_setCell (show Ext w w3 by (repeat (first | exact ext_refl _ | assumption | refine ext_setCell ?_ (by simp; try omega) _ | refine ext_alloc ?_ _ | refine ext_drew ?_ | refine ext_drewN ?_ _ | refine ext_trans ?_ (Aft.use _) | refine ext_trans ?_ (by assumption)))) (by have := ext_size xb1; have := ext_size xb2; simp at *; omega) _
  have z0 : (w3.setCell ⟨w2.heap.size, 0, none⟩ (.slice B3 k3 l3)).cell? ⟨w.heap.size + 1, 0, none⟩ = some (.bool false) := by simp [go_sem, *]
  have z1 : (w3.setCell ⟨w2.heap.size, 0, none⟩ (.slice B3 k3 l3)).cell? ⟨w.heap.size + 1, 1, none⟩ = some (.string ⟨#[]⟩) := by simp [go_sem, *]
  have z2 : (w3.setCell ⟨w2.heap.size, 0, none⟩ (.slice B3 k3 l3)).cell? ⟨w.heap.size + 1, 2, none⟩ = some (.int .i64 0) := by simp [go_sem, *]
  have e0 : (w3.setCell ⟨w2.heap.size, 0, none⟩ (.slice B3 k3 l3)).frozen? ⟨w.heap.size + 1, 0, none⟩ = false := by simp [go_sem, *]
  have e1 : (w3.setCell ⟨w2.heap.size, 0, none⟩ (.slice B3 k3 l3)).frozen? ⟨w.heap.size + 1, 1, none⟩ = false := by simp [go_sem, *]
  have e2 : (w3.setCell ⟨w2.heap.size, 0, none⟩ (.slice B3 k3 l3)).frozen? ⟨w.heap.size + 1, 2, none⟩ = false := by simp [go_sem, *]
  have x0 : (w3.setCell ⟨w2.heap.size, 0, none⟩ (.slice B3 k3 l3)).cell? ⟨w.heap.size, 0, none⟩ = some (.bool neg) := by simp [go_sem, *]
  have x1 : (w3.setCell ⟨w2.heap.size, 0, none⟩ (.slice B3 k3 l3)).cell? ⟨w.heap.size, 1, none⟩ = some (.slice A n c) := by simp [go_sem, *]
  have m1 : w.heap.size + 1 < (w3.setCell ⟨w2.heap.size, 0, none⟩ (.slice B3 k3 l3)).heap.size := by have := ext_size xb1; have := ext_size xb2; have := ext_size xb3; simp at *; omega
  refine D2.wp_drawn (D2.tab [(1, D2.RNum 1), (2, D2.REq (.tuple #[.int .i64 0, .int .i64 0]))]) (by kernel_rfl) (by kernel_rfl) (D2.tab_stays (by simp [D2.stays_num, D2.stays_eq])) (fun hq hqf => ?_)
  have u6 := fun nq => (hq nq w2.heap.size 0 m6).trans y6
  refine D2.wpK_det rfl (fun K hK => ?_)
  go_simp
  first
    | (refine hK _ ?_; clear hK K)
    | (apply Exists.intro; refine ⟨fun x => ?_, hK _ ?_⟩; (first | exact u6 x | (simp [u6]; done) | (simp [u6]; rfl)); clear hK K)
  refine D2.wpK_rel _ rfl rfl ?_ ?_
  · rintro _ ⟨nn, rfl⟩ _
    unfold D2.Oper.relAt
    go_simp
    exact D2.rel_num (nof_one _)
  rintro v ⟨_, ⟨nn, rfl⟩, hr⟩
  obtain ⟨F, f, rfl, -⟩ := hr
  clear nn
  refine D2.wpK_rel _ rfl rfl ?_ ?_
  · rintro _ ⟨nn, rfl⟩ hdep
    have q1 := hdep 1 (by kernel_rfl)
    simp only [D2.Facts.put] at q1
    have q2 := D2.num_at (vals := []) q1
    unfold D2.Oper.relAt
    go_simp
    refine (kC B3 k3 l3 F f _ (hR3'.ext nn.use) q2).mono ?_
    rintro e w' ⟨rfl, h4⟩
    exact ⟨_, rfl, h4, (fun b hb => by simp [D2.blk] at hb), rfl⟩
  rintro v ⟨_, ⟨nn, rfl⟩, rfl⟩
  clear nn
  iterate 5
    (refine D2.wpK_det rfl (fun K hK => ?_)
     go_simp
     refine hK _ ?_; clear hK K)
  refine D2.wpK_nil ?_
  intro nq hG
  have hE := Lib.hid nq.use
  clear hG u6 hq hqf
  have z0 := (Below.cell (p := ⟨w.heap.size + 1, 0, none⟩) hE.out m1).trans z0
  have z1 := (Below.cell (p := ⟨w.heap.size + 1, 1, none⟩) hE.out m1).trans z1
  have z2 := (Below.cell (p := ⟨w.heap.size + 1, 2, none⟩) hE.out m1).trans z2
  have e0 := (Below.frozen (p := ⟨w.heap.size + 1, 0, none⟩) hE.out m1).trans e0
  have e1 := (Below.frozen (p := ⟨w.heap.size + 1, 1, none⟩) hE.out m1).trans e1
  have e2 := (Below.frozen (p := ⟨w.heap.size + 1, 2, none⟩) hE.out m1).trans e2
  have x0 := (Below.cell (p := ⟨w.heap.size, 0, none⟩) hE.out (Nat.lt_of_succ_lt m1)).trans x0
  have x1 := (Below.cell (p := ⟨w.heap.size, 1, none⟩) hE.out (Nat.lt_of_succ_lt m1)).trans x1
  have m0 := ext_lt hE.out _ (Nat.lt_of_succ_lt m1)
  have m1 := ext_lt hE.out _ m1
  have hEE := Lib.hid (ext_trans hE3.out hE.out)
  clear xb1 xb2 xb3 y6 m6 l2 hb2 hR3' hE3 hE
  go_upto_region 13 with (first
    | (go_at_call 134; (with_reducible refine (kP5 _).mono ?_); rintro e w6 ⟨P6, p6, rfl, hP6, xb6⟩; obtain ⟨xc6, xf6, xl6, xz6⟩ := ext_use xb6; (try simp at xz6); obtain ⟨l6_0, gc, gf⟩ := kp xb6 (w.heap.size) (by first | omega | (simp; try omega)); have r6_0 := gc 0; have f6_0 := gf 0; have r6_0_1 := gc 1; have f6_0_1 := gf 1; clear gc gf; obtain ⟨l6_1, gc, gf⟩ := kp xb6 (w.heap.size + 1) (by first | omega | (simp; try omega)); have r6_1 := gc 0; have f6_1 := gf 0; have r6_1_1 := gc 1; have f6_1_1 := gf 1; have r6_1_2 := gc 2; have f6_1_2 := gf 2; clear gc gf)
    | (go_at_call 134; (with_reducible refine (kP2 _).mono ?_); rintro e w7 ⟨P7, p7, rfl, hP7, xb7⟩; obtain ⟨xc7, xf7, xl7, xz7⟩ := ext_use xb7; (try simp at xz7); obtain ⟨l7_0, gc, gf⟩ := kp xb7 (w.heap.size) (by first | omega | (simp; try omega)); have r7_0 := gc 0; have f7_0 := gf 0; have r7_0_1 := gc 1; have f7_0_1 := gf 1; clear gc gf; obtain ⟨l7_1, gc, gf⟩ := kp xb7 (w.heap.size + 1) (by first | omega | (simp; try omega)); have r7_1 := gc 0; have f7_1 := gf 0; have r7_1_1 := gc 1; have f7_1_1 := gf 1; have r7_1_2 := gc 2; have f7_1_2 := gf 2; clear gc gf; obtain ⟨l7_2, gc, gf⟩ := kp xb7 (w6.heap.size) (by first | omega | (simp; try omega)); have r7_2 := gc 0; have f7_2 := gf 0; clear gc gf)
   )
  have hb6 : w7.heap[w6.heap.size]? = some (.cells #[.slice P6 p6 p6] 30 (0, 0)) := (xb7.block _ (by simp)).trans (heap_alloc_new w6 _)
  have hby : Hid (Rd (w7.setCell ⟨w6.heap.size, 0, none⟩ (.slice P7 p7 p7)) P7 p7 p7 (lim bv)) := rd_apart2 hP7.out.1 hb6 (fun _ e => by cases e) _
  go_wp2_with (first
    | (go_at_call 135; (with_reducible refine (kM _ _ _ (ext_trans hEE.out (by (repeat (first | exact ext_refl _ | assumption | refine ext_setCell ?_ (by simp; try omega) _ | refine ext_alloc ?_ _ | refine ext_drew ?_ | refine ext_drewN ?_ _ | refine ext_trans ?_ (Aft.use _) | refine ext_trans ?_ (by assumption))))) hby.out).mono ?_); rintro e w8 ⟨C8, k8, rfl, hR8, xb8⟩; obtain ⟨xc8, xf8, xl8, xz8⟩ := ext_use xb8; (try simp at xz8); obtain ⟨l8_0, gc, gf⟩ := kp xb8 (w.heap.size) (by first | omega | (simp; try omega)); have r8_0 := gc 0; have f8_0 := gf 0; have r8_0_1 := gc 1; have f8_0_1 := gf 1; clear gc gf; obtain ⟨l8_1, gc, gf⟩ := kp xb8 (w.heap.size + 1) (by first | omega | (simp; try omega)); have r8_1 := gc 0; have f8_1 := gf 0; have r8_1_1 := gc 1; have f8_1_1 := gf 1; have r8_1_2 := gc 2; have f8_1_2 := gf 2; clear gc gf)
    | (go_at_call 140; (with_reducible refine (kTx _ _ _ (hR8.out.1.ext (by (repeat (first | exact ext_refl _ | assumption | refine ext_setCell ?_ (by simp; try omega) _ | refine ext_alloc ?_ _ | refine ext_drew ?_ | refine ext_drewN ?_ _ | refine ext_trans ?_ (Aft.use _) | refine ext_trans ?_ (by assumption)))))).mono ?_); rintro e w9 ⟨rfl, xb9⟩; obtain ⟨xc9, xf9, xl9, xz9⟩ := ext_use xb9; (try simp at xz9); obtain ⟨l9_0, gc, gf⟩ := kp xb9 (w.heap.size) (by first | omega | (simp; try omega)); have r9_0 := gc 0; have f9_0 := gf 0; have r9_0_1 := gc 1; have f9_0_1 := gf 1; clear gc gf; obtain ⟨l9_1, gc, gf⟩ := kp xb9 (w.heap.size + 1) (by first | omega | (simp; try omega)); have r9_1 := gc 0; have f9_1 := gf 0; have r9_1_1 := gc 1; have f9_1_1 := gf 1; have r9_1_2 := gc 2; have f9_1_2 := gf 2; clear gc gf)
    | (go_at_call 141; (with_reducible refine (kR _).mono ?_); rintro e w' ⟨rfl, rfl⟩)
    | (go_at_call 142; (with_reducible refine (kMk _).mono ?_); rintro e w11 ⟨rfl, xb11⟩; obtain ⟨xc11, xf11, xl11, xz11⟩ := ext_use xb11; (try simp at xz11); obtain ⟨l11_0, gc, gf⟩ := kp xb11 (w.heap.size) (by first | omega | (simp; try omega)); have r11_0 := gc 0; have f11_0 := gf 0; have r11_0_1 := gc 1; have f11_0_1 := gf 1; clear gc gf; obtain ⟨l11_1, gc, gf⟩ := kp xb11 (w.heap.size + 1) (by first | omega | (simp; try omega)); have r11_1 := gc 0; have f11_1 := gf 0; have r11_1_1 := gc 1; have f11_1_1 := gf 1; have r11_1_2 := gc 2; have f11_1_2 := gf 2; clear gc gf)
   )
  have z0 : w11.cell? ⟨w.heap.size + 1, 0, none⟩ = some (.bool false) := by simp [go_sem, *]
  have z1 : w11.cell? ⟨w.heap.size + 1, 1, none⟩ = some (.string ⟨#[]⟩) := by simp [go_sem, *]
  have z2 : w11.cell? ⟨w.heap.size + 1, 2, none⟩ = some (.int .i64 0) := by simp [go_sem, *]
  have lW : w.heap.size + 1 < w11.heap.size := by assumption
  obtain ⟨q0, q1, q2⟩ := set3 (b := w.heap.size + 1) z0 z1 z2 (.bool mn) (.string (bs ml)) (.int .i64 me)
  have hWx : Ext (((w11.setCell ⟨w.heap.size + 1, 0, none⟩ (.bool mn)).setCell ⟨w.heap.size + 1, 1, none⟩ (.string (bs ml))).setCell ⟨w.heap.size + 1, 2, none⟩ (.int .i64 me)) ((((w11.setCell ⟨w.heap.size + 1, 0, none⟩ (.bool mn)).setCell ⟨w.heap.size + 1, 1, none⟩ (.string (bs ml))).setCell ⟨w.heap.size + 1, 2, none⟩ (.int .i64 me)).alloc (Obj.cells #[.bool mn, .string (bs ml), .int .i64 me] 72)) := ext_alloc (ext_refl _) _
  have q0 := (Below.cell (p := ⟨w.heap.size + 1, 0, none⟩) hWx (by simpa using lW)).trans q0
  have q1 := (Below.cell (p := ⟨w.heap.size + 1, 1, none⟩) hWx (by simpa using lW)).trans q1
  have q2 := (Below.cell (p := ⟨w.heap.size + 1, 2, none⟩) hWx (by simpa using lW)).trans q2
  have hEW : Ext w w11 := by
    refine ext_trans hEE.out ?_
    (repeat (first | exact ext_refl _ | assumption | refine ext_setCell ?_ (by simp; try omega) _ | refine ext_alloc ?_ _ | refine ext_drew ?_ | refine ext_drewN ?_ _ | refine ext_trans ?_ (Aft.use _) | refine ext_trans ?_ (by assumption)))
  refine bodyPost_ret (v := .tuple #[.agg #[.bool mn, .string (bs ml), .int .i64 me], .bool true, .int .i64 0]) ?h rfl ⟨rfl, ext_trans (ext_set3 hEW (by omega) _ _ _) hWx⟩
  case h => simp [results, Tryz.results58, go_sem, q0, q1, q2]
end Go.Proofs.YtiapoflkeliljaaGreatDoor
end
