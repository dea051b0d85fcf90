/- Lemmas of this proof, laid together: RatP, RatK0, RatJ, RatK, RatL. -/
import Derived.Test.YtdjegfnkpagdaaaGreatDoorMg24
import Derived.Test.YtdjegfnkpagdaaaGreatDoorMg23
import Derived.Test.YtdjegfnkpagdaaaGreatDoorMg03
import Derived.Deep.DeepCutAuto
import Derived.Deep.RegionWith
import Derived.Deep.LoopGhost
set_option linter.unusedSimpArgs false
set_option linter.unusedVariables false
section
/- Fractions in their lowest terms, plainly. -/
namespace Go.Proofs.YtdjegfnkpagdaaaGreatDoor
/-- Of two that are the same, the one in lowest terms. -/
theorem low_uniq {a d A D : Nat} (hd : d ≠ 0) (hD : D ≠ 0) (hg : Nat.gcd a d = 1) (hx : a * D = A * d) : a = A / Nat.gcd A D ∧ d = D / Nat.gcd A D := by
  have hG : 0 < Nat.gcd A D := Nat.pos_of_ne_zero (fun h => hD (Nat.eq_zero_of_gcd_eq_zero_right h))
  obtain ⟨u, hu⟩ := Nat.gcd_dvd_left A D
  obtain ⟨v, hv⟩ := Nat.gcd_dvd_right A D
  have hc : Nat.gcd (A / Nat.gcd A D) (D / Nat.gcd A D) = 1 := Nat.coprime_div_gcd_div_gcd hG
  have e1 : A / Nat.gcd A D = u := Nat.div_eq_of_eq_mul_right hG hu
  have e2 : D / Nat.gcd A D = v := Nat.div_eq_of_eq_mul_right hG hv
  rw [e1, e2] at hc ⊢
  have hx' : a * v = u * d := by
    refine Nat.eq_of_mul_eq_mul_left hG ?_
    calc Nat.gcd A D * (a * v) = a * (Nat.gcd A D * v) := by grind
      _ = a * D := by rw [← hv]
      _ = A * d := hx
      _ = (Nat.gcd A D * u) * d := by rw [← hu]
      _ = Nat.gcd A D * (u * d) := by grind
  have d1 : a ∣ u := Nat.Coprime.dvd_of_dvd_mul_right (show Nat.Coprime a d from hg) ⟨v, hx'.symm⟩
  have d2 : u ∣ a := Nat.Coprime.dvd_of_dvd_mul_right (show Nat.Coprime u v from hc) ⟨d, hx'⟩
  have e3 : a = u := Nat.dvd_antisymm d1 d2
  refine ⟨e3, ?_⟩
  have d3 : d ∣ v := Nat.Coprime.dvd_of_dvd_mul_left (show Nat.Coprime d a by rw [Nat.coprime_comm]; exact hg) ⟨u, by rw [hx']; exact Nat.mul_comm _ _⟩
  have d4 : v ∣ d := Nat.Coprime.dvd_of_dvd_mul_left (show Nat.Coprime v u by rw [Nat.coprime_comm]; exact hc) ⟨a, by rw [← hx']; exact Nat.mul_comm _ _⟩
  exact Nat.dvd_antisymm d3 d4
/-- Above the line and below it, in lowest terms. -/
def canN (z : Int) (d : Nat) : Int := sgn (decide (z < 0)) (z.natAbs / Nat.gcd z.natAbs d : Nat)
def canD (z : Int) (d : Nat) : Nat := d / Nat.gcd z.natAbs d
theorem can_uniq {z : Int} {d : Nat} {Z : Int} {D : Nat} (hd : d ≠ 0) (hD : D ≠ 0) (hg : Nat.gcd z.natAbs d = 1) (hx : z * (D : Int) = Z * (d : Int)) : z = canN Z D ∧ d = canD Z D := by
  have ha : z.natAbs * D = Z.natAbs * d := by
    have := congrArg Int.natAbs hx
    rwa [Int.natAbs_mul, Int.natAbs_mul, Int.natAbs_natCast, Int.natAbs_natCast] at this
  have h := low_uniq hd hD hg ha
  have hs : decide (z < 0) = decide (Z < 0) := by
    have hd' : (0 : Int) < d := by omega
    have hD' : (0 : Int) < D := by omega
    by_cases h1 : z < 0
    · have : Z * (d : Int) < 0 := by rw [← hx]; exact Int.mul_neg_of_neg_of_pos h1 hD'
      have h2 : Z < 0 := by
        rcases Int.lt_or_le Z 0 with h | h
        · exact h
        · have := Int.mul_nonneg h (Int.le_of_lt hd'); omega
      rw [decide_eq_true h1, decide_eq_true h2]
    · have h3 : 0 ≤ z * (D : Int) := Int.mul_nonneg (by omega) (Int.le_of_lt hD')
      have h2 : ¬ Z < 0 := by
        intro h
        have := Int.mul_neg_of_neg_of_pos h hd'; omega
      rw [decide_eq_false h1, decide_eq_false h2]
  refine ⟨?_, h.2⟩
  unfold canN
  rw [← hs, ← h.1, sgn_self]
theorem canD_pos {z : Int} {d : Nat} (hd : d ≠ 0) : canD z d ≠ 0 := by
  unfold canD
  have := Nat.div_pos (Nat.le_of_dvd (Nat.pos_of_ne_zero hd) (Nat.gcd_dvd_right z.natAbs d)) (Nat.gcd_pos_of_pos_right z.natAbs (Nat.pos_of_ne_zero hd))
  omega
theorem can_gcd {z : Int} {d : Nat} (hd : d ≠ 0) : Nat.gcd (canN z d).natAbs (canD z d) = 1 := by
  unfold canN canD
  rw [sgn_abs]
  exact Nat.coprime_div_gcd_div_gcd (Nat.gcd_pos_of_pos_right z.natAbs (Nat.pos_of_ne_zero hd))
theorem can_worth {z : Int} {d : Nat} (hd : d ≠ 0) : canN z d * (d : Int) = z * (canD z d : Int) := by
  obtain ⟨u, hu⟩ := Nat.gcd_dvd_left z.natAbs d
  obtain ⟨v, hv⟩ := Nat.gcd_dvd_right z.natAbs d
  have hG : 0 < Nat.gcd z.natAbs d := Nat.gcd_pos_of_pos_right z.natAbs (Nat.pos_of_ne_zero hd)
  have e1 : z.natAbs / Nat.gcd z.natAbs d = u := Nat.div_eq_of_eq_mul_right hG hu
  have e2 : d / Nat.gcd z.natAbs d = v := Nat.div_eq_of_eq_mul_right hG hv
  have hz := sgn_self z
  have key : u * d = z.natAbs * v := by
    calc u * d = u * (Nat.gcd z.natAbs d * v) := by rw [← hv]
      _ = (Nat.gcd z.natAbs d * u) * v := by grind
      _ = z.natAbs * v := by rw [← hu]
  unfold canN canD
  rw [e1, e2]
  have kz : ((u * d : Nat) : Int) = ((z.natAbs * v : Nat) : Int) := congrArg _ key
  rw [Int.natCast_mul, Int.natCast_mul] at kz
  have hs : ∀ s : Bool, sgn s u * (d : Int) = sgn s z.natAbs * (v : Int) := fun s => by
    cases s
    · exact kz
    · show -(u : Int) * d = -(z.natAbs : Int) * v
      rw [Int.neg_mul, Int.neg_mul, kz]
  rw [hs, hz]
theorem can_eq {Z : Int} {D : Nat} {Y : Int} {E : Nat} (hD : D ≠ 0) (hE : E ≠ 0) (hx : Z * (E : Int) = Y * (D : Int)) : canN Z D = canN Y E ∧ canD Z D = canD Y E := by
  refine can_uniq (canD_pos hD) hE (can_gcd hD) ?_
  have hD' : (D : Int) ≠ 0 := by omega
  refine Int.eq_of_mul_eq_mul_right hD' ?_
  have := can_worth (z := Z) hD
  calc canN Z D * (E : Int) * D = (canN Z D * D) * E := by grind
    _ = (Z * E) * (canD Z D) := by rw [this]; grind
    _ = Y * (canD Z D) * D := by rw [hx]; grind
theorem can_self {z : Int} {d : Nat} (hd : d ≠ 0) (hg : Nat.gcd z.natAbs d = 1) : canN z d = z ∧ canD z d = d := by
  have := can_uniq hd hd hg rfl
  exact ⟨this.1.symm, this.2.symm⟩
/-- The words below the line of a fraction in lowest terms: nought has none. -/
def canW (z : Int) (d : Nat) : Nat := if z = 0 then 0 else canD z d
theorem canN_zero (d : Nat) : canN 0 d = 0 := by unfold canN; rw [Int.natAbs_zero, Nat.zero_div]; rfl
theorem canW_zero (d : Nat) : canW 0 d = 0 := if_pos rfl
theorem canW_den {z : Int} {d : Nat} (hd : d ≠ 0) : denOf (canW z d) = canD z d := by
  unfold canW
  by_cases h : z = 0
  · subst h; rw [if_pos rfl]; unfold denOf canD; rw [if_pos rfl, Int.natAbs_zero, Nat.gcd_zero_left, Nat.div_self (Nat.pos_of_ne_zero hd)]
  · rw [if_neg h]; unfold denOf; rw [if_neg (canD_pos hd)]
/-- A product in lowest terms. -/
theorem can_mul {a d b c : Nat} (had : Nat.gcd a d = 1) (hbc : Nat.gcd b c = 1) (hd : d ≠ 0) (hc : c ≠ 0) (s : Bool) :
    sgn s ((a / Nat.gcd a c) * (b / Nat.gcd b d) : Nat) = canN (sgn s (a * b : Nat)) (d * c) ∧ (d / Nat.gcd b d) * (c / Nat.gcd a c) = canD (sgn s (a * b : Nat)) (d * c) := by
  obtain ⟨u, hu⟩ := Nat.gcd_dvd_left a c
  obtain ⟨v, hv⟩ := Nat.gcd_dvd_right a c
  obtain ⟨x, hx⟩ := Nat.gcd_dvd_left b d
  obtain ⟨y, hy⟩ := Nat.gcd_dvd_right b d
  have hG : 0 < Nat.gcd a c := Nat.gcd_pos_of_pos_right a (Nat.pos_of_ne_zero hc)
  have hH : 0 < Nat.gcd b d := Nat.gcd_pos_of_pos_right b (Nat.pos_of_ne_zero hd)
  have c1 := Nat.coprime_div_gcd_div_gcd hG
  have c2 := Nat.coprime_div_gcd_div_gcd hH
  have e1 : a / Nat.gcd a c = u := Nat.div_eq_of_eq_mul_right hG hu
  have e2 : c / Nat.gcd a c = v := Nat.div_eq_of_eq_mul_right hG hv
  have e3 : b / Nat.gcd b d = x := Nat.div_eq_of_eq_mul_right hH hx
  have e4 : d / Nat.gcd b d = y := Nat.div_eq_of_eq_mul_right hH hy
  rw [e1, e2] at c1
  rw [e3, e4] at c2
  rw [e1, e2, e3, e4]
  have c3 : Nat.Coprime u y := Nat.Coprime.coprime_dvd_left ⟨_, (by rw [Nat.mul_comm]; exact hu)⟩ (Nat.Coprime.coprime_dvd_right ⟨_, (by rw [Nat.mul_comm]; exact hy)⟩ (show Nat.Coprime a d from had))
  have c4 : Nat.Coprime x v := Nat.Coprime.coprime_dvd_left ⟨_, (by rw [Nat.mul_comm]; exact hx)⟩ (Nat.Coprime.coprime_dvd_right ⟨_, (by rw [Nat.mul_comm]; exact hv)⟩ (show Nat.Coprime b c from hbc))
  have hcop : Nat.gcd (u * x) (y * v) = 1 := Nat.Coprime.mul_left (Nat.Coprime.mul_right c3 c1) (Nat.Coprime.mul_right c2 c4)
  have hy0 : y ≠ 0 := by intro h; rw [h, Nat.mul_zero] at hy; exact hd hy
  have hv0 : v ≠ 0 := by intro h; rw [h, Nat.mul_zero] at hv; exact hc hv
  refine can_uniq (Nat.mul_ne_zero hy0 hv0) (Nat.mul_ne_zero hd hc) (by rw [sgn_abs]; exact hcop) ?_
  have key : u * x * (d * c) = a * b * (y * v) := by
    conv => lhs; rw [hv, hy]
    conv => rhs; lhs; rw [hu, hx]
    grind
  have kz : ((u * x * (d * c) : Nat) : Int) = ((a * b * (y * v) : Nat) : Int) := congrArg _ key
  cases s
  · show ((u * x : Nat) : Int) * ((d * c : Nat) : Int) = ((a * b : Nat) : Int) * ((y * v : Nat) : Int)
    rw [← Int.natCast_mul, ← Int.natCast_mul]; exact kz
  · show -((u * x : Nat) : Int) * ((d * c : Nat) : Int) = -((a * b : Nat) : Int) * ((y * v : Nat) : Int)
    rw [Int.neg_mul, Int.neg_mul, ← Int.natCast_mul, ← Int.natCast_mul]; rw [kz]
/-- A sum in lowest terms. -/
theorem can_add {x y : Int} {p q : Nat} (hp : p ≠ 0) (hq : q ≠ 0) (hxp : Nat.gcd x.natAbs p = 1) (hyq : Nat.gcd y.natAbs q = 1) (g : Nat) (hg : g = Nat.gcd p q) (a : Int) (ha : a = x * ((q / g : Nat) : Int) + y * ((p / g : Nat) : Int)) (h : Nat) (hh : h = Nat.gcd a.natAbs g) :
    sgn (decide (a < 0)) (a.natAbs / h : Nat) = canN (x * q + y * p) (p * q) ∧ (p / g) * (q / h) = canD (x * q + y * p) (p * q) := by
  obtain ⟨u, hu⟩ : g ∣ p := by rw [hg]; exact Nat.gcd_dvd_left p q
  obtain ⟨v, hv⟩ : g ∣ q := by rw [hg]; exact Nat.gcd_dvd_right p q
  have hG : 0 < g := by rw [hg]; exact Nat.gcd_pos_of_pos_right p (Nat.pos_of_ne_zero hq)
  have e1 : p / g = u := by rw [hu, Nat.mul_div_cancel_left _ hG]
  have e2 : q / g = v := by rw [hv, Nat.mul_div_cancel_left _ hG]
  have c1 : Nat.Coprime u v := by
    have := Nat.coprime_div_gcd_div_gcd (m := p) (n := q) (by rw [← hg]; exact hG)
    rw [← hg, e1, e2] at this; exact this
  rw [e1, e2] at ha
  rw [e1]
  have hH : 0 < h := by rw [hh]; exact Nat.gcd_pos_of_pos_right _ hG
  obtain ⟨s, hs⟩ : h ∣ a.natAbs := by rw [hh]; exact Nat.gcd_dvd_left _ _
  obtain ⟨t, ht⟩ : h ∣ g := by rw [hh]; exact Nat.gcd_dvd_right _ _
  have e3 : a.natAbs / h = s := by rw [hs, Nat.mul_div_cancel_left _ hH]
  have e4 : g / h = t := by rw [ht, Nat.mul_div_cancel_left _ hH]
  have c2 : Nat.Coprime s t := by
    have := Nat.coprime_div_gcd_div_gcd (m := a.natAbs) (n := g) (by rw [← hh]; exact hH)
    rw [← hh, e3, e4] at this; exact this
  have hqh : q / h = t * v := by
    have : q = h * (t * v) := by rw [hv]; conv => lhs; lhs; rw [ht]
                                 grind
    rw [this, Nat.mul_div_cancel_left _ hH]
  rw [e3, hqh]
  have hxu : Nat.Coprime x.natAbs u := Nat.Coprime.coprime_dvd_right ⟨g, by rw [hu]; exact Nat.mul_comm _ _⟩ (show Nat.Coprime x.natAbs p from hxp)
  have hyv : Nat.Coprime y.natAbs v := Nat.Coprime.coprime_dvd_right ⟨g, by rw [hv]; exact Nat.mul_comm _ _⟩ (show Nat.Coprime y.natAbs q from hyq)
  have cau : Nat.Coprime a.natAbs u := by
    have h1 : Nat.gcd (x * (v : Int)).natAbs u = 1 := by
      rw [Int.natAbs_mul, Int.natAbs_natCast]
      exact Nat.Coprime.mul_left hxu c1.symm
    have h2 : Nat.gcd a.natAbs u ∣ Nat.gcd (x * (v : Int)).natAbs u := by
      refine Nat.dvd_gcd ?_ (Nat.gcd_dvd_right _ _)
      have d1 : ((Nat.gcd a.natAbs u : Nat) : Int) ∣ a := Int.ofNat_dvd_left.2 (Nat.gcd_dvd_left _ _)
      have d2 : ((Nat.gcd a.natAbs u : Nat) : Int) ∣ (u : Int) := Int.natCast_dvd_natCast.2 (Nat.gcd_dvd_right _ _)
      have d3 : ((Nat.gcd a.natAbs u : Nat) : Int) ∣ a - y * (u : Int) := Int.dvd_sub d1 (Int.dvd_trans d2 (Int.dvd_mul_left _ _))
      have e : a - y * (u : Int) = x * (v : Int) := by rw [ha]; omega
      rw [e] at d3
      exact Int.ofNat_dvd_left.1 d3
    rw [h1] at h2
    exact Nat.dvd_one.1 h2
  have cav : Nat.Coprime a.natAbs v := by
    have h1 : Nat.gcd (y * (u : Int)).natAbs v = 1 := by
      rw [Int.natAbs_mul, Int.natAbs_natCast]
      exact Nat.Coprime.mul_left hyv c1
    have h2 : Nat.gcd a.natAbs v ∣ Nat.gcd (y * (u : Int)).natAbs v := by
      refine Nat.dvd_gcd ?_ (Nat.gcd_dvd_right _ _)
      have d1 : ((Nat.gcd a.natAbs v : Nat) : Int) ∣ a := Int.ofNat_dvd_left.2 (Nat.gcd_dvd_left _ _)
      have d2 : ((Nat.gcd a.natAbs v : Nat) : Int) ∣ (v : Int) := Int.natCast_dvd_natCast.2 (Nat.gcd_dvd_right _ _)
      have d3 : ((Nat.gcd a.natAbs v : Nat) : Int) ∣ a - x * (v : Int) := Int.dvd_sub d1 (Int.dvd_trans d2 (Int.dvd_mul_left _ _))
      have e : a - x * (v : Int) = y * (u : Int) := by rw [ha]; omega
      rw [e] at d3
      exact Int.ofNat_dvd_left.1 d3
    rw [h1] at h2
    exact Nat.dvd_one.1 h2
  have csu : Nat.Coprime s u := Nat.Coprime.coprime_dvd_left ⟨h, by rw [Nat.mul_comm]; exact hs⟩ cau
  have csv : Nat.Coprime s v := Nat.Coprime.coprime_dvd_left ⟨h, by rw [Nat.mul_comm]; exact hs⟩ cav
  have hu0 : u ≠ 0 := by intro h; rw [h, Nat.mul_zero] at hu; exact hp hu
  have hv0 : v ≠ 0 := by intro h; rw [h, Nat.mul_zero] at hv; exact hq hv
  have ht0 : t ≠ 0 := by intro h'; rw [h', Nat.mul_zero] at ht; omega
  refine can_uniq (Nat.mul_ne_zero hu0 (Nat.mul_ne_zero ht0 hv0)) (Nat.mul_ne_zero hp hq) (by rw [sgn_abs]; exact Nat.Coprime.mul_right csu (Nat.Coprime.mul_right c2 csv)) ?_
  have ka : sgn (decide (a < 0)) (s : Nat) * (h : Int) = a := by
    have h1 := sgn_self a
    rw [hs] at h1
    refine Eq.trans ?_ h1
    generalize decide (a < 0) = b
    cases b
    · show (s : Int) * h = ((h * s : Nat) : Int)
      rw [Int.natCast_mul, Int.mul_comm]
    · show -(s : Int) * h = -((h * s : Nat) : Int)
      rw [Int.natCast_mul, Int.neg_mul, Int.mul_comm]
  have hs0 : (g : Int) = (h : Int) * (t : Int) := by rw [ht, Int.natCast_mul]
  have hp0 : (p : Int) = (g : Int) * (u : Int) := by rw [hu, Int.natCast_mul]
  have hq0 : (q : Int) = (g : Int) * (v : Int) := by rw [hv, Int.natCast_mul]
  generalize sgn (decide (a < 0)) (s : Nat) = sg at ka ⊢
  rw [Int.natCast_mul, Int.natCast_mul, Int.natCast_mul, hp0, hq0]
  have : x * ((g : Int) * v) + y * ((g : Int) * u) = g * a := by rw [ha]; grind
  rw [this, ← ka]
  rw [hs0]
  grind
end Go.Proofs.YtdjegfnkpagdaaaGreatDoor
end
section
/- The order of two fractions, plainly. -/
namespace Go.Proofs.YtdjegfnkpagdaaaGreatDoor
theorem sign_pos_mul (x : Int) {q : Nat} (hq : q ≠ 0) : (x * (q : Int)).sign = x.sign := by
  rw [Int.sign_mul, Int.sign_eq_one_of_pos (show (0 : Int) < q by omega), Int.mul_one]
theorem sign_three (z : Int) : (z < 0 ∧ z.sign = -1) ∨ (z = 0 ∧ z.sign = 0) ∨ (0 < z ∧ z.sign = 1) := by
  rcases Int.lt_trichotomy z 0 with h | h | h
  · exact .inl ⟨h, Int.sign_eq_neg_one_of_neg h⟩
  · exact .inr (.inl ⟨h, by rw [h]; rfl⟩)
  · exact .inr (.inr ⟨h, Int.sign_eq_one_of_pos h⟩)
/-- Fractions on different sides, or nought. -/
theorem rcmp_far {x y : Int} {p q : Nat} (hp : p ≠ 0) (hq : q ≠ 0) (h : x.sign ≠ y.sign) : (x * (q : Int) - y * (p : Int)).sign = if x.sign < y.sign then -1 else 1 := by
  have a := sign_pos_mul x hq
  have b := sign_pos_mul y hp
  generalize x * (q : Int) = X at a ⊢
  generalize y * (p : Int) = Y at b ⊢
  rw [← a, ← b] at h ⊢
  rcases sign_three X with ⟨h1, h2⟩ | ⟨h1, h2⟩ | ⟨h1, h2⟩ <;> rcases sign_three Y with ⟨k1, k2⟩ | ⟨k1, k2⟩ | ⟨k1, k2⟩ <;> rw [h2, k2] at h ⊢ <;>
    first
      | exact absurd rfl h
      | (rw [if_pos (by decide)]; exact Int.sign_eq_neg_one_of_neg (by omega))
      | (rw [if_neg (by decide)]; exact Int.sign_eq_one_of_pos (by omega))
theorem rcmp_nil {x y : Int} {p q : Nat} (hx : x = 0) (hy : y = 0) : (x * (q : Int) - y * (p : Int)).sign = 0 := by
  rw [hx, hy]; simp
theorem rcmp_near {x y : Int} {p q : Nat} (h : x.sign = y.sign) (h0 : x ≠ 0) :
    (x * (q : Int) - y * (p : Int)).sign = if x < 0 then - cmpN (x.natAbs * q) (y.natAbs * p) else cmpN (x.natAbs * q) (y.natAbs * p) := by
  rw [cmpN_sign]
  rcases sign_three x with ⟨h1, h2⟩ | ⟨h1, h2⟩ | ⟨h1, h2⟩
  · rcases sign_three y with ⟨k1, k2⟩ | ⟨k1, k2⟩ | ⟨k1, k2⟩
    · rw [if_pos h1, ← Int.sign_neg]
      congr 1
      obtain ⟨a, rfl⟩ : ∃ a : Nat, x = -(a : Int) := ⟨x.natAbs, by omega⟩
      obtain ⟨b, rfl⟩ : ∃ b : Nat, y = -(b : Int) := ⟨y.natAbs, by omega⟩
      simp only [Int.natAbs_neg, Int.natAbs_natCast, Int.natCast_mul]
      grind
    · rw [h2, k2] at h; exact absurd h (by decide)
    · rw [h2, k2] at h; exact absurd h (by decide)
  · exact absurd h1 h0
  · rcases sign_three y with ⟨k1, k2⟩ | ⟨k1, k2⟩ | ⟨k1, k2⟩
    · rw [h2, k2] at h; exact absurd h (by decide)
    · rw [h2, k2] at h; exact absurd h (by decide)
    · rw [if_neg (by omega)]
      congr 1
      obtain ⟨a, rfl⟩ : ∃ a : Nat, x = (a : Int) := ⟨x.natAbs, by omega⟩
      obtain ⟨b, rfl⟩ : ∃ b : Nat, y = (b : Int) := ⟨y.natAbs, by omega⟩
      simp only [Int.natAbs_natCast, Int.natCast_mul]
theorem wrap_neg_cmp (a b : Nat) : IntKind.i64.wrap (-(cmpN a b)) = -(cmpN a b) := by
  unfold cmpN
  split
  · decide
  · split <;> decide
end Go.Proofs.YtdjegfnkpagdaaaGreatDoor
end
section
/- Fractions of the library's: a product in lowest terms. -/
namespace Go.Proofs.YtdjegfnkpagdaaaGreatDoor
open Go.RowKit
attribute [local go_sem] sz2 sz3 sz4 sz5 sz6 sz7 sz8
set_option maxHeartbeats 4000000
set_option maxRecDepth 100000
attribute [local irreducible] Calls
attribute [local go_sem] D2.Oper.detAt D2.detUpon D2.relUpon
theorem Rd.nil_of {w : World} {A : Option Addr} {n c a : Nat} (h : Rd w A n c (lim a)) (ha : a = 0) : n = 0 := by
  have := h.len; rw [ha, lim_zero] at this; exact this.symm
theorem br_timesX (g : Nat) (s : Bool) (A D B C : Option Addr) (n cn m cm p cp q cq a d b c : Nat) (hd : d ≠ 0) (hc : c ≠ 0) (had : Nat.gcd a d = 1) (hbc : Nat.gcd b c = 1) (hn : n ≤ 100000) (hm : m ≤ 100000) (hp : p ≤ 100000) (hq : q ≤ 100000) (w : World) (hT : Tz w) (hr : RatRoom w g)
    (hA : Rd w A n cn (lim a)) (hD : Rd w D m cm (lim d)) (hB : Rd w B p cp (lim b)) (hC : Rd w C q cq (lim c)) :
    Calls Tryz.prog 78 #[.pointer (some ⟨g, 0, none⟩), .bool s, .slice A n cn, .slice D m cm, .slice B p cp, .slice C q cq] w
      (FPost w g (canN (sgn s (a * b : Nat)) (d * c)) (canW (sgn s (a * b : Nat)) (d * c))) := by
  by_cases h0 : a = 0 ∨ b = 0
  · have e : sgn s (a * b : Nat) = 0 := by
      have : a * b = 0 := by rcases h0 with h | h <;> rw [h] <;> simp
      rw [this]; cases s <;> rfl
    rw [e, canN_zero, canW_zero]
    exact br_times_zero g s A D B C n cn m cm p cp q cq (by rcases h0 with h | h; exact Or.inl (hA.nil_of h); exact Or.inr (hB.nil_of h)) w hr
  · have ha : a ≠ 0 := fun h => h0 (Or.inl h)
    have hb : b ≠ 0 := fun h => h0 (Or.inr h)
    have e : canW (sgn s (a * b : Nat)) (d * c) = canD (sgn s (a * b : Nat)) (d * c) := by
      unfold canW; rw [if_neg]
      have := Nat.mul_ne_zero ha hb
      intro h; have h2 := congrArg Int.natAbs h; rw [sgn_abs, Int.natAbs_zero] at h2; exact this h2
    have k := can_mul had hbc hd hc s
    rw [e, ← k.1, ← k.2]
    exact br_times g s A D B C n cn m cm p cp q cq a d b c ha hb hd hc hn hm hp hq w hT hr hA hD hB hC
namespace D2
/-- A row that was answered, new or old. -/
def RRow (v : Nat) : List Value → Value → World → Prop := fun _ u w => ∃ (A : Option Addr) (k c : Nat), u = .slice A k c ∧ Rd w A k c (lim v)
theorem stays_row (v : Nat) : Stays (RRow v) := fun _ _ _ _ ⟨A, k, c, h1, h2⟩ he => ⟨A, k, c, h1, h2.ext he⟩
theorem stays_word (N v : Nat) : Stays (RWord N v) := fun _ _ _ _ ⟨A, k, c, h1, h2, h3⟩ he => ⟨A, k, c, h1, h2.ext he, h3⟩
theorem row_at {v : Nat} {vals : List Value} {A : Option Addr} {k c : Nat} {w : World} (h : RRow v vals (.slice A k c) w) : Rd w A k c (lim v) := by
  obtain ⟨A', k', c', e, h2⟩ := h
  simp only [Value.slice.injEq] at e
  obtain ⟨rfl, rfl, rfl⟩ := e
  exact h2
theorem fresh_row {w w' : World} {A : Option Addr} {k c : Nat} : Fresh w (.slice A k c) w' := fun b hb => by simp [blk] at hb
theorem rel_row {f : FuncId} {args : Array Value} {v : Nat} {vals : List Value} {w : World} (h : Calls Tryz.prog f args w fun e w' => ∃ (B : Option Addr) (k l : Nat), e = .returned (.slice B k l) ∧ Hid (Rd w' B k l (lim v)) ∧ Ext w w') :
    Calls Tryz.prog f args w fun e w' => ∃ u, e = .returned u ∧ Ext w w' ∧ Fresh w u w' ∧ RRow v vals u w' :=
  h.mono fun _ _ ⟨B, k, l, h1, h2, h3⟩ => ⟨_, h1, h3, fresh_row, B, k, l, rfl, h2.out⟩
theorem rel_wpost {f : FuncId} {args : Array Value} {N v : Nat} {vals : List Value} {w : World} (hN : N ≤ w.heap.size) (h : Calls Tryz.prog f args w (WPost w v)) :
    Calls Tryz.prog f args w fun e w' => ∃ u, e = .returned u ∧ Ext w w' ∧ Fresh w u w' ∧ RWord N v vals u w' :=
  h.mono fun _ _ ⟨B, k, l, h1, h2, h3⟩ => ⟨_, h1, h3, fresh_row, B, k, l, rfl, h2.out.1, fun a ha => Nat.le_trans hN (h2.out.2 a ha)⟩
end D2
theorem denOf_ne (d : Nat) : denOf d ≠ 0 := by unfold denOf; split <;> omega
theorem den_len {w : World} {g : Nat} {z : Int} {A : Option Addr} {n c d : Nat} {D : Option Addr} {m e L : Nat} (h : RatIs w g z A n c d D m e) (hm : m ≤ L) (h1 : 1 ≤ L) : (lim (denOf d)).length ≤ L := by
  by_cases hd : d = 0
  · subst hd
    have : (lim (denOf 0)).length = 1 := by kernel_rfl
    omega
  · rw [show denOf d = d from if_neg hd, h.rd.len]; exact hm
theorem sgn_both (x y : Int) : sgn (!(decide (x < 0) == decide (y < 0))) (x.natAbs * y.natAbs : Nat) = x * y := by
  have hx := sgn_self x
  have hy := sgn_self y
  have k : ∀ (s t : Bool) (a b : Nat), sgn (!(s == t)) (a * b : Nat) = sgn s a * sgn t b := by
    intro s t a b; cases s <;> cases t <;> simp [sgn, Int.natCast_mul, Int.neg_mul, Int.mul_neg]
  rw [k, hx, hy]
theorem br_Mul (g bx b2 : Nat) (x y : Int) (p q : Nat) (hxp : Nat.gcd x.natAbs (denOf p) = 1) (hyq : Nat.gcd y.natAbs (denOf q) = 1) (A : Option Addr) (n c : Nat) (D : Option Addr) (m e : Nat) (B : Option Addr) (n2 c2 : Nat) (C : Option Addr) (m2 e2 : Nat)
    (hn : n ≤ 100000) (hm : m ≤ 100000) (hn2 : n2 ≤ 100000) (hm2 : m2 ≤ 100000) (w : World) (hT : Tz w) (hr : RatRoom w g) (hx : RatIs w bx x A n c p D m e) (hy : RatIs w b2 y B n2 c2 q C m2 e2) :
    Calls Tryz.prog 46 #[.pointer (some ⟨g, 0, none⟩), .pointer (some ⟨bx, 0, none⟩), .pointer (some ⟨b2, 0, none⟩)] w
      (FPost w g (canN (x * y) (denOf p * denOf q)) (canW (x * y) (denOf p * denOf q))) := by
  have HX := Lib.hid hx
  have HY := Lib.hid hy
  have HR := Lib.hid hr
  have HT := Lib.hid hT
  have lx := hx.int.room.lt
  have x0 := hx.int.neg
  have x1 := hx.int.words
  have ly := hy.int.room.lt
  have y0 := hy.int.neg
  have y1 := hy.int.words
  simp only [Nat.zero_add] at x1 y1
  have dl := den_len hx hm (by decide)
  have dl2 := den_len hy hm2 (by decide)
  have kX : ∀ w', Ext w w' → Calls Tryz.prog 79 #[.pointer (some ⟨bx, 0, none⟩)] w' fun e' w'' => ∃ (B : Option Addr) (k l : Nat), e' = .returned (.slice B k l) ∧ Hid (Rd w'' B k l (lim (denOf p))) ∧ Ext w' w'' := fun w' he => (br_below _ _ _ _ _ _ _ _ _ w' (HX.out.ext he)).mono fun _ _ ⟨B, k, l, h1, h2, h3⟩ => ⟨B, k, l, h1, h2.out.1, h3⟩
  have kY : ∀ w', Ext w w' → Calls Tryz.prog 79 #[.pointer (some ⟨b2, 0, none⟩)] w' fun e' w'' => ∃ (B : Option Addr) (k l : Nat), e' = .returned (.slice B k l) ∧ Hid (Rd w'' B k l (lim (denOf q))) ∧ Ext w' w'' := fun w' he => (br_below _ _ _ _ _ _ _ _ _ w' (HY.out.ext he)).mono fun _ _ ⟨B, k, l, h1, h2, h3⟩ => ⟨B, k, l, h1, h2.out.1, h3⟩
  have kT : ∀ w' P k l Q k2 l2, Ext w w' → Rd w' P k l (lim (denOf p)) → Rd w' Q k2 l2 (lim (denOf q)) → Calls Tryz.prog 78 #[.pointer (some ⟨g, 0, none⟩), .bool (!(decide (x < 0) == decide (y < 0))), .slice A n c, .slice P k l, .slice B n2 c2, .slice Q k2 l2] w' (FPost w g (canN (x * y) (denOf p * denOf q)) (canW (x * y) (denOf p * denOf q))) := fun w' P k l Q k2 l2 he h1 h2 => by
    have := br_timesX g (!(decide (x < 0) == decide (y < 0))) A P B Q n c k l n2 c2 k2 l2 _ _ _ _ (denOf_ne p) (denOf_ne q) hxp hyq hn (by rw [← h1.len]; exact dl) hn2 (by rw [← h2.len]; exact dl2) w' (HT.out.ext he) (HR.out.ext he) (HX.out.int.rd.ext he) h1 (HY.out.int.rd.ext he) h2
    rw [sgn_both] at this
    refine this.mono ?_
    rintro e w'' ⟨rfl, A', n', c', D', m', k', h3, h4⟩
    exact ⟨rfl, A', n', c', D', m', k', ⟨h3.out.1, h3.out.2.1.mono he, h3.out.2.2.mono he⟩, (Tch.of he).trans h4⟩
  clear hx hy hr hT
  go_enter Tryz.func46, Tryz.ntmps46
  go_wp2
  refine D2.wp_drawn_tail 26 (D2.tab [(18, D2.RRow (denOf p)), (25, D2.RRow (denOf q))]) (by kernel_rfl) (by kernel_rfl) (by kernel_rfl) (D2.tab_stays (by simp [D2.stays_row])) (fun hq hqf => ?_)
  simp only [List.take_succ_cons, List.take_zero, List.drop_succ_cons, List.drop_zero]
  have z0 := fun nq => (hq nq bx 0 lx).trans x0
  have z1 := fun nq => (hq nq bx 1 lx).trans x1
  have z2 := fun nq => (hq nq b2 0 ly).trans y0
  have z3 := fun nq => (hq nq b2 1 ly).trans y1
  iterate 18
    (refine D2.wpK_det rfl (fun K hK => ?_)
     go_simp
     first
       | (refine hK _ ?_; clear hK K)
       | (apply Exists.intro; refine ⟨fun x => ?_, hK _ ?_⟩; (first | exact z0 x | exact z1 x | exact z2 x | exact z3 x); clear hK K))
  refine D2.wpK_rel _ rfl rfl ?_ ?_
  · rintro _ ⟨nn, rfl⟩ _
    unfold D2.Oper.relAt
    go_simp
    exact D2.rel_row (kX _ nn.use)
  rintro v ⟨_, ⟨nn, rfl⟩, hr⟩
  obtain ⟨A5, k5, c5, rfl, -⟩ := hr
  clear nn
  iterate 6
    (refine D2.wpK_det rfl (fun K hK => ?_)
     go_simp
     first
       | (refine hK _ ?_; clear hK K)
       | (apply Exists.intro; refine ⟨fun x => ?_, hK _ ?_⟩; (first | exact z0 x | exact z1 x | exact z2 x | exact z3 x); clear hK K))
  refine D2.wpK_rel _ rfl rfl ?_ ?_
  · rintro _ ⟨nn, rfl⟩ _
    unfold D2.Oper.relAt
    go_simp
    exact D2.rel_row (kY _ nn.use)
  rintro v ⟨_, ⟨nn, rfl⟩, hr⟩
  obtain ⟨A6, k6, c6, rfl, -⟩ := hr
  clear nn
  refine D2.wpK_nil ?_
  intro nq hG
  have r5 : D2.RRow (denOf p) [] (.slice A5 k5 c5) nq.out := by have := hG.fact 18; simp [D2.Facts.put] at this; exact this
  have r6 : D2.RRow (denOf q) [] (.slice A6 k6 c6) nq.out := by have := hG.fact 25; simp [D2.Facts.put] at this; exact this
  have hR5 := Lib.hid (D2.row_at r5)
  have hR6 := Lib.hid (D2.row_at r6)
  have hE := Lib.hid nq.use
  clear r5 r6 hG
  go_wp2_with (first
    | (go_at_call 78; (with_reducible refine (kT _ A5 k5 c5 A6 k6 c6 hE.out hR5.out hR6.out).mono ?_); rintro e w9 ⟨rfl, A9, n9, c9, D9, m9, k9, hI9, xt9⟩)
   )
  refine bodyPost_ret (v := .pointer (some ⟨g, 0, none⟩)) ?h rfl ⟨rfl, A9, n9, c9, D9, m9, k9, hI9, xt9⟩
  case h => simp [results, Tryz.results46, go_sem]
end Go.Proofs.YtdjegfnkpagdaaaGreatDoor
end
section
/- Fractions of the library's: the order. -/
namespace Go.Proofs.YtdjegfnkpagdaaaGreatDoor
open Go.RowKit
attribute [local go_sem] sz2 sz3 sz4 sz5 sz6 sz7 sz8
set_option maxHeartbeats 4000000
set_option maxRecDepth 100000
attribute [local irreducible] Calls
attribute [local go_sem] D2.Oper.detAt D2.detUpon D2.relUpon
theorem br_Cmp_far (bx b2 : Nat) (x y : Int) (p q : Nat) (h : x.sign ≠ y.sign) (A : Option Addr) (n c : Nat) (D : Option Addr) (m e : Nat) (B : Option Addr) (n2 c2 : Nat) (C : Option Addr) (m2 e2 : Nat)
    (w : World) (hx : RatIs w bx x A n c p D m e) (hy : RatIs w b2 y B n2 c2 q C m2 e2) :
    Calls Tryz.prog 48 #[.pointer (some ⟨bx, 0, none⟩), .pointer (some ⟨b2, 0, none⟩)] w
      fun e w' => e = .returned (.int .i64 (x * (denOf q : Int) - y * (denOf p : Int)).sign) ∧ Ext w w' := by
  have kX : ∀ w', Ext w w' → Calls Tryz.prog 83 #[.pointer (some ⟨bx, 0, none⟩)] w' fun e w'' => e = .returned (.int .i64 x.sign) ∧ Ext w' w'' := fun w' he => br_Sign _ _ _ _ _ w' (hx.int.ext he)
  have kY : ∀ w', Ext w w' → Calls Tryz.prog 83 #[.pointer (some ⟨b2, 0, none⟩)] w' fun e w'' => e = .returned (.int .i64 y.sign) ∧ Ext w' w'' := fun w' he => br_Sign _ _ _ _ _ w' (hy.int.ext he)
  rw [rcmp_far (denOf_ne p) (denOf_ne q) h]
  have hb : (x.sign == y.sign) = false := by rw [beq_eq_false_iff_ne]; exact h
  have hgt : ¬ x.sign < y.sign → y.sign < x.sign := by omega
  generalize x.sign = X at *
  generalize y.sign = Y at *
  clear hx hy h
  by_cases hlt : X < Y
  · rw [if_pos hlt]
    clear hgt
    go_enter Tryz.func48, Tryz.ntmps48
    go_wp2_with (first
      | (go_at_call 83; (with_reducible refine (kX _ (by (repeat (first | exact ext_refl _ | assumption | refine ext_setCell ?_ (by simp; try omega) _ | refine ext_alloc ?_ _ | refine ext_drew ?_ | refine ext_drewN ?_ _ | refine ext_trans ?_ (Aft.use _) | refine ext_trans ?_ (by assumption))))).mono ?_); rintro e w1 ⟨rfl, xb1⟩)
      | (go_at_call 83; (with_reducible refine (kY _ (by (repeat (first | exact ext_refl _ | assumption | refine ext_setCell ?_ (by simp; try omega) _ | refine ext_alloc ?_ _ | refine ext_drew ?_ | refine ext_drewN ?_ _ | refine ext_trans ?_ (Aft.use _) | refine ext_trans ?_ (by assumption))))).mono ?_); rintro e w2 ⟨rfl, xb2⟩)
      | (go_at_call 83; (with_reducible refine (kX _ (by (repeat (first | exact ext_refl _ | assumption | refine ext_setCell ?_ (by simp; try omega) _ | refine ext_alloc ?_ _ | refine ext_drew ?_ | refine ext_drewN ?_ _ | refine ext_trans ?_ (Aft.use _) | refine ext_trans ?_ (by assumption))))).mono ?_); rintro e w3 ⟨rfl, xb3⟩)
      | (go_at_call 83; (with_reducible refine (kY _ (by (repeat (first | exact ext_refl _ | assumption | refine ext_setCell ?_ (by simp; try omega) _ | refine ext_alloc ?_ _ | refine ext_drew ?_ | refine ext_drewN ?_ _ | refine ext_trans ?_ (Aft.use _) | refine ext_trans ?_ (by assumption))))).mono ?_); rintro e w4 ⟨rfl, xb4⟩)
     )
    refine bodyPost_ret (v := .int .i64 (-1)) ?h rfl ⟨rfl, ?_⟩
    case h => simp [results, Tryz.results48, go_sem]
    repeat (first | exact ext_refl _ | assumption | refine ext_setCell ?_ (by simp; try omega) _ | refine ext_alloc ?_ _ | refine ext_drew ?_ | refine ext_drewN ?_ _ | refine ext_trans ?_ (Aft.use _) | refine ext_trans ?_ (by assumption))
  · rw [if_neg hlt]
    have hgt := hgt hlt
    go_enter Tryz.func48, Tryz.ntmps48
    go_wp2_with (first
      | (go_at_call 83; (with_reducible refine (kX _ (by (repeat (first | exact ext_refl _ | assumption | refine ext_setCell ?_ (by simp; try omega) _ | refine ext_alloc ?_ _ | refine ext_drew ?_ | refine ext_drewN ?_ _ | refine ext_trans ?_ (Aft.use _) | refine ext_trans ?_ (by assumption))))).mono ?_); rintro e w1 ⟨rfl, xb1⟩)
      | (go_at_call 83; (with_reducible refine (kY _ (by (repeat (first | exact ext_refl _ | assumption | refine ext_setCell ?_ (by simp; try omega) _ | refine ext_alloc ?_ _ | refine ext_drew ?_ | refine ext_drewN ?_ _ | refine ext_trans ?_ (Aft.use _) | refine ext_trans ?_ (by assumption))))).mono ?_); rintro e w2 ⟨rfl, xb2⟩)
     )
    refine bodyPost_ret (v := .int .i64 1) ?h rfl ⟨rfl, ?_⟩
    case h => simp [results, Tryz.results48, go_sem]
    repeat (first | exact ext_refl _ | assumption | refine ext_setCell ?_ (by simp; try omega) _ | refine ext_alloc ?_ _ | refine ext_drew ?_ | refine ext_drewN ?_ _ | refine ext_trans ?_ (Aft.use _) | refine ext_trans ?_ (by assumption))
theorem br_Cmp_nil (bx b2 : Nat) (x y : Int) (p q : Nat) (h1 : x = 0) (h2 : y = 0) (A : Option Addr) (n c : Nat) (D : Option Addr) (m e : Nat) (B : Option Addr) (n2 c2 : Nat) (C : Option Addr) (m2 e2 : Nat)
    (w : World) (hx : RatIs w bx x A n c p D m e) (hy : RatIs w b2 y B n2 c2 q C m2 e2) :
    Calls Tryz.prog 48 #[.pointer (some ⟨bx, 0, none⟩), .pointer (some ⟨b2, 0, none⟩)] w
      fun e w' => e = .returned (.int .i64 (x * (denOf q : Int) - y * (denOf p : Int)).sign) ∧ Ext w w' := by
  rw [rcmp_nil h1 h2]
  subst h1; subst h2
  have kX : ∀ w', Ext w w' → Calls Tryz.prog 83 #[.pointer (some ⟨bx, 0, none⟩)] w' fun e w'' => e = .returned (.int .i64 0) ∧ Ext w' w'' := fun w' he => br_Sign _ _ _ _ _ w' (hx.int.ext he)
  have kY : ∀ w', Ext w w' → Calls Tryz.prog 83 #[.pointer (some ⟨b2, 0, none⟩)] w' fun e w'' => e = .returned (.int .i64 0) ∧ Ext w' w'' := fun w' he => br_Sign _ _ _ _ _ w' (hy.int.ext he)
  clear hx hy
  go_enter Tryz.func48, Tryz.ntmps48
  go_wp2_with (first
    | (go_at_call 83; (with_reducible refine (kX _ (by (repeat (first | exact ext_refl _ | assumption | refine ext_setCell ?_ (by simp; try omega) _ | refine ext_alloc ?_ _ | refine ext_drew ?_ | refine ext_drewN ?_ _ | refine ext_trans ?_ (Aft.use _) | refine ext_trans ?_ (by assumption))))).mono ?_); rintro e w1 ⟨rfl, xb1⟩)
    | (go_at_call 83; (with_reducible refine (kY _ (by (repeat (first | exact ext_refl _ | assumption | refine ext_setCell ?_ (by simp; try omega) _ | refine ext_alloc ?_ _ | refine ext_drew ?_ | refine ext_drewN ?_ _ | refine ext_trans ?_ (Aft.use _) | refine ext_trans ?_ (by assumption))))).mono ?_); rintro e w2 ⟨rfl, xb2⟩)
   )
  refine bodyPost_ret (v := .int .i64 0) ?h rfl ⟨rfl, ?_⟩
  case h => simp [results, Tryz.results48, go_sem]
  repeat (first | exact ext_refl _ | assumption | refine ext_setCell ?_ (by simp; try omega) _ | refine ext_alloc ?_ _ | refine ext_drew ?_ | refine ext_drewN ?_ _ | refine ext_trans ?_ (Aft.use _) | refine ext_trans ?_ (by assumption))
theorem br_Cmp_near (bx b2 : Nat) (x y : Int) (p q : Nat) (h : x.sign = y.sign) (h0 : x ≠ 0) (A : Option Addr) (n c : Nat) (D : Option Addr) (m e : Nat) (B : Option Addr) (n2 c2 : Nat) (C : Option Addr) (m2 e2 : Nat)
    (hn : n ≤ 100000) (hm : m ≤ 100000) (hn2 : n2 ≤ 100000) (hm2 : m2 ≤ 100000) (w : World) (hx : RatIs w bx x A n c p D m e) (hy : RatIs w b2 y B n2 c2 q C m2 e2) :
    Calls Tryz.prog 48 #[.pointer (some ⟨bx, 0, none⟩), .pointer (some ⟨b2, 0, none⟩)] w
      fun e w' => e = .returned (.int .i64 (x * (denOf q : Int) - y * (denOf p : Int)).sign) ∧ Ext w w' := by
  have HX := Lib.hid hx
  have HY := Lib.hid hy
  have lx := hx.int.room.lt
  have x0 := hx.int.neg
  have x1 := hx.int.words
  have ly := hy.int.room.lt
  have y1 := hy.int.words
  simp only [Nat.zero_add] at x1 y1
  have kX : ∀ w', Ext w w' → Calls Tryz.prog 83 #[.pointer (some ⟨bx, 0, none⟩)] w' fun e w'' => e = .returned (.int .i64 x.sign) ∧ Ext w' w'' := fun w' he => br_Sign _ _ _ _ _ w' (hx.int.ext he)
  have kY : ∀ w', Ext w w' → Calls Tryz.prog 83 #[.pointer (some ⟨b2, 0, none⟩)] w' fun e w'' => e = .returned (.int .i64 x.sign) ∧ Ext w' w'' := fun w' he => by rw [h]; exact br_Sign _ _ _ _ _ w' (hy.int.ext he)
  have dl := den_len hx hm (by decide)
  have dl2 := den_len hy hm2 (by decide)
  have bX : ∀ w', Ext w w' → Calls Tryz.prog 79 #[.pointer (some ⟨bx, 0, none⟩)] w' fun e' w'' => ∃ (B : Option Addr) (k l : Nat), e' = .returned (.slice B k l) ∧ Hid (Rd w'' B k l (lim (denOf p))) ∧ Ext w' w'' := fun w' he => (br_below _ _ _ _ _ _ _ _ _ w' (HX.out.ext he)).mono fun _ _ ⟨B, k, l, h1, h2, h3⟩ => ⟨B, k, l, h1, h2.out.1, h3⟩
  have bY : ∀ w', Ext w w' → Calls Tryz.prog 79 #[.pointer (some ⟨b2, 0, none⟩)] w' fun e' w'' => ∃ (B : Option Addr) (k l : Nat), e' = .returned (.slice B k l) ∧ Hid (Rd w'' B k l (lim (denOf q))) ∧ Ext w' w'' := fun w' he => (br_below _ _ _ _ _ _ _ _ _ w' (HY.out.ext he)).mono fun _ _ ⟨B, k, l, h1, h2, h3⟩ => ⟨B, k, l, h1, h2.out.1, h3⟩
  have mX : ∀ P1 k l w', Ext w w' → Rd w' P1 k l (lim (denOf q)) → Calls Tryz.prog 85 #[.slice A n c, .slice P1 k l] w' (WPost w' (x.natAbs * denOf q)) := fun P1 k l w' he h1 => bw_mulA A P1 n c k l _ _ (by have := h1.len; omega) w' (HX.out.int.rd.ext he) h1
  have mY : ∀ P1 k l w', Ext w w' → Rd w' P1 k l (lim (denOf p)) → Calls Tryz.prog 85 #[.slice B n2 c2, .slice P1 k l] w' (WPost w' (y.natAbs * denOf p)) := fun P1 k l w' he h1 => bw_mulA B P1 n2 c2 k l _ _ (by have := h1.len; omega) w' (HY.out.int.rd.ext he) h1
  have hs0 : (x.sign == 0) = false := by
    rw [beq_eq_false_iff_ne]; intro h2; exact h0 (Int.sign_eq_zero_iff_zero.1 h2)
  generalize denOf p = p at *
  generalize denOf q = q at *
  rw [rcmp_near h h0]
  have hwr := wrap_neg_cmp (x.natAbs * q) (y.natAbs * p)
  have hcm : ∀ P1 k1 l1 Q1 k2 l2 w', Rd w' P1 k1 l1 (lim (x.natAbs * q)) → Rd w' Q1 k2 l2 (lim (y.natAbs * p)) → Calls Tryz.prog 84 #[.slice P1 k1 l1, .slice Q1 k2 l2] w' fun e w'' => e = .returned (.int .i64 (cmpN (x.natAbs * q) (y.natAbs * p))) ∧ Ext w' w'' := fun P1 k1 l1 Q1 k2 l2 w' h1 h2 => bw_cmp P1 Q1 k1 l1 k2 l2 _ _ w' h1 h2
  clear hx hy h h0
  generalize x.natAbs * q = U at *
  generalize y.natAbs * p = V at *
  generalize cmpN U V = K at *
  generalize x.sign = X at *
  by_cases hneg : x < 0
  · rw [if_pos hneg]
    rw [decide_eq_true hneg] at x0
    go_enter Tryz.func48, Tryz.ntmps48
    go_upto_region 7 with (first
      | (go_at_call 83; (with_reducible refine (kX _ (ext_trans xb1 xb2)).mono ?_); rintro e w3 ⟨rfl, xb3⟩)
      | (go_at_call 83; (with_reducible refine (kX _ (by (repeat (first | exact ext_refl _ | assumption | refine ext_setCell ?_ (by simp; try omega) _ | refine ext_alloc ?_ _ | refine ext_drew ?_ | refine ext_drewN ?_ _ | refine ext_trans ?_ (Aft.use _) | refine ext_trans ?_ (by assumption))))).mono ?_); rintro e w1 ⟨rfl, xb1⟩)
      | (go_at_call 83; (with_reducible refine (kY _ (by (repeat (first | exact ext_refl _ | assumption | refine ext_setCell ?_ (by simp; try omega) _ | refine ext_alloc ?_ _ | refine ext_drew ?_ | refine ext_drewN ?_ _ | refine ext_trans ?_ (Aft.use _) | refine ext_trans ?_ (by assumption))))).mono ?_); rintro e w2 ⟨rfl, xb2⟩)
     )
    have hE3 : Hid (Ext w w3) := by show Ext w w3; (repeat (first | exact ext_refl _ | assumption | refine ext_setCell ?_ (by simp; try omega) _ | refine ext_alloc ?_ _ | refine ext_drew ?_ | refine ext_drewN ?_ _ | refine ext_trans ?_ (Aft.use _) | refine ext_trans ?_ (by assumption)))
    have x0' := (Below.cell (p := ⟨bx, 0, none⟩) hE3.out lx).trans x0
    have x1' := (Below.cell (p := ⟨bx, 1, none⟩) hE3.out lx).trans x1
    have y1' := (Below.cell (p := ⟨b2, 1, none⟩) hE3.out ly).trans y1
    have lx' := ext_lt hE3.out bx lx
    have ly' := ext_lt hE3.out b2 ly
    clear kX kY xb1 xb2 xb3
    refine D2.wp_drawn_tail 16 (D2.tab [(6, D2.RRow q), (7, RWord w3.heap.size U), (14, D2.RRow p), (15, RWord w3.heap.size V)]) (by kernel_rfl) (by kernel_rfl) (by kernel_rfl) (D2.tab_stays (by simp [D2.stays_row, D2.stays_word])) (fun hq hqf => ?_)
    simp only [List.take_succ_cons, List.take_zero, List.drop_succ_cons, List.drop_zero]
    have z1 := fun nq => (hq nq bx 1 lx').trans x1'
    have z3 := fun nq => (hq nq b2 1 ly').trans y1'
    iterate 6
      (refine D2.wpK_det rfl (fun K hK => ?_)
       go_simp
       first
         | (refine hK _ ?_; clear hK K)
         | (apply Exists.intro; refine ⟨fun x => ?_, hK _ ?_⟩; (first | exact z1 x | exact z3 x); clear hK K))
    refine D2.wpK_rel _ rfl rfl ?_ ?_
    · rintro _ ⟨nn, rfl⟩ _
      unfold D2.Oper.relAt
      go_simp
      exact D2.rel_row (bY _ (ext_trans hE3.out nn.use))
    rintro v ⟨_, ⟨nn, rfl⟩, hr⟩
    obtain ⟨A5, k5, c5, rfl, -⟩ := hr
    clear nn
    refine D2.wpK_rel _ rfl rfl ?_ ?_
    · rintro _ ⟨nn, rfl⟩ hdep
      have q1 := hdep 6 (by kernel_rfl)
      simp only [D2.Facts.put] at q1
      have q2 := D2.row_at (vals := []) q1
      unfold D2.Oper.relAt
      go_simp
      exact D2.rel_wpost (ext_size nn.use) (mX _ _ _ _ (ext_trans hE3.out nn.use) q2)
    rintro v ⟨_, ⟨nn, rfl⟩, hr⟩
    obtain ⟨A6, k6, c6, rfl, -, -⟩ := hr
    clear nn
    iterate 6
      (refine D2.wpK_det rfl (fun K hK => ?_)
       go_simp
       first
         | (refine hK _ ?_; clear hK K)
         | (apply Exists.intro; refine ⟨fun x => ?_, hK _ ?_⟩; (first | exact z1 x | exact z3 x); clear hK K))
    refine D2.wpK_rel _ rfl rfl ?_ ?_
    · rintro _ ⟨nn, rfl⟩ _
      unfold D2.Oper.relAt
      go_simp
      exact D2.rel_row (bX _ (ext_trans hE3.out nn.use))
    rintro v ⟨_, ⟨nn, rfl⟩, hr⟩
    obtain ⟨A7, k7, c7, rfl, -⟩ := hr
    clear nn
    refine D2.wpK_rel _ rfl rfl ?_ ?_
    · rintro _ ⟨nn, rfl⟩ hdep
      have q1 := hdep 14 (by kernel_rfl)
      simp only [D2.Facts.put] at q1
      have q2 := D2.row_at (vals := []) q1
      unfold D2.Oper.relAt
      go_simp
      exact D2.rel_wpost (ext_size nn.use) (mY _ _ _ _ (ext_trans hE3.out nn.use) q2)
    rintro v ⟨_, ⟨nn, rfl⟩, hr⟩
    obtain ⟨A8, k8, c8, rfl, -, -⟩ := hr
    clear nn
    refine D2.wpK_nil ?_
    intro nq hG
    have r6 : RWord w3.heap.size U [] (.slice A6 k6 c6) nq.out := by have := hG.fact 7; simp [D2.Facts.put] at this; exact this
    have r8 : RWord w3.heap.size V [] (.slice A8 k8 c8) nq.out := by have := hG.fact 15; simp [D2.Facts.put] at this; exact this
    have hR6 := Lib.hid (rword_at r6)
    have hR8 := Lib.hid (rword_at r8)
    have hE := Lib.hid (ext_trans hE3.out nq.use)
    have x0q := (Below.cell (p := ⟨bx, 0, none⟩) nq.use lx').trans x0'
    have lxq := ext_lt nq.use bx lx'
    clear r6 r8 hG
    go_wp2_with (first
      | (go_at_call 84; (with_reducible refine (hcm _ _ _ _ _ _ _ hR6.out.1 hR8.out.1).mono ?_); rintro e w9 ⟨rfl, xb9⟩; obtain ⟨xc9, xf9, xl9, xz9⟩ := ext_use xb9; (try simp at xz9); have l9_0 := xl9 (bx) (by first | omega | (simp; try omega)); have r9_0 := xc9 (bx) 0 (by first | omega | (simp; try omega)); have f9_0 := xf9 (bx) 0 (by first | omega | (simp; try omega)); have r9_0_1 := xc9 (bx) 1 (by first | omega | (simp; try omega)); have f9_0_1 := xf9 (bx) 1 (by first | omega | (simp; try omega)))
     )
    refine bodyPost_ret (v := .int .i64 (-K)) ?h rfl ⟨rfl, ext_trans hE.out xb9⟩
    case h => simp [results, Tryz.results48, go_sem]
  · rw [if_neg hneg]
    rw [decide_eq_false hneg] at x0
    go_enter Tryz.func48, Tryz.ntmps48
    go_upto_region 7 with (first
      | (go_at_call 83; (with_reducible refine (kX _ (ext_trans xb1 xb2)).mono ?_); rintro e w3 ⟨rfl, xb3⟩)
      | (go_at_call 83; (with_reducible refine (kX _ (by (repeat (first | exact ext_refl _ | assumption | refine ext_setCell ?_ (by simp; try omega) _ | refine ext_alloc ?_ _ | refine ext_drew ?_ | refine ext_drewN ?_ _ | refine ext_trans ?_ (Aft.use _) | refine ext_trans ?_ (by assumption))))).mono ?_); rintro e w1 ⟨rfl, xb1⟩)
      | (go_at_call 83; (with_reducible refine (kY _ (by (repeat (first | exact ext_refl _ | assumption | refine ext_setCell ?_ (by simp; try omega) _ | refine ext_alloc ?_ _ | refine ext_drew ?_ | refine ext_drewN ?_ _ | refine ext_trans ?_ (Aft.use _) | refine ext_trans ?_ (by assumption))))).mono ?_); rintro e w2 ⟨rfl, xb2⟩)
     )
    have hE3 : Hid (Ext w w3) := by show Ext w w3; (repeat (first | exact ext_refl _ | assumption | refine ext_setCell ?_ (by simp; try omega) _ | refine ext_alloc ?_ _ | refine ext_drew ?_ | refine ext_drewN ?_ _ | refine ext_trans ?_ (Aft.use _) | refine ext_trans ?_ (by assumption)))
    have x0' := (Below.cell (p := ⟨bx, 0, none⟩) hE3.out lx).trans x0
    have x1' := (Below.cell (p := ⟨bx, 1, none⟩) hE3.out lx).trans x1
    have y1' := (Below.cell (p := ⟨b2, 1, none⟩) hE3.out ly).trans y1
    have lx' := ext_lt hE3.out bx lx
    have ly' := ext_lt hE3.out b2 ly
    clear kX kY xb1 xb2 xb3
    refine D2.wp_drawn_tail 16 (D2.tab [(6, D2.RRow q), (7, RWord w3.heap.size U), (14, D2.RRow p), (15, RWord w3.heap.size V)]) (by kernel_rfl) (by kernel_rfl) (by kernel_rfl) (D2.tab_stays (by simp [D2.stays_row, D2.stays_word])) (fun hq hqf => ?_)
    simp only [List.take_succ_cons, List.take_zero, List.drop_succ_cons, List.drop_zero]
    have z1 := fun nq => (hq nq bx 1 lx').trans x1'
    have z3 := fun nq => (hq nq b2 1 ly').trans y1'
    iterate 6
      (refine D2.wpK_det rfl (fun K hK => ?_)
       go_simp
       first
         | (refine hK _ ?_; clear hK K)
         | (apply Exists.intro; refine ⟨fun x => ?_, hK _ ?_⟩; (first | exact z1 x | exact z3 x); clear hK K))
    refine D2.wpK_rel _ rfl rfl ?_ ?_
    · rintro _ ⟨nn, rfl⟩ _
      unfold D2.Oper.relAt
      go_simp
      exact D2.rel_row (bY _ (ext_trans hE3.out nn.use))
    rintro v ⟨_, ⟨nn, rfl⟩, hr⟩
    obtain ⟨A5, k5, c5, rfl, -⟩ := hr
    clear nn
    refine D2.wpK_rel _ rfl rfl ?_ ?_
    · rintro _ ⟨nn, rfl⟩ hdep
      have q1 := hdep 6 (by kernel_rfl)
      simp only [D2.Facts.put] at q1
      have q2 := D2.row_at (vals := []) q1
      unfold D2.Oper.relAt
      go_simp
      exact D2.rel_wpost (ext_size nn.use) (mX _ _ _ _ (ext_trans hE3.out nn.use) q2)
    rintro v ⟨_, ⟨nn, rfl⟩, hr⟩
    obtain ⟨A6, k6, c6, rfl, -, -⟩ := hr
    clear nn
    iterate 6
      (refine D2.wpK_det rfl (fun K hK => ?_)
       go_simp
       first
         | (refine hK _ ?_; clear hK K)
         | (apply Exists.intro; refine ⟨fun x => ?_, hK _ ?_⟩; (first | exact z1 x | exact z3 x); clear hK K))
    refine D2.wpK_rel _ rfl rfl ?_ ?_
    · rintro _ ⟨nn, rfl⟩ _
      unfold D2.Oper.relAt
      go_simp
      exact D2.rel_row (bX _ (ext_trans hE3.out nn.use))
    rintro v ⟨_, ⟨nn, rfl⟩, hr⟩
    obtain ⟨A7, k7, c7, rfl, -⟩ := hr
    clear nn
    refine D2.wpK_rel _ rfl rfl ?_ ?_
    · rintro _ ⟨nn, rfl⟩ hdep
      have q1 := hdep 14 (by kernel_rfl)
      simp only [D2.Facts.put] at q1
      have q2 := D2.row_at (vals := []) q1
      unfold D2.Oper.relAt
      go_simp
      exact D2.rel_wpost (ext_size nn.use) (mY _ _ _ _ (ext_trans hE3.out nn.use) q2)
    rintro v ⟨_, ⟨nn, rfl⟩, hr⟩
    obtain ⟨A8, k8, c8, rfl, -, -⟩ := hr
    clear nn
    refine D2.wpK_nil ?_
    intro nq hG
    have r6 : RWord w3.heap.size U [] (.slice A6 k6 c6) nq.out := by have := hG.fact 7; simp [D2.Facts.put] at this; exact this
    have r8 : RWord w3.heap.size V [] (.slice A8 k8 c8) nq.out := by have := hG.fact 15; simp [D2.Facts.put] at this; exact this
    have hR6 := Lib.hid (rword_at r6)
    have hR8 := Lib.hid (rword_at r8)
    have hE := Lib.hid (ext_trans hE3.out nq.use)
    have x0q := (Below.cell (p := ⟨bx, 0, none⟩) nq.use lx').trans x0'
    have lxq := ext_lt nq.use bx lx'
    clear r6 r8 hG
    go_wp2_with (first
      | (go_at_call 84; (with_reducible refine (hcm _ _ _ _ _ _ _ hR6.out.1 hR8.out.1).mono ?_); rintro e w9 ⟨rfl, xb9⟩; obtain ⟨xc9, xf9, xl9, xz9⟩ := ext_use xb9; (try simp at xz9); have l9_0 := xl9 (bx) (by first | omega | (simp; try omega)); have r9_0 := xc9 (bx) 0 (by first | omega | (simp; try omega)); have f9_0 := xf9 (bx) 0 (by first | omega | (simp; try omega)); have r9_0_1 := xc9 (bx) 1 (by first | omega | (simp; try omega)); have f9_0_1 := xf9 (bx) 1 (by first | omega | (simp; try omega)))
     )
    refine bodyPost_ret (v := .int .i64 K) ?h rfl ⟨rfl, ext_trans hE.out xb9⟩
    case h => simp [results, Tryz.results48, go_sem]
theorem br_Cmp (bx b2 : Nat) (x y : Int) (p q : Nat) (A : Option Addr) (n c : Nat) (D : Option Addr) (m e : Nat) (B : Option Addr) (n2 c2 : Nat) (C : Option Addr) (m2 e2 : Nat)
    (hn : n ≤ 100000) (hm : m ≤ 100000) (hn2 : n2 ≤ 100000) (hm2 : m2 ≤ 100000) (w : World) (hx : RatIs w bx x A n c p D m e) (hy : RatIs w b2 y B n2 c2 q C m2 e2) :
    Calls Tryz.prog 48 #[.pointer (some ⟨bx, 0, none⟩), .pointer (some ⟨b2, 0, none⟩)] w
      fun e w' => e = .returned (.int .i64 (x * (denOf q : Int) - y * (denOf p : Int)).sign) ∧ Ext w w' := by
  by_cases h : x.sign = y.sign
  · by_cases h0 : x = 0
    · have hy0 : y = 0 := by rw [h0] at h; exact Int.sign_eq_zero_iff_zero.1 h.symm
      exact br_Cmp_nil bx b2 x y p q h0 hy0 A n c D m e B n2 c2 C m2 e2 w hx hy
    · exact br_Cmp_near bx b2 x y p q h h0 A n c D m e B n2 c2 C m2 e2 hn hm hn2 hm2 w hx hy
  · exact br_Cmp_far bx b2 x y p q h A n c D m e B n2 c2 C m2 e2 w hx hy
end Go.Proofs.YtdjegfnkpagdaaaGreatDoor
end
section
/- Fractions of the library's: sums. -/
namespace Go.Proofs.YtdjegfnkpagdaaaGreatDoor
open Go.RowKit
attribute [local go_sem] sz2 sz3 sz4 sz5 sz6 sz7 sz8
set_option maxHeartbeats 4000000
set_option maxRecDepth 100000
attribute [local irreducible] Calls
attribute [local go_sem] D2.Oper.detAt D2.detUpon D2.relUpon
theorem br_belowO (r g : Nat) (z : Int) (A : Option Addr) (n c d : Nat) (D : Option Addr) (m e : Nat) (w : World) (hr : r < w.heap.size) (hx : RatIs w g z A n c d D m e) (ho : Off D m r) (hm : m ≤ 50000) :
    Calls Tryz.prog 79 #[.pointer (some ⟨g, 0, none⟩)] w fun e' w' => ∃ (B : Option Addr) (k l : Nat), (e' = .returned (.slice B k l) ∧ k ≤ 50000) ∧ Hid (Rd w' B k l (lim (denOf d)) ∧ Off B k r) ∧ Ext w w' := by
  by_cases hd : d = 0
  · subst hd
    refine (br_below_new g z A n c D m e w hx).mono ?_
    rintro e' w' ⟨rfl, h1, h2⟩
    exact ⟨_, 1, 1, ⟨rfl, by decide⟩, ⟨h1.out, fun a ha _ => by cases ha; simp only; omega⟩, h2⟩
  · refine (br_below_old g z A n c d hd D m e w hx).mono ?_
    rintro e' w' ⟨rfl, h2⟩
    exact ⟨D, m, e, ⟨rfl, hm⟩, ⟨by rw [show denOf d = d from if_neg hd]; exact hx.rd.ext h2, ho⟩, h2⟩
theorem sum_len {a b n : Nat} (ha : (lim a).length ≤ n) (hb : (lim b).length ≤ n) : (lim (a + b)).length ≤ n + 1 := by
  refine lim_le ?_
  have h1 : a < Bs ^ n := Nat.lt_of_lt_of_le (lim_lt a) (Nat.pow_le_pow_right (by decide) ha)
  have h2 : b < Bs ^ n := Nat.lt_of_lt_of_le (lim_lt b) (Nat.pow_le_pow_right (by decide) hb)
  rw [Nat.pow_succ]
  have : (2 : Nat) ≤ Bs := by decide
  generalize Bs ^ n = P at *
  generalize Bs = Q at *
  have := Nat.mul_le_mul_left P this
  omega
theorem sum_len' {X Y : Int} {n : Nat} (ha : (lim X.natAbs).length ≤ n) (hb : (lim Y.natAbs).length ≤ n) : (lim (X + Y).natAbs).length ≤ n + 1 :=
  Nat.le_trans (lim_mono (Int.natAbs_add_le X Y)) (sum_len ha hb)
/-- The sum's parts, as they are to be met. -/
theorem turned_sgn (t : Bool) (y : Int) (k : Nat) : sgn (!(decide (y < 0) == t)) (y.natAbs * k : Nat) = (if t then -y else y) * (k : Int) := by
  have h : ∀ (s : Bool) (a : Nat), sgn s (a * k : Nat) = sgn s a * (k : Int) := fun s a => by cases s <;> simp [sgn, Int.natCast_mul, Int.neg_mul]
  rw [h]
  congr 1
  cases t with
  | false =>
    rw [show (!(decide (y < 0) == false)) = decide (y < 0) by cases decide (y < 0) <;> rfl, if_neg (by decide)]; exact sgn_self y
  | true =>
    rw [show (!(decide (y < 0) == true)) = !decide (y < 0) by cases decide (y < 0) <;> rfl, if_pos rfl]; exact sgn_neg y
theorem plain_sgn (y : Int) (k : Nat) : sgn (decide (y < 0)) (y.natAbs * k : Nat) = y * (k : Int) := by
  have h : ∀ (s : Bool) (a : Nat), sgn s (a * k : Nat) = sgn s a * (k : Int) := fun s a => by cases s <;> simp [sgn, Int.natCast_mul, Int.neg_mul]
  rw [h, sgn_self]
theorem br_set_nought (g : Nat) (w : World) (hr : RatRoom w g) : Calls Tryz.prog 99 #[.pointer (some ⟨g, 0, none⟩), .bool false, .slice none 0 0, .slice (some ⟨w.heap.size, 0, none⟩) 1 1] (w.alloc (Obj.cells #[.int .u32 1] 60)) (FPost w g 0 0) := by
  have kz : Calls Tryz.prog 99 #[.pointer (some ⟨g, 0, none⟩), .bool false, .slice none 0 0, .slice (some ⟨w.heap.size, 0, none⟩) 1 1] (w.alloc (Obj.cells #[.int .u32 1] 60)) (SPost (w.alloc (Obj.cells #[.int .u32 1] 60)) g 0 0 none (some ⟨w.heap.size, 0, none⟩)) :=
    br_set_zero g false none 0 0 (some ⟨w.heap.size, 0, none⟩) 1 1 1 _ (hr.ext (ext_alloc (ext_refl _) _)) (by rw [lim_zero]; exact Rd.nil _) (one_row w)
  refine kz.mono ?_
  rintro e w' ⟨rfl, A', n', c', D', m', k', h1, h2⟩
  have h3 := h1.out.2 w (ext_alloc (ext_refl _) _) (Fr.none _) (fun x hx => by cases hx; exact Nat.le_refl _)
  exact ⟨rfl, A', n', c', D', m', k', ⟨h1.out.1, h3.1, h3.2⟩, (Tch.of (ext_alloc (ext_refl _) _)).trans h2⟩
theorem add_made (x y : Int) (P Q G : Nat) (hP : G ∣ P) (hQ : G ∣ Q) : (x * ((Q / G : Nat) : Int) + y * ((P / G : Nat) : Int)) * (G : Int) = x * (Q : Int) + y * (P : Int) := by
  obtain ⟨u, rfl⟩ := hP
  obtain ⟨v, rfl⟩ := hQ
  rcases Nat.eq_zero_or_pos G with h | h
  · subst h; simp
  · rw [Nat.mul_div_cancel_left _ h, Nat.mul_div_cancel_left _ h, Int.natCast_mul, Int.natCast_mul]; grind
theorem br_added (t : Bool) (g bx b2 : Nat) (x y : Int) (p q : Nat) (hxp : Nat.gcd x.natAbs (denOf p) = 1) (hyq : Nat.gcd y.natAbs (denOf q) = 1) (A : Option Addr) (n c : Nat) (D : Option Addr) (m e : Nat) (B : Option Addr) (n2 c2 : Nat) (C : Option Addr) (m2 e2 : Nat)
    (hn : n ≤ 50000) (hm : m ≤ 50000) (hn2 : n2 ≤ 50000) (hm2 : m2 ≤ 50000) (w : World) (hT : Tz w) (hr : RatRoom w g) (hx : RatIs w bx x A n c p D m e) (hy : RatIs w b2 y B n2 c2 q C m2 e2) (hoD : Off D m g) (hoC : Off C m2 g) :
    Calls Tryz.prog 77 #[.pointer (some ⟨g, 0, none⟩), .pointer (some ⟨bx, 0, none⟩), .pointer (some ⟨b2, 0, none⟩), .bool t] w
      (FPost w g (canN (x * denOf q + (if t then -y else y) * denOf p) (denOf p * denOf q)) (canW (x * denOf q + (if t then -y else y) * denOf p) (denOf p * denOf q))) := by
  have HX := Lib.hid hx
  have HY := Lib.hid hy
  have HR := Lib.hid hr
  have HT := Lib.hid hT
  have lx := hx.int.room.lt
  have x0 := hx.int.neg
  have x1 := hx.int.words
  have ly := hy.int.room.lt
  have y0 := hy.int.neg
  have y1 := hy.int.words
  have hgl := hr.int.lt
  simp only [Nat.zero_add] at x1 y1
  have hlx : (lim x.natAbs).length ≤ 50000 := by rw [hx.int.rd.len]; exact hn
  have hly : (lim y.natAbs).length ≤ 50000 := by rw [hy.int.rd.len]; exact hn2
  have kX : ∀ w', Ext w w' → Calls Tryz.prog 79 #[.pointer (some ⟨bx, 0, none⟩)] w' fun e' w'' => ∃ (B : Option Addr) (k l : Nat), (e' = .returned (.slice B k l) ∧ k ≤ 50000) ∧ Hid (Rd w'' B k l (lim (denOf p)) ∧ Off B k g) ∧ Ext w' w'' := fun w' he => br_belowO g bx x A n c p D m e w' (Nat.lt_of_lt_of_le hgl he.size) (HX.out.ext he) hoD hm
  have kY : ∀ w', Ext w w' → Calls Tryz.prog 79 #[.pointer (some ⟨b2, 0, none⟩)] w' fun e' w'' => ∃ (B : Option Addr) (k l : Nat), (e' = .returned (.slice B k l) ∧ k ≤ 50000) ∧ Hid (Rd w'' B k l (lim (denOf q)) ∧ Off B k g) ∧ Ext w' w'' := fun w' he => br_belowO g b2 y B n2 c2 q C m2 e2 w' (Nat.lt_of_lt_of_le hgl he.size) (HY.out.ext he) hoC hm2
  have hlP := den_len hx hm (by decide)
  have hlQ := den_len hy hm2 (by decide)
  have hp0 := denOf_ne p
  have hq0 := denOf_ne q
  have HoD := Lib.hid hoD
  have HoC := Lib.hid hoC
  clear hx hy hr hT hoD hoC
  generalize denOf p = P at *
  generalize denOf q = Q at *
  obtain ⟨G, hG⟩ : ∃ G, G = Nat.gcd P Q := ⟨_, rfl⟩
  have hG0 : G ≠ 0 := by rw [hG]; intro h; exact hp0 (Nat.eq_zero_of_gcd_eq_zero_left h)
  have kG : ∀ P1 k1 l1 Q1 k2 l2 w', Ext w w' → k1 ≤ 50000 → k2 ≤ 50000 → Rd w' P1 k1 l1 (lim P) → Rd w' Q1 k2 l2 (lim Q) → Calls Tryz.prog 111 #[.slice P1 k1 l1, .slice Q1 k2 l2] w' (WPost w' G) := fun P1 k1 l1 Q1 k2 l2 w' he h1 h2 h3 h4 => by rw [hG]; exact bw_commonA P1 Q1 k1 l1 k2 l2 P Q (by omega) (by omega) w' (HT.out.ext he) h3 h4
  have hdp : G ∣ P := by rw [hG]; exact Nat.gcd_dvd_left P Q
  have hdq : G ∣ Q := by rw [hG]; exact Nat.gcd_dvd_right P Q
  have hyt : Nat.gcd (if t then -y else y).natAbs Q = 1 := by cases t; exact hyq; rw [if_pos rfl, Int.natAbs_neg]; exact hyq
  obtain ⟨S, hS⟩ : ∃ S, S = x * ((Q / G : Nat) : Int) + (if t then -y else y) * ((P / G : Nat) : Int) := ⟨_, rfl⟩
  obtain ⟨H, hH⟩ : ∃ H, H = Nat.gcd S.natAbs G := ⟨_, rfl⟩
  have hcan := can_add hp0 hq0 hxp hyt G hG S hS H hH
  have hSG : S * (G : Int) = x * (Q : Int) + (if t then -y else y) * (P : Int) := by rw [hS]; exact add_made _ _ _ _ _ hdp hdq
  have hsum : sgn (decide (x < 0)) (x.natAbs * (Q / G) : Nat) + sgn (!(decide (y < 0) == t)) (y.natAbs * (P / G) : Nat) = S := by rw [turned_sgn, plain_sgn, hS]
  have hl1 : (lim (x.natAbs * (Q / G))).length ≤ 100000 := Nat.le_trans (lim_mul_len _ _) (by have := lim_mono (Nat.div_le_self Q G); omega)
  have hl2 : (lim (y.natAbs * (P / G))).length ≤ 100000 := Nat.le_trans (lim_mul_len _ _) (by have := lim_mono (Nat.div_le_self P G); omega)
  have hH0 : H ≠ 0 := by rw [hH]; intro h; exact hG0 (Nat.eq_zero_of_gcd_eq_zero_right h)
  have f0 : S = 0 → canN (x * Q + (if t then -y else y) * P) (P * Q) = 0 ∧ canW (x * Q + (if t then -y else y) * P) (P * Q) = 0 := fun h => by
    rw [← hSG, h, Int.zero_mul, canN_zero, canW_zero]; exact ⟨rfl, rfl⟩
  have f1 : S ≠ 0 → canN (x * Q + (if t then -y else y) * P) (P * Q) = sgn (decide (S < 0)) (S.natAbs / H : Nat) ∧ canW (x * Q + (if t then -y else y) * P) (P * Q) = (P / G) * (Q / H) := fun h => by
    refine ⟨hcan.1.symm, ?_⟩
    rw [hcan.2]
    unfold canW
    rw [if_neg]
    rw [← hSG]; exact Int.mul_ne_zero h (by omega)
  have hlS : (lim S.natAbs).length ≤ 100001 := by rw [← hsum]; exact sum_len' (by rw [sgn_abs]; exact hl1) (by rw [sgn_abs]; exact hl2)
  generalize canN (x * Q + (if t then -y else y) * P) (P * Q) = ZN at f0 f1 ⊢
  generalize canW (x * Q + (if t then -y else y) * P) (P * Q) = ZD at f0 f1 ⊢
  have kH : ∀ S1 k1 l1 G1 k2 l2 w', Ext w w' → k1 ≤ 100001 → k2 ≤ 400000 → Rd w' S1 k1 l1 (lim S.natAbs) → Rd w' G1 k2 l2 (lim G) → Calls Tryz.prog 111 #[.slice S1 k1 l1, .slice G1 k2 l2] w' (WPost w' H) := fun S1 k1 l1 G1 k2 l2 w' he h1 h2 h3 h4 => by rw [hH]; exact bw_commonA S1 G1 k1 l1 k2 l2 _ _ (by omega) h2 w' (HT.out.ext he) h3 h4
  have hGP : (lim G).length ≤ 50000 := Nat.le_trans (lim_mono (Nat.le_of_dvd (Nat.pos_of_ne_zero hp0) hdp)) hlP
  have kM1 : ∀ Q1 k l w', Ext w w' → k ≤ 50000 → Rd w' Q1 k l (lim (Q / G)) → Calls Tryz.prog 85 #[.slice A n c, .slice Q1 k l] w' (WPost w' (x.natAbs * (Q / G))) := fun Q1 k l w' he h1 h2 => bw_mulA A Q1 n c k l _ _ (by omega) w' (HX.out.int.rd.ext he) h2
  have kM2 : ∀ Q1 k l w', Ext w w' → k ≤ 50000 → Rd w' Q1 k l (lim (P / G)) → Calls Tryz.prog 85 #[.slice B n2 c2, .slice Q1 k l] w' (WPost w' (y.natAbs * (P / G))) := fun Q1 k l w' he h1 h2 => bw_mulA B Q1 n2 c2 k l _ _ (by omega) w' (HY.out.int.rd.ext he) h2
  have kB : ∀ Q1 k l G1 k2 l2 V W w', W ≠ 0 → k ≤ 400000 → Rd w' Q1 k l (lim V) → Rd w' G1 k2 l2 (lim W) → Calls Tryz.prog 112 #[.slice Q1 k l, .slice G1 k2 l2] w' fun e w'' => ∃ (A' : Option Addr) (k' c' : Nat), e = .returned (.slice A' k' c') ∧ Hid (Rd w'' A' k' c' (lim (V / W))) ∧ Ext w' w'' := fun Q1 k l G1 k2 l2 V W w' h0 h1 h2 h3 => (bw_by Q1 G1 k l k2 l2 V W h0 h1 w' h2 h3).mono fun _ _ ⟨A', k', c', h4, h5, h6⟩ => ⟨A', k', c', h4.1, h5, h6⟩
  have kS : ∀ b s V A' n' c' wz w', Room wz b 0 → Ext wz w' → Rd w' A' n' c' (lim V) → Fr wz A' → Calls Tryz.prog 94 #[.pointer (some ⟨b, 0, none⟩), .bool s, .slice A' n' c'] w' fun e w'' => e = .returned (.pointer (some ⟨b, 0, none⟩)) ∧ Hid (IntIs w'' b 0 (sgn s V) A' n' c') ∧ Tch b w' w'' := fun b s V A' n' c' wz w' h1 h2 h3 h4 => bi_set b 0 s A' n' c' V w' (h1.ext h2) h3 (h4.off h1.lt n')
  have HP := Lib.hid (And.intro hp0 (And.intro hq0 (And.intro hxp hyq)))
  have HS := Lib.hid hS
  have HGG := Lib.hid hG
  have HHH := Lib.hid hH
  clear hcan hSG hdp hdq hyt hp0 hq0 hxp hyq hG hH hS
  go_enter Tryz.func77, Tryz.ntmps77
  go_upto_region 5 with (first
    | (go_at_call 79; (with_reducible refine (kX _ (by (repeat (first | exact ext_refl _ | assumption | refine ext_setCell ?_ (by simp; try omega) _ | refine ext_alloc ?_ _ | refine ext_drew ?_ | refine ext_drewN ?_ _ | refine ext_trans ?_ (Aft.use _) | refine ext_trans ?_ (by assumption))))).mono ?_); rintro e w1 ⟨P1, k1, l1, ⟨rfl, hk1⟩, hR1, xb1⟩; obtain ⟨xc1, xf1, xl1, xz1⟩ := ext_use xb1; (try simp at xz1); have l1_0 := xl1 (bx) (by first | omega | (simp; try omega)); have r1_0 := xc1 (bx) 0 (by first | omega | (simp; try omega)); have f1_0 := xf1 (bx) 0 (by first | omega | (simp; try omega)); have r1_0_1 := xc1 (bx) 1 (by first | omega | (simp; try omega)); have f1_0_1 := xf1 (bx) 1 (by first | omega | (simp; try omega)))
    | (go_at_call 79; (with_reducible refine (kY _ (by (repeat (first | exact ext_refl _ | assumption | refine ext_setCell ?_ (by simp; try omega) _ | refine ext_alloc ?_ _ | refine ext_drew ?_ | refine ext_drewN ?_ _ | refine ext_trans ?_ (Aft.use _) | refine ext_trans ?_ (by assumption))))).mono ?_); rintro e w2 ⟨Q1, k2, l2, ⟨rfl, hk2⟩, hR2, xb2⟩; obtain ⟨xc2, xf2, xl2, xz2⟩ := ext_use xb2; (try simp at xz2); have l2_0 := xl2 (bx) (by first | omega | (simp; try omega)); have r2_0 := xc2 (bx) 0 (by first | omega | (simp; try omega)); have f2_0 := xf2 (bx) 0 (by first | omega | (simp; try omega)); have r2_0_1 := xc2 (bx) 1 (by first | omega | (simp; try omega)); have f2_0_1 := xf2 (bx) 1 (by first | omega | (simp; try omega)))
    | (go_at_call 111; (with_reducible refine (kG _ _ _ _ _ _ _ (by (repeat (first | exact ext_refl _ | assumption | refine ext_setCell ?_ (by simp; try omega) _ | refine ext_alloc ?_ _ | refine ext_drew ?_ | refine ext_drewN ?_ _ | refine ext_trans ?_ (Aft.use _) | refine ext_trans ?_ (by assumption)))) hk1 hk2 (hR1.out.1.ext xb2) hR2.out.1).mono ?_); rintro e w3 ⟨G1, k3, l3, rfl, hR3, xb3⟩; obtain ⟨xc3, xf3, xl3, xz3⟩ := ext_use xb3; (try simp at xz3); have l3_0 := xl3 (bx) (by first | omega | (simp; try omega)); have r3_0 := xc3 (bx) 0 (by first | omega | (simp; try omega)); have f3_0 := xf3 (bx) 0 (by first | omega | (simp; try omega)); have r3_0_1 := xc3 (bx) 1 (by first | omega | (simp; try omega)); have f3_0_1 := xf3 (bx) 1 (by first | omega | (simp; try omega)))
   )
  have hE3 : Hid (Ext w w3) := by show Ext w w3; (repeat (first | exact ext_refl _ | assumption | refine ext_setCell ?_ (by simp; try omega) _ | refine ext_alloc ?_ _ | refine ext_drew ?_ | refine ext_drewN ?_ _ | refine ext_trans ?_ (Aft.use _) | refine ext_trans ?_ (by assumption)))
  have hP3 := Lib.hid (hR1.out.1.ext (ext_trans xb2 xb3))
  have hQ3 := Lib.hid (hR2.out.1.ext xb3)
  have hk3 : k3 ≤ 50000 := by rw [← hR3.out.1.len]; exact hGP
  have hoG : Off G1 k3 g := hR3.out.2.off (ext_lt (ext_trans xb1 xb2) g hgl) k3
  have HOG := Lib.hid (And.intro hoG (And.intro hR1.out.2 hR2.out.2))
  clear kX kY kG hoG
  go_cut [13] (fun v wn => v = .pointer (some ⟨w3.heap.size + 1, 0, none⟩) ∧ Hid (Room wn w3.heap.size 0 ∧ Room wn (w3.heap.size + 1) 0) ∧ Hid (Ext w3 wn))
  case first =>
    go_wp2
    go_meet
    case rel =>
      refine ⟨rfl, ⟨(int_room w3).ext (ext_alloc (ext_refl _) _), ?_⟩, ext_alloc (ext_alloc (ext_refl _) _) _⟩
      have h := int_room (w3.alloc (Obj.cells #[.bool false, .slice none 0 0] 84))
      have e : (w3.alloc (Obj.cells #[.bool false, .slice none 0 0] 84)).heap.size = w3.heap.size + 1 := by simp
      rw [e] at h; exact h
  case rest =>
  obtain ⟨wz, rfl⟩ : ∃ wz, wz = wc := ⟨wc, rfl⟩
  obtain ⟨rfl, hRo, hEz⟩ := hcut
  have hE4 := Lib.hid (ext_trans hE3.out hEz.out)
  have x0 := (Below.cell (p := ⟨bx, 0, none⟩) hE4.out lx).trans x0
  have x1 := (Below.cell (p := ⟨bx, 1, none⟩) hE4.out lx).trans x1
  have ltbx := ext_lt hE4.out bx lx
  clear xb1 xb2 xb3
  go_upto_region 6 with (fail)
  go_cut [12] (fun v wn => ∃ (A6 : Option Addr) (n6 c6 : Nat), (v = .pointer (some ⟨w3.heap.size, 0, none⟩) ∧ n6 ≤ 100000) ∧ Hid (IntIs wn w3.heap.size 0 (sgn (decide (x < 0)) (x.natAbs * (Q / G) : Nat)) A6 n6 c6 ∧ Off A6 n6 (w3.heap.size + 1) ∧ Room wn (w3.heap.size + 1) 0) ∧ Hid (Ext w3 wn))
  case first =>
    have z0 := x0
    have z1 := x1
    refine D2.wp_drawn_tail 15 (D2.tab [(13, D2.RRow (Q / G)), (14, RWord wz.heap.size (x.natAbs * (Q / G)))]) (by kernel_rfl) (by kernel_rfl) (by kernel_rfl) (D2.tab_stays (by simp [D2.stays_row, D2.stays_word])) (fun hq hqf => ?_)
    simp only [List.take_succ_cons, List.take_zero, List.drop_succ_cons, List.drop_zero]
    have z0 := fun nq => (hq nq bx 0 ltbx).trans x0
    have z1 := fun nq => (hq nq bx 1 ltbx).trans x1
    iterate 13
      (refine D2.wpK_det rfl (fun K hK => ?_)
       go_simp
       first
         | (refine hK _ ?_; clear hK K)
         | (apply Exists.intro; refine ⟨fun x => ?_, hK _ ?_⟩; (first | exact z0 x | exact z1 x); clear hK K))
    refine D2.wpK_rel _ rfl rfl ?_ ?_
    · rintro _ ⟨nn, rfl⟩ _
      unfold D2.Oper.relAt
      go_simp
      exact D2.rel_row (kB Q1 k2 l2 G1 k3 l3 Q G _ hG0 (Nat.le_trans hk2 (by decide)) (hQ3.out.ext (ext_trans hEz.out nn.use)) (hR3.out.1.ext (ext_trans hEz.out nn.use)))
    rintro v ⟨_, ⟨nn, rfl⟩, hr⟩
    obtain ⟨A4, n4, c4, rfl, hr4⟩ := hr
    have hn4 : n4 ≤ 50000 := by rw [← hr4.len]; exact Nat.le_trans (lim_mono (Nat.div_le_self _ _)) hlQ
    clear nn hr4
    refine D2.wpK_rel _ rfl rfl ?_ ?_
    · rintro _ ⟨nn, rfl⟩ hdep
      have q1 := hdep 13 (by kernel_rfl)
      simp only [D2.Facts.put] at q1
      have q2 := D2.row_at (vals := []) q1
      unfold D2.Oper.relAt
      go_simp
      exact D2.rel_wpost (ext_size nn.use) (kM1 _ _ _ _ (ext_trans hE4.out nn.use) hn4 q2)
    rintro v ⟨_, ⟨nn, rfl⟩, hr⟩
    obtain ⟨A5, n5, c5, rfl, hr5, -⟩ := hr
    have hn5 : n5 ≤ 100000 := by rw [← hr5.len]; exact hl1
    clear nn hr5
    refine D2.wpK_nil ?_
    intro nq hGG
    have r5 : RWord wz.heap.size (x.natAbs * (Q / G)) [] (.slice A5 n5 c5) nq.out := by have := hGG.fact 14; simp [D2.Facts.put] at this; exact this
    have hR5 := Lib.hid (rword_at r5)
    have hE := Lib.hid nq.use
    have hF5 : Fr wz A5 := hR5.out.2
    clear r5 hGG
    go_wp2_with (first
      | (go_at_call 94; (with_reducible refine (kS _ _ _ A5 n5 c5 wz _ hRo.out.1 hE.out hR5.out.1 hF5).mono ?_); rintro e w6 ⟨rfl, hI6, xt6⟩)
     )
    go_meet
    case rel =>
      exact ⟨A5, n5, c5, ⟨rfl, hn5⟩, ⟨hI6.out, hF5.off hRo.out.2.lt n5, (hRo.out.2.ext hE.out).tch xt6 (by omega)⟩, xt6.ext (ext_trans hEz.out hE.out) (Nat.le_refl _)⟩
  case rest =>
  obtain ⟨wy, rfl⟩ : ∃ wy, wy = wc := ⟨wc, rfl⟩
  obtain ⟨A6, n6, c6, ⟨rfl, hn6⟩, hI6, hEy⟩ := hcut
  have hE5 := Lib.hid (ext_trans hE3.out hEy.out)
  clear x0 x1
  have x0 := (Below.cell (p := ⟨b2, 0, none⟩) hE5.out ly).trans y0
  have x1 := (Below.cell (p := ⟨b2, 1, none⟩) hE5.out ly).trans y1
  have ltb2 := ext_lt hE5.out b2 ly
  go_upto_region 7 with (fail)
  go_cut [12] (fun v wn => ∃ (A7 : Option Addr) (n7 c7 : Nat), (v = .pointer (some ⟨w3.heap.size, 0, none⟩) ∧ n7 ≤ 100000) ∧ Hid (IntIs wn w3.heap.size 0 (sgn (decide (x < 0)) (x.natAbs * (Q / G) : Nat)) A6 n6 c6 ∧ IntIs wn (w3.heap.size + 1) 0 (sgn (!(decide (y < 0) == t)) (y.natAbs * (P / G) : Nat)) A7 n7 c7) ∧ Hid (Ext w3 wn))
  case first =>
    refine D2.wp_drawn_tail 17 (D2.tab [(15, D2.RRow (P / G)), (16, RWord wy.heap.size (y.natAbs * (P / G)))]) (by kernel_rfl) (by kernel_rfl) (by kernel_rfl) (D2.tab_stays (by simp [D2.stays_row, D2.stays_word])) (fun hq hqf => ?_)
    simp only [List.take_succ_cons, List.take_zero, List.drop_succ_cons, List.drop_zero]
    have z0 := fun nq => (hq nq b2 0 ltb2).trans x0
    have z1 := fun nq => (hq nq b2 1 ltb2).trans x1
    iterate 15
      (refine D2.wpK_det rfl (fun K hK => ?_)
       go_simp
       first
         | (refine hK _ ?_; clear hK K)
         | (apply Exists.intro; refine ⟨fun x => ?_, hK _ ?_⟩; (first | exact z0 x | exact z1 x); clear hK K))
    refine D2.wpK_rel _ rfl rfl ?_ ?_
    · rintro _ ⟨nn, rfl⟩ _
      unfold D2.Oper.relAt
      go_simp
      exact D2.rel_row (kB P1 k1 l1 G1 k3 l3 P G _ hG0 (Nat.le_trans hk1 (by decide)) (hP3.out.ext (ext_trans hEy.out nn.use)) (hR3.out.1.ext (ext_trans hEy.out nn.use)))
    rintro v ⟨_, ⟨nn, rfl⟩, hr⟩
    obtain ⟨A4, n4, c4, rfl, hr4⟩ := hr
    have hn4 : n4 ≤ 50000 := by rw [← hr4.len]; exact Nat.le_trans (lim_mono (Nat.div_le_self _ _)) hlP
    clear nn hr4
    refine D2.wpK_rel _ rfl rfl ?_ ?_
    · rintro _ ⟨nn, rfl⟩ hdep
      have q1 := hdep 15 (by kernel_rfl)
      simp only [D2.Facts.put] at q1
      have q2 := D2.row_at (vals := []) q1
      unfold D2.Oper.relAt
      go_simp
      exact D2.rel_wpost (ext_size nn.use) (kM2 _ _ _ _ (ext_trans hE5.out nn.use) hn4 q2)
    rintro v ⟨_, ⟨nn, rfl⟩, hr⟩
    obtain ⟨A5, n5, c5, rfl, hr5, -⟩ := hr
    have hn5 : n5 ≤ 100000 := by rw [← hr5.len]; exact hl2
    clear nn hr5
    refine D2.wpK_nil ?_
    intro nq hGG
    have r5 : RWord wy.heap.size (y.natAbs * (P / G)) [] (.slice A5 n5 c5) nq.out := by have := hGG.fact 16; simp [D2.Facts.put] at this; exact this
    have hR5 := Lib.hid (rword_at r5)
    have hE := Lib.hid nq.use
    have hF5 : Fr wy A5 := hR5.out.2
    clear r5 hGG
    go_wp2_with (first
      | (go_at_call 94; (with_reducible refine (kS _ _ _ A5 n5 c5 wy _ hI6.out.2.2 hE.out hR5.out.1 hF5).mono ?_); rintro e w7 ⟨rfl, hI7, xt7⟩)
     )
    go_meet
    case rel =>
      exact ⟨A5, n5, c5, ⟨rfl, hn5⟩, ⟨(hI6.out.1.ext hE.out).tch xt7 (by omega) hI6.out.2.1, hI7.out⟩, xt7.ext (ext_trans hEy.out hE.out) (by omega)⟩
  case rest =>
  obtain ⟨wx, rfl⟩ : ∃ wx, wx = wc := ⟨wc, rfl⟩
  obtain ⟨A7, n7, c7, ⟨rfl, hn7⟩, hI7, hEx⟩ := hcut
  have hE6 := Lib.hid (ext_trans hE3.out hEx.out)
  clear x0 x1 kM1 kM2
  go_upto_region 9 with (first
    | (go_at_call 113; (with_reducible refine (bi_Add _ 0 _ 0 _ 0 _ _ A6 n6 c6 A7 n7 c7 (Nat.le_trans hn6 (by decide)) (Nat.le_trans hn7 (by decide)) _ hI7.out.1.room hI7.out.1 hI7.out.2).mono ?_); rintro e w8 ⟨rfl, A8, n8, c8, hI8, xt8⟩)
   )
  rw [hsum] at hI8
  have hE8 := Lib.hid (xt8.ext hEx.out (Nat.le_refl _))
  have hE9 := Lib.hid (ext_trans hE3.out hE8.out)
  have s0 := hI8.out.1.neg
  have s1 := hI8.out.1.words
  have ls := hI8.out.1.room.lt
  simp only [Nat.zero_add] at s1
  have hRg := Lib.hid (HR.out.ext hE9.out)
  have hn8 : n8 ≤ 100001 := by rw [← hI8.out.1.rd.len]; exact hlS
  by_cases hS0 : S = 0
  · obtain rfl : n8 = 0 := hI8.out.1.rd.nil_of (by rw [hS0]; rfl)
    obtain ⟨rfl, rfl⟩ := f0 hS0
    clear kH kB kS
    go_wp2_with (first
      | (go_at_call 99; (with_reducible refine (br_set_nought g _ hRg.out).mono ?_); rintro e w9 ⟨rfl, A9, n9, c9, D9, m9, k9, hI9, xt9⟩)
     )
    refine bodyPost_ret (v := .pointer (some ⟨g, 0, none⟩)) ?h rfl ⟨rfl, A9, n9, c9, D9, m9, k9, ⟨hI9.out.1, hI9.out.2.1.mono hE9.out, hI9.out.2.2.mono hE9.out⟩, (Tch.of hE9.out).trans xt9⟩
    case h => simp [results, Tryz.results77, go_sem]
  · have hn0 : ((n8 : Int) == 0) = false := by
      rw [beq_eq_false_iff_ne]; have := hI8.out.1.rd.len; intro h; exact hS0 (Int.natAbs_eq_zero.1 (lim_nil.1 (List.eq_nil_of_length_eq_zero (by omega))))
    obtain ⟨rfl, rfl⟩ := f1 hS0
    go_upto_region 12 with (first
      | (go_at_call 111; (with_reducible refine (kH A8 n8 c8 G1 k3 l3 _ hE9.out hn8 (Nat.le_trans hk3 (by decide)) hI8.out.1.rd (hR3.out.1.ext hE8.out)).mono ?_); rintro e w9 ⟨H1, k9, l9, rfl, hR9, xb9⟩)
     )
    have hEa := Lib.hid (ext_trans hE8.out xb9)
    have hEb := Lib.hid (ext_trans hE3.out hEa.out)
    have s0' := (Below.cell (p := ⟨w3.heap.size, 0, none⟩) xb9 ls).trans s0
    have s1' := (Below.cell (p := ⟨w3.heap.size, 1, none⟩) xb9 ls).trans s1
    have ls' := ext_lt xb9 _ ls
    have hRh := Lib.hid (HR.out.ext hEb.out)
    have hlg := ext_lt hEb.out g hgl
    obtain ⟨v2, hv2⟩ := hRh.out.c2
    clear s0 s1 kH
    go_cut [14] (fun v wn => ∃ (A12 : Option Addr) (n12 c12 : Nat), v = .slice H1 k9 l9 ∧ Hid (IntIs wn g 0 (sgn (decide (S < 0)) (S.natAbs / H : Nat)) A12 n12 c12 ∧ Fr w A12) ∧ Hid (wn.cell? ⟨g, 2, none⟩ = some v2 ∧ wn.frozen? ⟨g, 2, none⟩ = false) ∧ Hid (Tch g w9 wn))
    case first =>
      refine D2.wp_drawn_tail 14 (D2.tab [(12, D2.RRow (S.natAbs / H)), (13, RWord w9.heap.size (S.natAbs / H))]) (by kernel_rfl) (by kernel_rfl) (by kernel_rfl) (D2.tab_stays (by simp [D2.stays_row, D2.stays_word])) (fun hq hqf => ?_)
      simp only [List.take_succ_cons, List.take_zero, List.drop_succ_cons, List.drop_zero]
      have z0 := fun nq => (hq nq w3.heap.size 0 ls').trans s0'
      have z1 := fun nq => (hq nq w3.heap.size 1 ls').trans s1'
      iterate 12
        (refine D2.wpK_det rfl (fun K hK => ?_)
         go_simp
         first
           | (refine hK _ ?_; clear hK K)
           | (apply Exists.intro; refine ⟨fun x => ?_, hK _ ?_⟩; (first | exact z0 x | exact z1 x); clear hK K))
      refine D2.wpK_rel _ rfl rfl ?_ ?_
      · rintro _ ⟨nn, rfl⟩ _
        unfold D2.Oper.relAt
        go_simp
        exact D2.rel_row (kB A8 n8 c8 H1 k9 l9 S.natAbs H _ hH0 (Nat.le_trans hn8 (by decide)) (hI8.out.1.rd.ext (ext_trans xb9 nn.use)) (hR9.out.1.ext nn.use))
      rintro v ⟨_, ⟨nn, rfl⟩, hr⟩
      obtain ⟨A4, n4, c4, rfl, hr4⟩ := hr
      have hn4 : n4 ≤ 1000000 := by rw [← hr4.len]; exact Nat.le_trans (lim_mono (Nat.div_le_self _ _)) (Nat.le_trans hlS (by decide))
      clear nn hr4
      refine D2.wpK_rel _ rfl rfl ?_ ?_
      · rintro _ ⟨nn, rfl⟩ hdep
        have q1 := hdep 12 (by kernel_rfl)
        simp only [D2.Facts.put] at q1
        have q2 := D2.row_at (vals := []) q1
        unfold D2.Oper.relAt
        go_simp
        exact (rel_copied _ _ _ _ _ hn4 _ _ (ext_size nn.use) q2).mono (fun e w' ⟨u, h1, h2, h3, h4⟩ => ⟨u, h1, h2, (by obtain ⟨A, k, c, rfl, -⟩ := h4; exact D2.fresh_row), h4⟩)
      rintro v ⟨_, ⟨nn, rfl⟩, hr⟩
      obtain ⟨A5, n5, c5, rfl, -, -⟩ := hr
      clear nn
      refine D2.wpK_nil ?_
      intro nq hGG
      have r5 : RWord w9.heap.size (S.natAbs / H) [] (.slice A5 n5 c5) nq.out := by have := hGG.fact 13; simp [D2.Facts.put] at this; exact this
      have hR5 := Lib.hid (rword_at r5)
      have hE := Lib.hid nq.use
      have hF5 : Fr w9 A5 := hR5.out.2
      clear r5 hGG
      go_wp2_with (first
        | (go_at_call 94; (with_reducible refine (bi_setx g 0 _ A5 n5 c5 _ _ (hRh.out.int.ext hE.out) hR5.out.1 (hF5.off hlg n5)).mono ?_); rintro e w10 ⟨rfl, hI10, xt10, hq10⟩)
       )
      go_meet
      case rel =>
        exact ⟨A5, n5, c5, rfl, ⟨hI10.out, hF5.mono hEb.out⟩, ⟨((hq10.out 2 (by omega) (by omega)).1.trans (Below.cell (p := ⟨g, 2, none⟩) hE.out hlg)).trans hv2, ((hq10.out 2 (by omega) (by omega)).2.trans (Below.frozen (p := ⟨g, 2, none⟩) hE.out hlg)).trans hRh.out.f2⟩, (Tch.of hE.out).trans xt10⟩
    case rest =>
    obtain ⟨wv, rfl⟩ : ∃ wv, wv = wc := ⟨wc, rfl⟩
    obtain ⟨A12, n12, c12, rfl, hI12, hv12, xt12⟩ := hcut
    have cv := hv12.out.1
    have cf := hv12.out.2
    have lgv := hI12.out.1.room.lt
    have hP9 := Lib.hid ((hP3.out.ext hEa.out).tch xt12.out HOG.out.2.1)
    have hQ9 := Lib.hid ((hQ3.out.ext hEa.out).tch xt12.out HOG.out.2.2)
    have hG9 := Lib.hid ((hR3.out.1.ext hEa.out).tch xt12.out HOG.out.1)
    have hH9 := Lib.hid (hR9.out.1.tch xt12.out (hR9.out.2.off (ext_lt hE9.out g hgl) k9))
    clear s0' s1'
    go_wp2_with (first
      | (go_at_call 112; (with_reducible refine (bw_by P1 G1 k1 l1 k3 l3 P G hG0 (Nat.le_trans hk1 (by decide)) _ hP9.out hG9.out).mono ?_); rintro e wa ⟨Aa, na, ca, ⟨rfl, hka⟩, hRa, xba⟩)
      | (go_at_call 112; (with_reducible refine (bw_by Q1 H1 k2 l2 k9 l9 Q H hH0 (Nat.le_trans hk2 (by decide)) _ (hQ9.out.ext xba) (hH9.out.ext xba)).mono ?_); rintro e wb ⟨Ab, nb, cb, ⟨rfl, hkb⟩, hRb, xbb⟩; have hsb : na + nb ≤ 200000 := Nat.le_trans (Nat.add_le_add (Nat.le_trans hka hk1) (Nat.le_trans hkb hk2)) (by decide))
      | (go_at_call 85; (with_reducible refine (bw_mulA Aa Ab na ca nb cb _ _ hsb _ (hRa.out.ext xbb) hRb.out).mono ?_); rintro e wd ⟨Ad, nd, cd, rfl, hRd, xbd⟩; have hEd := Lib.hid (ext_trans xba (ext_trans xbb xbd)); have cvd := (Below.cell (p := ⟨g, 2, none⟩) hEd.out lgv).trans cv; have cfd := (Below.frozen (p := ⟨g, 2, none⟩) hEd.out lgv).trans cf; have hFd := Lib.hid (hRd.out.2.mono (ext_trans xba xbb)))
     )
    have hFw : Fr w Ad := hFd.out.szmono (Nat.le_trans (ext_size hEb.out) xt12.out.size)
    refine bodyPost_ret (v := .pointer (some ⟨g, 0, none⟩)) ?h rfl ⟨rfl, A12, n12, c12, Ad, nd, cd, ⟨rat_made (hI12.out.1.ext hEd.out) ⟨_, cvd⟩ cfd hRd.out.1 (hFd.out.off lgv nd), hI12.out.2, hFw⟩, (((Tch.of hEb.out).trans xt12.out).trans (Tch.of hEd.out)).set 2 _⟩
    case h => simp [results, Tryz.results77, go_sem]
theorem br_Add (g bx b2 : Nat) (x y : Int) (p q : Nat) (hxp : Nat.gcd x.natAbs (denOf p) = 1) (hyq : Nat.gcd y.natAbs (denOf q) = 1) (A : Option Addr) (n c : Nat) (D : Option Addr) (m e : Nat) (B : Option Addr) (n2 c2 : Nat) (C : Option Addr) (m2 e2 : Nat)
    (hn : n ≤ 50000) (hm : m ≤ 50000) (hn2 : n2 ≤ 50000) (hm2 : m2 ≤ 50000) (w : World) (hT : Tz w) (hr : RatRoom w g) (hx : RatIs w bx x A n c p D m e) (hy : RatIs w b2 y B n2 c2 q C m2 e2) (hoD : Off D m g) (hoC : Off C m2 g) :
    Calls Tryz.prog 45 #[.pointer (some ⟨g, 0, none⟩), .pointer (some ⟨bx, 0, none⟩), .pointer (some ⟨b2, 0, none⟩)] w
      (FPost w g (canN (x * denOf q + y * denOf p) (denOf p * denOf q)) (canW (x * denOf q + y * denOf p) (denOf p * denOf q))) := by
  have k := br_added false g bx b2 x y p q hxp hyq A n c D m e B n2 c2 C m2 e2 hn hm hn2 hm2 w hT hr hx hy hoD hoC
  simp only [Bool.false_eq_true, if_false] at k
  generalize canN (x * denOf q + y * denOf p) (denOf p * denOf q) = ZN at k ⊢
  generalize canW (x * denOf q + y * denOf p) (denOf p * denOf q) = ZD at k ⊢
  clear hT hr hx hy hoD hoC hxp hyq
  go_enter Tryz.func45, Tryz.ntmps45
  go_wp2_with (first
    | (go_at_call 77; (with_reducible refine k.mono ?_); rintro e w9 ⟨rfl, A9, n9, c9, D9, m9, k9, hI9, xt9⟩)
   )
  refine bodyPost_ret (v := .pointer (some ⟨g, 0, none⟩)) ?h rfl ⟨rfl, A9, n9, c9, D9, m9, k9, hI9, xt9⟩
  case h => simp [results, Tryz.results45, go_sem]
end Go.Proofs.YtdjegfnkpagdaaaGreatDoor
end
