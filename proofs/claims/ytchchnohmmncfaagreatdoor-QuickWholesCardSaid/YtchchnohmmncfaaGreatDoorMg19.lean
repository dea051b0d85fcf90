/- Lemmas of this proof, laid together: RndS, QkP, QkD, QkE, QkF, QkG, TwBigM, TwBigN. -/
import Derived.Test.YtchchnohmmncfaaGreatDoorMg18
import Derived.Test.YtchchnohmmncfaaGreatDoorMg09
import Derived.Lib.ParseIntBCases
import Derived.Laws.FloatArith
import Derived.Test.YtchchnohmmncfaaGreatDoorShelf
import Derived.Deep.DeepCutAuto
import Derived.Deep.RegionWith
import Derived.Test.YtchchnohmmncfaaGreatDoorMg17
set_option linter.unusedSimpArgs false
set_option linter.unusedVariables false
section
/- Rounding a fraction to a float: quotients and products of floats that are whole numbers. -/
namespace Go.Proofs.YtchchnohmmncfaaGreatDoor
open Go.RowKit
set_option maxRecDepth 100000
theorem rdQ_eq {mode : Nat} {neg : Bool} {a d b c : Nat} (hd : 0 < d) (hc : 0 < c) (h : a * c = b * d) : rdQ mode neg a d = rdQ mode neg b c := by
  rw [← rdQ_scale (a := a) (d := d) hc, ← rdQ_scale (a := b) (d := c) hd, h, Nat.mul_comm d c]
theorem rdQ_sticky (X Y k : Nat) (hY : 0 < Y) (hk : 1 ≤ k) : rdQ 0 false (2 * (X / Y) + (X % Y != 0).toNat) (2 ^ (k + 1)) = rdQ 0 false X (Y * 2 ^ k) := by
  obtain ⟨Q, hQ⟩ : ∃ Q, X / Y = Q := ⟨_, rfl⟩
  obtain ⟨R, hR⟩ : ∃ R, X % Y = R := ⟨_, rfl⟩
  have hX : X = Y * Q + R := by rw [← hQ, ← hR]; exact (Nat.div_add_mod X Y).symm
  have hRY : R < Y := by rw [← hR]; exact Nat.mod_lt _ hY
  obtain ⟨P, hP⟩ : ∃ P, 2 ^ k = 2 * P := ⟨2 ^ (k - 1), by rw [← Nat.pow_succ']; congr 1; omega⟩
  have hP0 : 0 < P := by have := Nat.two_pow_pos k; omega
  have hP2 : 2 ^ (k + 1) = 2 * (2 * P) := by rw [Nat.pow_succ', hP]
  obtain ⟨u, hu⟩ : ∃ u, Q % (2 * P) = u := ⟨_, rfl⟩
  obtain ⟨q, hq⟩ : ∃ q, Q / (2 * P) = q := ⟨_, rfl⟩
  have hQq : Q = 2 * P * q + u := by rw [← hq, ← hu]; exact (Nat.div_add_mod Q _).symm
  have huP : u < 2 * P := by rw [← hu]; exact Nat.mod_lt _ (by omega)
  obtain ⟨s, hs⟩ : ∃ s, (R != 0).toNat = s := ⟨_, rfl⟩
  have hs0 : (R = 0 ∧ s = 0) ∨ (R ≠ 0 ∧ s = 1) := by
    rw [← hs]
    by_cases h : R = 0
    · left; subst h; exact ⟨rfl, rfl⟩
    · right
      refine ⟨h, ?_⟩
      have : (R != 0) = true := by simpa using h
      rw [this]; rfl
  rw [hQ, hR, hs, hP, hP2]
  have l1 : (2 * Q + s) / (2 * (2 * P)) = q := by
    refine Nat.div_eq_of_lt_le ?_ ?_
    · rw [hQq]
      have : q * (2 * (2 * P)) = 2 * (2 * P * q) := by rw [Nat.mul_comm q, Nat.mul_assoc]
      omega
    · rw [hQq]
      have : (q + 1) * (2 * (2 * P)) = 2 * (2 * P * q) + 2 * (2 * P) := by rw [Nat.add_mul, Nat.one_mul, Nat.mul_comm q, Nat.mul_assoc]
      omega
  have l2 : (2 * Q + s) % (2 * (2 * P)) = 2 * u + s := by
    have := Nat.div_add_mod (2 * Q + s) (2 * (2 * P))
    rw [l1] at this
    have e : 2 * (2 * P) * q = 2 * (2 * P * q) := Nat.mul_assoc ..
    omega
  have hYq : Y * (2 * P * q) = q * (Y * (2 * P)) := by rw [Nat.mul_comm (2 * P) q, Nat.mul_left_comm]
  have hXe : X = q * (Y * (2 * P)) + (Y * u + R) := by rw [hX, hQq, Nat.mul_add, hYq]; omega
  have hYu : Y * u + R < Y * (2 * P) := by
    have h1 : Y * (u + 1) ≤ Y * (2 * P) := Nat.mul_le_mul_left _ (by omega)
    rw [Nat.mul_add, Nat.mul_one] at h1
    omega
  have r1 : X / (Y * (2 * P)) = q := by
    refine Nat.div_eq_of_lt_le ?_ ?_
    · omega
    · rw [Nat.add_mul, Nat.one_mul]; omega
  have r2 : X % (Y * (2 * P)) = Y * u + R := by
    have := Nat.div_add_mod X (Y * (2 * P))
    rw [r1, Nat.mul_comm _ q] at this
    omega
  have c1 : cmpN (2 * (2 * u + s)) (2 * (2 * P)) = cmpN (2 * (Y * u + R)) (Y * (2 * P)) := by
    have e1 : 2 * (Y * u) = Y * (2 * u) := Nat.mul_left_comm ..
    rcases Nat.lt_trichotomy (2 * u) (2 * P) with g | g | g
    · have h1 : Y * (2 * u + 2) ≤ Y * (2 * P) := Nat.mul_le_mul_left _ (by omega)
      rw [Nat.mul_add, Nat.mul_comm Y 2] at h1
      unfold cmpN
      rw [if_pos (by omega), if_pos (by omega)]
    · have h1 : Y * (2 * u) = Y * (2 * P) := by rw [g]
      unfold cmpN
      rcases hs0 with ⟨h2, h3⟩ | ⟨h2, h3⟩
      · rw [if_neg (by omega), if_neg (by omega), if_neg (by omega), if_neg (by omega)]
      · rw [if_neg (by omega), if_pos (by omega), if_neg (by omega), if_pos (by omega)]
    · have h1 : Y * (2 * P + 2) ≤ Y * (2 * u) := Nat.mul_le_mul_left _ (by omega)
      rw [Nat.mul_add, Nat.mul_comm Y 2] at h1
      unfold cmpN
      rw [if_neg (by omega), if_pos (by omega), if_neg (by omega), if_pos (by omega)]
  have z1 : 2 * u + s = 0 ↔ Y * u + R = 0 := by
    constructor
    · intro h
      have hu0 : u = 0 := by omega
      rw [hu0, Nat.mul_zero]; omega
    · intro h
      have : Y * u = 0 := by omega
      rcases Nat.mul_eq_zero.1 this with h1 | h1
      · omega
      · omega
  unfold rdQ
  rw [l1, l2, r1, r2, c1]
  by_cases h : 2 * u + s = 0
  · rw [if_pos h, if_pos (z1.1 h)]
  · rw [if_neg h, if_neg (fun g => h (z1.2 g))]
theorem log2_eq {n k : Nat} (h1 : 2 ^ k ≤ n) (h2 : n < 2 ^ (k + 1)) : n.log2 = k := by
  have h0 : n ≠ 0 := by have := Nat.two_pow_pos k; omega
  exact (Nat.log2_eq_iff h0).2 ⟨h1, h2⟩
/-- A quotient of two floats' numbers is written as their fraction is rounded. -/
theorem quo_even {E F : Nat} (hE : 2 ≤ E) (s t : Bool) {m n : Nat} (hm : 0 < m) (hn : 0 < n) (hml : m.log2 ≤ F + 1 + n.log2) (i j : Int) :
    ((Ieee.Datum.quotient (F + 2) (.number s m i) (.number t n j)).map (fmt E F).write) = some ((fmt E F).word (s ^^ t) (evenQ E F (tA m (i - j)) (tD n (i - j)))) := by
  obtain ⟨mo, hmo⟩ : ∃ mo, F + 2 + n.log2 - m.log2 = mo := ⟨_, rfl⟩
  have hmo1 : mo + m.log2 = F + 2 + n.log2 := by omega
  obtain ⟨X, hX⟩ : ∃ X, m * 2 ^ mo = X := ⟨_, rfl⟩
  have hm1 := Nat.log2_self_le (n := m) (by omega)
  have hm2 := Nat.lt_log2_self (n := m)
  have hn1 := Nat.log2_self_le (n := n) (by omega)
  have hn2 := Nat.lt_log2_self (n := n)
  have hX1 : 2 ^ (F + 2 + n.log2) ≤ X := by
    rw [← hX, ← hmo1, Nat.pow_add, Nat.mul_comm]
    exact Nat.mul_le_mul_right _ hm1
  have hQ1 : 2 ^ (F + 1) ≤ X / n := by
    rw [Nat.le_div_iff_mul_le hn]
    refine Nat.le_trans (Nat.mul_le_mul_left _ (Nat.le_of_lt hn2)) ?_
    rw [← Nat.pow_add, show F + 1 + (n.log2 + 1) = F + 2 + n.log2 by omega]
    exact hX1
  obtain ⟨Q, hQ⟩ : ∃ Q, X / n = Q := ⟨_, rfl⟩
  have hQ0 : 0 < Q := by have := Nat.two_pow_pos (F + 1); omega
  obtain ⟨l, hl⟩ : ∃ l, Q.log2 = l := ⟨_, rfl⟩
  have hl1 : 2 ^ l ≤ Q := by rw [← hl]; exact Nat.log2_self_le (by omega)
  have hl2 : Q < 2 ^ (l + 1) := by rw [← hl]; exact Nat.lt_log2_self
  have hlF : F + 1 ≤ l := by
    rcases Nat.lt_or_ge l (F + 1) with h | h
    · have : 2 ^ (l + 1) ≤ 2 ^ (F + 1) := Nat.pow_le_pow_right (by decide) (by omega)
      omega
    · exact h
  obtain ⟨st, hst⟩ : ∃ st, (X % n != 0).toNat = st := ⟨_, rfl⟩
  have hst1 : st ≤ 1 := by rw [← hst]; exact Bool.toNat_le _
  obtain ⟨q2, hq2⟩ : ∃ q2, 2 * Q + st = q2 := ⟨_, rfl⟩
  have hq20 : 0 < q2 := by omega
  have hlog : q2.log2 = l + 1 := log2_eq (by rw [Nat.pow_succ]; omega) (by rw [Nat.pow_succ 2 (l + 1)]; omega)
  obtain ⟨P, hP⟩ : ∃ P, i - j = P := ⟨_, rfl⟩
  have hq : Ieee.Datum.quotient (F + 2) (.number s m i) (.number t n j) = some (.number (s ^^ t) q2 (i - j - mo - 1)) := by
    unfold Ieee.Datum.quotient
    simp only
    rw [if_neg (by omega), hmo, Nat.shiftLeft_eq, hX, hQ, hst, hq2]
  rw [hq, hP]
  show some ((fmt E F).nearest (s ^^ t) q2 (P - mo - 1)) = _
  rw [near_even E F hE _ q2 hq20]
  congr 2
  have hd1 : 0 < tD 1 (P - mo - 1) := Nat.mul_pos (by decide) (Nat.two_pow_pos _)
  have hA : 0 < tA m P := Nat.mul_pos hm (Nat.two_pow_pos _)
  have hD : 0 < tD n P := Nat.mul_pos hn (Nat.two_pow_pos _)
  have hXn : n * Q ≤ X ∧ X < n * (Q + 1) := by
    rw [← hQ]
    refine ⟨Nat.mul_div_le X n, ?_⟩
    rw [Nat.mul_add, Nat.mul_one]
    have := Nat.div_add_mod X n
    have := Nat.mod_lt X hn
    omega
  have hlg : lgQ (tA m P) (tD n P) = P - mo + l := by
    refine lgQ_eq hA hD ?_ ?_
    · rw [leP_at ((-P).toNat + mo) (by omega)]
      unfold tA tD
      rw [Nat.mul_assoc, Nat.mul_assoc, ← Nat.pow_add, ← Nat.pow_add]
      have e1 : (-P).toNat + (P - mo + (l : Nat) + (((-P).toNat + mo : Nat) : Int)).toNat = l + (P.toNat + (-P).toNat) := by omega
      have e2 : P.toNat + ((-P).toNat + mo) = mo + (P.toNat + (-P).toNat) := by omega
      rw [e1, e2, Nat.pow_add, Nat.pow_add 2 mo, ← Nat.mul_assoc, ← Nat.mul_assoc, hX]
      exact Nat.mul_le_mul_right _ (Nat.le_trans (Nat.mul_le_mul_left _ hl1) hXn.1)
    · rw [leP_at ((-P).toNat + mo) (by omega)]
      unfold tA tD
      rw [Nat.mul_assoc, Nat.mul_assoc, ← Nat.pow_add, ← Nat.pow_add]
      have e1 : (-P).toNat + (P - mo + (l : Nat) + 1 + (((-P).toNat + mo : Nat) : Int)).toNat = (l + 1) + (P.toNat + (-P).toNat) := by omega
      have e2 : P.toNat + ((-P).toNat + mo) = mo + (P.toNat + (-P).toNat) := by omega
      rw [e1, e2, Nat.pow_add, Nat.pow_add 2 mo, ← Nat.mul_assoc, ← Nat.mul_assoc, hX]
      have h1 : X < n * 2 ^ (l + 1) := Nat.lt_of_lt_of_le hXn.2 (Nat.mul_le_mul_left _ hl2)
      have := Nat.mul_lt_mul_of_pos_right h1 (Nat.two_pow_pos (P.toNat + (-P).toNat))
      omega
  have hlow : lowQ E (tA q2 (P - mo - 1)) (tD 1 (P - mo - 1)) = lowQ E (tA m P) (tD n P) := by
    unfold lowQ
    rw [hlg, lgQ_bin hq20, hlog]
    congr 1
    omega
  obtain ⟨low, hlo⟩ : ∃ low, lowQ E (tA m P) (tD n P) = low := ⟨_, rfl⟩
  have hlow1 : P - mo + l ≤ low := by rw [← hlo]; unfold lowQ; rw [hlg]; omega
  have hman : manQ E F 0 false (tA q2 (P - mo - 1)) (tD 1 (P - mo - 1)) = manQ E F 0 false (tA m P) (tD n P) := by
    unfold manQ
    rw [hlow, hlo]
    have e0 := rdQ_bin 0 false q2 (P - mo - 1) (low - F)
    rw [Int.neg_sub] at e0
    rw [← e0]
    obtain ⟨k, hk⟩ : ∃ k : Nat, (low - F - (P - mo - 1)).toNat = k + 1 ∧ 1 ≤ k ∧ low - F = P - mo + k := ⟨(low - F - (P - mo - 1)).toNat - 1, by omega, by omega, by omega⟩
    obtain ⟨k1, k2, k3⟩ := hk
    have e1 : (P - mo - 1 - (low - F)).toNat = 0 := by omega
    have hsk := rdQ_sticky X n k hn k2
    rw [hQ, hst, hq2] at hsk
    rw [k1, e1, Nat.pow_zero, Nat.mul_one, hsk, ← hX]
    refine rdQ_eq (Nat.mul_pos hn (Nat.two_pow_pos _)) (Nat.mul_pos hD (Nat.two_pow_pos _)) ?_
    unfold tA tD
    have e2 : mo + ((-P).toNat + (-((F : Int) - low)).toNat) = P.toNat + ((F : Int) - low).toNat + k := by omega
    calc m * 2 ^ mo * (n * 2 ^ (-P).toNat * 2 ^ (-((F : Int) - low)).toNat) = m * n * 2 ^ (mo + ((-P).toNat + (-((F : Int) - low)).toNat)) := by rw [Nat.pow_add, Nat.pow_add]; ac_rfl
      _ = m * n * 2 ^ (P.toNat + ((F : Int) - low).toNat + k) := by rw [e2]
      _ = m * 2 ^ P.toNat * 2 ^ ((F : Int) - low).toNat * (n * 2 ^ k) := by rw [Nat.pow_add, Nat.pow_add]; ac_rfl
  unfold evenQ rungQ
  rw [hman, hlow]
/-- A float that is this whole number. -/
def IsW (E F x v : Nat) : Prop := ∃ m p, (fmt E F).read x = .number false m p ∧ 0 < m ∧ m.log2 ≤ F ∧ tA m p = v * tD 1 p
theorem isW_of {E F n : Nat} (hE : 2 ≤ E) (hn : 0 < n) (h : n ≤ 2 ^ (F + 1)) (hb : (F : Int) + 1 ≤ biasF E) : IsW E F ((fmt E F).nearest false n 0) n := by
  have hb1 := (bias_two E hE).2
  have key : ∀ m : Nat, 0 < m → m.log2 ≤ F → ∀ p : Nat, m * 2 ^ p = n → p + m.log2 ≤ F + 1 → IsW E F ((fmt E F).nearest false n 0) n := by
    intro m hm hl p hp hpl
    have e1 : (fmt E F).nearest false n 0 = (fmt E F).nearest false m p := near_eq hE false hn hm (by
      unfold tA tD
      have a1 : (-(p : Int)).toNat = 0 := by omega
      have a2 : ((p : Int)).toNat = p := by omega
      rw [a1, a2]
      simp only [Int.toNat_zero, Int.neg_zero, Nat.pow_zero, Nat.mul_one]
      exact hp.symm)
    rw [e1]
    refine ⟨m * 2 ^ (F - m.log2), p - (F - m.log2 : Nat), read_exact hE false hm p hl (by omega) (by omega), Nat.mul_pos hm (Nat.two_pow_pos _), ?_, ?_⟩
    · have : (m * 2 ^ (F - m.log2)).log2 = F := by
        refine log2_eq ?_ ?_
        · calc 2 ^ F = 2 ^ m.log2 * 2 ^ (F - m.log2) := by rw [← Nat.pow_add]; congr 1; omega
            _ ≤ m * 2 ^ (F - m.log2) := Nat.mul_le_mul_right _ (Nat.log2_self_le (by omega))
        · calc m * 2 ^ (F - m.log2) < 2 ^ (m.log2 + 1) * 2 ^ (F - m.log2) := Nat.mul_lt_mul_of_pos_right Nat.lt_log2_self (Nat.two_pow_pos _)
            _ = 2 ^ (F + 1) := by rw [← Nat.pow_add]; congr 1; omega
      omega
    · unfold tA tD
      rw [Nat.one_mul, ← hp, Nat.mul_assoc, Nat.mul_assoc, ← Nat.pow_add, ← Nat.pow_add]
      congr 2
      omega
  rcases Nat.lt_or_ge n (2 ^ (F + 1)) with g | g
  · refine key n hn ?_ 0 (by rw [Nat.pow_zero, Nat.mul_one]) ?_
    · have := (Nat.log2_lt (by omega)).2 g; omega
    · have := (Nat.log2_lt (by omega)).2 g; omega
  · have hl0 : Nat.log2 1 = 0 := by decide
    refine key 1 (by decide) (by rw [hl0]; omega) (F + 1) (by omega) (by rw [hl0]; omega)
theorem mul_W {E F x y a b : Nat} (hE : 2 ≤ E) (hx : IsW E F x a) (hy : IsW E F y b) : (fmt E F).mul x y = some ((fmt E F).word false (evenQ E F (a * b) 1)) := by
  obtain ⟨m, p, h1, h2, -, h3⟩ := hx
  obtain ⟨n, q, k1, k2, -, k3⟩ := hy
  unfold Ieee.Format.mul
  rw [h1, k1]
  show some ((fmt E F).nearest (false ^^ false) (m * n) (p + q)) = _
  have hab : 0 < a * b := by
    have h4 : 0 < tA m p := Nat.mul_pos h2 (Nat.two_pow_pos _)
    have h5 : 0 < tA n q := Nat.mul_pos k2 (Nat.two_pow_pos _)
    refine Nat.mul_pos (Nat.pos_of_ne_zero fun e => ?_) (Nat.pos_of_ne_zero fun e => ?_)
    · rw [e, Nat.zero_mul] at h3; omega
    · rw [e, Nat.zero_mul] at k3; omega
  have hmn : 0 < m * n := Nat.mul_pos h2 k2
  rw [near_even E F hE _ _ hmn]
  congr 2
  have hA : 0 < tA (m * n) (p + q) := Nat.mul_pos hmn (Nat.two_pow_pos _)
  have hD : 0 < tD 1 (p + q) := Nat.mul_pos (by decide) (Nat.two_pow_pos _)
  rw [← bits_even (neg := false) hE hA hD, ← bits_even (neg := false) (d := 1) hE hab (by decide), bitsQ_eq (c := 1) hA hD hab (by decide) ?_]
  rw [Nat.mul_one]
  have e : m * 2 ^ p.toNat * (n * 2 ^ q.toNat) = a * 2 ^ (-p).toNat * (b * 2 ^ (-q).toNat) := by
    have h3' : m * 2 ^ p.toNat = a * 2 ^ (-p).toNat := by have := h3; unfold tA tD at this; rwa [Nat.one_mul] at this
    have k3' : n * 2 ^ q.toNat = b * 2 ^ (-q).toNat := by have := k3; unfold tA tD at this; rwa [Nat.one_mul] at this
    rw [h3', k3']
  unfold tA tD
  rw [Nat.one_mul]
  obtain ⟨c, c1, c2⟩ : ∃ c : Nat, p.toNat + q.toNat = (p + q).toNat + c ∧ (-p).toNat + (-q).toNat = (-(p + q)).toNat + c := ⟨p.toNat + q.toNat - (p + q).toNat, by omega, by omega⟩
  refine Nat.eq_of_mul_eq_mul_right (Nat.two_pow_pos c) ?_
  calc m * n * 2 ^ (p + q).toNat * 2 ^ c = m * n * 2 ^ (p.toNat + q.toNat) := by rw [c1, Nat.pow_add 2 _ c]; ac_rfl
    _ = m * 2 ^ p.toNat * (n * 2 ^ q.toNat) := by rw [Nat.pow_add]; ac_rfl
    _ = a * 2 ^ (-p).toNat * (b * 2 ^ (-q).toNat) := e
    _ = a * b * 2 ^ ((-p).toNat + (-q).toNat) := by rw [Nat.pow_add]; ac_rfl
    _ = a * b * 2 ^ (-(p + q)).toNat * 2 ^ c := by rw [c2, Nat.pow_add 2 _ c]; ac_rfl
theorem div_W {E F x y a b : Nat} (hE : 2 ≤ E) (hx : IsW E F x a) (hy : IsW E F y b) : (fmt E F).div x y = some ((fmt E F).word false (evenQ E F a b)) := by
  obtain ⟨m, p, h1, h2, hl, h3⟩ := hx
  obtain ⟨n, q, k1, k2, -, k3⟩ := hy
  unfold Ieee.Format.div
  rw [h1, k1]
  have := quo_even (F := F) hE false false h2 k2 (by omega) p q
  refine this.trans ?_
  congr 2
  have h4 : 0 < tA m p := Nat.mul_pos h2 (Nat.two_pow_pos _)
  have h5 : 0 < tA n q := Nat.mul_pos k2 (Nat.two_pow_pos _)
  have ha : 0 < a := Nat.pos_of_ne_zero fun e => by rw [e, Nat.zero_mul] at h3; omega
  have hb : 0 < b := Nat.pos_of_ne_zero fun e => by rw [e, Nat.zero_mul] at k3; omega
  have hA : 0 < tA m (p - q) := Nat.mul_pos h2 (Nat.two_pow_pos _)
  have hD : 0 < tD n (p - q) := Nat.mul_pos k2 (Nat.two_pow_pos _)
  rw [← bits_even (neg := false) hE hA hD, ← bits_even (neg := false) hE ha hb, bitsQ_eq hA hD ha hb ?_]
  have h3' : m * 2 ^ p.toNat = a * 2 ^ (-p).toNat := by have := h3; unfold tA tD at this; rwa [Nat.one_mul] at this
  have k3' : n * 2 ^ q.toNat = b * 2 ^ (-q).toNat := by have := k3; unfold tA tD at this; rwa [Nat.one_mul] at this
  unfold tA tD
  obtain ⟨c, c1, c2⟩ : ∃ c : Nat, p.toNat + (-q).toNat = (p - q).toNat + c ∧ (-p).toNat + q.toNat = (-(p - q)).toNat + c := ⟨p.toNat + (-q).toNat - (p - q).toNat, by omega, by omega⟩
  refine Nat.eq_of_mul_eq_mul_right (Nat.two_pow_pos c) ?_
  calc m * 2 ^ (p - q).toNat * b * 2 ^ c = m * 2 ^ p.toNat * (b * 2 ^ (-q).toNat) := by
        have : 2 ^ (p - q).toNat * 2 ^ c = 2 ^ p.toNat * 2 ^ (-q).toNat := by rw [← Nat.pow_add, ← Nat.pow_add, c1]
        calc m * 2 ^ (p - q).toNat * b * 2 ^ c = m * b * (2 ^ (p - q).toNat * 2 ^ c) := by ac_rfl
          _ = m * b * (2 ^ p.toNat * 2 ^ (-q).toNat) := by rw [this]
          _ = m * 2 ^ p.toNat * (b * 2 ^ (-q).toNat) := by ac_rfl
    _ = a * 2 ^ (-p).toNat * (n * 2 ^ q.toNat) := by rw [h3', k3']
    _ = a * (n * 2 ^ (-(p - q)).toNat) * 2 ^ c := by
        have : 2 ^ (-p).toNat * 2 ^ q.toNat = 2 ^ (-(p - q)).toNat * 2 ^ c := by rw [← Nat.pow_add, ← Nat.pow_add, c2]
        calc a * 2 ^ (-p).toNat * (n * 2 ^ q.toNat) = a * n * (2 ^ (-p).toNat * 2 ^ q.toNat) := by ac_rfl
          _ = a * n * (2 ^ (-(p - q)).toNat * 2 ^ c) := by rw [this]
          _ = a * (n * 2 ^ (-(p - q)).toNat) * 2 ^ c := by ac_rfl
end Go.Proofs.YtchchnohmmncfaaGreatDoor
end
section
/- quick: what is parsed and what native floats read: the plain law. -/
namespace Go.Proofs.YtchchnohmmncfaaGreatDoor
open Go.RowKit
set_option maxRecDepth 100000
theorem qk_cons (c : UInt8) (r : List UInt8) : dval (c :: r) = (c.toNat - 48) * 10 ^ r.length + dval r := by
  have h := dval_append [c] r
  have e : dval [c] = c.toNat - 48 := by simp [dval]
  rw [e] at h
  exact h
theorem pu_go (l : List UInt8) (h : digsB l = true) : ∀ acc, acc < 18446744073709551616 → Lib.parseUint10 acc l = if acc * 10 ^ l.length + dval l < 18446744073709551616 then Lib.NumEnd.ok (acc * 10 ^ l.length + dval l) else Lib.NumEnd.range := by
  induction l with
  | nil =>
    intro acc ha
    have e : acc * 10 ^ ([] : List UInt8).length + dval [] = acc := by simp [dval]
    rw [e, if_pos ha]
    rfl
  | cons c r ih =>
    intro acc ha
    have h2 : isD c = true ∧ digsB r = true := by simpa [digsB] using h
    have h3 := isD_yes c h2.1
    have hp : 1 ≤ 10 ^ r.length := Nat.pow_pos (by decide)
    have e : acc * 10 ^ (c :: r).length + dval (c :: r) = (acc * 10 + (c.toNat - 48)) * 10 ^ r.length + dval r := by
      rw [qk_cons, List.length_cons, Nat.pow_succ, Nat.add_mul, ← Nat.mul_assoc, Nat.mul_right_comm, Nat.add_assoc]
    have big : ∀ n, 18446744073709551616 ≤ n → ¬ n * 10 ^ r.length + dval r < 18446744073709551616 := fun n hn => by
      have := Nat.mul_le_mul hn hp
      omega
    rw [e]
    simp only [Lib.parseUint10]
    rw [if_pos ⟨h3.1, h3.2⟩]
    by_cases g1 : 1844674407370955162 ≤ acc
    · rw [if_pos g1, if_neg (big _ (by omega))]
    · rw [if_neg g1]
      by_cases g2 : 18446744073709551616 ≤ acc * 10 + (c.toNat - 48)
      · rw [if_pos g2, if_neg (big _ g2)]
      · rw [if_neg g2, ih h2.2 _ (by omega)]
theorem pu_digs (l : List UInt8) (h : digsB l = true) (h0 : 0 < l.length) : Lib.parseUintB 64 l = if dval l < 18446744073709551616 then Lib.NumEnd.ok (dval l) else Lib.NumEnd.range := by
  rw [Lib.parseUintB_64]
  unfold Lib.parseMag
  rw [if_neg (by intro e; subst e; simp at h0), pu_go l h 0 (by decide), Nat.zero_mul, Nat.zero_add]
/-- How many tens the digits take up. -/
def askK (d : Dc) (power : Nat) : Nat := (d.exp - power).toNat
/-- May it be asked: of so many whole numbers, with a power from -power to more? -/
def askB (d : Dc) (whole power more : Nat) : Bool := decide (dcE d = 0) && (decide (d.dig = []) || (decide (dval d.dig * 10 ^ askK d power ≤ whole) && (decide (-(power : Int) ≤ d.exp) && decide (d.exp ≤ more))))
def askN (d : Dc) (power : Nat) : Nat := if d.dig = [] then 0 else dval d.dig * 10 ^ askK d power
def askX (d : Dc) (power : Nat) : Int := if d.dig = [] then 0 else d.exp - askK d power
/-- n times 10 to the power of e by native floats: their bits. -/
def rdB (E F : Nat) (neg : Bool) (n : Nat) (e : Int) : Nat := (if neg = true then 2 ^ (E + F) else 0) + (if n = 0 then 0 else evenQ E F (n * 10 ^ e.toNat) (10 ^ (-e).toNat))
/-- 10 to the power of k as a float's bits. -/
def tnB (E F k : Nat) : Nat := evenQ E F (10 ^ k) 1
theorem isW_bin {E F m : Nat} (hE : 2 ≤ E) (hm : 0 < m) (hl : m.log2 ≤ F) (p : Nat) (hb : (p : Int) + m.log2 ≤ biasF E) : IsW E F (evenQ E F (m * 2 ^ p) 1) (m * 2 ^ p) := by
  have hb1 := (bias_two E hE).2
  have e1 : (fmt E F).nearest false m p = evenQ E F (m * 2 ^ p) 1 := by
    rw [near_even E F hE false m hm]
    unfold tA tD
    have a1 : (-(p : Int)).toNat = 0 := by omega
    rw [a1, Int.toNat_natCast, Nat.pow_zero, Nat.mul_one]
    rfl
  rw [← e1]
  refine ⟨m * 2 ^ (F - m.log2), p - (F - m.log2 : Nat), read_exact hE false hm p hl (by omega) (by omega), Nat.mul_pos hm (Nat.two_pow_pos _), ?_, ?_⟩
  · have : (m * 2 ^ (F - m.log2)).log2 = F := by
      refine log2_eq ?_ ?_
      · calc 2 ^ F = 2 ^ m.log2 * 2 ^ (F - m.log2) := by rw [← Nat.pow_add]; congr 1; omega
          _ ≤ m * 2 ^ (F - m.log2) := Nat.mul_le_mul_right _ (Nat.log2_self_le (by omega))
      · calc m * 2 ^ (F - m.log2) < 2 ^ (m.log2 + 1) * 2 ^ (F - m.log2) := Nat.mul_lt_mul_of_pos_right Nat.lt_log2_self (Nat.two_pow_pos _)
          _ = 2 ^ (F + 1) := by rw [← Nat.pow_add]; congr 1; omega
    omega
  · unfold tA tD
    rw [Nat.one_mul, Nat.mul_assoc, Nat.mul_assoc, ← Nat.pow_add, ← Nat.pow_add]
    congr 2
    omega
theorem isW_ten {E F k : Nat} (hE : 2 ≤ E) (hl : (5 ^ k).log2 ≤ F) (hb : (k : Int) + (5 ^ k).log2 ≤ biasF E) : IsW E F (tnB E F k) (10 ^ k) := by
  have e : (10 : Nat) ^ k = 5 ^ k * 2 ^ k := by rw [← Nat.mul_pow]
  unfold tnB
  rw [e]
  exact isW_bin hE (Nat.pow_pos (by decide)) hl k hb
theorem log_mono {a b : Nat} (h : a ≤ b) (ha : a ≠ 0) : a.log2 ≤ b.log2 := by
  rw [Nat.le_log2 (by omega)]
  exact Nat.le_trans (Nat.log2_self_le ha) h
/-- The two kinds of floats: their fields, and the power up to which tens are exact. -/
inductive Kd : FloatKind → Nat → Nat → Nat → Prop
  | single : Kd .f32 8 23 10
  | double : Kd .f64 11 52 22
theorem Kd.fmt {k : FloatKind} {E F P : Nat} (h : Kd k E F P) : k.format = Proofs.YtchchnohmmncfaaGreatDoor.fmt E F ∧ 2 ≤ E ∧ (F : Int) + 1 ≤ biasF E := by
  cases h <;> exact ⟨rfl, by decide, by decide⟩
theorem Kd.ten {k : FloatKind} {E F P : Nat} (h : Kd k E F P) {j : Nat} (hj : j ≤ P) : IsW E F (tnB E F j) (10 ^ j) := by
  have h5 : (5 : Nat) ^ j ≤ 5 ^ P := Nat.pow_le_pow_right (by decide) hj
  have hl := log_mono h5 (Nat.ne_of_gt (Nat.pow_pos (by decide)))
  cases h
  · have e : Nat.log2 (5 ^ 10) = 23 := by decide
    have b : biasF 8 = 127 := by decide
    exact isW_ten (by decide) (by omega) (by omega)
  · have e : Nat.log2 (5 ^ 22) = 51 := by decide
    have b : biasF 11 = 1023 := by decide
    exact isW_ten (by decide) (by omega) (by omega)
theorem Kd.more {k : FloatKind} {E F P : Nat} (h : Kd k E F P) {j : Nat} (hj : j ≤ P) : floatBits .mul k (tnB E F j) (tnB E F 1) = some (tnB E F (j + 1)) := by
  obtain ⟨h1, h2, h3⟩ := h.fmt
  have hp : 1 ≤ P := by cases h <;> decide
  show k.format.mul _ _ = _
  rw [h1, mul_W h2 (h.ten hj) (h.ten hp)]
  show some (evenQ E F _ 1) = _
  rw [Nat.pow_one, ← Nat.pow_succ]
  rfl
theorem Kd.whole {k : FloatKind} {E F P : Nat} (h : Kd k E F P) {n : Nat} (hn : 0 < n) (h53 : n ≤ 2 ^ (F + 1)) : IsW E F (floatOfInt k (n : Int)) n := by
  obtain ⟨h1, h2, h3⟩ := h.fmt
  have := isW_of (F := F) h2 hn h53 h3
  have e : floatOfInt k (n : Int) = (Proofs.YtchchnohmmncfaaGreatDoor.fmt E F).nearest false n 0 := by
    show k.format.write (.number (decide ((n : Int) < 0)) (n : Int).natAbs 0) = _
    rw [h1, decide_eq_false (by omega), Int.natAbs_natCast]
    rfl
  rw [e]
  exact this
theorem Kd.nought {k : FloatKind} {E F P : Nat} (h : Kd k E F P) : floatOfInt k 0 = 0 := by cases h <;> decide
theorem Kd.times {k : FloatKind} {E F P : Nat} (h : Kd k E F P) {n j : Nat} (h53 : n ≤ 2 ^ (F + 1)) (hj : j ≤ P) : floatBits .mul k (floatOfInt k (n : Int)) (tnB E F j) = some (rdB E F false n (j : Int)) := by
  obtain ⟨h1, h2, h3⟩ := h.fmt
  have a1 : (-(j : Int)).toNat = 0 := by omega
  show k.format.mul _ _ = _
  unfold rdB
  rw [Int.toNat_natCast, a1, Nat.pow_zero, h1]
  rcases Nat.eq_zero_or_pos n with rfl | hn
  · obtain ⟨m, p, k1, k2, -, -⟩ := h.ten hj
    rw [show floatOfInt k ((0 : Nat) : Int) = 0 from h.nought]
    unfold Ieee.Format.mul
    rw [k1]
    cases h <;> (show some (Ieee.Format.nearest _ (false ^^ false) (0 * m) _) = _; rw [Nat.zero_mul]; rfl)
  · rw [mul_W h2 (h.whole hn h53) (h.ten hj), if_neg (show ¬ false = true by decide), if_neg (show ¬ n = 0 by omega), Nat.zero_add]
    rfl
theorem Kd.over {k : FloatKind} {E F P : Nat} (h : Kd k E F P) {n j : Nat} (h53 : n ≤ 2 ^ (F + 1)) (hj : j ≤ P) : floatBits .quo k (floatOfInt k (n : Int)) (tnB E F j) = some (rdB E F false n (-(j : Int))) := by
  obtain ⟨h1, h2, h3⟩ := h.fmt
  have a1 : (-(j : Int)).toNat = 0 := by omega
  show k.format.div _ _ = _
  unfold rdB
  rw [Int.neg_neg, Int.toNat_natCast, a1, Nat.pow_zero, Nat.mul_one, h1]
  rcases Nat.eq_zero_or_pos n with rfl | hn
  · obtain ⟨m, p, k1, k2, -, -⟩ := h.ten hj
    rw [show floatOfInt k ((0 : Nat) : Int) = 0 from h.nought]
    unfold Ieee.Format.div
    rw [k1]
    have e0 : ∀ i : Int, ∃ q, (Proofs.YtchchnohmmncfaaGreatDoor.fmt E F).read 0 = .number false 0 q := by cases h <;> exact fun _ => ⟨_, rfl⟩
    obtain ⟨q, e0⟩ := e0 0
    rw [e0]
    have e1 : ∃ r, Ieee.Datum.quotient ((Proofs.YtchchnohmmncfaaGreatDoor.fmt E F).fractionBits + 2) (.number false 0 q) (.number false m p) = some (.number false 0 r) := by
      unfold Ieee.Datum.quotient
      simp only
      rw [if_neg (by omega), Nat.zero_shiftLeft, Nat.zero_div, Nat.zero_mod]
      exact ⟨_, rfl⟩
    obtain ⟨r, e1⟩ := e1
    rw [e1]
    rfl
  · rw [div_W h2 (h.whole hn h53) (h.ten hj), if_neg (show ¬ false = true by decide), if_neg (show ¬ n = 0 by omega), Nat.zero_add]
    rfl
theorem xor_top {x k : Nat} (h : x < 2 ^ k) : x ^^^ 2 ^ k = x + 2 ^ k := by
  have h2 := Nat.two_pow_add_eq_or_of_lt h 1
  rw [Nat.mul_one] at h2
  rw [Nat.add_comm x, h2]
  refine Nat.eq_of_testBit_eq fun i => ?_
  rw [Nat.testBit_xor, Nat.testBit_or, Nat.testBit_two_pow]
  by_cases e : k = i
  · subst e
    rw [Nat.testBit_lt_two_pow h]
    simp
  · rw [decide_eq_false e]
    simp
theorem even_lt (E F a d : Nat) : evenQ E F a d < 2 ^ (E + F) := Nat.lt_of_le_of_lt (Nat.min_le_right _ _) (inf_lt E F)
theorem rdB_lt {E F n : Nat} {e : Int} : rdB E F false n e < 2 ^ (E + F) := by
  have := even_lt E F (n * 10 ^ e.toNat) (10 ^ (-e).toNat)
  have h2 := Nat.two_pow_pos (E + F)
  unfold rdB
  rw [if_neg (show ¬ false = true by decide), Nat.zero_add]
  split <;> omega
theorem rdB_neg {E F n : Nat} {e : Int} : rdB E F true n e = rdB E F false n e + 2 ^ (E + F) := by
  unfold rdB
  rw [if_pos rfl, if_neg (show ¬ false = true by decide), Nat.zero_add, Nat.add_comm]
theorem Kd.negf {k : FloatKind} {E F P : Nat} (h : Kd k E F P) (n : Nat) (e : Int) : Op.negFloat k (rdB E F false n e) = rdB E F true n e := by
  obtain ⟨h1, h2, h3⟩ := h.fmt
  unfold Op.negFloat
  rw [h1, rdB_neg]
  exact xor_top rdB_lt
end Go.Proofs.YtchchnohmmncfaaGreatDoor
end
section
/- quick: the digits as a number; which decimals may be asked. -/
namespace Go.Proofs.YtchchnohmmncfaaGreatDoor
open Go.RowKit
attribute [local go_sem] bs_size bs_extract bs_get bs_append bs_toList const_get
attribute [local go_sem] sz2 sz3 sz4 sz5 sz6 sz7 sz8
set_option maxHeartbeats 8000000
set_option maxRecDepth 100000
attribute [local irreducible] Calls
/-- The error for a number that is too great stands. -/
def Er (w : World) : Prop := ∃ te pe, w.cell? ⟨2, 0, none⟩ = some (.iface te pe)
theorem Er.ext {w w' : World} (h : Er w) (he : Ext w w') : Er w' := by
  obtain ⟨te, pe, h⟩ := h
  exact ⟨te, pe, (Below.cell (p := ⟨2, 0, none⟩) he (Lib.lt_of_cell h)).trans h⟩
theorem bytes_ext {w w' : World} {t : TypeId} {s : ByteArray} (h : w' = w ∨ w' = Lib.bytesWorld w t s) : Ext w w' := by
  rcases h with rfl | rfl
  · exact ext_refl _
  · exact Lib.bytesWorld_below _ _ _
theorem qk_number_ok (l : List UInt8) (hd : digsB l = true) (h0 : 0 < l.length) (hl : l.length ≤ 65536) (hv : dval l < 18446744073709551616) (w : World) :
    Calls Tryz.prog 15 #[.string (bs l)] w fun e w' => e = .returned (.tuple #[.int .u64 (dval l : Nat), .bool true]) ∧ Ext w w' := by
  have hs : (bs l).size = l.length := bs_size l
  have k : Hid (∀ w, Calls Tryz.prog 28 #[.string (bs l), .int .i64 10, .int .i64 64] w fun e w' => e = .returned (.tuple #[.int .u64 (dval l : Nat), .nilIface]) ∧ Ext w w') := Lib.hid fun w =>
    (Tryz.strconv_ParseUint_10_at64_ok (bs l) (by omega) (dval l) (by show Lib.parseUintB 64 l = _; rw [pu_digs l hd h0, if_pos hv]) w).mono fun e w' ⟨h1, h2⟩ => ⟨h1, bytes_ext h2⟩
  generalize dval l = v at *
  clear hd h0 hl hs
  go_enter Tryz.func15, Tryz.ntmps15
  go_wp2_with (first
    | (go_at_call 28; (with_reducible refine (k.out _).mono ?_); rintro e w1 ⟨rfl, xb1⟩))
  go_region
  go_wp2
  all_goals
    refine bodyPost_ret (v := .tuple #[.int .u64 ↑v, .bool true]) ?h rfl ⟨rfl, ?_⟩
    case h => simp [results, Tryz.results15, go_sem]
    repeat (first | exact ext_refl _ | assumption | refine ext_setCell ?_ (by simp; try omega) _ | refine ext_alloc ?_ _ | refine ext_drew ?_ | refine ext_drewN ?_ _ | refine ext_trans ?_ (Aft.use _) | refine ext_trans ?_ (by assumption))
theorem qk_number_no (l : List UInt8) (hd : digsB l = true) (h0 : 0 < l.length) (hl : l.length ≤ 65536) (hv : ¬ dval l < 18446744073709551616) (w : World) (hE : Er w) :
    Calls Tryz.prog 15 #[.string (bs l)] w fun e w' => e = .returned (.tuple #[.int .u64 18446744073709551615, .bool false]) ∧ Ext w w' := by
  have hs : (bs l).size = l.length := bs_size l
  have k : Hid (∀ w, Er w → Calls Tryz.prog 28 #[.string (bs l), .int .i64 10, .int .i64 64] w fun e w' => ∃ t N, e = .returned (.tuple #[.int .u64 18446744073709551615, .iface t (.pointer (some ⟨N, 0, none⟩))]) ∧ Ext w w') := Lib.hid fun w ⟨te, pe, hc⟩ =>
    (Tryz.strconv_ParseUint_10_at64_range (bs l) (by omega) (by show Lib.parseUintB 64 l = _; rw [pu_digs l hd h0, if_neg hv]) _ w hc (.inr ⟨te, pe, rfl⟩)).mono fun e w' ⟨N, h1, _, _, h2⟩ => ⟨_, N, h1, h2⟩
  have HE := Lib.hid hE
  clear hd h0 hl hs hE hv
  go_enter Tryz.func15, Tryz.ntmps15
  go_wp2_with (first
    | (go_at_call 28; (with_reducible refine (k.out _ (HE.out.ext (by (repeat (first | exact ext_refl _ | assumption | refine ext_setCell ?_ (by simp; try omega) _ | refine ext_alloc ?_ _ | refine ext_drew ?_ | refine ext_drewN ?_ _ | refine ext_trans ?_ (Aft.use _) | refine ext_trans ?_ (by assumption)))))).mono ?_); rintro e w1 ⟨t, N, rfl, xb1⟩))
  go_region
  go_wp2
  all_goals
    refine bodyPost_ret (v := .tuple #[.int .u64 18446744073709551615, .bool false]) ?h rfl ⟨rfl, ?_⟩
    case h => simp [results, Tryz.results15, go_sem]
    repeat (first | exact ext_refl _ | assumption | refine ext_setCell ?_ (by simp; try omega) _ | refine ext_alloc ?_ _ | refine ext_drew ?_ | refine ext_drewN ?_ _ | refine ext_trans ?_ (Aft.use _) | refine ext_trans ?_ (by assumption))
end Go.Proofs.YtchchnohmmncfaaGreatDoor
end
section
/- quick: what native floats read. -/
namespace Go.Proofs.YtchchnohmmncfaaGreatDoor
open Go.RowKit
attribute [local go_sem] unary_neg_float
attribute [local go_sem] sz2 sz3 sz4 sz5 sz6 sz7 sz8
set_option maxHeartbeats 8000000
set_option maxRecDepth 100000
attribute [local irreducible] Calls
theorem qk_read64 (neg : Bool) (n : Nat) (e : Int) (hn : n ≤ 9007199254740992) (he : -22 ≤ e ∧ e ≤ 22) (w : World) :
    Calls Tryz.prog 22 #[.bool neg, .int .u64 (n : Int), .int .i64 e] w fun x w' => x = .returned (.float .f64 (rdB 11 52 neg n e)) ∧ Ext w w' := by
  have hk := Kd.double
  obtain ⟨K, hK⟩ : ∃ K : Nat, max e (-e) = (K : Int) := ⟨(max e (-e)).toNat, by omega⟩
  have hK22 : K ≤ 22 := by omega
  have hone : floatOfInt .f64 1 = tnB 11 52 0 := by kernel_rfl
  have hten : (4621819117588971520 : Nat) = tnB 11 52 1 := by kernel_rfl
  have hmore : Hid (∀ i, i < K → ∀ t w, (binOp .mul t (.float .f64 (tnB 11 52 i)) (.float .f64 4621819117588971520)).run Tryz.prog w = .ok (.float .f64 (tnB 11 52 (i + 1))) w) := Lib.hid fun i hi t w => run_float_arith w .mul t .f64 _ _ _ (by rw [hten]; exact hk.more (by omega))
  have htimes := hk.times (n := n) (j := K) hn hK22
  have hover := hk.over (n := n) (j := K) hn hK22
  obtain ⟨V, hV⟩ : ∃ V, floatOfInt .f64 (n : Int) = V := ⟨_, rfl⟩
  obtain ⟨R, hR⟩ : ∃ R, rdB 11 52 false n e = R := ⟨_, rfl⟩
  have hop : Hid ((e < 0 → ∀ t w, (binOp .quo t (.float .f64 V) (.float .f64 (tnB 11 52 K))).run Tryz.prog w = .ok (.float .f64 R) w) ∧ (¬ e < 0 → ∀ t w, (binOp .mul t (.float .f64 V) (.float .f64 (tnB 11 52 K))).run Tryz.prog w = .ok (.float .f64 R) w)) := Lib.hid ⟨fun h t w => by
      have e1 : -(K : Int) = e := by omega
      rw [e1, hR, hV] at hover
      exact run_float_arith w .quo t .f64 _ _ _ hover, fun h t w => by
      have e1 : (K : Int) = e := by omega
      rw [e1, hR, hV] at htimes
      exact run_float_arith w .mul t .f64 _ _ _ htimes⟩
  clear htimes hover hk hten
  have hKi : (K : Int) ≤ 22 := by omega
  have hmx := hK
  obtain ⟨hea, heb⟩ := he
  go_enter Tryz.func22, Tryz.ntmps22
  go_wp2
  have hb : ∀ i : Nat, i ≤ K → (i : Int) ≤ 22 := fun i hi => by omega
  go_loopw [8, 16] (fun v8 v16 wr => ∃ i : Nat, i ≤ K ∧ v8 = .float .f64 (tnB 11 52 i) ∧ v16 = .int .i64 (i : Int) ∧ Hid (Ext w wr)) (fun _ v16 _ => K - (intOf v16).toNat)
  case atStart => exact ⟨0, Nat.zero_le _, rfl, rfl, ext_refl _⟩
  case round =>
    obtain ⟨i, hi, rfl, rfl, hX⟩ := hrel
    have hiI := hb i hi
    by_cases hlt : i < K
    · have hltI : (i : Int) < (K : Int) := by omega
      have hm := hmore.out i hlt
      go_wp2_with (simp only [hm])
      case roundEnd => exact ⟨⟨i + 1, by omega, rfl, by simp, hX.out⟩, by simp [intOf]; omega⟩
    · have e1 : i = K := by omega
      subst e1
      have hnlt : ¬ (i : Int) < (i : Int) := by omega
      by_cases he : e < 0
      · have ho := hop.out.1 (by omega)
        cases neg with
        | true =>
          go_wp2_with (simp only [ho])
          refine bodyPost_ret (v := .float .f64 (Op.negFloat .f64 R)) ?h rfl ⟨by rw [← hR, Kd.double.negf], hX.out⟩
          case h => simp [results, Tryz.results22, go_sem]
        | false =>
          go_wp2_with (simp only [ho])
          refine bodyPost_ret (v := .float .f64 R) ?h rfl ⟨by rw [← hR], hX.out⟩
          case h => simp [results, Tryz.results22, go_sem]
      · have ho := hop.out.2 (by omega)
        cases neg with
        | true =>
          go_wp2_with (simp only [ho])
          refine bodyPost_ret (v := .float .f64 (Op.negFloat .f64 R)) ?h rfl ⟨by rw [← hR, Kd.double.negf], hX.out⟩
          case h => simp [results, Tryz.results22, go_sem]
        | false =>
          go_wp2_with (simp only [ho])
          refine bodyPost_ret (v := .float .f64 R) ?h rfl ⟨by rw [← hR], hX.out⟩
          case h => simp [results, Tryz.results22, go_sem]
theorem qk_read32 (neg : Bool) (n : Nat) (e : Int) (hn : n ≤ 16777216) (he : -10 ≤ e ∧ e ≤ 10) (w : World) :
    Calls Tryz.prog 23 #[.bool neg, .int .u64 (n : Int), .int .i64 e] w fun x w' => x = .returned (.float .f32 (rdB 8 23 neg n e)) ∧ Ext w w' := by
  have hk := Kd.single
  obtain ⟨K, hK⟩ : ∃ K : Nat, max e (-e) = (K : Int) := ⟨(max e (-e)).toNat, by omega⟩
  have hK10 : K ≤ 10 := by omega
  have hone : floatOfInt .f32 1 = tnB 8 23 0 := by kernel_rfl
  have hten : (1092616192 : Nat) = tnB 8 23 1 := by kernel_rfl
  have hmore : Hid (∀ i, i < K → ∀ t w, (binOp .mul t (.float .f32 (tnB 8 23 i)) (.float .f32 1092616192)).run Tryz.prog w = .ok (.float .f32 (tnB 8 23 (i + 1))) w) := Lib.hid fun i hi t w => run_float_arith w .mul t .f32 _ _ _ (by rw [hten]; exact hk.more (by omega))
  have htimes := hk.times (n := n) (j := K) hn hK10
  have hover := hk.over (n := n) (j := K) hn hK10
  obtain ⟨V, hV⟩ : ∃ V, floatOfInt .f32 (n : Int) = V := ⟨_, rfl⟩
  obtain ⟨R, hR⟩ : ∃ R, rdB 8 23 false n e = R := ⟨_, rfl⟩
  have hop : Hid ((e < 0 → ∀ t w, (binOp .quo t (.float .f32 V) (.float .f32 (tnB 8 23 K))).run Tryz.prog w = .ok (.float .f32 R) w) ∧ (¬ e < 0 → ∀ t w, (binOp .mul t (.float .f32 V) (.float .f32 (tnB 8 23 K))).run Tryz.prog w = .ok (.float .f32 R) w)) := Lib.hid ⟨fun h t w => by
      have e1 : -(K : Int) = e := by omega
      rw [e1, hR, hV] at hover
      exact run_float_arith w .quo t .f32 _ _ _ hover, fun h t w => by
      have e1 : (K : Int) = e := by omega
      rw [e1, hR, hV] at htimes
      exact run_float_arith w .mul t .f32 _ _ _ htimes⟩
  clear htimes hover hk hten
  have hKi : (K : Int) ≤ 10 := by omega
  have hmx := hK
  obtain ⟨hea, heb⟩ := he
  go_enter Tryz.func23, Tryz.ntmps23
  go_wp2
  have hb : ∀ i : Nat, i ≤ K → (i : Int) ≤ 10 := fun i hi => by omega
  go_loopw [8, 16] (fun v8 v16 wr => ∃ i : Nat, i ≤ K ∧ v8 = .float .f32 (tnB 8 23 i) ∧ v16 = .int .i64 (i : Int) ∧ Hid (Ext w wr)) (fun _ v16 _ => K - (intOf v16).toNat)
  case atStart => exact ⟨0, Nat.zero_le _, rfl, rfl, ext_refl _⟩
  case round =>
    obtain ⟨i, hi, rfl, rfl, hX⟩ := hrel
    have hiI := hb i hi
    by_cases hlt : i < K
    · have hltI : (i : Int) < (K : Int) := by omega
      have hm := hmore.out i hlt
      go_wp2_with (simp only [hm])
      case roundEnd => exact ⟨⟨i + 1, by omega, rfl, by simp, hX.out⟩, by simp [intOf]; omega⟩
    · have e1 : i = K := by omega
      subst e1
      have hnlt : ¬ (i : Int) < (i : Int) := by omega
      by_cases he : e < 0
      · have ho := hop.out.1 (by omega)
        cases neg with
        | true =>
          go_wp2_with (simp only [ho])
          refine bodyPost_ret (v := .float .f32 (Op.negFloat .f32 R)) ?h rfl ⟨by rw [← hR, Kd.single.negf], hX.out⟩
          case h => simp [results, Tryz.results23, go_sem]
        | false =>
          go_wp2_with (simp only [ho])
          refine bodyPost_ret (v := .float .f32 R) ?h rfl ⟨by rw [← hR], hX.out⟩
          case h => simp [results, Tryz.results23, go_sem]
      · have ho := hop.out.2 (by omega)
        cases neg with
        | true =>
          go_wp2_with (simp only [ho])
          refine bodyPost_ret (v := .float .f32 (Op.negFloat .f32 R)) ?h rfl ⟨by rw [← hR, Kd.single.negf], hX.out⟩
          case h => simp [results, Tryz.results23, go_sem]
        | false =>
          go_wp2_with (simp only [ho])
          refine bodyPost_ret (v := .float .f32 R) ?h rfl ⟨by rw [← hR], hX.out⟩
          case h => simp [results, Tryz.results23, go_sem]
end Go.Proofs.YtchchnohmmncfaaGreatDoor
end
section
/- quick: which decimals may be asked. -/
namespace Go.Proofs.YtchchnohmmncfaaGreatDoor
open Go.RowKit
attribute [local go_sem] bs_size bs_extract bs_get bs_append bs_toList const_get
attribute [local go_sem] sz2 sz3 sz4 sz5 sz6 sz7 sz8
set_option maxHeartbeats 8000000
set_option maxRecDepth 100000
attribute [local irreducible] Calls
abbrev askR (d : Dc) (whole power more : Nat) : Value := if askB d whole power more = true then .tuple #[.int .u64 (askN d power : Nat), .int .i64 (askX d power), .bool true] else .tuple #[.int .u64 0, .int .i64 0, .bool false]
theorem dc_ok_digs {d : Dc} (h : dcE d = 0) (h0 : 0 < d.dig.length) : digsB d.dig = true ∧ d.dig.length ≤ 65536 := ⟨(dc_ok h h0).digs, (dc_ok h h0).len⟩
theorem qk_asked_err (d : Dc) (whole power more : Nat) (hl : d.dig.length ≤ 9223372036854775807) (he : dcE d ≠ 0) (w : World) :
    Calls Tryz.prog 21 #[dcV d, .int .u64 (whole : Int), .int .i64 (power : Int), .int .i64 (more : Int)] w fun e w' => e = .returned (.tuple #[.int .u64 0, .int .i64 0, .bool false]) ∧ Ext w w' := by
  have k := Lib.hid (fun w => check_any' d hl w)
  obtain ⟨E, hE⟩ : ∃ E, dcE d = E := ⟨_, rfl⟩
  rw [hE] at k he
  obtain ⟨neg, l, x⟩ := d
  have hne : (E != 0) = true := by simpa using he
  clear hE hl
  go_enter Tryz.func21, Tryz.ntmps21
  go_wp2_with (first
    | (go_at_call 46; (with_reducible refine (k.out _).mono ?_); rintro e w1 ⟨rfl, xb1⟩; obtain ⟨xc1, xf1, xl1, xz1⟩ := ext_use xb1; (try simp at xz1); obtain ⟨l1_0, gc, gf⟩ := kp xb1 (w.heap.size) (by first | omega | (simp; try omega)); have r1_0 := gc 0; have f1_0 := gf 0; have r1_0_1 := gc 1; have f1_0_1 := gf 1; have r1_0_2 := gc 2; have f1_0_2 := gf 2; clear gc gf)
   )
  refine bodyPost_ret (v := .tuple #[.int .u64 0, .int .i64 0, .bool false]) ?h rfl ⟨rfl, ?_⟩
  case h => simp [results, Tryz.results21, go_sem]
  repeat (first | exact ext_refl _ | assumption | refine ext_setCell ?_ (by simp; try omega) _ | refine ext_alloc ?_ _ | refine ext_drew ?_ | refine ext_drewN ?_ _ | refine ext_trans ?_ (Aft.use _) | refine ext_trans ?_ (by assumption))
theorem qk_asked_zero (neg : Bool) (whole power more : Nat) (w : World) :
    Calls Tryz.prog 21 #[dcV ⟨neg, [], 0⟩, .int .u64 (whole : Int), .int .i64 (power : Int), .int .i64 (more : Int)] w fun e w' => e = .returned (.tuple #[.int .u64 0, .int .i64 0, .bool true]) ∧ Ext w w' := by
  have k := Lib.hid (fun w => show Calls Tryz.prog 46 #[dcV ⟨neg, [], 0⟩] w fun e w' => e = .returned (.int .i64 0) ∧ Ext w w' from check_any' ⟨neg, [], 0⟩ (show [].length ≤ _ by decide) w)
  go_enter Tryz.func21, Tryz.ntmps21
  go_wp2_with (first
    | (go_at_call 46; (with_reducible refine (k.out _).mono ?_); rintro e w1 ⟨rfl, xb1⟩; obtain ⟨xc1, xf1, xl1, xz1⟩ := ext_use xb1; (try simp at xz1); obtain ⟨l1_0, gc, gf⟩ := kp xb1 (w.heap.size) (by first | omega | (simp; try omega)); have r1_0 := gc 0; have f1_0 := gf 0; have r1_0_1 := gc 1; have f1_0_1 := gf 1; have r1_0_2 := gc 2; have f1_0_2 := gf 2; clear gc gf)
   )
  refine bodyPost_ret (v := .tuple #[.int .u64 0, .int .i64 0, .bool true]) ?h rfl ⟨rfl, ?_⟩
  case h => simp [results, Tryz.results21, go_sem]
  repeat (first | exact ext_refl _ | assumption | refine ext_setCell ?_ (by simp; try omega) _ | refine ext_alloc ?_ _ | refine ext_drew ?_ | refine ext_drewN ?_ _ | refine ext_trans ?_ (Aft.use _) | refine ext_trans ?_ (by assumption))
theorem qk_asked_much (neg : Bool) (l : List UInt8) (x : Int) (whole power more : Nat) (h0 : 0 < l.length) (hok : dcE ⟨neg, l, x⟩ = 0) (hv : ¬ dval l < 18446744073709551616) (w : World) (hE : Er w) :
    Calls Tryz.prog 21 #[dcV ⟨neg, l, x⟩, .int .u64 (whole : Int), .int .i64 (power : Int), .int .i64 (more : Int)] w fun e w' => e = .returned (.tuple #[.int .u64 0, .int .i64 0, .bool false]) ∧ Ext w w' := by
  obtain ⟨hd, hl⟩ := dc_ok_digs hok h0
  change l.length ≤ 65536 at hl
  change digsB l = true at hd
  have k := Lib.hid (fun w => show Calls Tryz.prog 46 #[dcV ⟨neg, l, x⟩] w fun e w' => e = .returned (.int .i64 0) ∧ Ext w w' by have := check_any' ⟨neg, l, x⟩ (by show l.length ≤ _; omega) w; rwa [hok] at this)
  have k2 := Lib.hid (fun w' (he : Ext w w') => qk_number_no l hd h0 hl hv w' (hE.ext he))
  have hne : (l == []) = false := by rw [beq_eq_false_iff_ne]; intro e; subst e; simp at h0
  clear hd hl hok hv hE
  go_enter Tryz.func21, Tryz.ntmps21
  go_wp2_with (first
    | (go_at_call 46; (with_reducible refine (k.out _).mono ?_); rintro e w1 ⟨rfl, xb1⟩; obtain ⟨xc1, xf1, xl1, xz1⟩ := ext_use xb1; (try simp at xz1); obtain ⟨l1_0, gc, gf⟩ := kp xb1 (w.heap.size) (by first | omega | (simp; try omega)); have r1_0 := gc 0; have f1_0 := gf 0; have r1_0_1 := gc 1; have f1_0_1 := gf 1; have r1_0_2 := gc 2; have f1_0_2 := gf 2; clear gc gf)
    | (go_at_call 15; (with_reducible refine (k2.out _ (by (repeat (first | exact ext_refl _ | assumption | refine ext_setCell ?_ (by simp; try omega) _ | refine ext_alloc ?_ _ | refine ext_drew ?_ | refine ext_drewN ?_ _ | refine ext_trans ?_ (Aft.use _) | refine ext_trans ?_ (by assumption))))).mono ?_); rintro e w1 ⟨rfl, xb1⟩; obtain ⟨xc1, xf1, xl1, xz1⟩ := ext_use xb1; (try simp at xz1); obtain ⟨l1_0, gc, gf⟩ := kp xb1 (w.heap.size) (by first | omega | (simp; try omega)); have r1_0 := gc 0; have f1_0 := gf 0; have r1_0_1 := gc 1; have f1_0_1 := gf 1; have r1_0_2 := gc 2; have f1_0_2 := gf 2; clear gc gf)
   )
  refine bodyPost_ret (v := .tuple #[.int .u64 0, .int .i64 0, .bool false]) ?h rfl ⟨rfl, ?_⟩
  case h => simp [results, Tryz.results21, go_sem]
  repeat (first | exact ext_refl _ | assumption | refine ext_setCell ?_ (by simp; try omega) _ | refine ext_alloc ?_ _ | refine ext_drew ?_ | refine ext_drewN ?_ _ | refine ext_trans ?_ (Aft.use _) | refine ext_trans ?_ (by assumption))
theorem qk_asked_out (neg : Bool) (l : List UInt8) (x : Int) (whole power more : Nat) (h0 : 0 < l.length) (hok : dcE ⟨neg, l, x⟩ = 0) (hv : dval l < 18446744073709551616) (hp : power ≤ 1000) (hno : whole < dval l ∨ x < -(power : Int) ∨ (more : Int) < x) (w : World) :
    Calls Tryz.prog 21 #[dcV ⟨neg, l, x⟩, .int .u64 (whole : Int), .int .i64 (power : Int), .int .i64 (more : Int)] w fun e w' => e = .returned (.tuple #[.int .u64 0, .int .i64 0, .bool false]) ∧ Ext w w' := by
  obtain ⟨hd, hl⟩ := dc_ok_digs hok h0
  change l.length ≤ 65536 at hl
  change digsB l = true at hd
  have k := Lib.hid (fun w => show Calls Tryz.prog 46 #[dcV ⟨neg, l, x⟩] w fun e w' => e = .returned (.int .i64 0) ∧ Ext w w' by have := check_any' ⟨neg, l, x⟩ (by show l.length ≤ _; omega) w; rwa [hok] at this)
  have k2 := Lib.hid (fun w' => qk_number_ok l hd h0 hl hv w')
  have hne : (l == []) = false := by rw [beq_eq_false_iff_ne]; intro e; subst e; simp at h0
  generalize dval l = v at *
  have hpi : (power : Int) ≤ 1000 := by omega
  clear hd hl hok h0 hp
  by_cases g1 : (whole : Int) < (v : Int)
  · have d1 : decide ((whole : Int) < (v : Int)) = true := decide_eq_true g1
    have d1' : decide (whole < v) = true := decide_eq_true (by omega)
    have g1' : whole < v := by omega
    clear hno
    go_enter Tryz.func21, Tryz.ntmps21
    go_wp2_with (first
      | (go_at_call 46; (with_reducible refine (k.out _).mono ?_); rintro e w1 ⟨rfl, xb1⟩; obtain ⟨xc1, xf1, xl1, xz1⟩ := ext_use xb1; (try simp at xz1); obtain ⟨l1_0, gc, gf⟩ := kp xb1 (w.heap.size) (by first | omega | (simp; try omega)); have r1_0 := gc 0; have f1_0 := gf 0; have r1_0_1 := gc 1; have f1_0_1 := gf 1; have r1_0_2 := gc 2; have f1_0_2 := gf 2; clear gc gf)
      | (go_at_call 15; (with_reducible refine (k2.out _).mono ?_); rintro e w1 ⟨rfl, xb1⟩; obtain ⟨xc1, xf1, xl1, xz1⟩ := ext_use xb1; (try simp at xz1); obtain ⟨l1_0, gc, gf⟩ := kp xb1 (w.heap.size) (by first | omega | (simp; try omega)); have r1_0 := gc 0; have f1_0 := gf 0; have r1_0_1 := gc 1; have f1_0_1 := gf 1; have r1_0_2 := gc 2; have f1_0_2 := gf 2; clear gc gf)
     )
    refine bodyPost_ret (v := .tuple #[.int .u64 0, .int .i64 0, .bool false]) ?h rfl ⟨rfl, ?_⟩
    case h => simp [results, Tryz.results21, go_sem]
    repeat (first | exact ext_refl _ | assumption | refine ext_setCell ?_ (by simp; try omega) _ | refine ext_alloc ?_ _ | refine ext_drew ?_ | refine ext_drewN ?_ _ | refine ext_trans ?_ (Aft.use _) | refine ext_trans ?_ (by assumption))
  · have d1 : decide ((whole : Int) < (v : Int)) = false := decide_eq_false g1
    have d1' : decide (whole < v) = false := decide_eq_false (by omega)
    have g1' : ¬ whole < v := by omega
    by_cases g2 : x < -(power : Int)
    · have d2 : decide (x < -(power : Int)) = true := decide_eq_true g2
      clear hno
      go_enter Tryz.func21, Tryz.ntmps21
      go_wp2_with (first
        | (go_at_call 46; (with_reducible refine (k.out _).mono ?_); rintro e w1 ⟨rfl, xb1⟩; obtain ⟨xc1, xf1, xl1, xz1⟩ := ext_use xb1; (try simp at xz1); obtain ⟨l1_0, gc, gf⟩ := kp xb1 (w.heap.size) (by first | omega | (simp; try omega)); have r1_0 := gc 0; have f1_0 := gf 0; have r1_0_1 := gc 1; have f1_0_1 := gf 1; have r1_0_2 := gc 2; have f1_0_2 := gf 2; clear gc gf)
        | (go_at_call 15; (with_reducible refine (k2.out _).mono ?_); rintro e w1 ⟨rfl, xb1⟩; obtain ⟨xc1, xf1, xl1, xz1⟩ := ext_use xb1; (try simp at xz1); obtain ⟨l1_0, gc, gf⟩ := kp xb1 (w.heap.size) (by first | omega | (simp; try omega)); have r1_0 := gc 0; have f1_0 := gf 0; have r1_0_1 := gc 1; have f1_0_1 := gf 1; have r1_0_2 := gc 2; have f1_0_2 := gf 2; clear gc gf)
       )
      refine bodyPost_ret (v := .tuple #[.int .u64 0, .int .i64 0, .bool false]) ?h rfl ⟨rfl, ?_⟩
      case h => simp [results, Tryz.results21, go_sem]
      repeat (first | exact ext_refl _ | assumption | refine ext_setCell ?_ (by simp; try omega) _ | refine ext_alloc ?_ _ | refine ext_drew ?_ | refine ext_drewN ?_ _ | refine ext_trans ?_ (Aft.use _) | refine ext_trans ?_ (by assumption))
    · have d2 : decide (x < -(power : Int)) = false := decide_eq_false g2
      have g3 : (more : Int) < x := by omega
      have d3 : decide ((more : Int) < x) = true := decide_eq_true g3
      clear hno
      go_enter Tryz.func21, Tryz.ntmps21
      go_wp2_with (first
        | (go_at_call 46; (with_reducible refine (k.out _).mono ?_); rintro e w1 ⟨rfl, xb1⟩; obtain ⟨xc1, xf1, xl1, xz1⟩ := ext_use xb1; (try simp at xz1); obtain ⟨l1_0, gc, gf⟩ := kp xb1 (w.heap.size) (by first | omega | (simp; try omega)); have r1_0 := gc 0; have f1_0 := gf 0; have r1_0_1 := gc 1; have f1_0_1 := gf 1; have r1_0_2 := gc 2; have f1_0_2 := gf 2; clear gc gf)
        | (go_at_call 15; (with_reducible refine (k2.out _).mono ?_); rintro e w1 ⟨rfl, xb1⟩; obtain ⟨xc1, xf1, xl1, xz1⟩ := ext_use xb1; (try simp at xz1); obtain ⟨l1_0, gc, gf⟩ := kp xb1 (w.heap.size) (by first | omega | (simp; try omega)); have r1_0 := gc 0; have f1_0 := gf 0; have r1_0_1 := gc 1; have f1_0_1 := gf 1; have r1_0_2 := gc 2; have f1_0_2 := gf 2; clear gc gf)
       )
      refine bodyPost_ret (v := .tuple #[.int .u64 0, .int .i64 0, .bool false]) ?h rfl ⟨rfl, ?_⟩
      case h => simp [results, Tryz.results21, go_sem]
      repeat (first | exact ext_refl _ | assumption | refine ext_setCell ?_ (by simp; try omega) _ | refine ext_alloc ?_ _ | refine ext_drew ?_ | refine ext_drewN ?_ _ | refine ext_trans ?_ (Aft.use _) | refine ext_trans ?_ (by assumption))
theorem qk_asked_main (neg : Bool) (l : List UInt8) (x : Int) (whole power more : Nat) (h0 : 0 < l.length) (hok : dcE ⟨neg, l, x⟩ = 0) (hw : whole ≤ 9007199254740992) (hp : power ≤ 22) (hm : more ≤ 37) (hvw : dval l ≤ whole) (hx1 : -(power : Int) ≤ x) (hx2 : x ≤ (more : Int)) (w : World) :
    Calls Tryz.prog 21 #[dcV ⟨neg, l, x⟩, .int .u64 (whole : Int), .int .i64 (power : Int), .int .i64 (more : Int)] w fun e w' => e = .returned (askR ⟨neg, l, x⟩ whole power more) ∧ Ext w w' := by
  obtain ⟨hd, hl⟩ := dc_ok_digs hok h0
  change l.length ≤ 65536 at hl
  change digsB l = true at hd
  have k := Lib.hid (fun w => show Calls Tryz.prog 46 #[dcV ⟨neg, l, x⟩] w fun e w' => e = .returned (.int .i64 0) ∧ Ext w w' by have := check_any' ⟨neg, l, x⟩ (by show l.length ≤ _; omega) w; rwa [hok] at this)
  have k2 := Lib.hid (fun w' => qk_number_ok l hd h0 hl (by omega) w')
  have hnil : l ≠ [] := by intro e; subst e; simp at h0
  have hne : (l == []) = false := by rw [beq_eq_false_iff_ne]; exact hnil
  have hR : askR ⟨neg, l, x⟩ whole power more = if dval l * 10 ^ (x - power).toNat ≤ whole then .tuple #[.int .u64 (dval l * 10 ^ (x - power).toNat : Nat), .int .i64 (x - (x - power).toNat), .bool true] else .tuple #[.int .u64 0, .int .i64 0, .bool false] := by
    have hB : askB ⟨neg, l, x⟩ whole power more = decide (dval l * 10 ^ (x - power).toNat ≤ whole) := by
      unfold askB askK
      rw [hok, decide_eq_true rfl, Bool.true_and]
      show (decide (l = []) || (decide (dval l * 10 ^ (x - power).toNat ≤ whole) && (decide (-(power : Int) ≤ x) && decide (x ≤ (more : Int))))) = _
      rw [decide_eq_false hnil, decide_eq_true hx1, decide_eq_true hx2, Bool.false_or, Bool.and_true, Bool.and_true]
    have hN : askN ⟨neg, l, x⟩ power = dval l * 10 ^ (x - power).toNat := by unfold askN askK; exact if_neg hnil
    have hX : askX ⟨neg, l, x⟩ power = x - (x - power).toNat := by unfold askX askK; exact if_neg hnil
    unfold askR
    rw [hB, hN, hX]
    by_cases g : dval l * 10 ^ (x - power).toNat ≤ whole
    · rw [if_pos (decide_eq_true g), if_pos g]
    · rw [if_neg (by rw [decide_eq_false g]; decide), if_neg g]
  rw [hR]
  clear hR
  generalize dval l = v at *
  obtain ⟨K, hK⟩ : ∃ K, (x - power).toNat = K := ⟨_, rfl⟩
  rw [hK]
  have hK37 : K ≤ 37 := by omega
  have hKi : max (x - (power : Int)) 0 = (K : Int) := by omega
  have hpi : (power : Int) ≤ 22 := by omega
  have hxi : -22 ≤ x ∧ x ≤ 37 := by omega
  obtain ⟨hxa, hxb⟩ := hxi
  have g1 : ¬ (whole : Int) < (v : Int) := by omega
  have d1 : decide ((whole : Int) < (v : Int)) = false := decide_eq_false g1
  have d1' : decide (whole < v) = false := decide_eq_false (by omega)
  have g1' : ¬ whole < v := by omega
  have g2 : ¬ x < -(power : Int) := by omega
  have d2 : decide (x < -(power : Int)) = false := decide_eq_false g2
  have g3 : ¬ (more : Int) < x := by omega
  have d3 : decide ((more : Int) < x) = false := decide_eq_false g3
  have hwi : (whole : Int) ≤ 9007199254740992 := by omega
  obtain ⟨R, HR⟩ : ∃ R, Hid ((if v * 10 ^ K ≤ whole then Value.tuple #[.int .u64 (v * 10 ^ K : Nat), .int .i64 (x - (K : Int)), .bool true] else .tuple #[.int .u64 0, .int .i64 0, .bool false]) = R) := ⟨_, rfl⟩
  rw [HR.out]
  clear hd hl hok h0 hK hx1 hx2 hnil
  go_enter Tryz.func21, Tryz.ntmps21
  go_wp2_with (first
    | (go_at_call 46; (with_reducible refine (k.out _).mono ?_); rintro e w1 ⟨rfl, xb1⟩; obtain ⟨xc1, xf1, xl1, xz1⟩ := ext_use xb1; (try simp at xz1); obtain ⟨l1_0, gc, gf⟩ := kp xb1 (w.heap.size) (by first | omega | (simp; try omega)); have r1_0 := gc 0; have f1_0 := gf 0; have r1_0_1 := gc 1; have f1_0_1 := gf 1; have r1_0_2 := gc 2; have f1_0_2 := gf 2; clear gc gf)
    | (go_at_call 15; (with_reducible refine (k2.out _).mono ?_); rintro e w1 ⟨rfl, xb1⟩; obtain ⟨xc1, xf1, xl1, xz1⟩ := ext_use xb1; (try simp at xz1); obtain ⟨l1_0, gc, gf⟩ := kp xb1 (w.heap.size) (by first | omega | (simp; try omega)); have r1_0 := gc 0; have f1_0 := gf 0; have r1_0_1 := gc 1; have f1_0_1 := gf 1; have r1_0_2 := gc 2; have f1_0_2 := gf 2; clear gc gf)
   )
  have hX1 : Hid (Ext w w1) := by show Ext w w1; (repeat (first | exact ext_refl _ | assumption | refine ext_setCell ?_ (by simp; try omega) _ | refine ext_alloc ?_ _ | refine ext_drew ?_ | refine ext_drewN ?_ _ | refine ext_trans ?_ (Aft.use _) | refine ext_trans ?_ (by assumption)))
  clear k k2 xb1 xc1 xf1 xl1 xz1 r1_0 r1_0_1 r1_0_2 f1_0 f1_0_1 f1_0_2
  go_loopw [8, 9, 49] (fun v8 v9 v49 wr => ∃ i : Nat, i ≤ K ∧ v8 = .int .u64 ((v * 10 ^ i : Nat) : Int) ∧ v9 = .int .i64 (x - (i : Int)) ∧ v49 = .int .i64 (i : Int) ∧ v * 10 ^ i ≤ whole ∧ Hid (Ext w wr)) (fun _ _ v49 _ => K - (intOf v49).toNat)
  case atStart => exact ⟨0, Nat.zero_le _, by simp, by simp, rfl, by simpa using hvw, hX1.out⟩
  case round =>
    obtain ⟨i, hi, rfl, rfl, rfl, hq, hX⟩ := hrel
    obtain ⟨q, hqe⟩ : ∃ q, v * 10 ^ i = q := ⟨_, rfl⟩
    rw [hqe] at hq ⊢
    have hqv : v * 10 ^ i ≤ whole := by omega
    by_cases hlt : i < K
    · have hltI : (i : Int) < (K : Int) := by omega
      have hqI : (q : Int) ≤ 9007199254740992 := by omega
      have hiI : (i : Int) ≤ 37 := by omega
      have hs : v * 10 ^ (i + 1) = q * 10 := by rw [Nat.pow_succ, ← Nat.mul_assoc, hqe]
      by_cases g : whole < q * 10
      · have dg : decide ((whole : Int) < (q : Int) * 10) = true := decide_eq_true (by omega)
        have gI : (whole : Int) < (q : Int) * 10 := by omega
        have hbig : ¬ v * 10 ^ K ≤ whole := by
          have h1 : v * 10 ^ (i + 1) ≤ v * 10 ^ K := Nat.mul_le_mul_left _ (Nat.pow_le_pow_right (by decide) hlt)
          omega
        have hRe := HR.out
        rw [if_neg hbig] at hRe
        have HRe := Lib.hid hRe
        clear hRe
        clear hqe hs hbig hq hqv
        go_wp2
        refine bodyPost_ret (v := .tuple #[.int .u64 0, .int .i64 0, .bool false]) ?h rfl ⟨by rw [← HRe.out], hX.out⟩
        case h => simp [results, Tryz.results21, go_sem]
      · have dg : decide ((whole : Int) < (q : Int) * 10) = false := decide_eq_false (by omega)
        have gI : ¬ (whole : Int) < (q : Int) * 10 := by omega
        have HS := Lib.hid hs
        clear hqe hs hqv
        go_wp2
        case roundEnd => exact ⟨⟨i + 1, by omega, by rw [HS.out]; simp, by simp; omega, by simp, by rw [HS.out]; omega, hX.out⟩, by simp [intOf]; omega⟩
    · have e : i = K := by omega
      subst e
      have hnlt : ¬ (i : Int) < (i : Int) := by omega
      have hRe := HR.out
      rw [hqe, if_pos hq] at hRe
      have HRe := Lib.hid hRe
      clear hqe hRe hqv
      go_wp2
      refine bodyPost_ret (v := .tuple #[.int .u64 ↑q, .int .i64 (x - ↑i), .bool true]) ?h rfl ⟨by rw [← HRe.out], hX.out⟩
      case h => simp [results, Tryz.results21, go_sem]
theorem qk_asked (d : Dc) (whole power more : Nat) (hl : d.dig.length ≤ 9223372036854775807) (hw : whole ≤ 9007199254740992) (hp : power ≤ 22) (hm : more ≤ 37) (w : World) (hE : Er w) :
    Calls Tryz.prog 21 #[dcV d, .int .u64 (whole : Int), .int .i64 (power : Int), .int .i64 (more : Int)] w fun e w' => e = .returned (askR d whole power more) ∧ Ext w w' := by
  by_cases hok : dcE d = 0
  · obtain ⟨neg, l, x⟩ := d
    rcases Nat.eq_zero_or_pos l.length with h0 | h0
    · obtain rfl : l = [] := List.eq_nil_of_length_eq_zero h0
      obtain rfl : x = 0 := by
        unfold dcE at hok
        rw [if_neg (show ¬ 65536 < [].length by decide), if_pos (show ([] : List UInt8).length = 0 from rfl)] at hok
        by_cases g : x = 0
        · exact g
        · rw [if_neg g] at hok; cases hok
      have hR : askR ⟨neg, [], 0⟩ whole power more = .tuple #[.int .u64 0, .int .i64 0, .bool true] := by
        unfold askR
        rw [if_pos (by unfold askB; rw [hok]; simp)]
        rfl
      rw [hR]
      exact qk_asked_zero neg whole power more w
    · have no : ∀ _ : ¬ (dval l ≤ whole ∧ -(power : Int) ≤ x ∧ x ≤ (more : Int)), askR ⟨neg, l, x⟩ whole power more = .tuple #[.int .u64 0, .int .i64 0, .bool false] := fun h => by
        unfold askR
        refine if_neg fun hB => h ?_
        unfold askB askK at hB
        have hnil : l ≠ [] := by intro e; subst e; simp at h0
        simp only [Bool.and_eq_true, Bool.or_eq_true, decide_eq_true_eq] at hB
        obtain ⟨_, hB | ⟨h1, h2, h3⟩⟩ := hB
        · exact absurd hB hnil
        · exact ⟨Nat.le_trans (Nat.le_mul_of_pos_right _ (Nat.pow_pos (by decide))) h1, h2, h3⟩
      by_cases hv : dval l < 18446744073709551616
      · by_cases g : dval l ≤ whole ∧ -(power : Int) ≤ x ∧ x ≤ (more : Int)
        · exact qk_asked_main neg l x whole power more h0 hok hw hp hm g.1 g.2.1 g.2.2 w
        · rw [no g]
          exact qk_asked_out neg l x whole power more h0 hok hv (by omega) (by omega) w
      · rw [no (fun h => by omega)]
        exact qk_asked_much neg l x whole power more h0 hok hv w hE
  · have hR : askR d whole power more = .tuple #[.int .u64 0, .int .i64 0, .bool false] := by
      unfold askR
      rw [if_neg (by unfold askB; rw [decide_eq_false hok]; simp)]
    rw [hR]
    exact qk_asked_err d whole power more hl hok w
end Go.Proofs.YtchchnohmmncfaaGreatDoor
end
section
/- quick: Double, Single, Fits. -/
namespace Go.Proofs.YtchchnohmmncfaaGreatDoor
open Go.RowKit
attribute [local go_sem] bs_size bs_extract bs_get bs_append bs_toList const_get
attribute [local go_sem] sz2 sz3 sz4 sz5 sz6 sz7 sz8
set_option maxHeartbeats 8000000
set_option maxRecDepth 100000
attribute [local irreducible] Calls
theorem ask_rng {d : Dc} {whole power more : Nat} (h : askB d whole power more = true) : askN d power ≤ whole ∧ -(power : Int) ≤ askX d power ∧ askX d power ≤ power := by
  unfold askB at h
  simp only [Bool.and_eq_true, Bool.or_eq_true, decide_eq_true_eq] at h
  obtain ⟨_, h⟩ := h
  unfold askN askX
  by_cases hn : d.dig = []
  · rw [if_pos hn, if_pos hn]; omega
  · rw [if_neg hn, if_neg hn]
    rcases h with h | ⟨h1, h2, h3⟩
    · exact absurd h hn
    · refine ⟨h1, ?_, ?_⟩
      · unfold askK; omega
      · unfold askK; omega
abbrev dbR (d : Dc) : Value := if askB d 9007199254740992 22 37 = true then .tuple #[.float .f64 (rdB 11 52 d.neg (askN d 22) (askX d 22)), .bool true] else .tuple #[.float .f64 0, .bool false]
abbrev sgR (d : Dc) : Value := if askB d 16777216 10 17 = true then .tuple #[.float .f32 (rdB 8 23 d.neg (askN d 10) (askX d 10)), .bool true] else .tuple #[.float .f32 0, .bool false]
theorem qk_Double (d : Dc) (hl : d.dig.length ≤ 9223372036854775807) (w : World) (hE : Er w) : Calls Tryz.prog 9 #[dcV d] w fun e w' => e = .returned (dbR d) ∧ Ext w w' := by
  have k := Lib.hid (fun w' (he : Ext w w') => show Calls Tryz.prog 21 #[dcV d, .int .u64 9007199254740992, .int .i64 22, .int .i64 37] w' fun e w'' => e = .returned (askR d 9007199254740992 22 37) ∧ Ext w' w'' from qk_asked d 9007199254740992 22 37 hl (by decide) (by decide) (by decide) w' (hE.ext he))
  unfold dbR
  unfold askR at k
  obtain ⟨neg, l, x⟩ := d
  clear hE hl
  by_cases hB : askB ⟨neg, l, x⟩ 9007199254740992 22 37 = true
  · rw [if_pos hB] at k ⊢
    obtain ⟨h1, h2, h3⟩ := ask_rng hB
    have kr := Lib.hid (fun w' => qk_read64 neg _ _ h1 ⟨h2, h3⟩ w')
    generalize askN ⟨neg, l, x⟩ 22 = N at *
    generalize askX ⟨neg, l, x⟩ 22 = X at *
    clear hB h1 h2 h3
    obtain ⟨R, hR⟩ : ∃ R, rdB 11 52 neg N X = R := ⟨_, rfl⟩
    rw [hR] at kr
    rw [show rdB 11 52 (Dc.mk neg l x).neg N X = R from hR]
    go_enter Tryz.func9, Tryz.ntmps9
    go_wp2_with (first
      | (go_at_call 21; (with_reducible refine (k.out _ (by (repeat (first | exact ext_refl _ | assumption | refine ext_setCell ?_ (by simp; try omega) _ | refine ext_alloc ?_ _ | refine ext_drew ?_ | refine ext_drewN ?_ _ | refine ext_trans ?_ (Aft.use _) | refine ext_trans ?_ (by assumption))))).mono ?_); rintro e w1 ⟨rfl, xb1⟩; obtain ⟨xc1, xf1, xl1, xz1⟩ := ext_use xb1; (try simp at xz1); obtain ⟨l1_0, gc, gf⟩ := kp xb1 (w.heap.size) (by first | omega | (simp; try omega)); have r1_0 := gc 0; have f1_0 := gf 0; have r1_0_1 := gc 1; have f1_0_1 := gf 1; have r1_0_2 := gc 2; have f1_0_2 := gf 2; clear gc gf)
      | (go_at_call 22; (with_reducible refine (kr.out _).mono ?_); rintro e w1 ⟨rfl, xb1⟩; obtain ⟨xc1, xf1, xl1, xz1⟩ := ext_use xb1; (try simp at xz1); obtain ⟨l1_0, gc, gf⟩ := kp xb1 (w.heap.size) (by first | omega | (simp; try omega)); have r1_0 := gc 0; have f1_0 := gf 0; have r1_0_1 := gc 1; have f1_0_1 := gf 1; have r1_0_2 := gc 2; have f1_0_2 := gf 2; clear gc gf)
     )
    refine bodyPost_ret (v := .tuple #[.float .f64 R, .bool true]) ?h rfl ⟨rfl, ?_⟩
    case h => simp [results, Tryz.results9, go_sem]
    repeat (first | exact ext_refl _ | assumption | refine ext_setCell ?_ (by simp; try omega) _ | refine ext_alloc ?_ _ | refine ext_drew ?_ | refine ext_drewN ?_ _ | refine ext_trans ?_ (Aft.use _) | refine ext_trans ?_ (by assumption))
  · rw [if_neg hB] at k ⊢
    clear hB
    go_enter Tryz.func9, Tryz.ntmps9
    go_wp2_with (first
      | (go_at_call 21; (with_reducible refine (k.out _ (by (repeat (first | exact ext_refl _ | assumption | refine ext_setCell ?_ (by simp; try omega) _ | refine ext_alloc ?_ _ | refine ext_drew ?_ | refine ext_drewN ?_ _ | refine ext_trans ?_ (Aft.use _) | refine ext_trans ?_ (by assumption))))).mono ?_); rintro e w1 ⟨rfl, xb1⟩; obtain ⟨xc1, xf1, xl1, xz1⟩ := ext_use xb1; (try simp at xz1); obtain ⟨l1_0, gc, gf⟩ := kp xb1 (w.heap.size) (by first | omega | (simp; try omega)); have r1_0 := gc 0; have f1_0 := gf 0; have r1_0_1 := gc 1; have f1_0_1 := gf 1; have r1_0_2 := gc 2; have f1_0_2 := gf 2; clear gc gf)
     )
    refine bodyPost_ret (v := .tuple #[.float .f64 0, .bool false]) ?h rfl ⟨rfl, ?_⟩
    case h => simp [results, Tryz.results9, go_sem]
    repeat (first | exact ext_refl _ | assumption | refine ext_setCell ?_ (by simp; try omega) _ | refine ext_alloc ?_ _ | refine ext_drew ?_ | refine ext_drewN ?_ _ | refine ext_trans ?_ (Aft.use _) | refine ext_trans ?_ (by assumption))
theorem qk_Single (d : Dc) (hl : d.dig.length ≤ 9223372036854775807) (w : World) (hE : Er w) : Calls Tryz.prog 10 #[dcV d] w fun e w' => e = .returned (sgR d) ∧ Ext w w' := by
  have k := Lib.hid (fun w' (he : Ext w w') => show Calls Tryz.prog 21 #[dcV d, .int .u64 16777216, .int .i64 10, .int .i64 17] w' fun e w'' => e = .returned (askR d 16777216 10 17) ∧ Ext w' w'' from qk_asked d 16777216 10 17 hl (by decide) (by decide) (by decide) w' (hE.ext he))
  unfold sgR
  unfold askR at k
  obtain ⟨neg, l, x⟩ := d
  clear hE hl
  by_cases hB : askB ⟨neg, l, x⟩ 16777216 10 17 = true
  · rw [if_pos hB] at k ⊢
    obtain ⟨h1, h2, h3⟩ := ask_rng hB
    have kr := Lib.hid (fun w' => qk_read32 neg _ _ h1 ⟨h2, h3⟩ w')
    generalize askN ⟨neg, l, x⟩ 10 = N at *
    generalize askX ⟨neg, l, x⟩ 10 = X at *
    clear hB h1 h2 h3
    obtain ⟨R, hR⟩ : ∃ R, rdB 8 23 neg N X = R := ⟨_, rfl⟩
    rw [hR] at kr
    rw [show rdB 8 23 (Dc.mk neg l x).neg N X = R from hR]
    go_enter Tryz.func10, Tryz.ntmps10
    go_wp2_with (first
      | (go_at_call 21; (with_reducible refine (k.out _ (by (repeat (first | exact ext_refl _ | assumption | refine ext_setCell ?_ (by simp; try omega) _ | refine ext_alloc ?_ _ | refine ext_drew ?_ | refine ext_drewN ?_ _ | refine ext_trans ?_ (Aft.use _) | refine ext_trans ?_ (by assumption))))).mono ?_); rintro e w1 ⟨rfl, xb1⟩; obtain ⟨xc1, xf1, xl1, xz1⟩ := ext_use xb1; (try simp at xz1); obtain ⟨l1_0, gc, gf⟩ := kp xb1 (w.heap.size) (by first | omega | (simp; try omega)); have r1_0 := gc 0; have f1_0 := gf 0; have r1_0_1 := gc 1; have f1_0_1 := gf 1; have r1_0_2 := gc 2; have f1_0_2 := gf 2; clear gc gf)
      | (go_at_call 23; (with_reducible refine (kr.out _).mono ?_); rintro e w1 ⟨rfl, xb1⟩; obtain ⟨xc1, xf1, xl1, xz1⟩ := ext_use xb1; (try simp at xz1); obtain ⟨l1_0, gc, gf⟩ := kp xb1 (w.heap.size) (by first | omega | (simp; try omega)); have r1_0 := gc 0; have f1_0 := gf 0; have r1_0_1 := gc 1; have f1_0_1 := gf 1; have r1_0_2 := gc 2; have f1_0_2 := gf 2; clear gc gf)
     )
    refine bodyPost_ret (v := .tuple #[.float .f32 R, .bool true]) ?h rfl ⟨rfl, ?_⟩
    case h => simp [results, Tryz.results10, go_sem]
    repeat (first | exact ext_refl _ | assumption | refine ext_setCell ?_ (by simp; try omega) _ | refine ext_alloc ?_ _ | refine ext_drew ?_ | refine ext_drewN ?_ _ | refine ext_trans ?_ (Aft.use _) | refine ext_trans ?_ (by assumption))
  · rw [if_neg hB] at k ⊢
    clear hB
    go_enter Tryz.func10, Tryz.ntmps10
    go_wp2_with (first
      | (go_at_call 21; (with_reducible refine (k.out _ (by (repeat (first | exact ext_refl _ | assumption | refine ext_setCell ?_ (by simp; try omega) _ | refine ext_alloc ?_ _ | refine ext_drew ?_ | refine ext_drewN ?_ _ | refine ext_trans ?_ (Aft.use _) | refine ext_trans ?_ (by assumption))))).mono ?_); rintro e w1 ⟨rfl, xb1⟩; obtain ⟨xc1, xf1, xl1, xz1⟩ := ext_use xb1; (try simp at xz1); obtain ⟨l1_0, gc, gf⟩ := kp xb1 (w.heap.size) (by first | omega | (simp; try omega)); have r1_0 := gc 0; have f1_0 := gf 0; have r1_0_1 := gc 1; have f1_0_1 := gf 1; have r1_0_2 := gc 2; have f1_0_2 := gf 2; clear gc gf)
     )
    refine bodyPost_ret (v := .tuple #[.float .f32 0, .bool false]) ?h rfl ⟨rfl, ?_⟩
    case h => simp [results, Tryz.results10, go_sem]
    repeat (first | exact ext_refl _ | assumption | refine ext_setCell ?_ (by simp; try omega) _ | refine ext_alloc ?_ _ | refine ext_drew ?_ | refine ext_drewN ?_ _ | refine ext_trans ?_ (Aft.use _) | refine ext_trans ?_ (by assumption))
theorem qk_Fits (d : Dc) (hl : d.dig.length ≤ 9223372036854775807) (w : World) (hE : Er w) : Calls Tryz.prog 14 #[dcV d] w fun e w' => e = .returned (.bool (askB d 9007199254740992 22 37)) ∧ Ext w w' := by
  have k := Lib.hid (fun w' (he : Ext w w') => show Calls Tryz.prog 21 #[dcV d, .int .u64 9007199254740992, .int .i64 22, .int .i64 37] w' fun e w'' => e = .returned (askR d 9007199254740992 22 37) ∧ Ext w' w'' from qk_asked d 9007199254740992 22 37 hl (by decide) (by decide) (by decide) w' (hE.ext he))
  unfold askR at k
  obtain ⟨neg, l, x⟩ := d
  clear hE hl
  cases hB : askB ⟨neg, l, x⟩ 9007199254740992 22 37 with
  | true =>
    rw [if_pos hB] at k
    generalize askN ⟨neg, l, x⟩ 22 = N at *
    generalize askX ⟨neg, l, x⟩ 22 = X at *
    clear hB
    go_enter Tryz.func14, Tryz.ntmps14
    go_wp2_with (first
      | (go_at_call 21; (with_reducible refine (k.out _ (by (repeat (first | exact ext_refl _ | assumption | refine ext_setCell ?_ (by simp; try omega) _ | refine ext_alloc ?_ _ | refine ext_drew ?_ | refine ext_drewN ?_ _ | refine ext_trans ?_ (Aft.use _) | refine ext_trans ?_ (by assumption))))).mono ?_); rintro e w1 ⟨rfl, xb1⟩; obtain ⟨xc1, xf1, xl1, xz1⟩ := ext_use xb1; (try simp at xz1); obtain ⟨l1_0, gc, gf⟩ := kp xb1 (w.heap.size) (by first | omega | (simp; try omega)); have r1_0 := gc 0; have f1_0 := gf 0; have r1_0_1 := gc 1; have f1_0_1 := gf 1; have r1_0_2 := gc 2; have f1_0_2 := gf 2; clear gc gf)
     )
    refine bodyPost_ret (v := .bool true) ?h rfl ⟨rfl, ?_⟩
    case h => simp [results, Tryz.results14, go_sem]
    repeat (first | exact ext_refl _ | assumption | refine ext_setCell ?_ (by simp; try omega) _ | refine ext_alloc ?_ _ | refine ext_drew ?_ | refine ext_drewN ?_ _ | refine ext_trans ?_ (Aft.use _) | refine ext_trans ?_ (by assumption))
  | false =>
    rw [if_neg (by rw [hB]; decide)] at k
    clear hB
    go_enter Tryz.func14, Tryz.ntmps14
    go_wp2_with (first
      | (go_at_call 21; (with_reducible refine (k.out _ (by (repeat (first | exact ext_refl _ | assumption | refine ext_setCell ?_ (by simp; try omega) _ | refine ext_alloc ?_ _ | refine ext_drew ?_ | refine ext_drewN ?_ _ | refine ext_trans ?_ (Aft.use _) | refine ext_trans ?_ (by assumption))))).mono ?_); rintro e w1 ⟨rfl, xb1⟩; obtain ⟨xc1, xf1, xl1, xz1⟩ := ext_use xb1; (try simp at xz1); obtain ⟨l1_0, gc, gf⟩ := kp xb1 (w.heap.size) (by first | omega | (simp; try omega)); have r1_0 := gc 0; have f1_0 := gf 0; have r1_0_1 := gc 1; have f1_0_1 := gf 1; have r1_0_2 := gc 2; have f1_0_2 := gf 2; clear gc gf)
     )
    refine bodyPost_ret (v := .bool false) ?h rfl ⟨rfl, ?_⟩
    case h => simp [results, Tryz.results14, go_sem]
    repeat (first | exact ext_refl _ | assumption | refine ext_setCell ?_ (by simp; try omega) _ | refine ext_alloc ?_ _ | refine ext_drew ?_ | refine ext_drewN ?_ _ | refine ext_trans ?_ (Aft.use _) | refine ext_trans ?_ (by assumption))
end Go.Proofs.YtchchnohmmncfaaGreatDoor
end
section
/- (The document's library.) Words of the library's: the first 64 bits; two rows blended. -/

namespace Go.Proofs.YtchchnohmmncfaaGreatDoor.NB
open Go.RowKit
attribute [local go_sem] sz2 sz3 sz4 sz5 sz6 sz7 sz8
set_option maxHeartbeats 4000000
set_option maxRecDepth 100000
attribute [local irreducible] Calls
theorem bw_topBits (A : Option Addr) (n c a z : Nat) (hn : n ≤ 1000000) (hz : z ≤ 100000000) (w : World) (hA : Rd w A n c (lim a)) :
    Calls Tryz.prog 152 #[.slice A n c, .int .i64 (z : Int)] w fun e w' => e = .returned (.int .u64 (a / 2 ^ z % 18446744073709551616 : Nat)) ∧ Ext w w' := by
  have hmx := hA.mx
  have hcx := hA.cap
  have HA := Lib.hid hA
  have hlx := Lib.hid hA.len
  obtain ⟨k, hk⟩ : ∃ k, k = z / 32 := ⟨_, rfl⟩
  obtain ⟨s, hs⟩ : ∃ s, s = z % 32 := ⟨_, rfl⟩
  have hs32 : s < 32 := by omega
  have hk5 : k ≤ 100000000 := by omega
  have hkz : z = 32 * k + s := by omega
  have e1 : (z : Int) / 32 = (k : Int) := by omega
  have e2 : (z : Int) % 32 = (s : Int) := by omega
  have e3 : (64 : Int) - (s : Int) = ((64 - s : Nat) : Int) := by omega
  have e4 : (32 : Int) - (s : Int) = ((32 - s : Nat) : Int) := by omega
  have HKZ := Lib.hid hkz
  obtain ⟨y0, hy0⟩ : ∃ y, y = (lim a).getD k 0 := ⟨_, rfl⟩
  obtain ⟨y1, hy1⟩ : ∃ y, y = (lim a).getD (k + 1) 0 := ⟨_, rfl⟩
  obtain ⟨y2, hy2⟩ : ∃ y, y = (lim a).getD (k + 2) 0 := ⟨_, rfl⟩
  obtain ⟨P2, P1, P0, PF⟩ := top_parts (D := a / Bs ^ k) (y0 := y0) (y1 := y1) (y2 := y2) hs32 (by rw [hy0, limb_at]) (by rw [hy1, limb_at, Nat.pow_succ, Nat.div_div_eq_div_mul]) (by rw [hy2, limb_at, Nat.pow_succ, Nat.pow_succ, Nat.div_div_eq_div_mul, Nat.div_div_eq_div_mul, Nat.mul_assoc])
  have hX2 : s = 0 ∨ y2 = 0 → 2 ^ (64 - s) * (y2 % 2 ^ s) = 0 := fun h => by
    rcases h with h | h
    · subst h; simp [Nat.mod_one]
    · subst h; simp
  have hX1 : y1 = 0 → 2 ^ (64 - s) * (y2 % 2 ^ s) + 2 ^ (32 - s) * y1 = 2 ^ (64 - s) * (y2 % 2 ^ s) := fun h => by rw [h]; simp
  have hX0 : y0 = 0 → 2 ^ (64 - s) * (y2 % 2 ^ s) + 2 ^ (32 - s) * y1 + y0 / 2 ^ s = 2 ^ (64 - s) * (y2 % 2 ^ s) + 2 ^ (32 - s) * y1 := fun h => by rw [h]; simp
  have hF : a / Bs ^ k / 2 ^ s = a / 2 ^ z := by rw [HKZ.out, Nat.pow_add, Nat.pow_mul, Nat.div_div_eq_div_mul]
  rw [hF] at PF
  have hb0 : 2 ^ (64 - s) * (y2 % 2 ^ s) + 2 ^ (32 - s) * y1 < 18446744073709551616 ∧ 2 ^ (64 - s) * (y2 % 2 ^ s) < 18446744073709551616 := by
    have h1 : a / 2 ^ z % 18446744073709551616 < 18446744073709551616 := Nat.mod_lt _ (by decide)
    rw [← PF] at h1
    exact ⟨Nat.lt_of_le_of_lt (Nat.le_add_right _ _) h1, Nat.lt_of_le_of_lt (Nat.le_trans (Nat.le_add_right _ _) (Nat.le_add_right _ _)) h1⟩
  rw [PF] at P0 hX0
  generalize a / 2 ^ z % 18446744073709551616 = X0 at *
  generalize 2 ^ (64 - s) * (y2 % 2 ^ s) + 2 ^ (32 - s) * y1 = X1 at *
  generalize 2 ^ (64 - s) * (y2 % 2 ^ s) = X2 at *
  have N1 := Lib.hid hb0.1
  have N2 := Lib.hid hb0.2
  have G2 := Lib.hid P2
  have G1 := Lib.hid P1
  have G0 := Lib.hid P0
  have Z2 := Lib.hid hX2
  have Z1 := Lib.hid hX1
  have Z0 := Lib.hid hX0
  have HY0 := Lib.hid hy0
  have HY1 := Lib.hid hy1
  have HY2 := Lib.hid hy2
  clear hb0 hA hk hs hkz P2 P1 P0 PF hX2 hX1 hX0 hF hy0 hy1 hy2
  go_enter Tryz.func152, Tryz.ntmps152
  go_wp2
  go_loopw [7, 8] (fun vx vi wr => ∃ (j x : Nat), j ≤ 3 ∧ vi = .int .i64 ((j : Int) - 1) ∧ vx = .int .u64 (x : Int) ∧ Hid ((j = 3 → x = 0) ∧ (j = 2 → x = X2) ∧ (j = 1 → x = X1) ∧ (j = 0 → x = X0)) ∧ Hid (Ext w wr))
    (fun _ vi _ => (intOf vi + 1).toNat)
  case atStart => exact ⟨3, 0, by omega, rfl, rfl, ⟨fun _ => rfl, fun h => by omega, fun h => by omega, fun h => by omega⟩, ext_refl _⟩
  case round =>
    obtain ⟨j, x, hj, rfl, rfl, hx, hE⟩ := hrel
    have hlim : ∀ i, k + i < n → ∃ (bv ov y : Nat), A = some ⟨bv, ov, none⟩ ∧ Hid ((lim a).getD (k + i) 0 = y) ∧ y < 4294967296 ∧ wr.cell? ⟨bv, ov + (k + i), none⟩ = some (.int .u32 (y : Int)) := fun i h => by
      obtain ⟨bv, ov, hBe⟩ : ∃ b off, A = some ⟨b, off, none⟩ := by
        rcases HA.out.shape with ⟨_, h, _⟩ | h
        · omega
        · exact h
      subst hBe
      obtain ⟨y, hy, hyb, hcell⟩ := (HA.out.ext hE.out).get (k + i) h
      exact ⟨bv, ov, y, rfl, hy, hyb, hcell⟩
    have hno : ∀ i, ¬ k + i < n → (lim a).getD (k + i) 0 = 0 := fun i h => getD_ge (by rw [hlx.out]; omega)
    have HN := Lib.hid hno
    have HL := Lib.hid hlim
    clear hno hlim
    match j, hj with
    | 0, _ =>
      have he := hx.out.2.2.2 rfl
      subst he
      go_wp2
      refine bodyPost_ret (v := .int .u64 ↑x) ?h rfl ⟨rfl, hE.out⟩
      case h => simp [results, Tryz.results152, go_sem]
    | 3, _ =>
      obtain rfl := hx.out.1 rfl
      by_cases h : k + 2 < n
      · obtain ⟨bv, ov, y, rfl, hy, hyb, hcell⟩ := HL.out 2 h
        have hyy : y2 = y := by rw [HY2.out, hy.out]
        subst hyy
        by_cases hs0 : 0 < s
        · go_wp2
          case roundEnd =>
            rw [G2.out]
            exact ⟨⟨2, X2, by omega, rfl, rfl, ⟨fun h => by omega, fun _ => rfl, fun h => by omega, fun h => by omega⟩, hE.out⟩, by simp [intOf]⟩
        · have hz := Z2.out (.inl (by omega))
          have hs0' : s = 0 := by omega
          subst hs0'
          go_wp2
          case roundEnd =>
            exact ⟨⟨2, 0, by omega, rfl, rfl, ⟨fun h => by omega, fun _ => hz.symm, fun h => by omega, fun h => by omega⟩, hE.out⟩, by simp [intOf]⟩
      · have hz := Z2.out (.inr (HY2.out.trans (HN.out 2 h)))
        by_cases hs0 : 0 < s
        · go_wp2
          case roundEnd =>
            refine ⟨⟨2, 0, by omega, rfl, by simp, ⟨fun h => by omega, fun _ => hz.symm, fun h => by omega, fun h => by omega⟩, hE.out⟩, by simp [intOf]⟩
        · have hs0' : s = 0 := by omega
          subst hs0'
          go_wp2
          case roundEnd =>
            exact ⟨⟨2, 0, by omega, rfl, rfl, ⟨fun h => by omega, fun _ => hz.symm, fun h => by omega, fun h => by omega⟩, hE.out⟩, by simp [intOf]⟩
    | 2, _ =>
      have he := hx.out.2.1 rfl
      subst he
      by_cases h : k + 1 < n
      · obtain ⟨bv, ov, y, rfl, hy, hyb, hcell⟩ := HL.out 1 h
        have hyy : y1 = y := by rw [HY1.out, hy.out]
        subst hyy
        go_wp2
        case roundEnd =>
          rw [G1.out]
          exact ⟨⟨1, X1, by omega, rfl, rfl, ⟨fun h => by omega, fun h => by omega, fun _ => rfl, fun h => by omega⟩, hE.out⟩, by simp [intOf]⟩
      · have hz := Z1.out (HY1.out.trans (HN.out 1 h))
        go_wp2
        case roundEnd =>
          rw [bits_or64_0 _ N2.out]
          exact ⟨⟨1, x, by omega, rfl, rfl, ⟨fun h => by omega, fun h => by omega, fun _ => hz.symm, fun h => by omega⟩, hE.out⟩, by simp [intOf]⟩
    | 1, _ =>
      have he := hx.out.2.2.1 rfl
      subst he
      by_cases h : k < n
      · obtain ⟨bv, ov, y, rfl, hy, hyb, hcell⟩ := HL.out 0 h
        have hyy : y0 = y := by rw [HY0.out]; exact hy.out
        subst hyy
        rw [Nat.add_zero] at hcell
        go_wp2
        case roundEnd =>
          rw [show (y0 : Int) / 2 ^ s = ((y0 / 2 ^ s : Nat) : Int) by simp, G0.out]
          exact ⟨⟨0, X0, by omega, rfl, rfl, ⟨fun h => by omega, fun h => by omega, fun h => by omega, fun _ => rfl⟩, hE.out⟩, by simp [intOf]⟩
      · have hz := Z0.out (HY0.out.trans (HN.out 0 h))
        go_wp2
        case roundEnd =>
          rw [bits_or64_0 _ N1.out]
          exact ⟨⟨0, x, by omega, rfl, rfl, ⟨fun h => by omega, fun h => by omega, fun h => by omega, fun _ => hz.symm⟩, hE.out⟩, by simp [intOf]⟩
end Go.Proofs.YtchchnohmmncfaaGreatDoor.NB
end
section
/- (The document's library.) Words of the library's: two rows blended. -/

namespace Go.Proofs.YtchchnohmmncfaaGreatDoor.NB
open Go.RowKit
attribute [local go_sem] sz2 sz3 sz4 sz5 sz6 sz7 sz8
set_option maxHeartbeats 4000000
set_option maxRecDepth 100000
attribute [local irreducible] Calls
theorem bw_blend (A B : Option Addr) (n c m d a b : Nat) (p q : Int) (T : Nat) (hmn : m ≤ n) (hn : n ≤ 500000) (hp1 : -1073741824 < p) (hp2 : p < 1073741824) (hq1 : -1073741824 < q) (hq2 : q < 1073741824) (hT : p * (a : Int) + q * (b : Int) = (T : Int)) (w : World) (hA : Rd w A n c (lim a)) (hB : Rd w B m d (lim b)) :
    Calls Tryz.prog 154 #[.slice A n c, .slice B m d, .int .i64 p, .int .i64 q] w (WPost w T) := by
  have hmx := hA.mx
  have hcx := hA.cap
  have hmy := hB.mx
  have hcy := hB.cap
  have HA := Lib.hid hA
  have HB := Lib.hid hB
  have hlx := Lib.hid hA.len
  have hly := Lib.hid hB.len
  have HT := Lib.hid hT
  clear hA hB hT
  go_enter Tryz.func154, Tryz.ntmps154
  go_wp2_with (first
    | (at_make; refine make_u32 rfl _ _ rfl _ _ _ _ (n + 1) rfl rfl (by simp) (by simp) (by omega) ?_; intro w1 hx1 ho1; have hext1 := Lib.hid hx1; clear hx1)
   )
  have hGl : w.heap.size < w1.heap.size := (ho1.out.lt w.heap.size rfl).2
  go_loopw [10, 11] (fun vc vi wr => ∃ (i : Nat) (cy : Int) (os : List Nat), i ≤ n ∧ (-2147483648 ≤ cy ∧ cy ≤ 2147483648) ∧ vi = .int .i64 (i : Int) ∧ vc = .int .i64 cy ∧
      Hid (os.length = n + 1 ∧ Lb os ∧ (val (os.take i) : Int) + (Bs : Int) ^ i * cy = p * (val ((lim a).take i) : Int) + q * (val ((lim b).take i) : Int)) ∧
      Hid (wr.ownsRow w.heap.size 38 1 (.slice (some ⟨w.heap.size, 0, none⟩) (n + 1) (n + 1)) (n + 1) (os.map u32V)) ∧ Hid (Ext w wr))
    (fun _ vi _ => n - (intOf vi).toNat)
  case atStart => exact ⟨0, 0, List.replicate (n + 1) 0, Nat.zero_le _, by omega, rfl, rfl, ⟨by simp, lb_replicate _, by simp [val]⟩, ho1.out, hext1.out⟩
  case round =>
    clear ho1 hext1
    obtain ⟨i, cy, os, hi, hcb, rfl, rfl, hos, hown, hE⟩ := hrel
    obtain ⟨hcb1, hcb2⟩ := hcb
    by_cases h0 : i < n
    · obtain ⟨bx, ox, hXe⟩ : ∃ b off, A = some ⟨b, off, none⟩ := by
        rcases HA.out.shape with ⟨_, h, _⟩ | h
        · omega
        · exact h
      subst hXe
      obtain ⟨x, hx, hxb, hcx1⟩ := (HA.out.ext hE.out).get i h0
      obtain ⟨hc1, hf1⟩ := own_at hown.out i (by omega)
      obtain ⟨px, hpx⟩ : ∃ px, p * (x : Int) = px := ⟨_, rfl⟩
      have hpb := prod_bound hp1 hp2 hxb
      rw [hpx] at hpb
      obtain ⟨hpb1, hpb2⟩ := hpb
      by_cases h1 : i < m
      · obtain ⟨by', oy, hYe⟩ : ∃ b off, B = some ⟨b, off, none⟩ := by
          rcases HB.out.shape with ⟨_, h, _⟩ | h
          · omega
          · exact h
        subst hYe
        obtain ⟨y, hy, hyb, hcy1⟩ := (HB.out.ext hE.out).get i h1
        obtain ⟨qy, hqy⟩ : ∃ qy, q * (y : Int) = qy := ⟨_, rfl⟩
        have hqb := prod_bound hq1 hq2 hyb
        rw [hqy] at hqb
        obtain ⟨hqb1, hqb2⟩ := hqb
        have hst := blend_step (t := px + cy + qy) (by rw [hos.out.1]; omega) hos.out.2.2 hx.out hy.out (by rw [hpx, hqy]; omega)
        have HST := Lib.hid hst
        clear hst
        go_wp2
        case roundEnd =>
          obtain ⟨r, hr⟩ : ∃ r : Nat, (px + cy + qy) % 4294967296 = (r : Int) := ⟨((px + cy + qy) % 4294967296).toNat, by omega⟩
          have hst := HST.out
          rw [hr, Int.toNat_natCast] at hst
          rw [hr]
          refine ⟨⟨i + 1, (px + cy + qy) / 4294967296, os.set i r, by omega, by omega, by simp, rfl, ⟨by simp [hos.out.1], lb_set hos.out.2.1 _ (by unfold Bs; omega), hst⟩, own_set hown.out i r, ext_setCell hE.out (Nat.le_refl _) _⟩, ?_⟩
          simp [intOf]; omega
      · have hy0 : (lim b).getD i 0 = 0 := getD_ge (by rw [hly.out]; omega)
        have hst := blend_step (t := px + cy) (by rw [hos.out.1]; omega) hos.out.2.2 hx.out hy0 (by rw [hpx]; simp)
        have HST := Lib.hid hst
        clear hst hy0
        go_wp2
        case roundEnd =>
          obtain ⟨r, hr⟩ : ∃ r : Nat, (px + cy) % 4294967296 = (r : Int) := ⟨((px + cy) % 4294967296).toNat, by omega⟩
          have hst := HST.out
          rw [hr, Int.toNat_natCast] at hst
          rw [hr]
          refine ⟨⟨i + 1, (px + cy) / 4294967296, os.set i r, by omega, by omega, by simp, rfl, ⟨by simp [hos.out.1], lb_set hos.out.2.1 _ (by unfold Bs; omega), hst⟩, own_set hown.out i r, ext_setCell hE.out (Nat.le_refl _) _⟩, ?_⟩
          simp [intOf]; omega
    · obtain rfl : i = n := by omega
      have hv := hos.out.2.2
      rw [take_ge (l := lim a) (by rw [hlx.out]; exact Nat.le_refl _), take_ge (l := lim b) (by rw [hly.out]; exact hmn), val_lim, val_lim, HT.out] at hv
      have hvl : val (os.take i) < Bs ^ i := by
        have h1 := val_lt (os.take i) (fun x hx => hos.out.2.1 x (List.mem_of_mem_take hx))
        rwa [List.length_take, hos.out.1, Nat.min_eq_left (by omega)] at h1
      have hc0 : 0 ≤ cy := by
        refine Int.not_lt.1 fun hneg => ?_
        have h1 : (Bs : Int) ^ i * cy ≤ (Bs : Int) ^ i * (-1) := Int.mul_le_mul_of_nonneg_left (by omega) (Int.pow_nonneg (by decide))
        have h2 : ((val (os.take i) : Nat) : Int) < ((Bs ^ i : Nat) : Int) := Int.ofNat_lt.2 hvl
        rw [Int.natCast_pow] at h2
        omega
      obtain ⟨cn, rfl⟩ : ∃ cn : Nat, cy = (cn : Int) := ⟨cy.toNat, by omega⟩
      have hvv : val (os.set i cn) = T := by
        have h1 : val ((os.set i cn).take (i + 1)) = val (os.set i cn) := by rw [take_ge (by rw [List.length_set, hos.out.1]; exact Nat.le_refl _)]
        rw [← h1, val_take_succ, take_set_self, List.getD_eq_getElem?_getD, List.getElem?_set_self (by rw [hos.out.1]; omega), Option.getD_some]
        have h2 := cast_step (val (os.take i)) i cn
        rw [hv] at h2
        exact Int.ofNat.inj h2
      obtain ⟨hc1, hf1⟩ := own_at hown.out i (by omega)
      have hT := bw_trim_own (own_set hown.out i cn) (lb_set hos.out.2.1 _ (by unfold Bs; omega)) hvv
      have hEE := Lib.hid (ext_setCell (p := ⟨w.heap.size, i, none⟩) hE.out (Nat.le_refl _) (.int .u32 (cn : Int)))
      have hcm : (cn : Int) % 4294967296 = cn := by omega
      clear hv hvl hvv hc0
      go_wp2_with (first
        | (go_at_call 105; (with_reducible refine hT.mono ?_); rintro e w' ⟨⟨j, rfl, hR⟩, rfl⟩)
       )
      refine bodyPost_ret (v := .slice (some ⟨w.heap.size, 0, none⟩) j (i + 1)) ?h rfl ⟨_, j, i + 1, rfl, ⟨hR.out, fun q hq => ?_⟩, hEE.out⟩
      case h => simp [results, Tryz.results154, go_sem]
      cases hq; exact Nat.le_refl _
end Go.Proofs.YtchchnohmmncfaaGreatDoor.NB
end
