/- Lemmas of this proof, laid together: ExP, RatO. -/
import Derived.Test.YtdjegfnkpagdaaaGreatDoorMg25
import Derived.Test.YtdjegfnkpagdaaaGreatDoorMg26
import Derived.Test.YtdjegfnkpagdaaaGreatDoorMg24
import Derived.Test.YtdjegfnkpagdaaaGreatDoorMg03
import Derived.Test.YtdjegfnkpagdaaaGreatDoorMg07
import Derived.Deep.DeepCutAuto
import Derived.Deep.RegionWith
import Derived.Deep.LoopGhost
set_option linter.unusedSimpArgs false
set_option linter.unusedVariables false
section
/- Decimals as fractions: the plain law of sums, products and order. -/
namespace Go.Proofs.YtdjegfnkpagdaaaGreatDoor
set_option maxRecDepth 100000
/-- Above and below the line, as a decimal gives it. -/
def dz (d : Dc) : Int := sgn d.neg (dval d.dig * 10 ^ d.exp.toNat : Nat)
def dp (d : Dc) : Nat := 10 ^ (-d.exp).toNat
theorem dp_ne (d : Dc) : dp d ≠ 0 := by unfold dp; have := Nat.pow_pos (n := (-d.exp).toNat) (show 0 < 10 by decide); omega
theorem dz_wv (d : Dc) {F : Int} (h0 : F ≤ 0) (h1 : F ≤ d.exp) : dz d * ((10 ^ (-F).toNat : Nat) : Int) = wv d F * (dp d : Int) := by
  unfold dz dp wv mag
  rw [← sgn_mul, ← sgn_mul]
  congr 1
  rw [Nat.mul_assoc, ← Nat.pow_add, Nat.mul_assoc, ← Nat.pow_add]
  congr 2; omega
theorem dz_nil {d : Dc} (h : d.dig = []) : dz d = 0 := by
  unfold dz; rw [h]; simp [dval]; cases d.neg <;> rfl
/-- The same without a word about the exponent of nought. -/
theorem dz_wv' (d : Dc) {F : Int} (h0 : F ≤ 0) (h1 : F ≤ d.exp ∨ d.dig = []) : dz d * ((10 ^ (-F).toNat : Nat) : Int) = wv d F * (dp d : Int) := by
  rcases h1 with h1 | h1
  · exact dz_wv d h0 h1
  · rw [dz_nil h1]; unfold wv; rw [mag_nil h1]; cases d.neg <;> simp [sgn]
theorem ten_ne (n : Nat) : ((10 ^ n : Nat) : Int) ≠ 0 := by have := Nat.pow_pos (n := n) (show 0 < 10 by decide); omega
/-- Sums. -/
theorem ex_sum {za zb zs x y wa wb ws : Int} {pa pb ps p q T : Int} (hT : T ≠ 0) (hpa : pa ≠ 0) (hpb : pb ≠ 0) (h1 : x * pa = za * p) (h2 : y * pb = zb * q) (h3 : za * T = wa * pa) (h4 : zb * T = wb * pb) (h5 : zs * T = ws * ps) (h6 : ws = wa + wb) :
    (x * q + y * p) * ps = zs * (p * q) := by
  refine Int.eq_of_mul_eq_mul_right (Int.mul_ne_zero (Int.mul_ne_zero hpa hpb) hT) ?_
  have e1 : x * pa * (q * ps * pb * T) = za * p * (q * ps * pb * T) := by rw [h1]
  have e2 : y * pb * (p * ps * pa * T) = zb * q * (p * ps * pa * T) := by rw [h2]
  have e3 : za * T * (p * q * pb * ps) = wa * pa * (p * q * pb * ps) := by rw [h3]
  have e4 : zb * T * (p * q * pa * ps) = wb * pb * (p * q * pa * ps) := by rw [h4]
  have e5 : zs * T * (p * q * pa * pb) = ws * ps * (p * q * pa * pb) := by rw [h5]
  rw [h6] at e5
  grind
theorem ex_mul {za zb zm x y wa wb wm : Int} {pa pb pm p q T : Int} (hT : T ≠ 0) (hpa : pa ≠ 0) (hpb : pb ≠ 0) (h1 : x * pa = za * p) (h2 : y * pb = zb * q) (h3 : za * T = wa * pa) (h4 : zb * T = wb * pb) (h5 : zm * (T * T) = wm * pm) (h6 : wm = wa * wb) :
    (x * y) * pm = zm * (p * q) := by
  refine Int.eq_of_mul_eq_mul_right (Int.mul_ne_zero (Int.mul_ne_zero hpa hpb) (Int.mul_ne_zero hT hT)) ?_
  have e1 : (x * pa) * (y * pb) * (pm * (T * T)) = (za * p) * (zb * q) * (pm * (T * T)) := by rw [h1, h2]
  have e3 : (za * T) * (zb * T) * (p * q * pm) = (wa * pa) * (wb * pb) * (p * q * pm) := by rw [h3, h4]
  have e5 : zm * (T * T) * (p * q * pa * pb) = wm * pm * (p * q * pa * pb) := by rw [h5]
  rw [h6] at e5
  grind
theorem sign_mul_pos {a b : Int} (hb : 0 < b) : (a * b).sign = a.sign := by
  rw [Int.sign_mul, Int.sign_eq_one_of_pos hb, Int.mul_one]
theorem ex_cmp {za zb x y wa wb : Int} {pa pb p q T : Int} (hT : 0 < T) (hpa : 0 < pa) (hpb : 0 < pb) (hp : 0 < p) (hq : 0 < q) (h1 : x * pa = za * p) (h2 : y * pb = zb * q) (h3 : za * T = wa * pa) (h4 : zb * T = wb * pb) :
    (x * q - y * p).sign = (wa - wb).sign := by
  have e : (x * q - y * p) * (T * (pa * pb)) = (wa - wb) * ((p * q) * (pa * pb)) := by
    have e1 : x * pa * (q * pb * T) = za * p * (q * pb * T) := by rw [h1]
    have e2 : y * pb * (p * pa * T) = zb * q * (p * pa * T) := by rw [h2]
    have e3 : za * T * (p * q * pb) = wa * pa * (p * q * pb) := by rw [h3]
    have e4 : zb * T * (p * q * pa) = wb * pb * (p * q * pa) := by rw [h4]
    grind
  have := congrArg Int.sign e
  rwa [sign_mul_pos (Int.mul_pos hT (Int.mul_pos hpa hpb)), sign_mul_pos (Int.mul_pos (Int.mul_pos hp hq) (Int.mul_pos hpa hpb))] at this
/-- How long what was made is. -/
theorem mk_bounds {neg : Bool} {l : List UInt8} {E : Int} {n : Nat} (hl : l.length ≤ n) : (mkD neg l E).dig.length ≤ n ∧ ((mkD neg l E).dig ≠ [] → E ≤ (mkD neg l E).exp ∧ (mkD neg l E).exp ≤ E + n) ∧ ((mkD neg l E).dig = [] → (mkD neg l E).exp = 0) := by
  obtain ⟨a, b, h1, h2, -⟩ := mk_spec l
  have h3 := congrArg List.length h1
  simp [zerosL] at h3
  unfold mkD
  split
  · split
    · exact ⟨by simp, fun h => absurd rfl h, fun _ => rfl⟩
    · rename_i g
      exact ⟨by simp only; omega, fun _ => by simp only; omega, fun h => absurd h g⟩
  · exact ⟨by simp [Dc.zero], fun h => absurd rfl h, fun _ => rfl⟩
/-- Of a sum. -/
theorem add_bounds {a b : Dc} (ha : dcE a = 0) (hb : dcE b = 0) (la : a.dig.length ≤ 800) (lb : b.dig.length ≤ 800) (ea : -1500 ≤ a.exp ∧ a.exp ≤ 1500) (eb : -1500 ≤ b.exp ∧ b.exp ≤ 1500) :
    (addR a b).e = 0 ∧ dcE (addR a b).d = 0 ∧ (addR a b).d.dig.length ≤ 4000 ∧ -1500 ≤ (addR a b).d.exp ∧ (addR a b).d.exp ≤ 6000 ∧ ((addR a b).d.dig ≠ [] → min a.exp b.exp ≤ (addR a b).d.exp ∨ a.dig = [] ∨ b.dig = []) := by
  have h := add_ok ha hb (by omega) (by omega) (by omega) (by omega)
  have hw := wv_add ha hb h
  refine ⟨h, hw.1, ?_⟩
  have hc : chkD a b = 0 := by unfold chkD; rw [if_pos ha, hb]
  unfold addR
  rw [if_neg (by rw [hc]; simp)]
  by_cases h1 : a.dig = [] ∧ b.dig = []
  · rw [if_pos h1]; exact ⟨by simp, by simp, by simp, fun h => absurd rfl h⟩
  · rw [if_neg h1]
    by_cases h2 : a.dig = []
    · rw [if_pos h2]; exact ⟨by simp only; omega, by simp only; omega, by simp only; omega, fun _ => .inr (.inl h2)⟩
    · rw [if_neg h2]
      by_cases h3 : b.dig = []
      · rw [if_pos h3]; exact ⟨by simp only; omega, by simp only; omega, by simp only; omega, fun _ => .inr (.inr h3)⟩
      · rw [if_neg h3, if_neg (by omega)]
        simp only
        have hx : upV a.dig (a.exp - min a.exp b.exp).toNat = mag a (min a.exp b.exp) := up_val _ _
        have hy : upV b.dig (b.exp - min a.exp b.exp).toNat = mag b (min a.exp b.exp) := up_val _ _
        rw [hx, hy]
        have ta := (mag_top ha h2 (F := min a.exp b.exp) (by omega)).2
        have tb := (mag_top hb h3 (F := min a.exp b.exp) (by omega)).2
        have ka := Nat.lt_of_lt_of_le ta (Nat.pow_le_pow_right (show 0 < 10 by decide) (show _ ≤ 3999 by omega))
        have kb := Nat.lt_of_lt_of_le tb (Nat.pow_le_pow_right (show 0 < 10 by decide) (show _ ≤ 3999 by omega))
        obtain ⟨N, hN⟩ : ∃ N : Nat, N = 3999 := ⟨_, rfl⟩
        rw [← hN] at ka kb
        have hs : sumAbs a.neg b.neg (mag a (min a.exp b.exp)) (mag b (min a.exp b.exp)) < 10 ^ (N + 1) := by
          rw [Nat.pow_succ]
          generalize mag a (min a.exp b.exp) = u at ka
          generalize mag b (min a.exp b.exp) = v at kb
          generalize 10 ^ N = P at ka kb
          unfold sumAbs
          split
          · omega
          · split <;> omega
        have hl : (dtext (sumAbs a.neg b.neg (mag a (min a.exp b.exp)) (mag b (min a.exp b.exp)))).length ≤ 4000 := by
          have := digs_len hs
          unfold dtext
          split
          · simp
          · omega
        obtain ⟨m1, m2, m3⟩ := mk_bounds (neg := sumNeg a.neg b.neg (mag a (min a.exp b.exp)) (mag b (min a.exp b.exp))) (E := min a.exp b.exp) hl
        refine ⟨m1, ?_, ?_, fun g => .inl (m2 g).1⟩
        · by_cases g : (mkD (sumNeg a.neg b.neg (mag a (min a.exp b.exp)) (mag b (min a.exp b.exp))) (dtext (sumAbs a.neg b.neg (mag a (min a.exp b.exp)) (mag b (min a.exp b.exp)))) (min a.exp b.exp)).dig = []
          · rw [m3 g]; decide
          · have := (m2 g).1; omega
        · by_cases g : (mkD (sumNeg a.neg b.neg (mag a (min a.exp b.exp)) (mag b (min a.exp b.exp))) (dtext (sumAbs a.neg b.neg (mag a (min a.exp b.exp)) (mag b (min a.exp b.exp)))) (min a.exp b.exp)).dig = []
          · rw [m3 g]; decide
          · have := (m2 g).2; omega
/-- A product: its worth, its bounds. -/
theorem mul_law {a b : Dc} (ha : dcE a = 0) (hb : dcE b = 0) (la : a.dig.length ≤ 800) (lb : b.dig.length ≤ 800) (ea : -1500 ≤ a.exp ∧ a.exp ≤ 1500) (eb : -1500 ≤ b.exp ∧ b.exp ≤ 1500) :
    (mulR a b).e = 0 ∧ dcE (mulR a b).d = 0 ∧ (mulR a b).d.neg = (a.neg != b.neg) ∧ (mulR a b).d.dig.length ≤ 1600 ∧ -3000 ≤ (mulR a b).d.exp ∧ (mulR a b).d.exp ≤ 7000 ∧ wv (mulR a b).d (-3000) = wv a (-1500) * wv b (-1500) := by
  have hc : chkD a b = 0 := by unfold chkD; rw [if_pos ha, hb]
  have wn : ∀ {d : Dc}, d.dig = [] → ∀ F, wv d F = 0 := fun {d} h F => by unfold wv; rw [mag_nil h]; cases d.neg <;> rfl
  unfold mulR
  rw [if_neg (by rw [hc]; simp)]
  by_cases h1 : a.dig = [] ∨ b.dig = []
  · rw [if_pos h1]
    refine ⟨rfl, by unfold dcE; simp, rfl, by simp, by simp, by simp, ?_⟩
    rw [wn rfl]
    rcases h1 with h | h
    · rw [wn h, Int.zero_mul]
    · rw [wn h, Int.mul_zero]
  · rw [if_neg h1]
    simp only
    obtain ⟨v1, v2⟩ := dtext_val (dval a.dig * dval b.dig)
    obtain ⟨k, k1, -⟩ := trimR_spec 48 (mulT a.dig b.dig)
    change dval (mulT a.dig b.dig) = _ at v1
    change digsB (mulT a.dig b.dig) = true at v2
    have kl := congrArg List.length k1
    rw [List.length_append, List.length_replicate] at kl
    have kv : dval (trimR 48 (mulT a.dig b.dig)) * 10 ^ k = dval a.dig * dval b.dig := by
      rw [← v1]
      conv => rhs; rw [k1]
      rw [dval_append, dval_noughts]; simp
    have kd : digsB (trimR 48 (mulT a.dig b.dig)) = true := by
      rw [k1] at v2
      unfold digsB at v2 ⊢
      rw [List.all_append] at v2
      simp only [Bool.and_eq_true] at v2
      exact v2.1
    obtain ⟨M0, hM0⟩ : ∃ M0 : Nat, M0 = 1600 := ⟨_, rfl⟩
    have hlt : dval a.dig * dval b.dig < 10 ^ M0 := by
      obtain ⟨N, hN⟩ : ∃ N : Nat, N = 800 := ⟨_, rfl⟩
      have e : 10 ^ M0 = 10 ^ N * 10 ^ N := by rw [← Nat.pow_add]; congr 1; omega
      rw [e]
      exact Nat.mul_lt_mul'' (Nat.lt_of_lt_of_le (dval_lt _ (dc_digs ha)) (Nat.pow_le_pow_right (by decide) (by omega))) (Nat.lt_of_lt_of_le (dval_lt _ (dc_digs hb)) (Nat.pow_le_pow_right (by decide) (by omega)))
    have hl : (mulT a.dig b.dig).length ≤ 1600 := by
      have := digs_len hlt
      unfold mulT dtext
      split
      · simp
      · omega
    generalize hM : mulT a.dig b.dig = M at v2 k1 kl kv kd hl ⊢
    generalize hR : trimR 48 M = R at k1 kl kv kd ⊢
    have hE : a.exp + b.exp + (M.length : Int) - (R.length : Int) = a.exp + b.exp + k := by omega
    rw [hE]
    have hok := mkE_small (n := a.exp + b.exp + k) kd (by omega) (by omega)
    obtain ⟨m1, m2, m3, m4⟩ := mk_wv (neg := a.neg != b.neg) kd hok
    obtain ⟨b1, b2, b3⟩ := mk_bounds (neg := a.neg != b.neg) (E := a.exp + b.exp + k) (show R.length ≤ 1600 by omega)
    refine ⟨hok, m1, m2, b1, ?_, ?_, ?_⟩
    · by_cases g : (mkD (a.neg != b.neg) R (a.exp + b.exp + k)).dig = []
      · rw [b3 g]; decide
      · have := (b2 g).1; omega
    · by_cases g : (mkD (a.neg != b.neg) R (a.exp + b.exp + k)).dig = []
      · rw [b3 g]; decide
      · have := (b2 g).2; omega
    · unfold wv
      rw [m2, m3 (-3000) (by omega)]
      have e : dval R * 10 ^ (a.exp + b.exp + k - -3000).toNat = mag a (-1500) * mag b (-1500) := by
        unfold mag
        have e2 : (a.exp + b.exp + k - -3000).toNat = k + ((a.exp - -1500).toNat + (b.exp - -1500).toNat) := by omega
        rw [e2, Nat.pow_add, ← Nat.mul_assoc, kv, Nat.pow_add]
        generalize 10 ^ (a.exp - -1500).toNat = P
        generalize 10 ^ (b.exp - -1500).toNat = Q
        grind
      rw [e]
      generalize mag a (-1500) = u
      generalize mag b (-1500) = v
      cases a.neg <;> cases b.neg <;> simp [sgn, Int.natCast_mul, Int.neg_mul, Int.mul_neg]
/-- What the fractions of two decimals, their sum, their product and their order are to one another. -/
theorem ex_law {a b : Dc} (ha : dcE a = 0) (hb : dcE b = 0) (la : a.dig.length ≤ 800) (lb : b.dig.length ≤ 800) (ea : -1500 ≤ a.exp ∧ a.exp ≤ 1500) (eb : -1500 ≤ b.exp ∧ b.exp ≤ 1500) :
    (canN (canN (dz a) (dp a) * (canD (dz b) (dp b) : Int) + canN (dz b) (dp b) * (canD (dz a) (dp a) : Int)) (canD (dz a) (dp a) * canD (dz b) (dp b)) = canN (dz (addR a b).d) (dp (addR a b).d) ∧
     canD (canN (dz a) (dp a) * (canD (dz b) (dp b) : Int) + canN (dz b) (dp b) * (canD (dz a) (dp a) : Int)) (canD (dz a) (dp a) * canD (dz b) (dp b)) = canD (dz (addR a b).d) (dp (addR a b).d)) ∧
    (canN (canN (dz a) (dp a) * canN (dz b) (dp b)) (canD (dz a) (dp a) * canD (dz b) (dp b)) = canN (dz (mulR a b).d) (dp (mulR a b).d) ∧
     canD (canN (dz a) (dp a) * canN (dz b) (dp b)) (canD (dz a) (dp a) * canD (dz b) (dp b)) = canD (dz (mulR a b).d) (dp (mulR a b).d)) ∧
    cmpR a b = ⟨(canN (dz a) (dp a) * (canD (dz b) (dp b) : Int) - canN (dz b) (dp b) * (canD (dz a) (dp a) : Int)).sign, 0⟩ := by
  obtain ⟨s1, s2, s3, s4, s5, -⟩ := add_bounds ha hb la lb ea eb
  obtain ⟨m1, m2, m3, m4, m5, m6, m7⟩ := mul_law ha hb la lb ea eb
  obtain ⟨-, w1⟩ := wv_add ha hb s1
  have w2 := w1 (-1500) ea.1 eb.1
  have w3 := wv_cmp ha hb ea.1 eb.1
  have pa : (dp a : Int) ≠ 0 := by have := dp_ne a; omega
  have pb : (dp b : Int) ≠ 0 := by have := dp_ne b; omega
  have qa := canD_pos (z := dz a) (dp_ne a)
  have qb := canD_pos (z := dz b) (dp_ne b)
  have h1 := can_worth (z := dz a) (dp_ne a)
  have h2 := can_worth (z := dz b) (dp_ne b)
  obtain ⟨T, hT⟩ : ∃ T : Nat, T = 10 ^ (-(-1500 : Int)).toNat := ⟨_, rfl⟩
  have hT0 : T ≠ 0 := by rw [hT]; have := Nat.pow_pos (n := (-(-1500 : Int)).toNat) (show 0 < 10 by decide); omega
  have h3 := dz_wv a (F := -1500) (by omega) ea.1
  have h4 := dz_wv b (F := -1500) (by omega) eb.1
  have h5 := dz_wv (addR a b).d (F := -1500) (by omega) s4
  have h6 := dz_wv (mulR a b).d (F := -3000) (by omega) m5
  have hTw : ∀ E : Int, E ≤ 0 → (10 ^ (-(E + E)).toNat : Nat) = 10 ^ (-E).toNat * 10 ^ (-E).toNat := fun E h => by rw [← Nat.pow_add]; congr 1; omega
  have hTT := hTw (-1500) (by omega)
  rw [show (-1500 : Int) + -1500 = -3000 by omega, ← hT] at hTT
  rw [← hT] at h3 h4 h5
  rw [hTT, Int.natCast_mul] at h6
  have hTi : (T : Int) ≠ 0 := by omega
  generalize canN (dz a) (dp a) = x at h1 ⊢
  generalize canN (dz b) (dp b) = y at h2 ⊢
  generalize canD (dz a) (dp a) = p at h1 qa ⊢
  generalize canD (dz b) (dp b) = q at h2 qb ⊢
  refine ⟨can_eq (Nat.mul_ne_zero qa qb) (dp_ne _) ?_, can_eq (Nat.mul_ne_zero qa qb) (dp_ne _) ?_, ?_⟩
  · rw [Int.natCast_mul]; exact ex_sum hTi pa pb h1 h2 h3 h4 h5 w2
  · rw [Int.natCast_mul]; exact ex_mul hTi pa pb h1 h2 h3 h4 h6 m7
  · rw [w3, ex_cmp (by omega) (by omega) (by omega) (by omega) (by omega) h1 h2 h3 h4]
end Go.Proofs.YtdjegfnkpagdaaaGreatDoor
end
section
/- The program's decimals as fractions: exponents from nought on; all. -/
namespace Go.Proofs.YtdjegfnkpagdaaaGreatDoor
open Go.RowKit
attribute [local go_sem] bs_size bs_extract bs_get bs_append bs_toList const_get
attribute [local go_sem] sz2 sz3 sz4 sz5 sz6 sz7 sz8
set_option maxHeartbeats 4000000
set_option maxRecDepth 100000
attribute [local irreducible] Calls
attribute [local go_sem] D2.Oper.detAt D2.detUpon D2.relUpon
namespace D2
/-- A number that was answered, not long. -/
def RNum (v : Nat) : List Value → Value → World → Prop := fun _ u w => ∃ (A : Option Addr) (k : Nat), u = natV A k k ∧ Rd w A k k (lim v)
theorem stays_num (v : Nat) : Stays (RNum v) := fun _ _ _ _ ⟨A, k, h1, h2⟩ he => ⟨A, k, h1, h2.ext he⟩
theorem num_at {v : Nat} {vals : List Value} {A : Option Addr} {k : Nat} {w : World} (h : RNum v vals (natV A k k) w) : Rd w A k k (lim v) := by
  obtain ⟨A', k', e, h2⟩ := h
  simp [natV] at e
  obtain ⟨rfl, rfl⟩ := e
  exact h2
theorem fresh_num {w w' : World} {A : Option Addr} {k : Nat} : Fresh w (natV A k k) w' := fun b hb => by simp [blk, natV] at hb
theorem rel_num {f : FuncId} {args : Array Value} {v : Nat} {vals : List Value} {w : World} (h : Calls Tryz.prog f args w (NatPost w v)) :
    Calls Tryz.prog f args w fun e w' => ∃ u, e = .returned u ∧ Ext w w' ∧ Fresh w u w' ∧ RNum v vals u w' :=
  h.mono fun _ _ ⟨B, k, h1, h2, h3⟩ => ⟨_, h1, h3, fresh_num, B, k, rfl, h2.out.1⟩
end D2
theorem dratio_pos (neg : Bool) (l : List UInt8) (E : Nat) (hE2 : E ≤ 7000) (hl : l.length ≤ 4000) (hok : dcE ⟨neg, l, (E : Int)⟩ = 0) (hdg : digsB l = true) (w : World) (hT : Tz w) :
    Calls Tryz.prog 7 #[dcV ⟨neg, l, (E : Int)⟩] w (TPost w (sgn neg (dval l * 10 ^ E : Nat)) 1) := by
  have HT := Lib.hid hT
  have hxl := Nat.lt_of_lt_of_le (dval_lt l hdg) (Nat.pow_le_pow_right (show 0 < 10 by decide) hl)
  have hnl : (lim (dval l)).length ≤ 4001 := Nat.le_trans (lim_mono (Nat.le_of_lt hxl)) (ten_len 4000 (by omega))
  have hml : (lim (dval l * 10 ^ E)).length ≤ 4001 := by
    obtain ⟨N, hN⟩ : ∃ N : Nat, N = 4000 := ⟨_, rfl⟩
    rw [← hN] at hxl
    refine Nat.le_trans (lim_mono (Nat.mul_le_mul_right _ (Nat.le_of_lt hxl))) ?_
    rw [← Nat.pow_add]
    exact ten_len (N + E) (by omega)
  have hx := fun w => (pnumber_any l hdg (by omega) w).mono (fun e w' h => natPostL hnl h)
  have hp : ∀ w, Calls Tryz.prog 25 #[.int .u32 10, .int .i64 (E : Int)] w (NatPostL w (10 ^ E) 4001) := fun w => by
    by_cases h : E = 0
    · subst h
      exact (npow_zero 10 w).mono (fun e w' h => natPostL (ten_len 0 (by omega)) h)
    · exact (npow_pos 10 E (by omega) (by omega) (by omega) (by omega) (Nat.le_trans (ten_len E (by omega)) (by omega)) w).mono (fun e w' h => natPostL (ten_len E (by omega)) h)
  have hc := fun w => check_any' ⟨neg, l, (E : Int)⟩ (by simp; omega) w
  rw [hok] at hc
  have hlp := ten_len E (by omega)
  generalize dval l = X at hx hnl hml ⊢
  generalize 10 ^ E = Y at hp hlp hml ⊢
  clear hT hok hdg
  have kM : ∀ A k B j w', Rd w' A k k (lim X) → Rd w' B j j (lim Y) → Calls Tryz.prog 27 #[natV A k k, natV B j j] w' (NatPostL w' (X * Y) 4001) := fun A k B j w' h1 h2 => by
    have e1 := h1.len
    have e2 := h2.len
    exact (pmul_any A B k k j j X Y w' h1 h2 (by omega) (by omega) (by omega) (by omega)).mono (fun e w'' h => natPostL hml h)
  have kR : ∀ A k B j w', Ext w w' → Rd w' A k k (lim (X * Y)) → Rd w' B j j (lim 1) → Calls Tryz.prog 26 #[.bool neg, natV A k k, natV B j j] w' (TPost w' (sgn neg (X * Y : Nat)) 1) := fun A k B j w' he h1 h2 => by
    have e1 := h1.len
    have e2 := h2.len
    have e3 : (lim 1).length = 1 := by kernel_rfl
    have h := ra_make neg A k k (X * Y) B j j 1 (by decide) (by omega) (by omega) w' (HT.out.ext he) h1 h2
    rw [Nat.gcd_one_right, Nat.div_one] at h
    have e : denOf (lowD (X * Y) 1) = 1 := by unfold lowD; rw [Nat.gcd_one_right, Nat.div_one]; split <;> rfl
    rwa [e] at h
  have hmax : max (E : Int) (-(E : Int)) = (E : Int) := by omega
  have hlt : decide ((E : Int) < 0) = false := decide_eq_false (by omega)
  clear hnl hml hlp hxl
  go_enter Tryz.func7, Tryz.ntmps7
  go_wp2_with (first
    | (go_at_call 23; (with_reducible refine (hc _).mono ?_); rintro e w1 ⟨rfl, xb1⟩; obtain ⟨xc1, xf1, xl1, xz1⟩ := ext_use xb1; (try simp at xz1); have l1_0 := xl1 (w.heap.size) (by first | omega | (simp; try omega)); have r1_0 := xc1 (w.heap.size) 0 (by first | omega | (simp; try omega)); have f1_0 := xf1 (w.heap.size) 0 (by first | omega | (simp; try omega)); have r1_0_1 := xc1 (w.heap.size) 1 (by first | omega | (simp; try omega)); have f1_0_1 := xf1 (w.heap.size) 1 (by first | omega | (simp; try omega)); have r1_0_2 := xc1 (w.heap.size) 2 (by first | omega | (simp; try omega)); have f1_0_2 := xf1 (w.heap.size) 2 (by first | omega | (simp; try omega)); have l1_1 := xl1 (w.heap.size + 1) (by first | omega | (simp; try omega)); have r1_1 := xc1 (w.heap.size + 1) 0 (by first | omega | (simp; try omega)); have f1_1 := xf1 (w.heap.size + 1) 0 (by first | omega | (simp; try omega)); have r1_1_1 := xc1 (w.heap.size + 1) 1 (by first | omega | (simp; try omega)); have f1_1_1 := xf1 (w.heap.size + 1) 1 (by first | omega | (simp; try omega)); have r1_1_2 := xc1 (w.heap.size + 1) 2 (by first | omega | (simp; try omega)); have f1_1_2 := xf1 (w.heap.size + 1) 2 (by first | omega | (simp; try omega)))
    | (go_at_call 24; (with_reducible refine (hx _).mono ?_); rintro e w2 ⟨A, k, ⟨rfl, hk⟩, hX, xb2⟩; obtain ⟨xc2, xf2, xl2, xz2⟩ := ext_use xb2; (try simp at xz2); have l2_0 := xl2 (w.heap.size) (by first | omega | (simp; try omega)); have r2_0 := xc2 (w.heap.size) 0 (by first | omega | (simp; try omega)); have f2_0 := xf2 (w.heap.size) 0 (by first | omega | (simp; try omega)); have r2_0_1 := xc2 (w.heap.size) 1 (by first | omega | (simp; try omega)); have f2_0_1 := xf2 (w.heap.size) 1 (by first | omega | (simp; try omega)); have r2_0_2 := xc2 (w.heap.size) 2 (by first | omega | (simp; try omega)); have f2_0_2 := xf2 (w.heap.size) 2 (by first | omega | (simp; try omega)); have l2_1 := xl2 (w.heap.size + 1) (by first | omega | (simp; try omega)); have r2_1 := xc2 (w.heap.size + 1) 0 (by first | omega | (simp; try omega)); have f2_1 := xf2 (w.heap.size + 1) 0 (by first | omega | (simp; try omega)); have r2_1_1 := xc2 (w.heap.size + 1) 1 (by first | omega | (simp; try omega)); have f2_1_1 := xf2 (w.heap.size + 1) 1 (by first | omega | (simp; try omega)); have r2_1_2 := xc2 (w.heap.size + 1) 2 (by first | omega | (simp; try omega)); have f2_1_2 := xf2 (w.heap.size + 1) 2 (by first | omega | (simp; try omega)))
    | (go_at_call 25; (with_reducible refine (hp _).mono ?_); rintro e w3 ⟨B, j, ⟨rfl, hj⟩, hY, xb3⟩; obtain ⟨xc3, xf3, xl3, xz3⟩ := ext_use xb3; (try simp at xz3); have l3_0 := xl3 (w.heap.size) (by first | omega | (simp; try omega)); have r3_0 := xc3 (w.heap.size) 0 (by first | omega | (simp; try omega)); have f3_0 := xf3 (w.heap.size) 0 (by first | omega | (simp; try omega)); have r3_0_1 := xc3 (w.heap.size) 1 (by first | omega | (simp; try omega)); have f3_0_1 := xf3 (w.heap.size) 1 (by first | omega | (simp; try omega)); have r3_0_2 := xc3 (w.heap.size) 2 (by first | omega | (simp; try omega)); have f3_0_2 := xf3 (w.heap.size) 2 (by first | omega | (simp; try omega)); have l3_1 := xl3 (w.heap.size + 1) (by first | omega | (simp; try omega)); have r3_1 := xc3 (w.heap.size + 1) 0 (by first | omega | (simp; try omega)); have f3_1 := xf3 (w.heap.size + 1) 0 (by first | omega | (simp; try omega)); have r3_1_1 := xc3 (w.heap.size + 1) 1 (by first | omega | (simp; try omega)); have f3_1_1 := xf3 (w.heap.size + 1) 1 (by first | omega | (simp; try omega)); have r3_1_2 := xc3 (w.heap.size + 1) 2 (by first | omega | (simp; try omega)); have f3_1_2 := xf3 (w.heap.size + 1) 2 (by first | omega | (simp; try omega)); have l3_2 := xl3 (w2.heap.size) (by first | omega | (simp; try omega)); have r3_2 := xc3 (w2.heap.size) 0 (by first | omega | (simp; try omega)); have f3_2 := xf3 (w2.heap.size) 0 (by first | omega | (simp; try omega)))
    | (go_at_call 27; (with_reducible refine (kM _ _ _ _ _ (hX.out.1.ext (by (repeat (first | exact ext_refl _ | assumption | refine ext_setCell ?_ (by simp; try omega) _ | refine ext_alloc ?_ _ | refine ext_drew ?_ | refine ext_drewN ?_ _ | refine ext_trans ?_ (Aft.use _) | refine ext_trans ?_ (by assumption))))) (hY.out.1.ext (by (repeat (first | exact ext_refl _ | assumption | refine ext_setCell ?_ (by simp; try omega) _ | refine ext_alloc ?_ _ | refine ext_drew ?_ | refine ext_drewN ?_ _ | refine ext_trans ?_ (Aft.use _) | refine ext_trans ?_ (by assumption)))))).mono ?_); rintro e w4 ⟨C, m, ⟨rfl, hm⟩, hZ, xb4⟩; obtain ⟨xc4, xf4, xl4, xz4⟩ := ext_use xb4; (try simp at xz4); have l4_0 := xl4 (w.heap.size) (by first | omega | (simp; try omega)); have r4_0 := xc4 (w.heap.size) 0 (by first | omega | (simp; try omega)); have f4_0 := xf4 (w.heap.size) 0 (by first | omega | (simp; try omega)); have r4_0_1 := xc4 (w.heap.size) 1 (by first | omega | (simp; try omega)); have f4_0_1 := xf4 (w.heap.size) 1 (by first | omega | (simp; try omega)); have r4_0_2 := xc4 (w.heap.size) 2 (by first | omega | (simp; try omega)); have f4_0_2 := xf4 (w.heap.size) 2 (by first | omega | (simp; try omega)); have l4_1 := xl4 (w.heap.size + 1) (by first | omega | (simp; try omega)); have r4_1 := xc4 (w.heap.size + 1) 0 (by first | omega | (simp; try omega)); have f4_1 := xf4 (w.heap.size + 1) 0 (by first | omega | (simp; try omega)); have r4_1_1 := xc4 (w.heap.size + 1) 1 (by first | omega | (simp; try omega)); have f4_1_1 := xf4 (w.heap.size + 1) 1 (by first | omega | (simp; try omega)); have r4_1_2 := xc4 (w.heap.size + 1) 2 (by first | omega | (simp; try omega)); have f4_1_2 := xf4 (w.heap.size + 1) 2 (by first | omega | (simp; try omega)); have l4_2 := xl4 (w2.heap.size) (by first | omega | (simp; try omega)); have r4_2 := xc4 (w2.heap.size) 0 (by first | omega | (simp; try omega)); have f4_2 := xf4 (w2.heap.size) 0 (by first | omega | (simp; try omega)))
   )
  have y0 : w4.cell? ⟨w.heap.size, 0, none⟩ = some (.bool neg) := by simp [go_sem, *]
  have hEE4 : Hid (Ext w w4) := by show Ext w w4; (repeat (first | exact ext_refl _ | assumption | refine ext_setCell ?_ (by simp; try omega) _ | refine ext_alloc ?_ _ | refine ext_drew ?_ | refine ext_drewN ?_ _ | refine ext_trans ?_ (Aft.use _) | refine ext_trans ?_ (by assumption)))
  have lw4 : w.heap.size < w4.heap.size := by assumption
  have l24 : w2.heap.size < w4.heap.size := by assumption
  have hZ' : Hid (Rd (w4.setCell ⟨w2.heap.size, 0, none⟩ (.slice C m m)) C m m (lim (X * Y))) := hZ.out.1.tch ((Tch.refl w2.heap.size w4).set 0 _) (fun x hx _ e => by have := hZ.out.2 x hx; have := ext_size xb3; simp at *; omega)
  go_region_with (first
    | (go_at_call 28; (with_reducible refine (nof_one _).mono ?_); rintro e w5 ⟨G, g, rfl, hO, xb5⟩; obtain ⟨xc5, xf5, xl5, xz5⟩ := ext_use xb5; (try simp at xz5); have l5_0 := xl5 (w.heap.size) (by first | omega | (simp; try omega)); have r5_0 := xc5 (w.heap.size) 0 (by first | omega | (simp; try omega)); have f5_0 := xf5 (w.heap.size) 0 (by first | omega | (simp; try omega)); have r5_0_1 := xc5 (w.heap.size) 1 (by first | omega | (simp; try omega)); have f5_0_1 := xf5 (w.heap.size) 1 (by first | omega | (simp; try omega)); have r5_0_2 := xc5 (w.heap.size) 2 (by first | omega | (simp; try omega)); have f5_0_2 := xf5 (w.heap.size) 2 (by first | omega | (simp; try omega)); have l5_1 := xl5 (w.heap.size + 1) (by first | omega | (simp; try omega)); have r5_1 := xc5 (w.heap.size + 1) 0 (by first | omega | (simp; try omega)); have f5_1 := xf5 (w.heap.size + 1) 0 (by first | omega | (simp; try omega)); have r5_1_1 := xc5 (w.heap.size + 1) 1 (by first | omega | (simp; try omega)); have f5_1_1 := xf5 (w.heap.size + 1) 1 (by first | omega | (simp; try omega)); have r5_1_2 := xc5 (w.heap.size + 1) 2 (by first | omega | (simp; try omega)); have f5_1_2 := xf5 (w.heap.size + 1) 2 (by first | omega | (simp; try omega)); have l5_2 := xl5 (w2.heap.size) (by first | omega | (simp; try omega)); have r5_2 := xc5 (w2.heap.size) 0 (by first | omega | (simp; try omega)); have f5_2 := xf5 (w2.heap.size) 0 (by first | omega | (simp; try omega)))
    | (go_at_call 26; (with_reducible refine (kR _ _ _ _ _ (by (repeat (first | exact ext_refl _ | assumption | refine ext_setCell ?_ (by simp; try omega) _ | refine ext_alloc ?_ _ | refine ext_drew ?_ | refine ext_drewN ?_ _ | refine ext_trans ?_ (Aft.use _) | refine ext_trans ?_ (by assumption)))) (hZ'.out.ext (by (repeat (first | exact ext_refl _ | assumption | refine ext_setCell ?_ (by simp; try omega) _ | refine ext_alloc ?_ _ | refine ext_drew ?_ | refine ext_drewN ?_ _ | refine ext_trans ?_ (Aft.use _) | refine ext_trans ?_ (by assumption))))) (hO.out.1.ext (by (repeat (first | exact ext_refl _ | assumption | refine ext_setCell ?_ (by simp; try omega) _ | refine ext_alloc ?_ _ | refine ext_drew ?_ | refine ext_drewN ?_ _ | refine ext_trans ?_ (Aft.use _) | refine ext_trans ?_ (by assumption)))))).mono ?_); rintro e w6 ⟨H, n, c, D, m2, d, rfl, hI, xb6⟩; obtain ⟨xc6, xf6, xl6, xz6⟩ := ext_use xb6; (try simp at xz6); have l6_0 := xl6 (w.heap.size) (by first | omega | (simp; try omega)); have r6_0 := xc6 (w.heap.size) 0 (by first | omega | (simp; try omega)); have f6_0 := xf6 (w.heap.size) 0 (by first | omega | (simp; try omega)); have r6_0_1 := xc6 (w.heap.size) 1 (by first | omega | (simp; try omega)); have f6_0_1 := xf6 (w.heap.size) 1 (by first | omega | (simp; try omega)); have r6_0_2 := xc6 (w.heap.size) 2 (by first | omega | (simp; try omega)); have f6_0_2 := xf6 (w.heap.size) 2 (by first | omega | (simp; try omega)); have l6_1 := xl6 (w.heap.size + 1) (by first | omega | (simp; try omega)); have r6_1 := xc6 (w.heap.size + 1) 0 (by first | omega | (simp; try omega)); have f6_1 := xf6 (w.heap.size + 1) 0 (by first | omega | (simp; try omega)); have r6_1_1 := xc6 (w.heap.size + 1) 1 (by first | omega | (simp; try omega)); have f6_1_1 := xf6 (w.heap.size + 1) 1 (by first | omega | (simp; try omega)); have r6_1_2 := xc6 (w.heap.size + 1) 2 (by first | omega | (simp; try omega)); have f6_1_2 := xf6 (w.heap.size + 1) 2 (by first | omega | (simp; try omega)); have l6_2 := xl6 (w2.heap.size) (by first | omega | (simp; try omega)); have r6_2 := xc6 (w2.heap.size) 0 (by first | omega | (simp; try omega)); have f6_2 := xf6 (w2.heap.size) 0 (by first | omega | (simp; try omega)))
   )
  all_goals
    have n5 : ∀ x, H = some x → w.heap.size + 1 < x.block := fun x hx => by have := hI.out.2.1 x hx; (try simp at this); omega
    have n6 : ∀ x, D = some x → w.heap.size + 1 < x.block := fun x hx => by have := hI.out.2.2.2 x hx; (try simp at this); omega
    have z0 : w6.cell? ⟨w.heap.size + 1, 0, none⟩ = some (.bool false) := by simp [go_sem, *]
    have z1 : w6.cell? ⟨w.heap.size + 1, 1, none⟩ = some (.slice none 0 0) := by simp [go_sem, *]
    have z2 : w6.cell? ⟨w.heap.size + 1, 2, none⟩ = some (.slice none 0 0) := by simp [go_sem, *]
    obtain ⟨q0, q1, q2⟩ := set3 (b := w.heap.size + 1) z0 z1 z2 (.bool (decide (sgn neg (X * Y : Nat) < 0))) (.slice H n c) (.slice D m2 d)
    have hEE : Ext w w6 := by (repeat (first | exact ext_refl _ | assumption | refine ext_setCell ?_ (by simp; try omega) _ | refine ext_alloc ?_ _ | refine ext_drew ?_ | refine ext_drewN ?_ _ | refine ext_trans ?_ (Aft.use _) | refine ext_trans ?_ (by assumption)))
    go_wp2_with fail
    refine bodyPost_ret (v := .tuple #[ratV (decide (sgn neg ↑(X * Y) < 0)) H n c D m2 d, .int .i64 0]) ?h rfl ⟨H, n, c, D, m2, d, rfl, ⟨hI.out.1.set3 n5 _ _ _, fun x hx => Nat.le_of_lt (by have := n5 x hx; omega), hI.out.2.2.1.set3 n6 _ _ _, fun x hx => Nat.le_of_lt (by have := n6 x hx; omega)⟩, ext_set3 hEE (by omega) _ _ _⟩
    case h => simp [results, Tryz.results7, go_sem, q0, q1, q2]
theorem can_sgn (neg : Bool) (X Y : Nat) (hY : Y ≠ 0) : canN (sgn neg X) Y = sgn neg (X / Nat.gcd X Y : Nat) ∧ canD (sgn neg X) Y = denOf (lowD X Y) := by
  unfold canN canD
  rw [sgn_abs, sgn_lt]
  by_cases h : X = 0
  · subst h
    refine ⟨by rw [Nat.zero_div]; cases neg <;> rfl, ?_⟩
    rw [Nat.gcd_zero_left, Nat.div_self (Nat.pos_of_ne_zero hY)]
    unfold lowD; rw [if_pos rfl]; rfl
  · have h1 : (neg && decide (0 < X)) = neg := by rw [decide_eq_true (Nat.pos_of_ne_zero h), Bool.and_true]
    rw [h1]
    refine ⟨rfl, ?_⟩
    have h2 : Y / Nat.gcd X Y ≠ 0 := by
      have := Nat.div_pos (Nat.le_of_dvd (Nat.pos_of_ne_zero hY) (Nat.gcd_dvd_right X Y)) (Nat.gcd_pos_of_pos_right X (Nat.pos_of_ne_zero hY))
      omega
    unfold lowD denOf
    rw [if_neg h, if_neg h2]
theorem can_whole (z : Int) : canN z 1 = z ∧ canD z 1 = 1 := by
  unfold canN canD
  rw [Nat.gcd_one_right, Nat.div_one, Nat.div_one]
  exact ⟨sgn_self z, rfl⟩
theorem dratio_any (d : Dc) (hok : dcE d = 0) (hl : d.dig.length ≤ 4000) (he : -4000 ≤ d.exp ∧ d.exp ≤ 7000) (w : World) (hT : Tz w) :
    Calls Tryz.prog 7 #[dcV d] w (TPost w (canN (dz d) (dp d)) (canD (dz d) (dp d))) := by
  have hdg := dc_digs hok
  obtain ⟨neg, l, exp⟩ := d
  simp only at hl he hdg
  by_cases h : exp < 0
  · obtain ⟨E, rfl⟩ : ∃ E : Nat, exp = -(E : Int) := ⟨(-exp).toNat, by omega⟩
    have e1 : dz ⟨neg, l, -(E : Int)⟩ = sgn neg (dval l) := by
      unfold dz; simp only
      rw [show (-(E : Int)).toNat = 0 by omega, Nat.pow_zero, Nat.mul_one]
    have e2 : dp ⟨neg, l, -(E : Int)⟩ = 10 ^ E := by
      unfold dp; simp only
      rw [show (-(-(E : Int))).toNat = E by omega]
    have hY : 10 ^ E ≠ 0 := by have := Nat.pow_pos (n := E) (show 0 < 10 by decide); omega
    have k := dratio_neg neg l E (by omega) (by omega) hl hok hdg w hT
    obtain ⟨c1, c2⟩ := can_sgn neg (dval l) (10 ^ E) hY
    rw [e1, e2, c1, c2]
    exact k
  · obtain ⟨E, rfl⟩ : ∃ E : Nat, exp = (E : Int) := ⟨exp.toNat, by omega⟩
    have e1 : dz ⟨neg, l, (E : Int)⟩ = sgn neg (dval l * 10 ^ E : Nat) := by
      unfold dz; simp only
      rw [Int.toNat_natCast]
    have e2 : dp ⟨neg, l, (E : Int)⟩ = 1 := by
      unfold dp; simp only
      rw [show (-(E : Int)).toNat = 0 by omega, Nat.pow_zero]
    obtain ⟨c1, c2⟩ := can_whole (sgn neg (dval l * 10 ^ E : Nat))
    rw [e1, e2, c1, c2]
    exact dratio_pos neg l E (by omega) hl hok hdg w hT
end Go.Proofs.YtdjegfnkpagdaaaGreatDoor
end
