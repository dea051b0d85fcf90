/- Lemmas of this proof, laid together: BigL, RndP, BigM, BigN, BigO0, BigO, IntA, IntB, IntF, RatA, ByP, IntC, IntD, IntE, RatB, SlO, RatC, RatD, RatE, IntG, IntH, IntI, LookQ, RatH, RatI, RndQ, BitsL, BigP. -/
import Derived.Test.YtchchnohmmncfaaGreatDoorMg16
import Derived.Deep.DeepCutAuto
import Derived.Deep.RegionWith
import Derived.Shelf.Spec.TrailingZeros
import Ieee.Arith
import Derived.Deep.LoopGhost
import Derived.Test.YtchchnohmmncfaaGreatDoorMg09
import Derived.Test.YtchchnohmmncfaaGreatDoorMg06
import Derived.Deep.Heap
import Derived.Test.YtchchnohmmncfaaGreatDoorMg11
import Derived.Test.YtchchnohmmncfaaGreatDoorMg13
import Derived.Maps.AppendAt
set_option linter.unusedSimpArgs false
set_option linter.unusedVariables false
section
/- Words of the library's: how many bits, how many noughts last. -/
namespace Go.Proofs.YtchchnohmmncfaaGreatDoor
open Go.RowKit
attribute [local go_sem] sz2 sz3 sz4 sz5 sz6 sz7 sz8
set_option maxHeartbeats 4000000
set_option maxRecDepth 100000
attribute [local irreducible] Calls
/-- How many bits a number has. -/
def bitsOf (a : Nat) : Nat := if a = 0 then 0 else a.log2 + 1
theorem bitsOf_eq {a k : Nat} (h1 : 2 ^ k ≤ a) (h2 : a < 2 ^ (k + 1)) : bitsOf a = k + 1 := by
  have h0 : a ≠ 0 := by have := Nat.two_pow_pos k; omega
  unfold bitsOf
  rw [if_neg h0, (Nat.log2_eq_iff h0).2 ⟨h1, h2⟩]
theorem bitsOf_spec {a : Nat} (h0 : a ≠ 0) : 0 < bitsOf a ∧ 2 ^ (bitsOf a - 1) ≤ a ∧ a < 2 ^ bitsOf a := by
  unfold bitsOf
  rw [if_neg h0]
  exact ⟨by omega, Nat.log2_self_le h0, Nat.lt_log2_self⟩
theorem bitsOf_top {a m top : Nat} (hm : (lim a).length = m + 1) (ht : (lim a).getD m 0 = top) : bitsOf a = 32 * m + Lib.bitLen top ∧ top ≠ 0 ∧ top < 4294967296 ∧ Lib.bitLen top ≤ 32 := by
  have ha0 : a ≠ 0 := by rintro rfl; rw [lim_zero] at hm; simp at hm
  have ht0 : top ≠ 0 := by have := lim_last ha0; rwa [hm, Nat.add_sub_cancel, ht] at this
  have htb : top < 4294967296 := by rw [← ht]; exact lb_getD (lb_lim a) _
  have hb := Lib.bitLenAux_bounds 64 top (by omega) ht0
  have hl : Lib.bitLen top ≤ 32 := Lib.bitLen_le top 32 (by omega) (by omega)
  change 1 ≤ Lib.bitLen top ∧ 2 ^ (Lib.bitLen top - 1) ≤ top ∧ top < 2 ^ Lib.bitLen top at hb
  obtain ⟨h1, h2, h3⟩ := hb
  refine ⟨?_, ht0, htb, hl⟩
  have hlt : a < Bs ^ (m + 1) := by have := lim_lt a; rwa [hm] at this
  have hpk : 0 < Bs ^ m := Nat.pow_pos (by decide)
  have hdiv : a / Bs ^ m = top := by
    rw [limb_at, Nat.mod_eq_of_lt] at ht
    · exact ht
    · rw [Nat.div_lt_iff_lt_mul hpk, Nat.mul_comm, ← Nat.pow_succ]; exact hlt
  have hlo : Bs ^ m * top ≤ a := by rw [← hdiv, Nat.mul_comm]; exact Nat.div_mul_le_self _ _
  have hhi : a < Bs ^ m * (top + 1) := by rw [← hdiv]; exact Nat.lt_mul_div_succ a hpk
  have hB : Bs ^ m = 2 ^ (32 * m) := by rw [Nat.pow_mul]
  have e : 32 * m + Lib.bitLen top = (32 * m + (Lib.bitLen top - 1)) + 1 := by omega
  rw [e]
  refine bitsOf_eq ?_ ?_
  · rw [Nat.pow_add, ← hB]
    exact Nat.le_trans (Nat.mul_le_mul_left _ h2) hlo
  · rw [← e, Nat.pow_add, ← hB]
    exact Nat.lt_of_lt_of_le hhi (Nat.mul_le_mul_left _ h3)
theorem bw_bitLen (A : Option Addr) (n c a : Nat) (hn : n ≤ 1000000) (w : World) (hA : Rd w A n c (lim a)) :
    Calls Tryz.prog 129 #[.slice A n c] w fun e w' => e = .returned (.int .i64 (bitsOf a : Nat)) ∧ Ext w w' := by
  have hmx := hA.mx
  have hcx := hA.cap
  have hl := hA.len
  by_cases h0 : n = 0
  · subst h0
    have ha : a = 0 := lim_nil.1 (List.eq_nil_of_length_eq_zero hl)
    have hb : bitsOf a = 0 := by rw [ha]; rfl
    rw [hb]
    clear hA hl ha hb
    go_enter Tryz.func129, Tryz.ntmps129
    go_wp2
    refine bodyPost_ret (v := .int .i64 0) ?h rfl ⟨rfl, ext_refl _⟩
    case h => simp [results, Tryz.results129, go_sem]
  · obtain ⟨k, rfl⟩ : ∃ k, n = k + 1 := ⟨n - 1, by omega⟩
    obtain ⟨bv, ov, hBe⟩ : ∃ b off, A = some ⟨b, off, none⟩ := by
      rcases hA.shape with ⟨_, h, _⟩ | h
      · omega
      · exact h
    subst hBe
    obtain ⟨top, ht, htb, hct⟩ := hA.get k (by omega)
    obtain ⟨hb, -, -, hbl⟩ := bitsOf_top hl ht.out
    rw [hb]
    have hk : ((k : Int) + 1 == 0) = false := by rw [beq_eq_false_iff_ne]; omega
    clear hA hl hb ht
    go_enter Tryz.func129, Tryz.ntmps129
    go_wp2_with (first
      | (go_at_call 132; (with_reducible refine (Tryz.bits_Len32 (top : Int) _ (by omega) (by omega)).mono ?_); rintro e w2 ⟨rfl, rfl⟩; simp only [Int.toNat_natCast])
     )
    refine bodyPost_ret (v := .int .i64 ↑(32 * k + Lib.bitLen top)) ?h rfl ⟨rfl, ext_refl _⟩
    case h => simp [results, Tryz.results129, go_sem]
/-- How many bits of nought a number ends with (0 of 0). -/
def zz (a : Nat) : Nat := if a = 0 then 0 else Lib.ctzFrom a a
theorem zz_spec {a : Nat} (h : a ≠ 0) : ∃ m, a = 2 ^ zz a * (2 * m + 1) := by
  unfold zz
  rw [if_neg h]
  obtain ⟨m, hm, -⟩ := Lib.ctzFrom_spec a a (by omega) Nat.lt_two_pow_self
  exact ⟨m, hm⟩
theorem odd_pow : ∀ (i j m n : Nat), 2 ^ i * (2 * m + 1) = 2 ^ j * (2 * n + 1) → i = j
  | 0, 0, _, _, _ => rfl
  | 0, j + 1, m, n, h => by rw [Nat.pow_zero, Nat.pow_succ, Nat.mul_comm (2 ^ j), Nat.mul_assoc] at h; omega
  | i + 1, 0, m, n, h => by rw [Nat.pow_zero, Nat.pow_succ, Nat.mul_comm (2 ^ i), Nat.mul_assoc] at h; omega
  | i + 1, j + 1, m, n, h => by
    rw [Nat.pow_succ, Nat.pow_succ, Nat.mul_comm (2 ^ i), Nat.mul_comm (2 ^ j), Nat.mul_assoc, Nat.mul_assoc] at h
    rw [odd_pow i j m n (by omega)]
theorem zz_eq {a k m : Nat} (h : a = 2 ^ k * (2 * m + 1)) : zz a = k := by
  have h0 : a ≠ 0 := by have := Nat.mul_pos (Nat.two_pow_pos k) (show 0 < 2 * m + 1 by omega); omega
  obtain ⟨n, hn⟩ := zz_spec h0
  exact odd_pow _ _ _ _ (hn.symm.trans h)
theorem zz_at {a n x : Nat} (h0 : val ((lim a).take n) = 0) (hx : (lim a).getD n 0 = x) (hx0 : x ≠ 0) (hxb : x < 4294967296) : zz a = 32 * n + Lib.ctz 32 x ∧ Lib.ctz 32 x < 32 := by
  obtain ⟨m, hm, hk⟩ := Lib.ctzFrom_spec 32 x (by omega) (by omega)
  have e : Lib.ctz 32 x = Lib.ctzFrom 32 x := by unfold Lib.ctz; rw [if_neg hx0]
  rw [e]
  refine ⟨?_, hk⟩
  generalize Lib.ctzFrom 32 x = k at *
  rw [val_take_lim] at h0
  rw [limb_at] at hx
  have h1 := Nat.mod_add_div a (Bs ^ n)
  rw [h0, Nat.zero_add] at h1
  have h2 := Nat.mod_add_div (a / Bs ^ n) Bs
  rw [hx] at h2
  have e3 : Bs = 2 ^ k * (2 * 2 ^ (31 - k)) := by
    rw [Nat.mul_comm 2, ← Nat.pow_succ, ← Nat.pow_add, show k + (31 - k).succ = 32 by omega]
  refine zz_eq (m := m + 2 ^ (31 - k) * (a / Bs ^ n / Bs)) ?_
  rw [Nat.pow_add, Nat.pow_mul, Nat.mul_assoc]
  change a = Bs ^ n * _
  have e4 : a / Bs ^ n = 2 ^ k * (2 * (m + 2 ^ (31 - k) * (a / Bs ^ n / Bs)) + 1) := by
    have e5 : Bs * (a / Bs ^ n / Bs) = 2 ^ k * (2 * (2 ^ (31 - k) * (a / Bs ^ n / Bs))) := by
      rw [← Nat.mul_assoc 2, ← Nat.mul_assoc, ← e3]
    rw [e5] at h2
    rw [Nat.mul_add, show 2 * (m + 2 ^ (31 - k) * (a / Bs ^ n / Bs)) = 2 * m + 2 * (2 ^ (31 - k) * (a / Bs ^ n / Bs)) by omega, Nat.mul_add]
    rw [Nat.mul_add] at hm
    omega
  rw [← e4]; exact h1.symm
/-- The table of the library's stands as it was laid. -/
def Tz (w : World) : Prop := TabAt 3 Lib.deBruijn32tab w
theorem Tz.ext {w w' : World} (h : Tz w) (he : Ext w w') : Tz w' := fun j hj => by
  have h1 := h j hj
  have hb : 3 < w.heap.size := by
    refine Nat.lt_of_not_le fun hle => ?_
    simp [World.cell?, Array.getElem?_eq_none hle] at h1
  rw [(ext_use he).1 _ _ hb]; exact h1
theorem bw_tz_core (x k idx : Nat) (w : World) (h0 : ((x : Int) == 0) = false) (key : bits BinOp.and IntKind.u32 (x : Int) (-(x : Int) % 4294967296) * 125613361 % 4294967296 / 134217728 = (idx : Int)) (hi' : idx < 32) (hk : k < 32) (hcell : w.cell? ⟨3, idx, none⟩ = some (.int .u8 k)) :
    Calls Tryz.prog 124 #[.int .u32 (x : Int)] w fun e w' => e = .returned (.int .i64 (k : Nat)) ∧ w = w' := by
  go_enter Tryz.func124, Tryz.ntmps124
  go_wp2_with (simp only [key])
  go_ret
  exact ⟨rfl, rfl⟩
theorem bw_tz (x : Nat) (hx0 : x ≠ 0) (hx : x < 4294967296) (w : World) (hT : Tz w) :
    Calls Tryz.prog 124 #[.int .u32 (x : Int)] w fun e w' => e = .returned (.int .i64 (Lib.ctz 32 x : Nat)) ∧ w = w' := by
  obtain ⟨hlow, hk⟩ := Lib.lowest_bit 32 x hx0 hx
  obtain ⟨hi, htab⟩ := Lib.deBruijn32_at _ hk
  have hcell := hT _ hi
  rw [htab] at hcell
  exact bw_tz_core x _ _ w (by simp; omega) (tz32_key x _ hx hx0 hlow) hi hk hcell
end Go.Proofs.YtchchnohmmncfaaGreatDoor
end
section
/- Rounding a fraction to a float: the plain law. -/
namespace Go.Proofs.YtchchnohmmncfaaGreatDoor
open Go.RowKit
set_option maxRecDepth 100000
/-- a/d times 2 to the power of e, as two whole numbers. -/
def tA (a : Nat) (e : Int) : Nat := a * 2 ^ e.toNat
def tD (d : Nat) (e : Int) : Nat := d * 2 ^ (-e).toNat
/-- Is 2 to the power of e not above a/d? -/
def leP (a d : Nat) (e : Int) : Prop := tD d (-e) ≤ tA a (-e)
instance (a d : Nat) (e : Int) : Decidable (leP a d e) := by unfold leP; exact inferInstance
theorem leP_at {a d : Nat} {e : Int} (K : Nat) (h : 0 ≤ e + K) : leP a d e ↔ d * 2 ^ (e + K).toNat ≤ a * 2 ^ K := by
  unfold leP tA tD
  rw [Int.neg_neg]
  have h1 : (e + K).toNat = e.toNat + (K - (-e).toNat) := by omega
  have h2 : K = (-e).toNat + (K - (-e).toNat) := by omega
  have hp : 0 < 2 ^ (K - (-e).toNat) := Nat.two_pow_pos _
  rw [h1]
  conv => rhs; rhs; rw [h2]
  rw [Nat.pow_add, Nat.pow_add, ← Nat.mul_assoc, ← Nat.mul_assoc]
  constructor
  · intro h; exact Nat.mul_le_mul_right _ h
  · intro h; exact Nat.le_of_mul_le_mul_right h hp
theorem leP_mono {a d : Nat} {e f : Int} (h : leP a d e) (hf : f ≤ e) : leP a d f := by
  have k0 : 0 ≤ f + ((-f).toNat : Nat) := by omega
  rw [leP_at (-f).toNat k0]
  rw [leP_at (-f).toNat (by omega)] at h
  refine Nat.le_trans (Nat.mul_le_mul_left _ (Nat.pow_le_pow_right (by decide) (by omega))) h
theorem leP_scale {a d g : Nat} (hg : 0 < g) (e : Int) : leP (a * g) (d * g) e ↔ leP a d e := by
  unfold leP tA tD
  rw [Nat.mul_right_comm d g, Nat.mul_right_comm a g]
  constructor
  · intro h; exact Nat.le_of_mul_le_mul_right h hg
  · intro h; exact Nat.mul_le_mul_right _ h
/-- The exponent of two of the highest bit of a/d. -/
def lgQ (a d : Nat) : Int := if tA a (-((bitsOf a : Int) - bitsOf d)) < tD d (-((bitsOf a : Int) - bitsOf d)) then (bitsOf a : Int) - bitsOf d - 1 else (bitsOf a : Int) - bitsOf d
theorem lgQ_spec {a d : Nat} (ha : 0 < a) (hd : 0 < d) : leP a d (lgQ a d) ∧ ¬ leP a d (lgQ a d + 1) := by
  obtain ⟨a1, a2, a3⟩ := bitsOf_spec (a := a) (by omega)
  obtain ⟨d1, d2, d3⟩ := bitsOf_spec (a := d) (by omega)
  have hlo : leP a d ((bitsOf a : Int) - bitsOf d - 1) := by
    rw [leP_at (bitsOf d) (by omega)]
    have e1 : ((bitsOf a : Int) - bitsOf d - 1 + (bitsOf d : Nat)).toNat = bitsOf a - 1 := by omega
    rw [e1]
    calc d * 2 ^ (bitsOf a - 1) ≤ 2 ^ bitsOf d * 2 ^ (bitsOf a - 1) := Nat.mul_le_mul_right _ (by omega)
      _ = 2 ^ (bitsOf a - 1) * 2 ^ bitsOf d := Nat.mul_comm _ _
      _ ≤ a * 2 ^ bitsOf d := Nat.mul_le_mul_right _ a2
  have hhi : ¬ leP a d ((bitsOf a : Int) - bitsOf d + 1) := by
    rw [leP_at (bitsOf d) (by omega)]
    have e1 : ((bitsOf a : Int) - bitsOf d + 1 + (bitsOf d : Nat)).toNat = bitsOf a + 1 := by omega
    rw [e1]
    intro h
    have h1 : 2 ^ (bitsOf d - 1) * 2 ^ (bitsOf a + 1) ≤ a * 2 ^ bitsOf d := Nat.le_trans (Nat.mul_le_mul_right _ d2) h
    have h2 : a * 2 ^ bitsOf d < 2 ^ bitsOf a * 2 ^ bitsOf d := Nat.mul_lt_mul_of_pos_right a3 (Nat.two_pow_pos _)
    have e2 : 2 ^ (bitsOf d - 1) * 2 ^ (bitsOf a + 1) = 2 ^ bitsOf a * 2 ^ bitsOf d := by
      rw [← Nat.pow_add, ← Nat.pow_add]; congr 1; omega
    omega
  unfold lgQ
  split
  · rename_i h
    refine ⟨hlo, fun q => ?_⟩
    rw [show (bitsOf a : Int) - bitsOf d - 1 + 1 = (bitsOf a : Int) - bitsOf d by omega] at q
    unfold leP at q
    omega
  · rename_i h
    exact ⟨by unfold leP; omega, hhi⟩
theorem lgQ_eq {a d : Nat} (ha : 0 < a) (hd : 0 < d) {e : Int} (h1 : leP a d e) (h2 : ¬ leP a d (e + 1)) : lgQ a d = e := by
  obtain ⟨k1, k2⟩ := lgQ_spec ha hd
  rcases Int.lt_trichotomy (lgQ a d) e with q | q | q
  · exact absurd (leP_mono h1 (by omega)) k2
  · exact q
  · exact absurd (leP_mono k1 (by omega)) h2
theorem lgQ_scale {a d g : Nat} (ha : 0 < a) (hd : 0 < d) (hg : 0 < g) : lgQ (a * g) (d * g) = lgQ a d := by
  obtain ⟨k1, k2⟩ := lgQ_spec ha hd
  exact lgQ_eq (Nat.mul_pos ha hg) (Nat.mul_pos hd hg) ((leP_scale hg _).2 k1) (fun q => k2 ((leP_scale hg _).1 q))
/-- Does the one farther from nought stand for what lies between? (even, away, zero, up, down) -/
def upM (mode : Nat) (neg odd : Bool) (h : Int) : Bool :=
  if mode = 0 then decide (0 < h) || (decide (h = 0) && odd) else if mode = 1 then decide (0 ≤ h) else if mode = 2 then false else if mode = 3 then !neg else neg
/-- a/d rounded to a whole number. -/
def rdQ (mode : Nat) (neg : Bool) (a d : Nat) : Nat := if a % d = 0 then a / d else if upM mode neg (decide (a / d % 2 = 1)) (cmpN (2 * (a % d)) d) = true then a / d + 1 else a / d
theorem cmpN_scale {a b g : Nat} (hg : 0 < g) : cmpN (a * g) (b * g) = cmpN a b := by
  unfold cmpN
  simp only [Nat.mul_lt_mul_right hg]
theorem rdQ_scale {mode : Nat} {neg : Bool} {a d g : Nat} (hg : 0 < g) : rdQ mode neg (a * g) (d * g) = rdQ mode neg a d := by
  unfold rdQ
  have e1 : a * g / (d * g) = a / d := Nat.mul_div_mul_right _ _ hg
  have e2 : a * g % (d * g) = a % d * g := Nat.mul_mod_mul_right _ _ _
  have e3 : a % d * g = 0 ↔ a % d = 0 := by
    constructor
    · intro h
      rcases Nat.mul_eq_zero.1 h with h | h
      · exact h
      · omega
    · intro h; rw [h, Nat.zero_mul]
  rw [e1, e2, show 2 * (a % d * g) = 2 * (a % d) * g from (Nat.mul_assoc ..).symm, cmpN_scale hg]
  by_cases h : a % d = 0
  · rw [if_pos h, if_pos (e3.2 h)]
  · rw [if_neg h, if_neg (fun q => h (e3.1 q))]
theorem rdQ_le (mode : Nat) (neg : Bool) (a d : Nat) : a / d ≤ rdQ mode neg a d ∧ rdQ mode neg a d ≤ a / d + 1 := by
  unfold rdQ
  split
  · omega
  · split <;> omega
/-- The bias of a form. -/
def biasF (E : Nat) : Int := 2 ^ (E - 1) - 1
/-- What is gone over when a/d is rounded: the exponent, the low one, the whole number, and whether it is the number. -/
def lowQ (E a d : Nat) : Int := max (lgQ a d) (1 - biasF E)
def manQ (E F mode : Nat) (neg : Bool) (a d : Nat) : Nat := rdQ mode neg (tA a (F - lowQ E a d)) (tD d (F - lowQ E a d))
def sameQ (E F a d : Nat) : Bool := decide (tA a (F - lowQ E a d) % tD d (F - lowQ E a d) = 0)
def rungQ (E F mode : Nat) (neg : Bool) (a d : Nat) : Nat := manQ E F mode neg a d + (lowQ E a d + biasF E - 1).toNat * 2 ^ F
def infQ (E F : Nat) : Nat := 2 ^ (E + F) - 2 ^ F
def overQ (E F mode : Nat) (neg : Bool) (a d : Nat) : Bool := decide (biasF E < lowQ E a d) || decide (infQ E F ≤ rungQ E F mode neg a d)
/-- The bits to which a/d is rounded, without a sign. -/
def bitsQ (E F mode : Nat) (neg : Bool) (a d : Nat) : Nat :=
  if overQ E F mode neg a d = true then (if mode = 2 ∨ (mode = 3 ∧ neg = true) ∨ (mode = 4 ∧ neg = false) then infQ E F - 1 else infQ E F) else rungQ E F mode neg a d
def underQ (E F mode : Nat) (neg : Bool) (a d : Nat) : Bool :=
  (!sameQ E F a d) && decide (lgQ a d < 1 - biasF E) && (decide (lgQ a d < -biasF E) || decide (bitsOf (rdQ mode neg (tA a (F - lgQ a d)) (tD d (F - lgQ a d))) ≤ F + 1))
def flagQ (E F mode : Nat) (neg : Bool) (a d : Nat) : Nat :=
  if overQ E F mode neg a d = true then 3 else if sameQ E F a d = true then 0 else if underQ E F mode neg a d = true then 5 else 1
theorem tA_scale (a g : Nat) (e : Int) : tA (a * g) e = tA a e * g := by unfold tA; rw [Nat.mul_right_comm]
theorem tD_scale (d g : Nat) (e : Int) : tD (d * g) e = tD d e * g := by unfold tD; rw [Nat.mul_right_comm]
theorem bitsQ_scale {E F mode : Nat} {neg : Bool} {a d g : Nat} (ha : 0 < a) (hd : 0 < d) (hg : 0 < g) : bitsQ E F mode neg (a * g) (d * g) = bitsQ E F mode neg a d := by
  unfold bitsQ overQ rungQ manQ lowQ
  rw [lgQ_scale ha hd hg, tA_scale, tD_scale, rdQ_scale hg]
/-- The same worth, the same bits. -/
theorem bitsQ_eq {E F mode : Nat} {neg : Bool} {a d b c : Nat} (ha : 0 < a) (hd : 0 < d) (hb : 0 < b) (hc : 0 < c) (h : a * c = b * d) : bitsQ E F mode neg a d = bitsQ E F mode neg b c := by
  rw [← bitsQ_scale ha hd hc, ← bitsQ_scale hb hc hd, h, Nat.mul_comm d c]
end Go.Proofs.YtchchnohmmncfaaGreatDoor
end
section
/- Words of the library's: the first 64 bits; two rows blended. -/
namespace Go.Proofs.YtchchnohmmncfaaGreatDoor
open Go.RowKit
attribute [local go_sem] sz2 sz3 sz4 sz5 sz6 sz7 sz8
set_option maxHeartbeats 4000000
set_option maxRecDepth 100000
attribute [local irreducible] Calls
theorem bits_or64 (a b : Nat) (ha : a < 18446744073709551616) (hb : b < 18446744073709551616) : bits BinOp.or IntKind.u64 (a : Int) (b : Int) = ((a ||| b : Nat) : Int) := by
  have h1 : (BitVec.ofInt 64 (a : Int)).toNat = a := by rw [BitVec.ofInt_natCast, BitVec.toNat_ofNat]; exact Nat.mod_eq_of_lt (by omega)
  have h2 : (BitVec.ofInt 64 (b : Int)).toNat = b := by rw [BitVec.ofInt_natCast, BitVec.toNat_ofNat]; exact Nat.mod_eq_of_lt (by omega)
  show IntKind.u64.wrap ((BitVec.ofInt 64 (a : Int) ||| BitVec.ofInt 64 (b : Int)).toNat : Int) = _
  rw [BitVec.toNat_or, h1, h2, IntKind.wrap_u64]
  have h3 : a ||| b < 2 ^ 64 := Nat.or_lt_two_pow ha hb
  omega
theorem bits_or64_0 (a : Nat) (ha : a < 18446744073709551616) : bits BinOp.or IntKind.u64 (a : Int) 0 = (a : Int) := by have := bits_or64 a 0 ha (by decide); rwa [Nat.or_zero] at this
/-- The three words behind the first 64 bits. -/
theorem top_parts {D s y0 y1 y2 : Nat} (hs : s < 32) (h0 : y0 = D % Bs) (h1 : y1 = D / Bs % Bs) (h2 : y2 = D / Bs / Bs % Bs) :
    IntKind.u64.wrap ((y2 : Int) * 2 ^ (64 - s)) = ((2 ^ (64 - s) * (y2 % 2 ^ s) : Nat) : Int) ∧
    bits BinOp.or IntKind.u64 ((2 ^ (64 - s) * (y2 % 2 ^ s) : Nat) : Int) (IntKind.u64.wrap ((y1 : Int) * 2 ^ (32 - s))) = ((2 ^ (64 - s) * (y2 % 2 ^ s) + 2 ^ (32 - s) * y1 : Nat) : Int) ∧
    bits BinOp.or IntKind.u64 ((2 ^ (64 - s) * (y2 % 2 ^ s) + 2 ^ (32 - s) * y1 : Nat) : Int) ((y0 / 2 ^ s : Nat) : Int) = ((2 ^ (64 - s) * (y2 % 2 ^ s) + 2 ^ (32 - s) * y1 + y0 / 2 ^ s : Nat) : Int) ∧
    2 ^ (64 - s) * (y2 % 2 ^ s) + 2 ^ (32 - s) * y1 + y0 / 2 ^ s = D / 2 ^ s % 18446744073709551616 := by
  obtain ⟨p1, p2, p3⟩ := pow_s hs
  have b0 : y0 < Bs := by rw [h0]; exact Nat.mod_lt _ (by decide)
  have b1 : y1 < Bs := by rw [h1]; exact Nat.mod_lt _ (by decide)
  have b2 : y2 < Bs := by rw [h2]; exact Nat.mod_lt _ (by decide)
  have e64 : 2 ^ (64 - s) = 2 ^ (32 - s) * 4294967296 := by rw [show 64 - s = (32 - s) + 32 by omega, Nat.pow_add]
  have q1 : 2 ^ s * 2 ^ (64 - s) = 18446744073709551616 := by rw [← Nat.pow_add, show s + (64 - s) = 64 by omega]
  have hp32 : 0 < 2 ^ (32 - s) := Nat.two_pow_pos _
  have hm : y2 % 2 ^ s < 2 ^ s := Nat.mod_lt _ p2
  have t2 : 2 ^ (64 - s) * (y2 % 2 ^ s) + 2 ^ (64 - s) ≤ 18446744073709551616 := by
    have := Nat.mul_le_mul_left (2 ^ (64 - s)) (show y2 % 2 ^ s + 1 ≤ 2 ^ s from hm)
    rw [Nat.mul_comm (2 ^ (64 - s)) (2 ^ s), q1, Nat.mul_add, Nat.mul_one] at this; exact this
  have t1 : 2 ^ (32 - s) * y1 + 2 ^ (32 - s) ≤ 2 ^ (64 - s) := by
    have := Nat.mul_le_mul_left (2 ^ (32 - s)) (show y1 + 1 ≤ 4294967296 from b1)
    rw [Nat.mul_add, Nat.mul_one] at this; rw [e64]; exact this
  have t0 : y0 / 2 ^ s < 2 ^ (32 - s) := by
    rw [Nat.div_lt_iff_lt_mul p2, Nat.mul_comm, p1]; exact b0
  refine ⟨?_, ?_, ?_, ?_⟩
  · have e : 2 ^ (64 - s) * (y2 % 2 ^ s) = y2 * 2 ^ (64 - s) % 18446744073709551616 := by
      rw [← q1, Nat.mul_comm y2, Nat.mul_comm (2 ^ s), Nat.mul_mod_mul_left]
    have e' : (y2 : Int) * 2 ^ (64 - s) = ((y2 * 2 ^ (64 - s) : Nat) : Int) := by simp
    rw [e', IntKind.wrap_u64, e]
    omega
  · have e' : (y1 : Int) * 2 ^ (32 - s) = ((2 ^ (32 - s) * y1 : Nat) : Int) := by rw [Nat.mul_comm]; simp
    have e2 : IntKind.u64.wrap ((y1 : Int) * 2 ^ (32 - s)) = ((2 ^ (32 - s) * y1 : Nat) : Int) := by
      rw [e', IntKind.wrap_u64]
      generalize 2 ^ (32 - s) * y1 = u at *
      omega
    rw [e2, bits_or64 _ _ (by omega) (by omega), Nat.or_comm, or_add (by omega)]
  · rw [bits_or64 _ _ (by omega) (by omega), Nat.or_comm]
    rw [show 2 ^ (64 - s) * (y2 % 2 ^ s) + 2 ^ (32 - s) * y1 = 2 ^ (32 - s) * (4294967296 * (y2 % 2 ^ s) + y1) by rw [e64, Nat.mul_add, Nat.mul_assoc]]
    rw [or_add t0]
  · have d1 := Nat.mod_add_div D Bs
    have d2 := Nat.mod_add_div (D / Bs) Bs
    have d3 := Nat.mod_add_div (D / Bs / Bs) Bs
    rw [← h0] at d1
    rw [← h1] at d2
    rw [← h2] at d3
    generalize D / Bs / Bs / Bs = r at d3
    have e1 : D = y0 + 2 ^ s * (2 ^ (32 - s) * y1 + 2 ^ (64 - s) * (y2 + Bs * r)) := by
      have f1 : 2 ^ s * (2 ^ (32 - s) * y1) = Bs * y1 := by rw [← Nat.mul_assoc, p1]
      have f2 : 2 ^ s * (2 ^ (64 - s) * (y2 + Bs * r)) = Bs * (Bs * (D / Bs / Bs)) := by rw [← Nat.mul_assoc, q1, d3, ← Nat.mul_assoc Bs Bs, show Bs * Bs = 18446744073709551616 by decide]
      rw [Nat.mul_add, f1, f2]
      have f3 : Bs * (D / Bs) = Bs * y1 + Bs * (Bs * (D / Bs / Bs)) := by rw [← Nat.mul_add, d2]
      omega
    have e2 : D / 2 ^ s = y0 / 2 ^ s + (2 ^ (32 - s) * y1 + 2 ^ (64 - s) * (y2 + Bs * r)) := by
      rw [e1, Nat.add_mul_div_left _ _ p2]
    have e3 : 2 ^ (64 - s) * (y2 + Bs * r) = 2 ^ (64 - s) * (y2 % 2 ^ s) + 18446744073709551616 * (y2 / 2 ^ s + 2 ^ (32 - s) * r) := by
      have g1 := Nat.mod_add_div y2 (2 ^ s)
      have g2 : y2 + Bs * r = y2 % 2 ^ s + 2 ^ s * (y2 / 2 ^ s + 2 ^ (32 - s) * r) := by
        rw [Nat.mul_add, ← Nat.mul_assoc, p1]
        show _ = _ + (_ + Bs * r)
        omega
      rw [g2, Nat.mul_add, ← Nat.mul_assoc, Nat.mul_comm (2 ^ (64 - s)) (2 ^ s), q1]
    obtain ⟨X, hX⟩ : ∃ X, X = 2 ^ (64 - s) * (y2 % 2 ^ s) + 2 ^ (32 - s) * y1 + y0 / 2 ^ s := ⟨_, rfl⟩
    have hXb : X < 18446744073709551616 := by omega
    have e4 : D / 2 ^ s = X + 18446744073709551616 * (y2 / 2 ^ s + 2 ^ (32 - s) * r) := by rw [e2, e3, hX]; omega
    rw [e4, ← hX, Nat.add_mul_mod_self_left, Nat.mod_eq_of_lt hXb]
end Go.Proofs.YtchchnohmmncfaaGreatDoor
end
section
/- Words of the library's: two rows blended. -/
namespace Go.Proofs.YtchchnohmmncfaaGreatDoor
open Go.RowKit
attribute [local go_sem] sz2 sz3 sz4 sz5 sz6 sz7 sz8
set_option maxHeartbeats 4000000
set_option maxRecDepth 100000
attribute [local irreducible] Calls
theorem prod_bound {p : Int} {x : Nat} (h1 : -1073741824 < p) (h2 : p < 1073741824) (hx : x < 4294967296) : -4611686014132420609 ≤ p * (x : Int) ∧ p * (x : Int) ≤ 4611686014132420609 := by
  rcases Int.le_total 0 p with h | h
  · have h3 : p * (x : Int) ≤ 1073741823 * 4294967295 := Int.mul_le_mul (by omega) (by omega) (by omega) (by omega)
    have h4 : 0 ≤ p * (x : Int) := Int.mul_nonneg h (by omega)
    omega
  · have h3 : (-p) * (x : Int) ≤ 1073741823 * 4294967295 := Int.mul_le_mul (by omega) (by omega) (by omega) (by omega)
    have h4 : 0 ≤ (-p) * (x : Int) := Int.mul_nonneg (by omega) (by omega)
    rw [Int.neg_mul] at h3 h4
    omega
theorem cast_step (v k z : Nat) : ((v + Bs ^ k * z : Nat) : Int) = (v : Int) + (Bs : Int) ^ k * (z : Int) := by rw [Int.natCast_add, Int.natCast_mul, Int.natCast_pow]
theorem blend_step {os xs ys : List Nat} {i x y : Nat} {p q cy t : Int} (hl : i < os.length) (h : (val (os.take i) : Int) + (Bs : Int) ^ i * cy = p * (val (xs.take i) : Int) + q * (val (ys.take i) : Int)) (hx : xs.getD i 0 = x) (hy : ys.getD i 0 = y) (ht : t = p * (x : Int) + q * (y : Int) + cy) :
    (val ((os.set i (t % 4294967296).toNat).take (i + 1)) : Int) + (Bs : Int) ^ (i + 1) * (t / 4294967296) = p * (val (xs.take (i + 1)) : Int) + q * (val (ys.take (i + 1)) : Int) := by
  have e5 : (os.set i (t % 4294967296).toNat).getD i 0 = (t % 4294967296).toNat := by
    rw [List.getD_eq_getElem?_getD, List.getElem?_set_self hl, Option.getD_some]
  rw [val_take_succ, val_take_succ, val_take_succ, take_set_self, e5, hx, hy]
  have e1 : ((t % 4294967296).toNat : Int) = t % 4294967296 := Int.toNat_of_nonneg (Int.emod_nonneg _ (by decide))
  have e2 : t % 4294967296 + 4294967296 * (t / 4294967296) = t := Int.emod_add_mul_ediv t 4294967296
  rw [cast_step, cast_step, cast_step, e1, Int.pow_succ, Int.mul_assoc]
  have e3 : (Bs : Int) ^ i * (t % 4294967296) + (Bs : Int) ^ i * ((Bs : Int) * (t / 4294967296)) = (Bs : Int) ^ i * t := by
    rw [← Int.mul_add]
    show _ * (t % 4294967296 + 4294967296 * (t / 4294967296)) = _
    rw [e2]
  have e4 : (Bs : Int) ^ i * t = p * ((Bs : Int) ^ i * x) + q * ((Bs : Int) ^ i * y) + (Bs : Int) ^ i * cy := by
    rw [ht, Int.mul_add, Int.mul_add, Int.mul_left_comm, Int.mul_left_comm ((Bs : Int) ^ i) q]
  rw [Int.mul_add p, Int.mul_add q]
  omega
end Go.Proofs.YtchchnohmmncfaaGreatDoor
end
section
/- The greatest common divisor by several steps at once (Lehmer's way): the plain part. -/
namespace Go.Proofs.YtchchnohmmncfaaGreatDoor
structure Leh (X Y : Nat) (e : Int) (x y u0 u1 u2 v0 v1 v2 : Nat) : Prop where
  he : e = 1 ∨ e = -1
  hx : (x : Int) = e * ((u1 : Int) * X - v1 * Y)
  hy : (y : Int) = -e * ((u2 : Int) * X - v2 * Y)
  hd : e * ((u1 : Int) * v2 - u2 * v1) = 1
  hyx : y ≤ x
  hv : v1 ≤ v2 ∧ 1 ≤ v2 ∧ u2 ≤ v2
  hu : u1 ≤ v1 ∨ (u1 = 1 ∧ v1 = 0 ∧ u2 = 0 ∧ v2 = 1)
  hp : v0 = 0 ∨ (1 ≤ v0 ∧ u0 ≤ v0 ∧ u1 ≤ v1 ∧ v0 ≤ v1 ∧ v1 ≤ x ∧ v1 < 1073741824 ∧ ∃ xp : Nat, (xp : Int) = -e * ((u0 : Int) * X - v0 * Y) ∧ -e * ((u0 : Int) * v1 - u1 * v0) = 1 ∧ x + v0 + v1 ≤ xp)
theorem Leh.start {X Y : Nat} (h : Y ≤ X) : Leh X Y 1 X Y 0 1 0 0 0 1 :=
  ⟨.inl rfl, by simp, by simp, by simp, h, ⟨by omega, by omega, by omega⟩, .inr ⟨rfl, rfl, rfl, rfl⟩, .inl rfl⟩
theorem Leh.whole {X Y : Nat} {e : Int} {x y u0 u1 u2 v0 v1 v2 : Nat} (h : Leh X Y e x y u0 u1 u2 v0 v1 v2) : x * v2 + y * v1 = X := by
  have h1 := h.hx
  have h2 := h.hy
  have h3 := h.hd
  have : ((x * v2 + y * v1 : Nat) : Int) = (X : Int) := by
    rw [Int.natCast_add, Int.natCast_mul, Int.natCast_mul]
    rcases h.he with he | he <;> subst he <;> grind
  exact Int.ofNat.inj this
theorem Leh.le {X Y : Nat} {e : Int} {x y u0 u1 u2 v0 v1 v2 : Nat} (h : Leh X Y e x y u0 u1 u2 v0 v1 v2) : x ≤ X := by
  have h1 := h.whole
  have h2 := Nat.mul_le_mul_left x h.hv.2.1
  omega
theorem Leh.step {X Y : Nat} {e : Int} {x y u0 u1 u2 v0 v1 v2 : Nat} (h : Leh X Y e x y u0 u1 u2 v0 v1 v2) (hX : X < 1152921504606846976) (h1 : v2 ≤ y) (h2 : v1 + v2 ≤ x - y) :
    Leh X Y (-e) y (x % y) u1 u2 (u1 + x / y * u2) v1 v2 (v1 + x / y * v2) := by
  obtain ⟨hv1, hv2, hv3⟩ := h.hv
  have hy0 : 0 < y := by omega
  have hq : 1 ≤ x / y := (Nat.le_div_iff_mul_le hy0).2 (by have := h.hyx; omega)
  have hxy : x = x / y * y + x % y := by have := Nat.div_add_mod x y; rw [Nat.mul_comm] at this; exact this.symm
  have hm := Nat.mod_lt x hy0
  have hW := h.whole
  have ex := h.hx
  have ey := h.hy
  have ed := h.hd
  have hq1 : v2 ≤ x / y * v2 := Nat.le_mul_of_pos_left _ hq
  have hq2 : x / y * u2 ≤ x / y * v2 := Nat.mul_le_mul_left _ hv3
  generalize x / y = q at *
  generalize x % y = r at *
  have hxi : (x : Int) = (q : Int) * y + r := by rw [hxy]; simp
  refine ⟨by rcases h.he with he | he <;> subst he <;> simp, by rw [ey], ?_, ?_, by omega, ⟨by omega, by omega, ?_⟩, .inl hv3, ?_⟩
  · have : (r : Int) = (x : Int) - q * y := by omega
    rw [this, Int.natCast_add, Int.natCast_add, Int.natCast_mul, Int.natCast_mul]
    grind
  · rw [Int.natCast_add, Int.natCast_add, Int.natCast_mul, Int.natCast_mul]
    grind
  · rcases h.hu with h3 | ⟨h3, h4, h5, h6⟩
    · omega
    · subst h3 h4 h5 h6; omega
  · by_cases h0 : v1 = 0
    · exact .inl h0
    · right
      have hu1 : u1 ≤ v1 := by rcases h.hu with h3 | ⟨_, h4, _⟩ <;> omega
      have hb : v2 < 1073741824 := by
        refine Nat.lt_of_not_le fun h3 => ?_
        have h4 : 1073741824 * 1073741824 ≤ x * v2 := Nat.mul_le_mul (by omega) h3
        omega
      exact ⟨by omega, hu1, hv3, hv1, h1, hb, x, by rw [ex]; grind, by grind, by omega⟩
/-- What the blended rows come to. -/
theorem Leh.blend {X Y : Nat} {e : Int} {x y u0 u1 u2 v0 v1 v2 : Nat} (h : Leh X Y e x y u0 u1 u2 v0 v1 v2) (h0 : v0 ≠ 0) {a b M : Nat} (hX : X = a / M) (hY : Y = b / M) (hM : 0 < M) :
    ∃ A B : Nat, (A : Int) = -e * ((u0 : Int) * a - v0 * b) ∧ (B : Int) = e * ((u1 : Int) * a - v1 * b) ∧ B ≤ A ∧ A + B ≤ a ∧ Nat.gcd A B = Nat.gcd a b ∧ u0 < 1073741824 ∧ u1 < 1073741824 ∧ v0 < 1073741824 ∧ v1 < 1073741824 := by
  rcases h.hp with h1 | ⟨p1, p2, p3, p4, p5, p6, xp, p7, p8, p9⟩
  · exact absurd h1 h0
  have ex := h.hx
  obtain ⟨a', ha', hae⟩ : ∃ a', a' < M ∧ a = M * X + a' := ⟨a % M, Nat.mod_lt _ hM, by rw [hX]; exact (Nat.div_add_mod a M).symm⟩
  obtain ⟨b', hb', hbe⟩ : ∃ b', b' < M ∧ b = M * Y + b' := ⟨b % M, Nat.mod_lt _ hM, by rw [hY]; exact (Nat.div_add_mod b M).symm⟩
  have hai : (a : Int) = (M : Int) * X + a' := by rw [hae]; simp
  have hbi : (b : Int) = (M : Int) * Y + b' := by rw [hbe]; simp
  clear hX hY
  -- the rests count little
  have m1 : (u1 : Int) * a' ≤ (M : Int) * v1 := by
    have := Nat.mul_le_mul p3 (Nat.le_of_lt ha'); rw [Nat.mul_comm v1] at this; exact_mod_cast this
  have m2 : (v1 : Int) * b' ≤ (M : Int) * v1 := by
    have := Nat.mul_le_mul_left v1 (Nat.le_of_lt hb'); rw [Nat.mul_comm v1 M] at this; exact_mod_cast this
  have m3 : (u0 : Int) * a' ≤ (M : Int) * v0 := by
    have := Nat.mul_le_mul p2 (Nat.le_of_lt ha'); rw [Nat.mul_comm v0] at this; exact_mod_cast this
  have m4 : (v0 : Int) * b' ≤ (M : Int) * v0 := by
    have := Nat.mul_le_mul_left v0 (Nat.le_of_lt hb'); rw [Nat.mul_comm v0 M] at this; exact_mod_cast this
  have n1 : (0 : Int) ≤ (u1 : Int) * a' := Int.mul_nonneg (by omega) (by omega)
  have n2 : (0 : Int) ≤ (v1 : Int) * b' := Int.mul_nonneg (by omega) (by omega)
  have n3 : (0 : Int) ≤ (u0 : Int) * a' := Int.mul_nonneg (by omega) (by omega)
  have n4 : (0 : Int) ≤ (v0 : Int) * b' := Int.mul_nonneg (by omega) (by omega)
  have mx : (M : Int) * v1 ≤ (M : Int) * x := by exact_mod_cast Nat.mul_le_mul_left M p5
  have mp : (M : Int) * x + (M : Int) * v0 + (M : Int) * v1 ≤ (M : Int) * xp := by
    have := Nat.mul_le_mul_left M p9; rw [Nat.mul_add, Nat.mul_add] at this; exact_mod_cast this
  obtain ⟨A, hA⟩ : ∃ A : Int, A = -e * ((u0 : Int) * a - v0 * b) := ⟨_, rfl⟩
  obtain ⟨B, hB⟩ : ∃ B : Int, B = e * ((u1 : Int) * a - v1 * b) := ⟨_, rfl⟩
  have eB : B = (M : Int) * x + e * ((u1 : Int) * a' - v1 * b') := by rw [hB, hai, hbi, ex]; grind
  have eA : A = (M : Int) * xp - e * ((u0 : Int) * a' - v0 * b') := by rw [hA, hai, hbi, p7]; grind
  have hBn : 0 ≤ B := by rw [eB]; rcases h.he with he | he <;> subst he <;> omega
  have hBA : B ≤ A := by rw [eB, eA]; rcases h.he with he | he <;> subst he <;> omega
  have s1 : (v1 : Int) * A + v0 * B = a := by rw [hA, hB]; rcases h.he with he | he <;> subst he <;> grind
  have s2 : (u1 : Int) * A + u0 * B = b := by rw [hA, hB]; rcases h.he with he | he <;> subst he <;> grind
  obtain ⟨An, rfl⟩ : ∃ n : Nat, A = (n : Int) := ⟨A.toNat, by omega⟩
  obtain ⟨Bn, rfl⟩ : ∃ n : Nat, B = (n : Int) := ⟨B.toNat, by omega⟩
  have t1 : v1 * An + v0 * Bn = a := by exact_mod_cast s1
  have t2 : u1 * An + u0 * Bn = b := by exact_mod_cast s2
  refine ⟨An, Bn, hA, hB, by omega, ?_, ?_, by omega, by omega, by omega, by omega⟩
  · have k1 : An ≤ v1 * An := Nat.le_mul_of_pos_left _ (by omega)
    have k2 : Bn ≤ v0 * Bn := Nat.le_mul_of_pos_left _ (by omega)
    omega
  · refine Nat.dvd_antisymm (Nat.dvd_gcd ?_ ?_) (Nat.dvd_gcd ?_ ?_)
    · rw [← t1]; exact Nat.dvd_add (Nat.dvd_mul_left_of_dvd (Nat.gcd_dvd_left _ _) _) (Nat.dvd_mul_left_of_dvd (Nat.gcd_dvd_right _ _) _)
    · rw [← t2]; exact Nat.dvd_add (Nat.dvd_mul_left_of_dvd (Nat.gcd_dvd_left _ _) _) (Nat.dvd_mul_left_of_dvd (Nat.gcd_dvd_right _ _) _)
    · have g1 : ((Nat.gcd a b : Nat) : Int) ∣ a := Int.natCast_dvd_natCast.2 (Nat.gcd_dvd_left _ _)
      have g2 : ((Nat.gcd a b : Nat) : Int) ∣ b := Int.natCast_dvd_natCast.2 (Nat.gcd_dvd_right _ _)
      refine Int.natCast_dvd_natCast.1 ?_
      rw [hA]
      exact Int.dvd_mul_of_dvd_right (Int.dvd_sub (Int.dvd_mul_of_dvd_right g1) (Int.dvd_mul_of_dvd_right g2))
    · have g1 : ((Nat.gcd a b : Nat) : Int) ∣ a := Int.natCast_dvd_natCast.2 (Nat.gcd_dvd_left _ _)
      have g2 : ((Nat.gcd a b : Nat) : Int) ∣ b := Int.natCast_dvd_natCast.2 (Nat.gcd_dvd_right _ _)
      refine Int.natCast_dvd_natCast.1 ?_
      rw [hB]
      exact Int.dvd_mul_of_dvd_right (Int.dvd_sub (Int.dvd_mul_of_dvd_right g1) (Int.dvd_mul_of_dvd_right g2))
theorem zz_bits {b : Nat} (h : b ≠ 0) : zz b + 1 = bitsOf b ↔ b = 2 ^ zz b := by
  obtain ⟨m, hm⟩ := zz_spec h
  constructor
  · intro h1
    obtain ⟨-, -, h3⟩ := bitsOf_spec h
    rw [← h1, Nat.pow_succ] at h3
    rcases Nat.eq_zero_or_pos m with h0 | h0
    · subst h0; simpa using hm
    · have := Nat.mul_le_mul_left (2 ^ zz b) (show 2 ≤ 2 * m + 1 by omega)
      omega
  · intro h1
    exact (bitsOf_eq (Nat.le_of_eq h1.symm) (by rw [Nat.pow_succ]; have := Nat.two_pow_pos (zz b); omega)).symm
theorem gcd_pow {a k : Nat} (h : a ≠ 0) : Nat.gcd a (2 ^ k) = 2 ^ min (zz a) k := by
  obtain ⟨m, hm⟩ := zz_spec h
  generalize zz a = i at hm
  subst hm
  have hco : ∀ j, Nat.gcd (2 * m + 1) (2 ^ j) = 1 := fun j => Nat.Coprime.pow_right j (by rw [Nat.coprime_iff_gcd_eq_one]; show Nat.gcd (2 * m + 1) 2 = 1; rw [Nat.gcd_comm, Nat.gcd_rec]; simp [Nat.add_mod])
  rcases Nat.le_total i k with h1 | h1
  · obtain ⟨d, rfl⟩ : ∃ d, k = i + d := ⟨k - i, by omega⟩
    rw [Nat.pow_add, Nat.gcd_mul_left, hco, Nat.min_eq_left (by omega), Nat.mul_one]
  · obtain ⟨d, rfl⟩ : ∃ d, i = k + d := ⟨i - k, by omega⟩
    rw [Nat.min_eq_right (by omega), Nat.pow_add, Nat.mul_assoc]
    exact Nat.gcd_eq_right (Nat.dvd_mul_right _ _)
end Go.Proofs.YtchchnohmmncfaaGreatDoor
end
section
/- Words of the library's: the greatest common divisor. -/
namespace Go.Proofs.YtchchnohmmncfaaGreatDoor
open Go.RowKit
attribute [local go_sem] sz2 sz3 sz4 sz5 sz6 sz7 sz8
set_option maxHeartbeats 4000000
set_option maxRecDepth 100000
attribute [local irreducible] Calls
theorem bits_le (b : Nat) : bitsOf b ≤ 32 * (lim b).length := by
  by_cases h : b = 0
  · subst h; exact Nat.zero_le _
  · obtain ⟨h1, h2, -⟩ := bitsOf_spec h
    have h3 := lim_lt b
    have h4 : Bs ^ (lim b).length = 2 ^ (32 * (lim b).length) := by rw [Nat.pow_mul]
    rw [h4] at h3
    have h5 := (Nat.pow_lt_pow_iff_right (a := 2) (by decide)).1 (Nat.lt_of_le_of_lt h2 h3)
    omega
theorem zz_le (b : Nat) : zz b ≤ bitsOf b := by
  by_cases h : b = 0
  · subst h; exact Nat.le_refl _
  · obtain ⟨-, -, h1⟩ := bitsOf_spec h
    obtain ⟨k, hk⟩ := zz_spec h
    have h2 : 2 ^ zz b ≤ b := by
      have := Nat.mul_le_mul_left (2 ^ zz b) (show 1 ≤ 2 * k + 1 by omega)
      omega
    exact Nat.le_of_lt ((Nat.pow_lt_pow_iff_right (a := 2) (by decide)).1 (Nat.lt_of_le_of_lt h2 h1))
theorem one_row (w : World) : Rd (w.alloc (Obj.cells #[.int .u32 1] 38)) (some ⟨w.heap.size, 0, none⟩) 1 1 (lim 1) := by
  have e : lim 1 = [1] := by rw [lim_pos (by decide)]; simp [lim_zero, Bs]
  rw [e]
  exact Rd.made _ _ _ _ (fun x hx => by simp at hx; subst hx; decide) (by simp [u32V]) (by simp) rfl rfl
/-- Two rows, the greater one first, with the same divisors as two numbers. -/
def Two (w : World) (g : Nat) (va vb : Value) (wx : World) : Prop := ∃ (A : Option Addr) (n c : Nat) (B : Option Addr) (m d a b : Nat), va = .slice A n c ∧ vb = .slice B m d ∧ Hid (Rd wx A n c (lim a)) ∧ Hid (Rd wx B m d (lim b)) ∧ Hid (b ≤ a ∧ Nat.gcd a b = g) ∧ Hid (Ext w wx) ∧ n ≤ 400000
/-- The same, with the measure of the loop. -/
def TwoG (w : World) (g gk : Nat) (va vb : Value) (wx : World) : Prop := ∃ (A : Option Addr) (n c : Nat) (B : Option Addr) (m d a b : Nat), va = .slice A n c ∧ vb = .slice B m d ∧ Hid (Rd wx A n c (lim a)) ∧ Hid (Rd wx B m d (lim b)) ∧ Hid (b ≤ a ∧ Nat.gcd a b = g) ∧ Hid (Ext w wx) ∧ n ≤ 400000 ∧ Hid (gk = a + b)
/-- The inner loop: the first bits, and the rows. -/
def Inn (w : World) (A : Option Addr) (n c a : Nat) (B : Option Addr) (m d b : Nat) (X Y gk : Nat) (vx vy vu0 vu1 vu2 vv0 vv1 vv2 ve : Value) (wi : World) : Prop := ∃ (x y u0 u1 u2 v0 v1 v2 : Nat) (even : Bool), gk = y ∧ vx = .int .u64 (x : Int) ∧ vy = .int .u64 (y : Int) ∧ vu0 = .int .u64 (u0 : Int) ∧ vu1 = .int .u64 (u1 : Int) ∧ vu2 = .int .u64 (u2 : Int) ∧
  vv0 = .int .u64 (v0 : Int) ∧ vv1 = .int .u64 (v1 : Int) ∧ vv2 = .int .u64 (v2 : Int) ∧ ve = .bool even ∧ Hid (Leh X Y (if even then -1 else 1) x y u0 u1 u2 v0 v1 v2) ∧ Hid (v2 < 1152921504606846976) ∧ Hid (Ext w wi) ∧ Hid (Rd wi A n c (lim a)) ∧ Hid (Rd wi B m d (lim b))
end Go.Proofs.YtchchnohmmncfaaGreatDoor
end
section
/- Whole numbers of the library's: objects in memory, set. -/
namespace Go.Proofs.YtchchnohmmncfaaGreatDoor
open Go.RowKit
attribute [local go_sem] sz2 sz3 sz4 sz5 sz6 sz7 sz8
set_option maxHeartbeats 4000000
set_option maxRecDepth 100000
attribute [local irreducible] Calls
/-- Nothing that was there has turned but the block b; new blocks may have come. -/
structure Tch (b : Nat) (w w' : World) : Prop where
  os : w'.os = w.os
  tape : w'.tape = w.tape
  output : w'.output = w.output
  size : w.heap.size ≤ w'.heap.size
  block : ∀ k, k < w.heap.size → k ≠ b → w'.heap[k]? = w.heap[k]?
theorem Tch.refl (b : Nat) (w : World) : Tch b w w := ⟨rfl, rfl, rfl, Nat.le_refl _, fun _ _ _ => rfl⟩
theorem Tch.trans {b : Nat} {u v w : World} (h : Tch b u v) (k : Tch b v w) : Tch b u w :=
  ⟨k.os.trans h.os, k.tape.trans h.tape, k.output.trans h.output, Nat.le_trans h.size k.size, fun i hi hb => (k.block i (Nat.lt_of_lt_of_le hi h.size) hb).trans (h.block i hi hb)⟩
theorem Tch.of {b : Nat} {w w' : World} (h : Ext w w') : Tch b w w' := ⟨h.os, h.tape, h.output, h.size, fun i hi _ => h.block i hi⟩
theorem Tch.set {b : Nat} {u w : World} (h : Tch b u w) (o : Nat) (v : Value) : Tch b u (w.setCell ⟨b, o, none⟩ v) :=
  ⟨h.os, h.tape, h.output, by simpa using h.size, fun i hi hb => (Below.heap_setCell w ⟨b, o, none⟩ v i hb).trans (h.block i hi hb)⟩
theorem Tch.ext {b : Nat} {W w w' : World} (h : Tch b w w') (hE : Ext W w) (hb : W.heap.size ≤ b) : Ext W w' :=
  ⟨h.os.trans hE.os, h.tape.trans hE.tape, h.output.trans hE.output, Nat.le_trans hE.size h.size, fun i hi => (h.block i (Nat.lt_of_lt_of_le hi hE.size) (by omega)).trans (hE.block i hi)⟩
theorem Tch.cell {b : Nat} {w w' : World} (h : Tch b w w') {p : Addr} (hp : p.block < w.heap.size) (hb : p.block ≠ b) : w'.cell? p = w.cell? p := World.cell?_of_block (w := w) (h.block p.block hp hb)
theorem Tch.frozen {b : Nat} {w w' : World} (h : Tch b w w') {p : Addr} (hp : p.block < w.heap.size) (hb : p.block ≠ b) : w'.frozen? p = w.frozen? p := World.frozen?_of_block (w := w) (h.block p.block hp hb)
/-- A slice, if it has anything, does not lie in the block b. -/
def Off (A : Option Addr) (n b : Nat) : Prop := ∀ x, A = some x → n ≠ 0 → x.block ≠ b
theorem Fr.off {W : World} {A : Option Addr} (h : Fr W A) {b : Nat} (hb : b < W.heap.size) (n : Nat) : Off A n b := fun x hx _ e => by have := h x hx; omega
theorem Rd.tch {b : Nat} {w w' : World} {A : Option Addr} {n c : Nat} {xs : List Nat} (h : Rd w A n c xs) (ht : Tch b w w') (ho : Off A n b) : Rd w' A n c xs :=
  ⟨h.len, h.cap, h.mx, h.lb, h.none_, h.at_, fun g off hA i hi => by
    obtain ⟨h1, h2⟩ := h.cells g off hA i hi
    exact ⟨Nat.lt_of_lt_of_le h1 ht.size, (ht.cell (p := ⟨g, off + i, none⟩) h1 (ho ⟨g, off, none⟩ hA (by have := h.len; omega))).trans h2⟩⟩
theorem Rd.off {w : World} {A : Option Addr} {n c : Nat} {xs : List Nat} (h : Rd w A n c xs) {g : Nat} (hg : w.heap.size ≤ g) : Off A n g := fun x hx hn e => by
  have := h.at_ x hx
  obtain ⟨g', off, s⟩ := x
  simp only at this e
  subst this e
  have := (h.cells _ off hx 0 (by have := h.len; omega)).1
  omega
/-- Room for a whole number. -/
structure Room (w : World) (b o : Nat) : Prop where
  lt : b < w.heap.size
  c0 : ∃ v, w.cell? ⟨b, o, none⟩ = some v
  c1 : ∃ v, w.cell? ⟨b, o + 1, none⟩ = some v
  f0 : w.frozen? ⟨b, o, none⟩ = false
  f1 : w.frozen? ⟨b, o + 1, none⟩ = false
/-- A whole number stands there, with these words. -/
structure IntIs (w : World) (b o : Nat) (z : Int) (A : Option Addr) (n c : Nat) : Prop where
  room : Room w b o
  neg : w.cell? ⟨b, o, none⟩ = some (.bool (decide (z < 0)))
  words : w.cell? ⟨b, o + 1, none⟩ = some (.slice A n c)
  rd : Rd w A n c (lim z.natAbs)
  off : Off A n b
theorem Room.ext {w w' : World} {b o : Nat} (h : Room w b o) (he : Ext w w') : Room w' b o := by
  obtain ⟨hl, ⟨v, h0⟩, ⟨u, h1⟩, h2, h3⟩ := h
  exact ⟨Nat.lt_of_lt_of_le hl he.size, ⟨v, (Below.cell (p := ⟨b, o, none⟩) he hl).trans h0⟩, ⟨u, (Below.cell (p := ⟨b, o + 1, none⟩) he hl).trans h1⟩, (Below.frozen (p := ⟨b, o, none⟩) he hl).trans h2, (Below.frozen (p := ⟨b, o + 1, none⟩) he hl).trans h3⟩
theorem Room.tch {w w' : World} {b o g : Nat} (h : Room w b o) (he : Tch g w w') (hg : b ≠ g) : Room w' b o := by
  obtain ⟨hl, ⟨v, h0⟩, ⟨u, h1⟩, h2, h3⟩ := h
  exact ⟨Nat.lt_of_lt_of_le hl he.size, ⟨v, (he.cell (p := ⟨b, o, none⟩) hl hg).trans h0⟩, ⟨u, (he.cell (p := ⟨b, o + 1, none⟩) hl hg).trans h1⟩, (he.frozen (p := ⟨b, o, none⟩) hl hg).trans h2, (he.frozen (p := ⟨b, o + 1, none⟩) hl hg).trans h3⟩
theorem IntIs.ext {w w' : World} {b o : Nat} {z : Int} {A : Option Addr} {n c : Nat} (h : IntIs w b o z A n c) (he : Ext w w') : IntIs w' b o z A n c :=
  ⟨h.room.ext he, (Below.cell (p := ⟨b, o, none⟩) he h.room.lt).trans h.neg, (Below.cell (p := ⟨b, o + 1, none⟩) he h.room.lt).trans h.words, h.rd.ext he, h.off⟩
theorem IntIs.tch {w w' : World} {b o g : Nat} {z : Int} {A : Option Addr} {n c : Nat} (h : IntIs w b o z A n c) (he : Tch g w w') (hg : b ≠ g) (ho : Off A n g) : IntIs w' b o z A n c :=
  ⟨h.room.tch he hg, (he.cell (p := ⟨b, o, none⟩) h.room.lt hg).trans h.neg, (he.cell (p := ⟨b, o + 1, none⟩) h.room.lt hg).trans h.words, h.rd.tch he ho, h.off⟩
theorem int_made {w : World} {b o : Nat} {A : Option Addr} {k c : Nat} (hr : Room w b o) {z : Int} (hR : Rd w A k c (lim z.natAbs)) (ho : Off A k b) {s : Bool} (hs : s = decide (z < 0)) :
    IntIs ((w.setCell ⟨b, o + 1, none⟩ (.slice A k c)).setCell ⟨b, o, none⟩ (.bool s)) b o z A k c := by
  have ht : Tch b w ((w.setCell ⟨b, o + 1, none⟩ (.slice A k c)).setCell ⟨b, o, none⟩ (.bool s)) := ((Tch.refl b w).set _ _).set _ _
  obtain ⟨hl, ⟨v0, h0⟩, ⟨v1, h1⟩, h2, h3⟩ := hr
  have k0 : ((w.setCell ⟨b, o + 1, none⟩ (.slice A k c)).setCell ⟨b, o, none⟩ (.bool s)).cell? ⟨b, o, none⟩ = some (.bool s) := by
    refine World.cell?_setCell_same _ _ _ (u := v0) ?_
    rw [World.cell?_setCell_other _ _ _ _ (by intro e; simp at e)]; exact h0
  have k1 : ((w.setCell ⟨b, o + 1, none⟩ (.slice A k c)).setCell ⟨b, o, none⟩ (.bool s)).cell? ⟨b, o + 1, none⟩ = some (.slice A k c) := by
    rw [World.cell?_setCell_other _ _ _ _ (by intro e; simp at e)]
    exact World.cell?_setCell_same _ _ _ h1
  exact ⟨⟨by simpa using hl, ⟨_, k0⟩, ⟨_, k1⟩, by simpa using h2, by simpa using h3⟩, by rw [k0, hs], k1, hR.tch ht ho, ho⟩
theorem trimZ_lim_lim (a : Nat) : trimZ (lim a) = lim a := by rw [trimZ_lim _ (lb_lim a), val_lim]
/-- A sign and a size. -/
def sgn (neg : Bool) (a : Nat) : Int := if neg then -(a : Int) else a
theorem sgn_abs (neg : Bool) (a : Nat) : (sgn neg a).natAbs = a := by cases neg <;> simp [sgn]
theorem sgn_lt (neg : Bool) (a : Nat) : decide (sgn neg a < 0) = (neg && decide (0 < a)) := by cases neg <;> simp [sgn] <;> omega
theorem bi_setx (b o : Nat) (neg : Bool) (A : Option Addr) (n c a : Nat) (w : World) (hr : Room w b o) (hA : Rd w A n c (lim a)) (ho : Off A n b) :
    Calls Tryz.prog 141 #[.pointer (some ⟨b, o, none⟩), .bool neg, .slice A n c] w fun e w' => e = .returned (.pointer (some ⟨b, o, none⟩)) ∧ Hid (IntIs w' b o (sgn neg a) A n c) ∧ Tch b w w' ∧ Hid (∀ p, p ≠ o → p ≠ o + 1 → w'.cell? ⟨b, p, none⟩ = w.cell? ⟨b, p, none⟩ ∧ w'.frozen? ⟨b, p, none⟩ = w.frozen? ⟨b, p, none⟩) := by
  have hlen := hA.len
  have HA := Lib.hid hA
  have HR := Lib.hid hr
  obtain ⟨hl, ⟨v0, h0⟩, ⟨v1, h1⟩, h2, h3⟩ := hr
  have HO := Lib.hid ho
  have hz : a = 0 ↔ n = 0 := by rw [← hlen]; exact ⟨fun h => by rw [h, lim_zero]; rfl, fun h => lim_nil.1 (List.eq_nil_of_length_eq_zero h)⟩
  have HZ := Lib.hid (show decide (0 < n) = decide (0 < a) by rw [decide_eq_decide]; omega)
  clear ho hA hz
  cases neg
  all_goals
   go_enter Tryz.func141, Tryz.ntmps141
   go_wp2_with (first
    | (go_at_call 143; (with_reducible refine (bw_trim A n c (lim a) _ HA.out).mono ?_); rintro e w1 ⟨k, rfl, hR1, rfl⟩; rw [trimZ_lim_lim] at hR1; obtain rfl : n = k := by rw [← hlen]; exact hR1.len)
    )
   refine bodyPost_ret (v := .pointer (some ⟨b, o, none⟩)) ?h rfl ⟨rfl, int_made HR.out (by rw [sgn_abs]; exact hR1) HO.out (by rw [sgn_lt]; first | rfl | (rw [← HZ.out]; rfl)), ((Tch.refl b w).set _ _).set _ _, fun p h1 h2 => ⟨by rw [World.cell?_setCell_other _ _ _ _ (by intro e; simp at e; try omega), World.cell?_setCell_other _ _ _ _ (by intro e; simp at e; try omega)], by simp⟩⟩
   case h => simp [results, Tryz.results141, go_sem]
theorem bi_set (b o : Nat) (neg : Bool) (A : Option Addr) (n c a : Nat) (w : World) (hr : Room w b o) (hA : Rd w A n c (lim a)) (ho : Off A n b) :
    Calls Tryz.prog 141 #[.pointer (some ⟨b, o, none⟩), .bool neg, .slice A n c] w fun e w' => e = .returned (.pointer (some ⟨b, o, none⟩)) ∧ Hid (IntIs w' b o (sgn neg a) A n c) ∧ Tch b w w' :=
  (bi_setx b o neg A n c a w hr hA ho).mono fun _ _ ⟨h1, h2, h3, _⟩ => ⟨h1, h2, h3⟩
end Go.Proofs.YtchchnohmmncfaaGreatDoor
end
section
/- Whole numbers of the library's: copied, with the sign turned. -/
namespace Go.Proofs.YtchchnohmmncfaaGreatDoor
open Go.RowKit
attribute [local go_sem] sz2 sz3 sz4 sz5 sz6 sz7 sz8
set_option maxHeartbeats 4000000
set_option maxRecDepth 100000
attribute [local irreducible] Calls
attribute [local go_sem] Oper.detAt detUpon relUpon
theorem sgn_self (z : Int) : sgn (decide (z < 0)) z.natAbs = z := by unfold sgn; split <;> simp at * <;> omega
theorem sgn_neg (z : Int) : sgn (!decide (z < 0)) z.natAbs = -z := by unfold sgn; split <;> simp at * <;> omega
/-- What a method that sets a number leaves. -/
abbrev IPost (w : World) (b o : Nat) (z : Int) : Ending → World → Prop := fun e w' => e = .returned (.pointer (some ⟨b, o, none⟩)) ∧ ∃ (A : Option Addr) (n c : Nat), Hid (IntIs w' b o z A n c ∧ Fr w A) ∧ Tch b w w'
end Go.Proofs.YtchchnohmmncfaaGreatDoor
end
section
/- Fractions of the library's: objects in memory, set. -/
namespace Go.Proofs.YtchchnohmmncfaaGreatDoor
open Go.RowKit
attribute [local go_sem] sz2 sz3 sz4 sz5 sz6 sz7 sz8
set_option maxHeartbeats 4000000
set_option maxRecDepth 100000
attribute [local irreducible] Calls
attribute [local go_sem] Oper.detAt detUpon relUpon
/-- Room for a fraction. -/
structure RatRoom (w : World) (g : Nat) : Prop where
  int : Room w g 0
  c2 : ∃ v, w.cell? ⟨g, 2, none⟩ = some v
  f2 : w.frozen? ⟨g, 2, none⟩ = false
/-- A fraction stands there, with these words. -/
structure RatIs (w : World) (g : Nat) (z : Int) (A : Option Addr) (n c : Nat) (d : Nat) (D : Option Addr) (m e : Nat) : Prop where
  int : IntIs w g 0 z A n c
  c2 : w.cell? ⟨g, 2, none⟩ = some (.slice D m e)
  f2 : w.frozen? ⟨g, 2, none⟩ = false
  rd : Rd w D m e (lim d)
  off : Off D m g
theorem RatRoom.ext {w w' : World} {g : Nat} (h : RatRoom w g) (he : Ext w w') : RatRoom w' g := by
  obtain ⟨h1, ⟨v, h2⟩, h3⟩ := h
  exact ⟨h1.ext he, ⟨v, (Below.cell (p := ⟨g, 2, none⟩) he h1.lt).trans h2⟩, (Below.frozen (p := ⟨g, 2, none⟩) he h1.lt).trans h3⟩
theorem RatIs.ext {w w' : World} {g : Nat} {z : Int} {A : Option Addr} {n c : Nat} {d : Nat} {D : Option Addr} {m e : Nat} (h : RatIs w g z A n c d D m e) (he : Ext w w') : RatIs w' g z A n c d D m e :=
  ⟨h.int.ext he, (Below.cell (p := ⟨g, 2, none⟩) he h.int.room.lt).trans h.c2, (Below.frozen (p := ⟨g, 2, none⟩) he h.int.room.lt).trans h.f2, h.rd.ext he, h.off⟩
theorem RatIs.tch {w w' : World} {g b : Nat} {z : Int} {A : Option Addr} {n c : Nat} {d : Nat} {D : Option Addr} {m e : Nat} (h : RatIs w g z A n c d D m e) (ht : Tch b w w') (hg : g ≠ b) (hA : Off A n b) (hD : Off D m b) : RatIs w' g z A n c d D m e :=
  ⟨h.int.tch ht hg hA, (ht.cell (p := ⟨g, 2, none⟩) h.int.room.lt hg).trans h.c2, (ht.frozen (p := ⟨g, 2, none⟩) h.int.room.lt hg).trans h.f2, h.rd.tch ht hD, h.off⟩
/-- What stands below the line: no words are 1. -/
def denOf (d : Nat) : Nat := if d = 0 then 1 else d
/-- What a fraction that was set is. -/
abbrev SPost (w : World) (g : Nat) (z : Int) (d : Nat) (A D : Option Addr) : Ending → World → Prop := fun e w' => e = .returned (.pointer (some ⟨g, 0, none⟩)) ∧ ∃ (A' : Option Addr) (n c : Nat) (D' : Option Addr) (m k : Nat),
  Hid (RatIs w' g z A' n c d D' m k ∧ ∀ W, Ext W w → Fr W A → Fr W D → Fr W A' ∧ Fr W D') ∧ Tch g w w'
theorem Fr.szmono {W w : World} {A : Option Addr} (h : Fr w A) (hs : W.heap.size ≤ w.heap.size) : Fr W A := fun a ha => Nat.le_trans hs (h a ha)
theorem Fr.none (w : World) : Fr w none := fun _ h => by cases h
theorem rat_made {w : World} {g : Nat} {z : Int} {A : Option Addr} {n c : Nat} (hi : IntIs w g 0 z A n c) (hc : ∃ v, w.cell? ⟨g, 2, none⟩ = some v) (hf : w.frozen? ⟨g, 2, none⟩ = false) {d : Nat} {D : Option Addr} {m k : Nat} (hD : Rd w D m k (lim d)) (ho : Off D m g) :
    RatIs (w.setCell ⟨g, 2, none⟩ (.slice D m k)) g z A n c d D m k := by
  obtain ⟨v, hv⟩ := hc
  have ht : Tch g w (w.setCell ⟨g, 2, none⟩ (.slice D m k)) := (Tch.refl g w).set 2 _
  have hA := hi.rd.tch ht hi.off
  obtain ⟨⟨r1, ⟨v0, r2⟩, ⟨v1, r3⟩, r4, r5⟩, i2, i3, i4, i5⟩ := hi
  have o0 : ∀ p, p ≠ 2 → (w.setCell ⟨g, 2, none⟩ (.slice D m k)).cell? ⟨g, p, none⟩ = w.cell? ⟨g, p, none⟩ := fun p hp => World.cell?_setCell_other _ _ _ _ (by intro e; simp at e; try omega)
  exact ⟨⟨⟨by simpa using r1, ⟨_, (o0 0 (by omega)).trans r2⟩, ⟨_, (o0 1 (by omega)).trans r3⟩, by simpa using r4, by simpa using r5⟩, (o0 0 (by omega)).trans i2, (o0 1 (by omega)).trans i3, hA, i5⟩,
    World.cell?_setCell_same _ _ _ hv, by simpa using hf, hD.tch ht ho, ho⟩
/-- Below the line, in lowest terms (nought has no words there). -/
def lowD (a d : Nat) : Nat := if a = 0 then 0 else d / Nat.gcd a d
/-- What a fraction that was made is, with words of its own. -/
abbrev FPost (w : World) (g : Nat) (z : Int) (d : Nat) : Ending → World → Prop := fun e w' => e = .returned (.pointer (some ⟨g, 0, none⟩)) ∧ ∃ (A' : Option Addr) (n c : Nat) (D' : Option Addr) (m k : Nat),
  Hid (RatIs w' g z A' n c d D' m k ∧ Fr w A' ∧ Fr w D') ∧ Tch g w w'
/-- A quotient's sign. -/
def qneg (x y : Int) : Bool := decide (x < 0) != decide (y < 0)
end Go.Proofs.YtchchnohmmncfaaGreatDoor
end
section
/- Bytes of a number, the one of most worth first: the plain part. -/
namespace Go.Proofs.YtchchnohmmncfaaGreatDoor
set_option maxRecDepth 100000
theorem lim_bytes (a : Nat) : ((bitsOf a + 7) / 8 + 3) / 4 = (lim a).length ∧ a < 256 ^ ((bitsOf a + 7) / 8) := by
  by_cases h : a = 0
  · subst h; simp [bitsOf, lim_zero]
  · obtain ⟨h0, h1, h2⟩ := bitsOf_spec h
    obtain ⟨h3, h4⟩ := lim_len h
    have h5 := lim_lt a
    have e1 : ∀ k, Bs ^ k = 2 ^ (32 * k) := fun k => by rw [Nat.pow_mul]
    have e2 : ∀ k, 256 ^ k = 2 ^ (8 * k) := fun k => by rw [Nat.pow_mul]
    rw [e1] at h3 h5
    have h6 : 32 * ((lim a).length - 1) < bitsOf a := (Nat.pow_lt_pow_iff_right (a := 2) (by decide)).1 (Nat.lt_of_le_of_lt h3 h2)
    have h7 : bitsOf a - 1 < 32 * (lim a).length := (Nat.pow_lt_pow_iff_right (a := 2) (by decide)).1 (Nat.lt_of_le_of_lt (by first | exact h1 | (have := h1; rwa [Nat.pow_sub_one] at this) | skip) h5)
    refine ⟨by omega, ?_⟩
    rw [e2]
    exact Nat.lt_of_lt_of_le h2 (Nat.pow_le_pow_right (by decide) (by omega))
end Go.Proofs.YtchchnohmmncfaaGreatDoor
end
section
/- Whole numbers of the library's: out of bytes. -/
namespace Go.Proofs.YtchchnohmmncfaaGreatDoor
open Go.RowKit
attribute [local go_sem] sz2 sz3 sz4 sz5 sz6 sz7 sz8
set_option maxHeartbeats 4000000
set_option maxRecDepth 100000
attribute [local irreducible] Calls
/-- Bytes that stand in a row of their own. -/
def ByAt (w : World) (g n : Nat) (l : List UInt8) : Prop := g < w.heap.size ∧ ∀ i, i < n → w.cell? ⟨g, i, none⟩ = some (.int .u8 ((l.getD i 0).toNat : Int))
theorem ByAt.ext {w w' : World} {g n : Nat} {l : List UInt8} (h : ByAt w g n l) (he : Ext w w') : ByAt w' g n l :=
  ⟨Nat.lt_of_lt_of_le h.1 he.size, fun i hi => (Below.cell (p := ⟨g, i, none⟩) he h.1).trans (h.2 i hi)⟩
end Go.Proofs.YtchchnohmmncfaaGreatDoor
end
section
/- Fractions of the library's: above and below the line; bytes, limbs. -/
namespace Go.Proofs.YtchchnohmmncfaaGreatDoor
open Go.RowKit
attribute [local go_sem] sz2 sz3 sz4 sz5 sz6 sz7 sz8
set_option maxHeartbeats 4000000
set_option maxRecDepth 100000
attribute [local irreducible] Calls
/-- A whole number in a block of its own. -/
abbrev NPost (w : World) (z : Int) : Ending → World → Prop := fun e w' => ∃ (b : Nat) (B : Option Addr) (k l : Nat), e = .returned (.pointer (some ⟨b, 0, none⟩)) ∧ Hid (IntIs w' b 0 z B k l ∧ Fr w B) ∧ w.heap.size ≤ b ∧ Ext w w'
theorem int_room (w : World) : Room (w.alloc (Obj.cells #[.bool false, .slice none 0 0] 149)) w.heap.size 0 :=
  ⟨by simp, ⟨_, by simp [go_sem]; rfl⟩, ⟨_, by simp [go_sem]; rfl⟩, by simp [go_sem], by simp [go_sem]⟩
theorem denOf_len {d m : Nat} (h : (lim d).length = m) : (lim (denOf d)).length ≤ m + 1 := by
  unfold denOf
  split
  · rw [lim_one (by decide) (by decide)]; simp
  · omega
theorem bi_BitLen (b o : Nat) (z : Int) (A : Option Addr) (n c : Nat) (hn : n ≤ 1000000) (w : World) (hx : IntIs w b o z A n c) :
    Calls Tryz.prog 103 #[.pointer (some ⟨b, o, none⟩)] w fun e w' => e = .returned (.int .i64 (bitsOf z.natAbs : Nat)) ∧ Ext w w' := by
  have HX := Lib.hid hx
  have x1 := hx.words
  clear hx
  go_enter Tryz.func103, Tryz.ntmps103
  go_wp2_with (first
    | (go_at_call 129; (with_reducible refine (bw_bitLen A n c z.natAbs hn _ HX.out.rd).mono ?_); rintro e w2 ⟨rfl, xb2⟩)
   )
  refine bodyPost_ret (v := .int .i64 ↑(bitsOf z.natAbs)) ?h rfl ⟨rfl, xb2⟩
  case h => simp [results, Tryz.results103, go_sem]
end Go.Proofs.YtchchnohmmncfaaGreatDoor
end
section
/- Rows of limbs of a call's own, whole. -/
namespace Go.Proofs.YtchchnohmmncfaaGreatDoor
open Go.RowKit
theorem own_still {w w' : World} {e : TypeId} {size : Nat} {A : Option Addr} {c m n : Nat} {xs : List Value} (h : w.ownsRow 0 e size (.slice A m c) n xs) (hb : ∀ a, A = some a → w'.heap[a.block]? = w.heap[a.block]?) : w'.ownsRow 0 e size (.slice A m c) n xs := by
  obtain ⟨h1, h2⟩ := h
  refine ⟨h1, ?_⟩
  rcases h2 with h2 | ⟨g, cap, cur, he, h0, h3, h4⟩
  · exact .inl h2
  · refine .inr ⟨g, cap, cur, he, h0, ?_, h4⟩
    have := hb ⟨g, 0, none⟩ (by simp only [Value.slice.injEq] at he; exact he.1)
    exact this.trans h3
theorem own_lt {w : World} {e : TypeId} {size : Nat} {A : Option Addr} {c m n : Nat} {xs : List Value} (h : w.ownsRow 0 e size (.slice A m c) n xs) {a : Addr} (ha : A = some a) : a.block < w.heap.size := by
  subst ha
  exact (h.lt a.block rfl).2
/-- A slice that reads as these limbs, whose row is nobody else's; its block is none of Z's. -/
structure RdO (w : World) (A : Option Addr) (n c : Nat) (xs : List Nat) (Z : Option Addr) : Prop extends Rd w A n c xs where
  own : w.ownsRow 0 38 1 (.slice A n c) n (xs.map u32V)
  apt : ∀ a z, A = some a → Z = some z → a.block ≠ z.block
  full : c = n
instance rdoRd (w : World) (A : Option Addr) (n c : Nat) (xs : List Nat) (Z : Option Addr) : CoeOut (RdO w A n c xs Z) (Rd w A n c xs) := ⟨RdO.toRd⟩
theorem RdO.ext {w w' : World} {A : Option Addr} {n c : Nat} {xs : List Nat} {Z : Option Addr} (h : RdO w A n c xs Z) (he : Ext w w') : RdO w' A n c xs Z :=
  ⟨h.toRd.ext he, own_still h.own (fun a ha => he.block _ (own_lt h.own ha)), h.apt, h.full⟩
theorem RdO.set {w : World} {A : Option Addr} {n c : Nat} {xs : List Nat} {Z : Option Addr} (h : RdO w A n c xs Z) {p : Addr} (u : Value) (hne : ∀ a, A = some a → p.block < a.block) : RdO (w.setCell p u) A n c xs Z :=
  ⟨h.toRd.set u hne, own_still h.own (fun a ha => Go.Deep.blk_setCell_other w p u a.block (Nat.ne_of_gt (hne a ha))), h.apt, h.full⟩
theorem RdO.tch {b : Nat} {w w' : World} {A : Option Addr} {n c : Nat} {xs : List Nat} {Z : Option Addr} (h : RdO w A n c xs Z) (ht : Tch b w w') (ho : ∀ a, A = some a → a.block ≠ b) : RdO w' A n c xs Z :=
  ⟨h.toRd.tch ht (fun a ha _ => ho a ha), own_still h.own (fun a ha => ht.block _ (own_lt h.own ha) (ho a ha)), h.apt, h.full⟩
theorem RdO.weak {w : World} {A : Option Addr} {n c : Nat} {xs : List Nat} {Z : Option Addr} (h : RdO w A n c xs none) (hz : ∀ a z, A = some a → Z = some z → a.block ≠ z.block) : RdO w A n c xs Z := ⟨h.toRd, h.own, hz, h.full⟩
end Go.Proofs.YtchchnohmmncfaaGreatDoor
end
section
/- Fractions of the library's: the sign; told. -/
namespace Go.Proofs.YtchchnohmmncfaaGreatDoor
open Go.RowKit
attribute [local go_sem] sz2 sz3 sz4 sz5 sz6 sz7 sz8
set_option maxHeartbeats 4000000
set_option maxRecDepth 100000
attribute [local irreducible] Calls
theorem int_nil {w : World} {b o : Nat} {z : Int} {A : Option Addr} {n c : Nat} (h : IntIs w b o z A n c) : n = 0 ↔ z = 0 := by
  rw [← h.rd.len]
  constructor
  · intro e; have := lim_nil.1 (List.eq_nil_of_length_eq_zero e); omega
  · intro e; subst e; simp [lim_zero]
theorem bi_Sign (b o : Nat) (z : Int) (A : Option Addr) (n c : Nat) (w : World) (hx : IntIs w b o z A n c) :
    Calls Tryz.prog 130 #[.pointer (some ⟨b, o, none⟩)] w fun e w' => e = .returned (.int .i64 z.sign) ∧ Ext w w' := by
  have x0 := hx.neg
  have x1 := hx.words
  have hn := int_nil hx
  clear hx
  by_cases hz : z = 0
  · obtain rfl : n = 0 := hn.2 hz
    subst hz
    clear hn
    go_enter Tryz.func130, Tryz.ntmps130
    go_wp2
    refine bodyPost_ret (v := .int .i64 0) ?h rfl ⟨rfl, ext_refl _⟩
    case h => simp [results, Tryz.results130, go_sem]
  · have h1 : ((n : Int) == 0) = false := by rw [beq_eq_false_iff_ne]; omega
    clear hn
    by_cases hs : z < 0
    · have e1 : decide (z < 0) = true := decide_eq_true hs
      rw [e1] at x0
      have e2 : z.sign = -1 := Int.sign_eq_neg_one_of_neg hs
      clear hs e1 hz
      go_enter Tryz.func130, Tryz.ntmps130
      go_wp2
      refine bodyPost_ret (v := .int .i64 (-1)) ?h rfl ⟨by rw [e2], ext_refl _⟩
      case h => simp [results, Tryz.results130, go_sem]
    · have e1 : decide (z < 0) = false := decide_eq_false hs
      rw [e1] at x0
      have e2 : z.sign = 1 := Int.sign_eq_one_of_pos (by omega)
      clear hs e1 hz
      go_enter Tryz.func130, Tryz.ntmps130
      go_wp2
      refine bodyPost_ret (v := .int .i64 1) ?h rfl ⟨by rw [e2], ext_refl _⟩
      case h => simp [results, Tryz.results130, go_sem]
end Go.Proofs.YtchchnohmmncfaaGreatDoor
end
section
/- Whole numbers of the library's: order, sums. -/
namespace Go.Proofs.YtchchnohmmncfaaGreatDoor
open Go.RowKit
attribute [local go_sem] sz2 sz3 sz4 sz5 sz6 sz7 sz8
set_option maxHeartbeats 4000000
set_option maxRecDepth 100000
attribute [local irreducible] Calls
theorem cmpN_sign (a b : Nat) : cmpN a b = ((a : Int) - b).sign := by
  unfold cmpN
  split
  · rw [Int.sign_eq_neg_one_of_neg (by omega)]
  · split
    · rw [Int.sign_eq_one_of_pos (by omega)]
    · rw [show (a : Int) - b = 0 by omega]; rfl
theorem bi_Cmp (b o g p : Nat) (x y : Int) (A : Option Addr) (n c : Nat) (B : Option Addr) (m d : Nat) (w : World) (hx : IntIs w b o x A n c) (hy : IntIs w g p y B m d) :
    Calls Tryz.prog 157 #[.pointer (some ⟨b, o, none⟩), .pointer (some ⟨g, p, none⟩)] w fun e w' => e = .returned (.int .i64 (x - y).sign) ∧ Ext w w' := by
  have HX := Lib.hid hx
  have HY := Lib.hid hy
  have lx := hx.room.lt
  have x0 := hx.neg
  have x1 := hx.words
  have ly := hy.room.lt
  have y0 := hy.neg
  have y1 := hy.words
  have kc : ∀ w', Ext w w' → Calls Tryz.prog 171 #[.slice A n c, .slice B m d] w' fun e w'' => e = .returned (.int .i64 (cmpN x.natAbs y.natAbs)) ∧ Ext w' w'' := fun w' he => bw_cmp A B n c m d _ _ w' (HX.out.rd.ext he) (HY.out.rd.ext he)
  clear hx hy HX HY
  by_cases hs : x < 0
  · rw [decide_eq_true hs] at x0
    by_cases ht : y < 0
    · rw [decide_eq_true ht] at y0
      have e1 : -(cmpN x.natAbs y.natAbs) = (x - y).sign := by
        rw [cmpN_sign, ← Int.sign_neg]; congr 1; omega
      have e2 : IntKind.i64.wrap (-(cmpN x.natAbs y.natAbs)) = (x - y).sign := by
        rw [e1]
        have : (x - y).sign = -1 ∨ (x - y).sign = 0 ∨ (x - y).sign = 1 := by
          rcases Int.lt_trichotomy (x - y) 0 with h | h | h
          · exact .inl (Int.sign_eq_neg_one_of_neg h)
          · rw [h]; exact .inr (.inl rfl)
          · exact .inr (.inr (Int.sign_eq_one_of_pos h))
        rcases this with h | h | h <;> rw [h] <;> decide
      generalize cmpN x.natAbs y.natAbs = C at kc e1 e2
      generalize (x - y).sign = R at e1 e2 ⊢
      clear hs ht e1
      go_enter Tryz.func157, Tryz.ntmps157
      go_wp2
      refine wp_aft (by kernel_rfl) (by kernel_rfl) (fun hq hqf => ?_)
      repeat (go_big_quiet_step (first | fail
        ))
      refine wpQuiet_nil ?_
      rintro _ ⟨nq, rfl⟩
      have xl := ext_lt nq.use
      have xz := ext_size nq.use
      try simp at xz
      have hE1 := Lib.hid nq.use
      have z0 := (Below.cell (p := ⟨b, o, none⟩) nq.use lx).trans x0
      have z1 := (Below.cell (p := ⟨b, o + 1, none⟩) nq.use lx).trans x1
      have z2 := (Below.cell (p := ⟨g, p + 1, none⟩) nq.use ly).trans y1
      go_wp2
      have lx2 := xl b lx
      have ly2 := xl g ly
      refine wp_aft (by kernel_rfl) (by kernel_rfl) (fun hq hqf => ?_)
      repeat (go_big_quiet_step (first
        | (go_at_call 171; exact aft_of (kc _ (ext_trans hE1.out (Aft.use _))))
        ))
      refine wpQuiet_nil ?_
      rintro _ ⟨nq, rfl⟩
      have xl := ext_lt nq.use
      have xz := ext_size nq.use
      try simp at xz
      go_wp2
      refine bodyPost_ret (v := .int .i64 R) ?h rfl ⟨rfl, ext_trans hE1.out nq.use⟩
      case h => simp [results, Tryz.results157, go_sem]
    · rw [decide_eq_false ht] at y0
      have e1 : (x - y).sign = -1 := Int.sign_eq_neg_one_of_neg (by omega)
      rw [e1]
      clear hs ht e1 kc
      go_enter Tryz.func157, Tryz.ntmps157
      go_wp2
      refine wp_aft (by kernel_rfl) (by kernel_rfl) (fun hq hqf => ?_)
      repeat (go_big_quiet_step (first | fail
        ))
      refine wpQuiet_nil ?_
      rintro _ ⟨nq, rfl⟩
      have xl := ext_lt nq.use
      have xz := ext_size nq.use
      try simp at xz
      have hE1 := Lib.hid nq.use
      have z0 := (Below.cell (p := ⟨b, o, none⟩) nq.use lx).trans x0
      go_wp2
      refine bodyPost_ret (v := .int .i64 (-1)) ?h rfl ⟨rfl, hE1.out⟩
      case h => simp [results, Tryz.results157, go_sem]
  · rw [decide_eq_false hs] at x0
    by_cases ht : y < 0
    · rw [decide_eq_true ht] at y0
      have e1 : (x - y).sign = 1 := Int.sign_eq_one_of_pos (by omega)
      rw [e1]
      clear hs ht e1 kc
      go_enter Tryz.func157, Tryz.ntmps157
      go_wp2
      refine wp_aft (by kernel_rfl) (by kernel_rfl) (fun hq hqf => ?_)
      repeat (go_big_quiet_step (first | fail
        ))
      refine wpQuiet_nil ?_
      rintro _ ⟨nq, rfl⟩
      have xl := ext_lt nq.use
      have xz := ext_size nq.use
      try simp at xz
      have hE1 := Lib.hid nq.use
      have z0 := (Below.cell (p := ⟨b, o, none⟩) nq.use lx).trans x0
      go_wp2
      refine bodyPost_ret (v := .int .i64 1) ?h rfl ⟨rfl, hE1.out⟩
      case h => simp [results, Tryz.results157, go_sem]
    · rw [decide_eq_false ht] at y0
      have e1 : cmpN x.natAbs y.natAbs = (x - y).sign := by
        rw [cmpN_sign]; congr 1; omega
      generalize cmpN x.natAbs y.natAbs = C at kc e1
      generalize (x - y).sign = R at e1 ⊢
      subst e1
      clear hs ht
      go_enter Tryz.func157, Tryz.ntmps157
      go_wp2
      refine wp_aft (by kernel_rfl) (by kernel_rfl) (fun hq hqf => ?_)
      repeat (go_big_quiet_step (first | fail
        ))
      refine wpQuiet_nil ?_
      rintro _ ⟨nq, rfl⟩
      have xl := ext_lt nq.use
      have xz := ext_size nq.use
      try simp at xz
      have hE1 := Lib.hid nq.use
      have z0 := (Below.cell (p := ⟨b, o, none⟩) nq.use lx).trans x0
      have z1 := (Below.cell (p := ⟨b, o + 1, none⟩) nq.use lx).trans x1
      have z2 := (Below.cell (p := ⟨g, p + 1, none⟩) nq.use ly).trans y1
      go_wp2
      have lx2 := xl b lx
      have ly2 := xl g ly
      refine wp_aft (by kernel_rfl) (by kernel_rfl) (fun hq hqf => ?_)
      repeat (go_big_quiet_step (first
        | (go_at_call 171; exact aft_of (kc _ (ext_trans hE1.out (Aft.use _))))
        ))
      refine wpQuiet_nil ?_
      rintro _ ⟨nq, rfl⟩
      have xl := ext_lt nq.use
      have xz := ext_size nq.use
      try simp at xz
      go_wp2
      refine bodyPost_ret (v := .int .i64 C) ?h rfl ⟨rfl, ext_trans hE1.out nq.use⟩
      case h => simp [results, Tryz.results157, go_sem]
end Go.Proofs.YtchchnohmmncfaaGreatDoor
end
section
/- Whole numbers of the library's: sums. -/
namespace Go.Proofs.YtchchnohmmncfaaGreatDoor
open Go.RowKit
attribute [local go_sem] sz2 sz3 sz4 sz5 sz6 sz7 sz8
set_option maxHeartbeats 4000000
set_option maxRecDepth 100000
attribute [local irreducible] Calls
theorem sgn_add_same (s : Bool) (a b : Nat) : sgn s (a + b) = sgn s a + sgn s b := by cases s <;> simp [sgn]; omega
theorem sgn_add_ge (s t : Bool) (a b : Nat) (h : s ≠ t) (hab : b ≤ a) : sgn s (a - b) = sgn s a + sgn t b := by
  cases s <;> cases t <;> simp [sgn] at h ⊢ <;> omega
theorem sgn_add_lt (s t : Bool) (a b : Nat) (h : s ≠ t) (hab : a < b) : sgn t (b - a) = sgn s a + sgn t b := by
  cases s <;> cases t <;> simp [sgn] at h ⊢ <;> omega
theorem bi_added (b o : Nat) (A : Option Addr) (n c a : Nat) (s : Bool) (B : Option Addr) (m d x : Nat) (t : Bool) (hn : n ≤ 1000000) (hm : m ≤ 1000000) (w : World) (hr : Room w b o) (hA : Rd w A n c (lim a)) (hB : Rd w B m d (lim x)) :
    Calls Tryz.prog 178 #[.pointer (some ⟨b, o, none⟩), .slice A n c, .bool s, .slice B m d, .bool t] w (IPost w b o (sgn s a + sgn t x)) := by
  have HA := Lib.hid hA
  have HB := Lib.hid hB
  have HR := Lib.hid hr
  have hbl := hr.lt
  clear hA hB hr
  by_cases hst : s = t
  · subst hst
    have e := sgn_add_same s a x
    rw [← e]
    clear e
    go_enter Tryz.func178, Tryz.ntmps178
    go_wp2_with (first
      | (go_at_call 188; (with_reducible refine (bw_add A B n c m d a x hn hm _ HA.out HB.out).mono ?_); rintro e w2 ⟨A2, k2, c2, rfl, hR2, xb2⟩; have hF2 : Fr w A2 := hR2.out.2.1; have hO2 := hF2.off hbl k2)
      | (go_at_call 141; (with_reducible refine (bi_set b o s A2 k2 c2 (a + x) _ (HR.out.ext xb2) hR2.out.1 hO2).mono ?_); rintro e w3 ⟨rfl, hI3, xt3⟩)
     )
    refine bodyPost_ret (v := .pointer (some ⟨b, o, none⟩)) ?h rfl ⟨rfl, A2, k2, c2, ⟨hI3.out, hF2⟩, (Tch.of xb2).trans xt3⟩
    case h => simp [results, Tryz.results178, go_sem]
  · have hst' : (s == t) = false := by rw [beq_eq_false_iff_ne]; exact hst
    by_cases hax : x ≤ a
    · have e := sgn_add_ge s t a x hst hax
      rw [← e]
      have hc : (0 : Int) ≤ cmpN a x := by unfold cmpN; rw [if_neg (by omega)]; split <;> decide
      clear e hst
      go_enter Tryz.func178, Tryz.ntmps178
      go_wp2_with (first
        | (go_at_call 171; (with_reducible refine (bw_cmp A B n c m d a x _ HA.out HB.out).mono ?_); rintro e w1 ⟨rfl, xb1⟩)
        | (go_at_call 189; (with_reducible refine (bw_sub A B n c m d a x hax hn _ (HA.out.ext xb1) (HB.out.ext xb1)).mono ?_); rintro e w2 ⟨A2, k2, c2, rfl, hR2, xb2⟩; have hF2 : Fr w A2 := Fr.mono hR2.out.2 xb1; have hO2 := hF2.off hbl k2)
        | (go_at_call 141; (with_reducible refine (bi_set b o s A2 k2 c2 (a - x) _ ((HR.out.ext xb1).ext xb2) hR2.out.1 hO2).mono ?_); rintro e w3 ⟨rfl, hI3, xt3⟩)
       )
      refine bodyPost_ret (v := .pointer (some ⟨b, o, none⟩)) ?h rfl ⟨rfl, A2, k2, c2, ⟨hI3.out, hF2⟩, (Tch.of (ext_trans xb1 xb2)).trans xt3⟩
      case h => simp [results, Tryz.results178, go_sem]
    · have e := sgn_add_lt s t a x hst (by omega)
      rw [← e]
      have hc : ¬ (0 : Int) ≤ cmpN a x := by unfold cmpN; rw [if_pos (by omega)]; decide
      have hxa : a ≤ x := by omega
      clear e hst hax
      go_enter Tryz.func178, Tryz.ntmps178
      go_wp2_with (first
        | (go_at_call 171; (with_reducible refine (bw_cmp A B n c m d a x _ HA.out HB.out).mono ?_); rintro e w1 ⟨rfl, xb1⟩)
        | (go_at_call 189; (with_reducible refine (bw_sub B A m d n c x a hxa hm _ (HB.out.ext xb1) (HA.out.ext xb1)).mono ?_); rintro e w2 ⟨A2, k2, c2, rfl, hR2, xb2⟩; have hF2 : Fr w A2 := Fr.mono hR2.out.2 xb1; have hO2 := hF2.off hbl k2)
        | (go_at_call 141; (with_reducible refine (bi_set b o t A2 k2 c2 (x - a) _ ((HR.out.ext xb1).ext xb2) hR2.out.1 hO2).mono ?_); rintro e w3 ⟨rfl, hI3, xt3⟩)
       )
      refine bodyPost_ret (v := .pointer (some ⟨b, o, none⟩)) ?h rfl ⟨rfl, A2, k2, c2, ⟨hI3.out, hF2⟩, (Tch.of (ext_trans xb1 xb2)).trans xt3⟩
      case h => simp [results, Tryz.results178, go_sem]
theorem bi_Add (b o g p h q : Nat) (x y : Int) (A : Option Addr) (n c : Nat) (B : Option Addr) (m d : Nat) (hn : n ≤ 1000000) (hm : m ≤ 1000000) (w : World) (hr : Room w b o) (hx : IntIs w g p x A n c) (hy : IntIs w h q y B m d) :
    Calls Tryz.prog 161 #[.pointer (some ⟨b, o, none⟩), .pointer (some ⟨g, p, none⟩), .pointer (some ⟨h, q, none⟩)] w (IPost w b o (x + y)) := by
  have HX := Lib.hid hx
  have HY := Lib.hid hy
  have HR := Lib.hid hr
  have lx := hx.room.lt
  have x0 := hx.neg
  have x1 := hx.words
  have ly := hy.room.lt
  have y0 := hy.neg
  have y1 := hy.words
  have hbl := hr.lt
  clear hx hy hr
  go_enter Tryz.func161, Tryz.ntmps161
  go_wp2
  refine wp_aft_tail 17 (by kernel_rfl) (by kernel_rfl) (by kernel_rfl) (fun hq hqf => ?_)
  simp only [List.take_succ_cons, List.take_zero, List.drop_succ_cons, List.drop_zero]
  repeat (go_big_quiet_step (first | fail
    ))
  refine wpQuiet_nil ?_
  rintro _ ⟨nq, rfl⟩
  have xl := ext_lt nq.use
  have xz := ext_size nq.use
  try simp at xz
  have hE := Lib.hid nq.use
  go_wp2_with (first
    | (go_at_call 178; (with_reducible refine (bi_added b o A n c x.natAbs _ B m d y.natAbs _ hn hm _ (HR.out.ext hE.out) (HX.out.rd.ext hE.out) (HY.out.rd.ext hE.out)).mono ?_); rintro e w3 ⟨rfl, A3, n3, c3, hI3, xt3⟩)
   )
  refine bodyPost_ret (v := .pointer (some ⟨b, o, none⟩)) ?h rfl ⟨rfl, A3, n3, c3, ⟨by have := hI3.out.1; rwa [sgn_self, sgn_self] at this, hI3.out.2.mono hE.out⟩, (Tch.of hE.out).trans xt3⟩
  case h => simp [results, Tryz.results161, go_sem]
end Go.Proofs.YtchchnohmmncfaaGreatDoor
end
section
/- Whole numbers of the library's: out of machine numbers; without a sign; products, differences. -/
namespace Go.Proofs.YtchchnohmmncfaaGreatDoor
open Go.RowKit
attribute [local go_sem] sz2 sz3 sz4 sz5 sz6 sz7 sz8
set_option maxHeartbeats 4000000
set_option maxRecDepth 100000
attribute [local irreducible] Calls
attribute [local go_sem] Oper.detAt detUpon relUpon
theorem bi_SetInt64 (b o : Nat) (x : Int) (h1 : -9223372036854775808 ≤ x) (h2 : x ≤ 9223372036854775807) (w : World) (hr : Room w b o) :
    Calls Tryz.prog 128 #[.pointer (some ⟨b, o, none⟩), .int .i64 x] w (IPost w b o x) := by
  have HR := Lib.hid hr
  have hlt := hr.lt
  clear hr
  by_cases h0 : x < 0
  · obtain ⟨n, rfl⟩ : ∃ n : Nat, x = -(n : Int) := ⟨x.natAbs, by omega⟩
    have hn : n < 18446744073709551616 := by omega
    have h0' : -(n : Int) < 0 := h0
    have hF : ∀ w', Calls Tryz.prog 144 #[.int .u64 (IntKind.u64.wrap (-IntKind.u64.wrap (-(n : Int))))] w' fun e w'' => ∃ (A : Option Addr) (k c : Nat), e = .returned (.slice A k c) ∧ Hid (Rd w'' A k c (lim n) ∧ Fr w' A) ∧ Ext w' w'' := fun w' => by
      have e1 : IntKind.u64.wrap (-IntKind.u64.wrap (-(n : Int))) = (n : Int) := by rw [IntKind.wrap_u64, IntKind.wrap_u64]; omega
      rw [e1]
      exact bw_fromUint n hn w'
    have hsg : Hid (sgn true n = -(n : Int)) := Lib.hid rfl
    go_enter Tryz.func128, Tryz.ntmps128
    go_wp2_with (first
      | (go_at_call 144; (with_reducible refine (hF _).mono ?_); rintro e w1 ⟨A1, k1, c1, rfl, hR1, xb1⟩; obtain ⟨xc1, xf1, xl1, xz1⟩ := ext_use xb1; (try simp at xz1))
      | (go_at_call 141; (with_reducible refine (bi_set b o true A1 k1 c1 n _ (HR.out.ext xb1) hR1.out.1 (hR1.out.2.off hlt k1)).mono ?_); rintro e w3 ⟨rfl, hI3, xt3⟩)
     )
    refine bodyPost_ret (v := .pointer (some ⟨b, o, none⟩)) ?h rfl ⟨rfl, A1, k1, c1, ⟨by have := hI3.out; rwa [hsg.out] at this, hR1.out.2⟩, (Tch.of xb1).trans xt3⟩
    case h => simp [results, Tryz.results128, go_sem]
  · obtain ⟨n, rfl⟩ : ∃ n : Nat, x = (n : Int) := ⟨x.natAbs, by omega⟩
    have hF : ∀ w', Calls Tryz.prog 144 #[.int .u64 (n : Int)] w' fun e w'' => ∃ (A : Option Addr) (k c : Nat), e = .returned (.slice A k c) ∧ Hid (Rd w'' A k c (lim n) ∧ Fr w' A) ∧ Ext w' w'' := fun w' => bw_fromUint n (by omega) w'
    have hsg : Hid (sgn false n = (n : Int)) := Lib.hid rfl
    go_enter Tryz.func128, Tryz.ntmps128
    go_wp2_with (first
      | (go_at_call 144; (with_reducible refine (hF _).mono ?_); rintro e w1 ⟨A1, k1, c1, rfl, hR1, xb1⟩; obtain ⟨xc1, xf1, xl1, xz1⟩ := ext_use xb1; (try simp at xz1))
      | (go_at_call 141; (with_reducible refine (bi_set b o false A1 k1 c1 n _ (HR.out.ext xb1) hR1.out.1 (hR1.out.2.off hlt k1)).mono ?_); rintro e w3 ⟨rfl, hI3, xt3⟩)
     )
    refine bodyPost_ret (v := .pointer (some ⟨b, o, none⟩)) ?h rfl ⟨rfl, A1, k1, c1, ⟨by have := hI3.out; rwa [hsg.out] at this, hR1.out.2⟩, (Tch.of xb1).trans xt3⟩
    case h => simp [results, Tryz.results128, go_sem]
theorem bi_NewInt (x : Int) (h1 : -9223372036854775808 ≤ x) (h2 : x ≤ 9223372036854775807) (w : World) :
    Calls Tryz.prog 100 #[.int .i64 x] w (NPost w x) := by
  have hrm := Lib.hid (int_room w)
  go_enter Tryz.func100, Tryz.ntmps100
  go_wp2_with (first
    | (go_at_call 128; (with_reducible refine (bi_SetInt64 w.heap.size 0 x h1 h2 _ hrm.out).mono ?_); rintro e w3 ⟨rfl, A3, n3, c3, hI3, xt3⟩)
   )
  have hEE := Lib.hid (xt3.ext (ext_alloc (ext_refl w) _) (Nat.le_refl _))
  refine bodyPost_ret (v := .pointer (some ⟨w.heap.size, 0, none⟩)) ?h rfl ⟨_, A3, n3, c3, rfl, ⟨hI3.out.1, Fr.mono hI3.out.2 (ext_alloc (ext_refl w) _)⟩, Nat.le_refl _, hEE.out⟩
  case h => simp [results, Tryz.results100, go_sem]
end Go.Proofs.YtchchnohmmncfaaGreatDoor
end
section
/- Rounding a fraction to a float: the model's own floats round as that law. -/
namespace Go.Proofs.YtchchnohmmncfaaGreatDoor
open Go.RowKit
set_option maxRecDepth 100000
theorem cut_rdQ (neg : Bool) (x drop : Nat) : Ieee.Toward.even.cut neg x drop = rdQ 0 neg x (2 ^ drop) := by
  have hl : x < 2 ^ (x.log2 + 1) := Nat.lt_log2_self
  have key : ∀ g : Nat, 0 < g → ((decide (g < 2 * (x % g)) || (decide (g = 2 * (x % g)) && decide (x / g % 2 = 1))) = true ↔ x % g ≠ 0 ∧ upM 0 neg (decide (x / g % 2 = 1)) (cmpN (2 * (x % g)) g) = true) := by
    intro g hg
    unfold upM cmpN
    rw [if_pos rfl]
    simp only [Bool.or_eq_true, Bool.and_eq_true, decide_eq_true_eq]
    by_cases h1 : 2 * (x % g) < g
    · rw [if_pos h1]
      constructor
      · rintro (h | ⟨h, _⟩) <;> omega
      · rintro ⟨_, h | ⟨h, _⟩⟩ <;> omega
    · rw [if_neg h1]
      by_cases h2 : g < 2 * (x % g)
      · rw [if_pos h2]
        exact ⟨fun _ => ⟨by omega, .inl (by omega)⟩, fun _ => .inl h2⟩
      · rw [if_neg h2]
        constructor
        · rintro (h | ⟨h, h3⟩)
          · omega
          · exact ⟨by omega, .inr ⟨rfl, h3⟩⟩
        · rintro ⟨_, h | ⟨_, h⟩⟩
          · omega
          · exact .inr ⟨by omega, h⟩
  have fin : ∀ g : Nat, 0 < g → x / g + (decide (g < 2 * (x % g)) || (decide (g = 2 * (x % g)) && decide (x / g % 2 = 1))).toNat = rdQ 0 neg x g := by
    intro g hg
    unfold rdQ
    by_cases h : x % g = 0
    · rw [if_pos h]
      have : (decide (g < 2 * (x % g)) || (decide (g = 2 * (x % g)) && decide (x / g % 2 = 1))) = false := by
        rw [← Bool.not_eq_true, key g hg]; exact fun q => q.1 h
      rw [this]; rfl
    · rw [if_neg h]
      by_cases h2 : upM 0 neg (decide (x / g % 2 = 1)) (cmpN (2 * (x % g)) g) = true
      · rw [if_pos h2, (key g hg).2 ⟨h, h2⟩]; rfl
      · rw [if_neg h2]
        have : (decide (g < 2 * (x % g)) || (decide (g = 2 * (x % g)) && decide (x / g % 2 = 1))) = false := by
          rw [← Bool.not_eq_true, key g hg]; exact fun q => h2 q.2
        rw [this]; rfl
  have hcut : ∀ g : Nat, (x / g + (decide (g < 2 * (x % g)) || (g == 2 * (x % g) && x / g % 2 == 1)).toNat) = x / g + (decide (g < 2 * (x % g)) || (decide (g = 2 * (x % g)) && decide (x / g % 2 = 1))).toNat := by
    intro g
    have e1 : (g == 2 * (x % g)) = decide (g = 2 * (x % g)) := by rw [Bool.eq_iff_iff]; simp
    have e2 : (x / g % 2 == 1) = decide (x / g % 2 = 1) := by rw [Bool.eq_iff_iff]; simp
    rw [e1, e2]
  unfold Ieee.Toward.cut
  simp only [Nat.one_shiftLeft]
  rw [hcut, fin _ (Nat.two_pow_pos _)]
  rcases Nat.le_total drop (x.log2 + 2) with h | h
  · rw [Nat.min_eq_left h]
  · rw [Nat.min_eq_right h]
    have hz : ∀ k, x.log2 + 2 ≤ k → rdQ 0 neg x (2 ^ k) = 0 := by
      intro k hk
      have h1 : 2 ^ (x.log2 + 2) ≤ 2 ^ k := Nat.pow_le_pow_right (by decide) hk
      have h2 : 2 ^ (x.log2 + 2) = 2 * 2 ^ (x.log2 + 1) := by rw [Nat.pow_succ 2 (x.log2 + 1)]; omega
      have h3 : x / 2 ^ k = 0 := Nat.div_eq_of_lt (by omega)
      have h4 : x % 2 ^ k = x := Nat.mod_eq_of_lt (by omega)
      have h5 : 2 * x < 2 ^ k := by omega
      unfold rdQ
      rw [h3, h4]
      have h6 : cmpN (2 * x) (2 ^ k) = -1 := by unfold cmpN; rw [if_pos h5]
      rw [h6]
      split
      · rfl
      · rw [if_neg (by simp [upM])]
    rw [hz _ (Nat.le_refl _), hz _ h]
theorem lgQ_bin {m : Nat} (hm : 0 < m) (p : Int) : lgQ (tA m p) (tD 1 p) = p + m.log2 := by
  have h1 : 2 ^ m.log2 ≤ m := Nat.log2_self_le (by omega)
  have h2 : m < 2 ^ (m.log2 + 1) := Nat.lt_log2_self
  have ha : 0 < tA m p := Nat.mul_pos hm (Nat.two_pow_pos _)
  have hd : 0 < tD 1 p := Nat.mul_pos (by decide) (Nat.two_pow_pos _)
  refine lgQ_eq ha hd ?_ ?_
  · rw [leP_at ((-p).toNat) (by omega)]
    unfold tA tD
    rw [Nat.one_mul, ← Nat.pow_add, Nat.mul_assoc, ← Nat.pow_add]
    have e1 : (-p).toNat + (p + m.log2 + ((-p).toNat : Nat)).toNat = m.log2 + (p.toNat + (-p).toNat) := by omega
    rw [e1, Nat.pow_add]
    exact Nat.mul_le_mul_right _ h1
  · rw [leP_at ((-p).toNat) (by omega)]
    unfold tA tD
    rw [Nat.one_mul, ← Nat.pow_add, Nat.mul_assoc, ← Nat.pow_add]
    have e1 : (-p).toNat + (p + m.log2 + 1 + ((-p).toNat : Nat)).toNat = m.log2 + 1 + (p.toNat + (-p).toNat) := by omega
    rw [e1, Nat.pow_add]
    have := Nat.mul_lt_mul_of_pos_right h2 (Nat.two_pow_pos (p.toNat + (-p).toNat))
    omega
theorem rdQ_bin (mode : Nat) (neg : Bool) (m : Nat) (p l : Int) : rdQ mode neg (m * 2 ^ (p - l).toNat) (2 ^ (l - p).toNat) = rdQ mode neg (tA (tA m p) (-l)) (tD (tD 1 p) (-l)) := by
  unfold tA tD
  obtain ⟨c, c1, c2⟩ : ∃ c : Nat, p.toNat + (-l).toNat = (p - l).toNat + c ∧ (-p).toNat + l.toNat = (l - p).toNat + c := ⟨p.toNat + (-l).toNat - (p - l).toNat, by omega, by omega⟩
  rw [Int.neg_neg, Nat.one_mul, Nat.mul_assoc, ← Nat.pow_add, ← Nat.pow_add, c1, c2, Nat.pow_add, Nat.pow_add, ← Nat.mul_assoc, rdQ_scale (Nat.two_pow_pos c)]
abbrev fmt (E F : Nat) : Ieee.Format := { exponentBits := E, fractionBits := F }
/-- The even rung, cut at infinity. -/
def evenQ (E F a d : Nat) : Nat := min (rungQ E F 0 false a d) (infQ E F)
theorem rdQ_even (neg : Bool) (a d : Nat) : rdQ 0 neg a d = rdQ 0 false a d := rfl
theorem near_even (E F : Nat) (hE : 2 ≤ E) (neg : Bool) (m : Nat) (hm : 0 < m) (p : Int) : (fmt E F).nearest neg m p = (fmt E F).word neg (evenQ E F (tA m p) (tD 1 p)) := by
  have hbias : (fmt E F).leastPlace = 1 - biasF E - F := by
    unfold Ieee.Format.leastPlace biasF
    simp only
    omega
  have hinf : (fmt E F).infRung = infQ E F := by
    unfold Ieee.Format.infRung Ieee.Format.binade infQ
    simp only
    rw [Nat.sub_mul, Nat.pow_add, Nat.one_mul]
  unfold Ieee.Format.nearest
  rw [if_neg (by omega)]
  simp only
  rw [hinf, hbias]
  have hlow : lowQ E (tA m p) (tD 1 p) = max (p + m.log2) (1 - biasF E) := by unfold lowQ; rw [lgQ_bin hm]
  obtain ⟨low, hl⟩ : ∃ low, lowQ E (tA m p) (tD 1 p) = low := ⟨_, rfl⟩
  have hlast : max (p + (m.log2 : Nat) - (F : Nat)) (1 - biasF E - F) = low - F := by rw [← hl, hlow]; omega
  have hlow2 : 1 - biasF E ≤ low := by rw [← hl, hlow]; omega
  rw [hlast]
  congr 1
  unfold evenQ rungQ manQ
  rw [hl, Nat.shiftLeft_eq, cut_rdQ, rdQ_even neg, rdQ_bin, Int.neg_sub, Nat.add_comm]
  congr 2
  unfold Ieee.Format.binade
  simp only
  congr 2
  omega
end Go.Proofs.YtchchnohmmncfaaGreatDoor
end
section
/- How many bits a number has. -/
namespace Go.Proofs.YtchchnohmmncfaaGreatDoor
open Go.RowKit
set_option maxRecDepth 100000
abbrev fmV (E F : Nat) : Value := .agg #[.int .i64 (E : Int), .int .i64 (F : Int)]
theorem bits_lt {x k : Nat} (h : x < 2 ^ k) : bitsOf x ≤ k := by
  by_cases h0 : x = 0
  · subst h0; simp [bitsOf]
  · obtain ⟨h1, h2, h3⟩ := bitsOf_spec h0
    rcases Nat.lt_or_ge k (bitsOf x) with g | g
    · have := Nat.pow_le_pow_right (n := 2) (by decide) (show k ≤ bitsOf x - 1 by omega)
      omega
    · exact g
theorem lt_bits (x : Nat) : x < 2 ^ bitsOf x := by
  by_cases h0 : x = 0
  · subst h0; exact Nat.two_pow_pos _
  · exact (bitsOf_spec h0).2.2
theorem bits_mono {a b : Nat} (h : a ≤ b) : bitsOf a ≤ bitsOf b := bits_lt (Nat.lt_of_le_of_lt h (lt_bits b))
theorem bits_succ (x : Nat) : bitsOf (x + 1) ≤ bitsOf x + 1 := by
  refine bits_lt ?_
  have := lt_bits x
  rw [Nat.pow_succ]
  omega
theorem lim_bits {x k : Nat} (h : bitsOf x ≤ 32 * k) : (lim x).length ≤ k := by
  have := (lim_bytes x).1
  omega
theorem bits_shl (x z : Nat) : bitsOf (x * 2 ^ z) ≤ bitsOf x + z := by
  refine bits_lt ?_
  by_cases h0 : x = 0
  · subst h0; rw [Nat.zero_mul]; exact Nat.two_pow_pos _
  · obtain ⟨h1, h2, h3⟩ := bitsOf_spec h0
    rw [Nat.pow_add]
    exact Nat.mul_lt_mul_of_pos_right h3 (Nat.two_pow_pos z)
end Go.Proofs.YtchchnohmmncfaaGreatDoor
end
