/- Lemmas of this proof, laid together: BigL, RndP, BigM, BigN, BigO0, BigO. -/
import Derived.Test.YtkhkoeibpkglkaaGreatDoorMg15
import Derived.Deep.DeepCutAuto
import Derived.Deep.RegionWith
import Derived.Shelf.Spec.TrailingZeros
import Ieee.Arith
import Derived.Deep.LoopGhost
set_option linter.unusedSimpArgs false
set_option linter.unusedVariables false
section
/- Words of the library's: how many bits, how many noughts last. -/
namespace Go.Proofs.YtkhkoeibpkglkaaGreatDoor
open Go.RowKit
attribute [local go_sem] sz2 sz3 sz4 sz5 sz6 sz7 sz8
set_option maxHeartbeats 4000000
set_option maxRecDepth 100000
attribute [local irreducible] Calls
/-- How many bits a number has. -/
def bitsOf (a : Nat) : Nat := if a = 0 then 0 else a.log2 + 1
theorem bitsOf_eq {a k : Nat} (h1 : 2 ^ k ≤ a) (h2 : a < 2 ^ (k + 1)) : bitsOf a = k + 1 := by
  have h0 : a ≠ 0 := by have := Nat.two_pow_pos k; omega
  unfold bitsOf
  rw [if_neg h0, (Nat.log2_eq_iff h0).2 ⟨h1, h2⟩]
theorem bitsOf_spec {a : Nat} (h0 : a ≠ 0) : 0 < bitsOf a ∧ 2 ^ (bitsOf a - 1) ≤ a ∧ a < 2 ^ bitsOf a := by
  unfold bitsOf
  rw [if_neg h0]
  exact ⟨by omega, Nat.log2_self_le h0, Nat.lt_log2_self⟩
theorem bitsOf_top {a m top : Nat} (hm : (lim a).length = m + 1) (ht : (lim a).getD m 0 = top) : bitsOf a = 32 * m + Lib.bitLen top ∧ top ≠ 0 ∧ top < 4294967296 ∧ Lib.bitLen top ≤ 32 := by
  have ha0 : a ≠ 0 := by rintro rfl; rw [lim_zero] at hm; simp at hm
  have ht0 : top ≠ 0 := by have := lim_last ha0; rwa [hm, Nat.add_sub_cancel, ht] at this
  have htb : top < 4294967296 := by rw [← ht]; exact lb_getD (lb_lim a) _
  have hb := Lib.bitLenAux_bounds 64 top (by omega) ht0
  have hl : Lib.bitLen top ≤ 32 := Lib.bitLen_le top 32 (by omega) (by omega)
  change 1 ≤ Lib.bitLen top ∧ 2 ^ (Lib.bitLen top - 1) ≤ top ∧ top < 2 ^ Lib.bitLen top at hb
  obtain ⟨h1, h2, h3⟩ := hb
  refine ⟨?_, ht0, htb, hl⟩
  have hlt : a < Bs ^ (m + 1) := by have := lim_lt a; rwa [hm] at this
  have hpk : 0 < Bs ^ m := Nat.pow_pos (by decide)
  have hdiv : a / Bs ^ m = top := by
    rw [limb_at, Nat.mod_eq_of_lt] at ht
    · exact ht
    · rw [Nat.div_lt_iff_lt_mul hpk, Nat.mul_comm, ← Nat.pow_succ]; exact hlt
  have hlo : Bs ^ m * top ≤ a := by rw [← hdiv, Nat.mul_comm]; exact Nat.div_mul_le_self _ _
  have hhi : a < Bs ^ m * (top + 1) := by rw [← hdiv]; exact Nat.lt_mul_div_succ a hpk
  have hB : Bs ^ m = 2 ^ (32 * m) := by rw [Nat.pow_mul]
  have e : 32 * m + Lib.bitLen top = (32 * m + (Lib.bitLen top - 1)) + 1 := by omega
  rw [e]
  refine bitsOf_eq ?_ ?_
  · rw [Nat.pow_add, ← hB]
    exact Nat.le_trans (Nat.mul_le_mul_left _ h2) hlo
  · rw [← e, Nat.pow_add, ← hB]
    exact Nat.lt_of_lt_of_le hhi (Nat.mul_le_mul_left _ h3)
theorem bw_bitLen (A : Option Addr) (n c a : Nat) (hn : n ≤ 1000000) (w : World) (hA : Rd w A n c (lim a)) :
    Calls Tryz.prog 134 #[.slice A n c] w fun e w' => e = .returned (.int .i64 (bitsOf a : Nat)) ∧ Ext w w' := by
  have hmx := hA.mx
  have hcx := hA.cap
  have hl := hA.len
  by_cases h0 : n = 0
  · subst h0
    have ha : a = 0 := lim_nil.1 (List.eq_nil_of_length_eq_zero hl)
    have hb : bitsOf a = 0 := by rw [ha]; rfl
    rw [hb]
    clear hA hl ha hb
    go_enter Tryz.func134, Tryz.ntmps134
    go_wp2
    refine bodyPost_ret (v := .int .i64 0) ?h rfl ⟨rfl, ext_refl _⟩
    case h => simp [results, Tryz.results134, go_sem]
  · obtain ⟨k, rfl⟩ : ∃ k, n = k + 1 := ⟨n - 1, by omega⟩
    obtain ⟨bv, ov, hBe⟩ : ∃ b off, A = some ⟨b, off, none⟩ := by
      rcases hA.shape with ⟨_, h, _⟩ | h
      · omega
      · exact h
    subst hBe
    obtain ⟨top, ht, htb, hct⟩ := hA.get k (by omega)
    obtain ⟨hb, -, -, hbl⟩ := bitsOf_top hl ht.out
    rw [hb]
    have hk : ((k : Int) + 1 == 0) = false := by rw [beq_eq_false_iff_ne]; omega
    clear hA hl hb ht
    go_enter Tryz.func134, Tryz.ntmps134
    go_wp2_with (first
      | (go_at_call 198; (with_reducible refine (Tryz.bits_Len32 (top : Int) _ (by omega) (by omega)).mono ?_); rintro e w2 ⟨rfl, rfl⟩; simp only [Int.toNat_natCast])
     )
    refine bodyPost_ret (v := .int .i64 ↑(32 * k + Lib.bitLen top)) ?h rfl ⟨rfl, ext_refl _⟩
    case h => simp [results, Tryz.results134, go_sem]
/-- How many bits of nought a number ends with (0 of 0). -/
def zz (a : Nat) : Nat := if a = 0 then 0 else Lib.ctzFrom a a
theorem zz_spec {a : Nat} (h : a ≠ 0) : ∃ m, a = 2 ^ zz a * (2 * m + 1) := by
  unfold zz
  rw [if_neg h]
  obtain ⟨m, hm, -⟩ := Lib.ctzFrom_spec a a (by omega) Nat.lt_two_pow_self
  exact ⟨m, hm⟩
theorem odd_pow : ∀ (i j m n : Nat), 2 ^ i * (2 * m + 1) = 2 ^ j * (2 * n + 1) → i = j
  | 0, 0, _, _, _ => rfl
  | 0, j + 1, m, n, h => by rw [Nat.pow_zero, Nat.pow_succ, Nat.mul_comm (2 ^ j), Nat.mul_assoc] at h; omega
  | i + 1, 0, m, n, h => by rw [Nat.pow_zero, Nat.pow_succ, Nat.mul_comm (2 ^ i), Nat.mul_assoc] at h; omega
  | i + 1, j + 1, m, n, h => by
    rw [Nat.pow_succ, Nat.pow_succ, Nat.mul_comm (2 ^ i), Nat.mul_comm (2 ^ j), Nat.mul_assoc, Nat.mul_assoc] at h
    rw [odd_pow i j m n (by omega)]
theorem zz_eq {a k m : Nat} (h : a = 2 ^ k * (2 * m + 1)) : zz a = k := by
  have h0 : a ≠ 0 := by have := Nat.mul_pos (Nat.two_pow_pos k) (show 0 < 2 * m + 1 by omega); omega
  obtain ⟨n, hn⟩ := zz_spec h0
  exact odd_pow _ _ _ _ (hn.symm.trans h)
theorem zz_at {a n x : Nat} (h0 : val ((lim a).take n) = 0) (hx : (lim a).getD n 0 = x) (hx0 : x ≠ 0) (hxb : x < 4294967296) : zz a = 32 * n + Lib.ctz 32 x ∧ Lib.ctz 32 x < 32 := by
  obtain ⟨m, hm, hk⟩ := Lib.ctzFrom_spec 32 x (by omega) (by omega)
  have e : Lib.ctz 32 x = Lib.ctzFrom 32 x := by unfold Lib.ctz; rw [if_neg hx0]
  rw [e]
  refine ⟨?_, hk⟩
  generalize Lib.ctzFrom 32 x = k at *
  rw [val_take_lim] at h0
  rw [limb_at] at hx
  have h1 := Nat.mod_add_div a (Bs ^ n)
  rw [h0, Nat.zero_add] at h1
  have h2 := Nat.mod_add_div (a / Bs ^ n) Bs
  rw [hx] at h2
  have e3 : Bs = 2 ^ k * (2 * 2 ^ (31 - k)) := by
    rw [Nat.mul_comm 2, ← Nat.pow_succ, ← Nat.pow_add, show k + (31 - k).succ = 32 by omega]
  refine zz_eq (m := m + 2 ^ (31 - k) * (a / Bs ^ n / Bs)) ?_
  rw [Nat.pow_add, Nat.pow_mul, Nat.mul_assoc]
  change a = Bs ^ n * _
  have e4 : a / Bs ^ n = 2 ^ k * (2 * (m + 2 ^ (31 - k) * (a / Bs ^ n / Bs)) + 1) := by
    have e5 : Bs * (a / Bs ^ n / Bs) = 2 ^ k * (2 * (2 ^ (31 - k) * (a / Bs ^ n / Bs))) := by
      rw [← Nat.mul_assoc 2, ← Nat.mul_assoc, ← e3]
    rw [e5] at h2
    rw [Nat.mul_add, show 2 * (m + 2 ^ (31 - k) * (a / Bs ^ n / Bs)) = 2 * m + 2 * (2 ^ (31 - k) * (a / Bs ^ n / Bs)) by omega, Nat.mul_add]
    rw [Nat.mul_add] at hm
    omega
  rw [← e4]; exact h1.symm
/-- The table of the library's stands as it was laid. -/
def Tz (w : World) : Prop := TabAt 4 Lib.deBruijn32tab w
theorem Tz.ext {w w' : World} (h : Tz w) (he : Ext w w') : Tz w' := fun j hj => by
  have h1 := h j hj
  have hb : 4 < w.heap.size := by
    refine Nat.lt_of_not_le fun hle => ?_
    simp [World.cell?, Array.getElem?_eq_none hle] at h1
  rw [(ext_use he).1 _ _ hb]; exact h1
theorem bw_tz_core (x k idx : Nat) (w : World) (h0 : ((x : Int) == 0) = false) (key : bits BinOp.and IntKind.u32 (x : Int) (-(x : Int) % 4294967296) * 125613361 % 4294967296 / 134217728 = (idx : Int)) (hi' : idx < 32) (hk : k < 32) (hcell : w.cell? ⟨4, idx, none⟩ = some (.int .u8 k)) :
    Calls Tryz.prog 225 #[.int .u32 (x : Int)] w fun e w' => e = .returned (.int .i64 (k : Nat)) ∧ w = w' := by
  go_enter Tryz.func225, Tryz.ntmps225
  go_wp2_with (simp only [key])
  go_ret
  exact ⟨rfl, rfl⟩
theorem bw_tz (x : Nat) (hx0 : x ≠ 0) (hx : x < 4294967296) (w : World) (hT : Tz w) :
    Calls Tryz.prog 225 #[.int .u32 (x : Int)] w fun e w' => e = .returned (.int .i64 (Lib.ctz 32 x : Nat)) ∧ w = w' := by
  obtain ⟨hlow, hk⟩ := Lib.lowest_bit 32 x hx0 hx
  obtain ⟨hi, htab⟩ := Lib.deBruijn32_at _ hk
  have hcell := hT _ hi
  rw [htab] at hcell
  exact bw_tz_core x _ _ w (by simp; omega) (tz32_key x _ hx hx0 hlow) hi hk hcell
theorem bw_zeros (A : Option Addr) (n c a : Nat) (hn : n ≤ 1000000) (w : World) (hT : Tz w) (hA : Rd w A n c (lim a)) :
    Calls Tryz.prog 240 #[.slice A n c] w fun e w' => e = .returned (.int .i64 (zz a : Nat)) ∧ Ext w w' := by
  have hmx := hA.mx
  have hcx := hA.cap
  have HA := Lib.hid hA
  have HT := Lib.hid hT
  have hlx := Lib.hid hA.len
  clear hA hT
  go_enter Tryz.func240, Tryz.ntmps240
  go_wp2
  go_loopw [3] (fun vi wr => ∃ i : Nat, i ≤ n ∧ vi = .int .i64 (i : Int) ∧ Hid (val ((lim a).take i) = 0) ∧ Hid (Ext w wr))
    (fun vi _ => n - (intOf vi).toNat)
  case atStart => exact ⟨0, Nat.zero_le _, rfl, (rfl : val [] = 0), ext_refl _⟩
  case round =>
    obtain ⟨i, hi, rfl, hv, hE⟩ := hrel
    by_cases h0 : i < n
    · obtain ⟨bv, ov, hBe⟩ : ∃ b off, A = some ⟨b, off, none⟩ := by
        rcases HA.out.shape with ⟨_, h, _⟩ | h
        · omega
        · exact h
      subst hBe
      obtain ⟨x, hx, hxb, hcell⟩ := (HA.out.ext hE.out).get i h0
      by_cases hx0 : x = 0
      · subst hx0
        go_wp2
        case roundEnd =>
          refine ⟨⟨i + 1, by omega, by simp, ?_, hE.out⟩, ?_⟩
          · show _ = _
            rw [val_take_succ, hv.out, hx.out, Nat.mul_zero]
          · simp [intOf]; omega
      · obtain ⟨hz, hc⟩ := zz_at hv.out hx.out hx0 hxb
        have hne : ((x : Int) == 0) = false := by rw [beq_eq_false_iff_ne]; omega
        have hni : ((i : Int) == (n : Int)) = false := by rw [beq_eq_false_iff_ne]; omega
        have HZ := Lib.hid hz
        have HX0 := Lib.hid hx0
        generalize hk : Lib.ctz 32 x = k at hz HZ hc
        have hcall : Calls Tryz.prog 225 #[.int .u32 (x : Int)] wr fun e w' => e = .returned (.int .i64 (k : Nat)) ∧ wr = w' := by rw [← hk]; exact bw_tz x hx0 hxb wr (HT.out.ext hE.out)
        clear hz hx0 hk
        go_wp2_with (first
          | (go_at_call 225; (with_reducible refine hcall.mono ?_); rintro e w2 ⟨rfl, rfl⟩)
         )
        refine bodyPost_ret (v := .int .i64 ↑(32 * i + k)) ?h rfl ⟨by rw [HZ.out], hE.out⟩
        case h => simp [results, Tryz.results240, go_sem]
    · obtain rfl : i = n := by omega
      have ha : zz a = 0 := by
        have h := hv.out
        rw [take_ge (by rw [hlx.out]; exact Nat.le_refl _), val_lim] at h
        rw [h]; rfl
      have HZ := Lib.hid ha
      clear ha
      go_wp2
      refine bodyPost_ret (v := .int .i64 0) ?h rfl ⟨by rw [HZ.out]; rfl, hE.out⟩
      case h => simp [results, Tryz.results240, go_sem]
end Go.Proofs.YtkhkoeibpkglkaaGreatDoor
end
section
/- Rounding a fraction to a float: the plain law. -/
namespace Go.Proofs.YtkhkoeibpkglkaaGreatDoor
open Go.RowKit
set_option maxRecDepth 100000
/-- a/d times 2 to the power of e, as two whole numbers. -/
def tA (a : Nat) (e : Int) : Nat := a * 2 ^ e.toNat
def tD (d : Nat) (e : Int) : Nat := d * 2 ^ (-e).toNat
/-- Is 2 to the power of e not above a/d? -/
def leP (a d : Nat) (e : Int) : Prop := tD d (-e) ≤ tA a (-e)
instance (a d : Nat) (e : Int) : Decidable (leP a d e) := by unfold leP; exact inferInstance
theorem leP_at {a d : Nat} {e : Int} (K : Nat) (h : 0 ≤ e + K) : leP a d e ↔ d * 2 ^ (e + K).toNat ≤ a * 2 ^ K := by
  unfold leP tA tD
  rw [Int.neg_neg]
  have h1 : (e + K).toNat = e.toNat + (K - (-e).toNat) := by omega
  have h2 : K = (-e).toNat + (K - (-e).toNat) := by omega
  have hp : 0 < 2 ^ (K - (-e).toNat) := Nat.two_pow_pos _
  rw [h1]
  conv => rhs; rhs; rw [h2]
  rw [Nat.pow_add, Nat.pow_add, ← Nat.mul_assoc, ← Nat.mul_assoc]
  constructor
  · intro h; exact Nat.mul_le_mul_right _ h
  · intro h; exact Nat.le_of_mul_le_mul_right h hp
theorem leP_mono {a d : Nat} {e f : Int} (h : leP a d e) (hf : f ≤ e) : leP a d f := by
  have k0 : 0 ≤ f + ((-f).toNat : Nat) := by omega
  rw [leP_at (-f).toNat k0]
  rw [leP_at (-f).toNat (by omega)] at h
  refine Nat.le_trans (Nat.mul_le_mul_left _ (Nat.pow_le_pow_right (by decide) (by omega))) h
theorem leP_scale {a d g : Nat} (hg : 0 < g) (e : Int) : leP (a * g) (d * g) e ↔ leP a d e := by
  unfold leP tA tD
  rw [Nat.mul_right_comm d g, Nat.mul_right_comm a g]
  constructor
  · intro h; exact Nat.le_of_mul_le_mul_right h hg
  · intro h; exact Nat.mul_le_mul_right _ h
/-- The exponent of two of the highest bit of a/d. -/
def lgQ (a d : Nat) : Int := if tA a (-((bitsOf a : Int) - bitsOf d)) < tD d (-((bitsOf a : Int) - bitsOf d)) then (bitsOf a : Int) - bitsOf d - 1 else (bitsOf a : Int) - bitsOf d
theorem lgQ_spec {a d : Nat} (ha : 0 < a) (hd : 0 < d) : leP a d (lgQ a d) ∧ ¬ leP a d (lgQ a d + 1) := by
  obtain ⟨a1, a2, a3⟩ := bitsOf_spec (a := a) (by omega)
  obtain ⟨d1, d2, d3⟩ := bitsOf_spec (a := d) (by omega)
  have hlo : leP a d ((bitsOf a : Int) - bitsOf d - 1) := by
    rw [leP_at (bitsOf d) (by omega)]
    have e1 : ((bitsOf a : Int) - bitsOf d - 1 + (bitsOf d : Nat)).toNat = bitsOf a - 1 := by omega
    rw [e1]
    calc d * 2 ^ (bitsOf a - 1) ≤ 2 ^ bitsOf d * 2 ^ (bitsOf a - 1) := Nat.mul_le_mul_right _ (by omega)
      _ = 2 ^ (bitsOf a - 1) * 2 ^ bitsOf d := Nat.mul_comm _ _
      _ ≤ a * 2 ^ bitsOf d := Nat.mul_le_mul_right _ a2
  have hhi : ¬ leP a d ((bitsOf a : Int) - bitsOf d + 1) := by
    rw [leP_at (bitsOf d) (by omega)]
    have e1 : ((bitsOf a : Int) - bitsOf d + 1 + (bitsOf d : Nat)).toNat = bitsOf a + 1 := by omega
    rw [e1]
    intro h
    have h1 : 2 ^ (bitsOf d - 1) * 2 ^ (bitsOf a + 1) ≤ a * 2 ^ bitsOf d := Nat.le_trans (Nat.mul_le_mul_right _ d2) h
    have h2 : a * 2 ^ bitsOf d < 2 ^ bitsOf a * 2 ^ bitsOf d := Nat.mul_lt_mul_of_pos_right a3 (Nat.two_pow_pos _)
    have e2 : 2 ^ (bitsOf d - 1) * 2 ^ (bitsOf a + 1) = 2 ^ bitsOf a * 2 ^ bitsOf d := by
      rw [← Nat.pow_add, ← Nat.pow_add]; congr 1; omega
    omega
  unfold lgQ
  split
  · rename_i h
    refine ⟨hlo, fun q => ?_⟩
    rw [show (bitsOf a : Int) - bitsOf d - 1 + 1 = (bitsOf a : Int) - bitsOf d by omega] at q
    unfold leP at q
    omega
  · rename_i h
    exact ⟨by unfold leP; omega, hhi⟩
theorem lgQ_eq {a d : Nat} (ha : 0 < a) (hd : 0 < d) {e : Int} (h1 : leP a d e) (h2 : ¬ leP a d (e + 1)) : lgQ a d = e := by
  obtain ⟨k1, k2⟩ := lgQ_spec ha hd
  rcases Int.lt_trichotomy (lgQ a d) e with q | q | q
  · exact absurd (leP_mono h1 (by omega)) k2
  · exact q
  · exact absurd (leP_mono k1 (by omega)) h2
theorem lgQ_scale {a d g : Nat} (ha : 0 < a) (hd : 0 < d) (hg : 0 < g) : lgQ (a * g) (d * g) = lgQ a d := by
  obtain ⟨k1, k2⟩ := lgQ_spec ha hd
  exact lgQ_eq (Nat.mul_pos ha hg) (Nat.mul_pos hd hg) ((leP_scale hg _).2 k1) (fun q => k2 ((leP_scale hg _).1 q))
/-- Does the one farther from nought stand for what lies between? (even, away, zero, up, down) -/
def upM (mode : Nat) (neg odd : Bool) (h : Int) : Bool :=
  if mode = 0 then decide (0 < h) || (decide (h = 0) && odd) else if mode = 1 then decide (0 ≤ h) else if mode = 2 then false else if mode = 3 then !neg else neg
/-- a/d rounded to a whole number. -/
def rdQ (mode : Nat) (neg : Bool) (a d : Nat) : Nat := if a % d = 0 then a / d else if upM mode neg (decide (a / d % 2 = 1)) (cmpN (2 * (a % d)) d) = true then a / d + 1 else a / d
theorem cmpN_scale {a b g : Nat} (hg : 0 < g) : cmpN (a * g) (b * g) = cmpN a b := by
  unfold cmpN
  simp only [Nat.mul_lt_mul_right hg]
theorem rdQ_scale {mode : Nat} {neg : Bool} {a d g : Nat} (hg : 0 < g) : rdQ mode neg (a * g) (d * g) = rdQ mode neg a d := by
  unfold rdQ
  have e1 : a * g / (d * g) = a / d := Nat.mul_div_mul_right _ _ hg
  have e2 : a * g % (d * g) = a % d * g := Nat.mul_mod_mul_right _ _ _
  have e3 : a % d * g = 0 ↔ a % d = 0 := by
    constructor
    · intro h
      rcases Nat.mul_eq_zero.1 h with h | h
      · exact h
      · omega
    · intro h; rw [h, Nat.zero_mul]
  rw [e1, e2, show 2 * (a % d * g) = 2 * (a % d) * g from (Nat.mul_assoc ..).symm, cmpN_scale hg]
  by_cases h : a % d = 0
  · rw [if_pos h, if_pos (e3.2 h)]
  · rw [if_neg h, if_neg (fun q => h (e3.1 q))]
theorem rdQ_le (mode : Nat) (neg : Bool) (a d : Nat) : a / d ≤ rdQ mode neg a d ∧ rdQ mode neg a d ≤ a / d + 1 := by
  unfold rdQ
  split
  · omega
  · split <;> omega
/-- The bias of a form. -/
def biasF (E : Nat) : Int := 2 ^ (E - 1) - 1
/-- What is gone over when a/d is rounded: the exponent, the low one, the whole number, and whether it is the number. -/
def lowQ (E a d : Nat) : Int := max (lgQ a d) (1 - biasF E)
def manQ (E F mode : Nat) (neg : Bool) (a d : Nat) : Nat := rdQ mode neg (tA a (F - lowQ E a d)) (tD d (F - lowQ E a d))
def sameQ (E F a d : Nat) : Bool := decide (tA a (F - lowQ E a d) % tD d (F - lowQ E a d) = 0)
def rungQ (E F mode : Nat) (neg : Bool) (a d : Nat) : Nat := manQ E F mode neg a d + (lowQ E a d + biasF E - 1).toNat * 2 ^ F
def infQ (E F : Nat) : Nat := 2 ^ (E + F) - 2 ^ F
def overQ (E F mode : Nat) (neg : Bool) (a d : Nat) : Bool := decide (biasF E < lowQ E a d) || decide (infQ E F ≤ rungQ E F mode neg a d)
/-- The bits to which a/d is rounded, without a sign. -/
def bitsQ (E F mode : Nat) (neg : Bool) (a d : Nat) : Nat :=
  if overQ E F mode neg a d = true then (if mode = 2 ∨ (mode = 3 ∧ neg = true) ∨ (mode = 4 ∧ neg = false) then infQ E F - 1 else infQ E F) else rungQ E F mode neg a d
def underQ (E F mode : Nat) (neg : Bool) (a d : Nat) : Bool :=
  (!sameQ E F a d) && decide (lgQ a d < 1 - biasF E) && (decide (lgQ a d < -biasF E) || decide (bitsOf (rdQ mode neg (tA a (F - lgQ a d)) (tD d (F - lgQ a d))) ≤ F + 1))
def flagQ (E F mode : Nat) (neg : Bool) (a d : Nat) : Nat :=
  if overQ E F mode neg a d = true then 3 else if sameQ E F a d = true then 0 else if underQ E F mode neg a d = true then 5 else 1
theorem tA_scale (a g : Nat) (e : Int) : tA (a * g) e = tA a e * g := by unfold tA; rw [Nat.mul_right_comm]
theorem tD_scale (d g : Nat) (e : Int) : tD (d * g) e = tD d e * g := by unfold tD; rw [Nat.mul_right_comm]
theorem bitsQ_scale {E F mode : Nat} {neg : Bool} {a d g : Nat} (ha : 0 < a) (hd : 0 < d) (hg : 0 < g) : bitsQ E F mode neg (a * g) (d * g) = bitsQ E F mode neg a d := by
  unfold bitsQ overQ rungQ manQ lowQ
  rw [lgQ_scale ha hd hg, tA_scale, tD_scale, rdQ_scale hg]
/-- The same worth, the same bits. -/
theorem bitsQ_eq {E F mode : Nat} {neg : Bool} {a d b c : Nat} (ha : 0 < a) (hd : 0 < d) (hb : 0 < b) (hc : 0 < c) (h : a * c = b * d) : bitsQ E F mode neg a d = bitsQ E F mode neg b c := by
  rw [← bitsQ_scale ha hd hc, ← bitsQ_scale hb hc hd, h, Nat.mul_comm d c]
end Go.Proofs.YtkhkoeibpkglkaaGreatDoor
end
section
/- Words of the library's: the first 64 bits; two rows blended. -/
namespace Go.Proofs.YtkhkoeibpkglkaaGreatDoor
open Go.RowKit
attribute [local go_sem] sz2 sz3 sz4 sz5 sz6 sz7 sz8
set_option maxHeartbeats 4000000
set_option maxRecDepth 100000
attribute [local irreducible] Calls
theorem bits_or64 (a b : Nat) (ha : a < 18446744073709551616) (hb : b < 18446744073709551616) : bits BinOp.or IntKind.u64 (a : Int) (b : Int) = ((a ||| b : Nat) : Int) := by
  have h1 : (BitVec.ofInt 64 (a : Int)).toNat = a := by rw [BitVec.ofInt_natCast, BitVec.toNat_ofNat]; exact Nat.mod_eq_of_lt (by omega)
  have h2 : (BitVec.ofInt 64 (b : Int)).toNat = b := by rw [BitVec.ofInt_natCast, BitVec.toNat_ofNat]; exact Nat.mod_eq_of_lt (by omega)
  show IntKind.u64.wrap ((BitVec.ofInt 64 (a : Int) ||| BitVec.ofInt 64 (b : Int)).toNat : Int) = _
  rw [BitVec.toNat_or, h1, h2, IntKind.wrap_u64]
  have h3 : a ||| b < 2 ^ 64 := Nat.or_lt_two_pow ha hb
  omega
theorem bits_or64_0 (a : Nat) (ha : a < 18446744073709551616) : bits BinOp.or IntKind.u64 (a : Int) 0 = (a : Int) := by have := bits_or64 a 0 ha (by decide); rwa [Nat.or_zero] at this
/-- The three words behind the first 64 bits. -/
theorem top_parts {D s y0 y1 y2 : Nat} (hs : s < 32) (h0 : y0 = D % Bs) (h1 : y1 = D / Bs % Bs) (h2 : y2 = D / Bs / Bs % Bs) :
    IntKind.u64.wrap ((y2 : Int) * 2 ^ (64 - s)) = ((2 ^ (64 - s) * (y2 % 2 ^ s) : Nat) : Int) ∧
    bits BinOp.or IntKind.u64 ((2 ^ (64 - s) * (y2 % 2 ^ s) : Nat) : Int) (IntKind.u64.wrap ((y1 : Int) * 2 ^ (32 - s))) = ((2 ^ (64 - s) * (y2 % 2 ^ s) + 2 ^ (32 - s) * y1 : Nat) : Int) ∧
    bits BinOp.or IntKind.u64 ((2 ^ (64 - s) * (y2 % 2 ^ s) + 2 ^ (32 - s) * y1 : Nat) : Int) ((y0 / 2 ^ s : Nat) : Int) = ((2 ^ (64 - s) * (y2 % 2 ^ s) + 2 ^ (32 - s) * y1 + y0 / 2 ^ s : Nat) : Int) ∧
    2 ^ (64 - s) * (y2 % 2 ^ s) + 2 ^ (32 - s) * y1 + y0 / 2 ^ s = D / 2 ^ s % 18446744073709551616 := by
  obtain ⟨p1, p2, p3⟩ := pow_s hs
  have b0 : y0 < Bs := by rw [h0]; exact Nat.mod_lt _ (by decide)
  have b1 : y1 < Bs := by rw [h1]; exact Nat.mod_lt _ (by decide)
  have b2 : y2 < Bs := by rw [h2]; exact Nat.mod_lt _ (by decide)
  have e64 : 2 ^ (64 - s) = 2 ^ (32 - s) * 4294967296 := by rw [show 64 - s = (32 - s) + 32 by omega, Nat.pow_add]
  have q1 : 2 ^ s * 2 ^ (64 - s) = 18446744073709551616 := by rw [← Nat.pow_add, show s + (64 - s) = 64 by omega]
  have hp32 : 0 < 2 ^ (32 - s) := Nat.two_pow_pos _
  have hm : y2 % 2 ^ s < 2 ^ s := Nat.mod_lt _ p2
  have t2 : 2 ^ (64 - s) * (y2 % 2 ^ s) + 2 ^ (64 - s) ≤ 18446744073709551616 := by
    have := Nat.mul_le_mul_left (2 ^ (64 - s)) (show y2 % 2 ^ s + 1 ≤ 2 ^ s from hm)
    rw [Nat.mul_comm (2 ^ (64 - s)) (2 ^ s), q1, Nat.mul_add, Nat.mul_one] at this; exact this
  have t1 : 2 ^ (32 - s) * y1 + 2 ^ (32 - s) ≤ 2 ^ (64 - s) := by
    have := Nat.mul_le_mul_left (2 ^ (32 - s)) (show y1 + 1 ≤ 4294967296 from b1)
    rw [Nat.mul_add, Nat.mul_one] at this; rw [e64]; exact this
  have t0 : y0 / 2 ^ s < 2 ^ (32 - s) := by
    rw [Nat.div_lt_iff_lt_mul p2, Nat.mul_comm, p1]; exact b0
  refine ⟨?_, ?_, ?_, ?_⟩
  · have e : 2 ^ (64 - s) * (y2 % 2 ^ s) = y2 * 2 ^ (64 - s) % 18446744073709551616 := by
      rw [← q1, Nat.mul_comm y2, Nat.mul_comm (2 ^ s), Nat.mul_mod_mul_left]
    have e' : (y2 : Int) * 2 ^ (64 - s) = ((y2 * 2 ^ (64 - s) : Nat) : Int) := by simp
    rw [e', IntKind.wrap_u64, e]
    omega
  · have e' : (y1 : Int) * 2 ^ (32 - s) = ((2 ^ (32 - s) * y1 : Nat) : Int) := by rw [Nat.mul_comm]; simp
    have e2 : IntKind.u64.wrap ((y1 : Int) * 2 ^ (32 - s)) = ((2 ^ (32 - s) * y1 : Nat) : Int) := by
      rw [e', IntKind.wrap_u64]
      generalize 2 ^ (32 - s) * y1 = u at *
      omega
    rw [e2, bits_or64 _ _ (by omega) (by omega), Nat.or_comm, or_add (by omega)]
  · rw [bits_or64 _ _ (by omega) (by omega), Nat.or_comm]
    rw [show 2 ^ (64 - s) * (y2 % 2 ^ s) + 2 ^ (32 - s) * y1 = 2 ^ (32 - s) * (4294967296 * (y2 % 2 ^ s) + y1) by rw [e64, Nat.mul_add, Nat.mul_assoc]]
    rw [or_add t0]
  · have d1 := Nat.mod_add_div D Bs
    have d2 := Nat.mod_add_div (D / Bs) Bs
    have d3 := Nat.mod_add_div (D / Bs / Bs) Bs
    rw [← h0] at d1
    rw [← h1] at d2
    rw [← h2] at d3
    generalize D / Bs / Bs / Bs = r at d3
    have e1 : D = y0 + 2 ^ s * (2 ^ (32 - s) * y1 + 2 ^ (64 - s) * (y2 + Bs * r)) := by
      have f1 : 2 ^ s * (2 ^ (32 - s) * y1) = Bs * y1 := by rw [← Nat.mul_assoc, p1]
      have f2 : 2 ^ s * (2 ^ (64 - s) * (y2 + Bs * r)) = Bs * (Bs * (D / Bs / Bs)) := by rw [← Nat.mul_assoc, q1, d3, ← Nat.mul_assoc Bs Bs, show Bs * Bs = 18446744073709551616 by decide]
      rw [Nat.mul_add, f1, f2]
      have f3 : Bs * (D / Bs) = Bs * y1 + Bs * (Bs * (D / Bs / Bs)) := by rw [← Nat.mul_add, d2]
      omega
    have e2 : D / 2 ^ s = y0 / 2 ^ s + (2 ^ (32 - s) * y1 + 2 ^ (64 - s) * (y2 + Bs * r)) := by
      rw [e1, Nat.add_mul_div_left _ _ p2]
    have e3 : 2 ^ (64 - s) * (y2 + Bs * r) = 2 ^ (64 - s) * (y2 % 2 ^ s) + 18446744073709551616 * (y2 / 2 ^ s + 2 ^ (32 - s) * r) := by
      have g1 := Nat.mod_add_div y2 (2 ^ s)
      have g2 : y2 + Bs * r = y2 % 2 ^ s + 2 ^ s * (y2 / 2 ^ s + 2 ^ (32 - s) * r) := by
        rw [Nat.mul_add, ← Nat.mul_assoc, p1]
        show _ = _ + (_ + Bs * r)
        omega
      rw [g2, Nat.mul_add, ← Nat.mul_assoc, Nat.mul_comm (2 ^ (64 - s)) (2 ^ s), q1]
    obtain ⟨X, hX⟩ : ∃ X, X = 2 ^ (64 - s) * (y2 % 2 ^ s) + 2 ^ (32 - s) * y1 + y0 / 2 ^ s := ⟨_, rfl⟩
    have hXb : X < 18446744073709551616 := by omega
    have e4 : D / 2 ^ s = X + 18446744073709551616 * (y2 / 2 ^ s + 2 ^ (32 - s) * r) := by rw [e2, e3, hX]; omega
    rw [e4, ← hX, Nat.add_mul_mod_self_left, Nat.mod_eq_of_lt hXb]
theorem bw_topBits (A : Option Addr) (n c a z : Nat) (hn : n ≤ 1000000) (hz : z ≤ 100000000) (w : World) (hA : Rd w A n c (lim a)) :
    Calls Tryz.prog 241 #[.slice A n c, .int .i64 (z : Int)] w fun e w' => e = .returned (.int .u64 (a / 2 ^ z % 18446744073709551616 : Nat)) ∧ Ext w w' := by
  have hmx := hA.mx
  have hcx := hA.cap
  have HA := Lib.hid hA
  have hlx := Lib.hid hA.len
  obtain ⟨k, hk⟩ : ∃ k, k = z / 32 := ⟨_, rfl⟩
  obtain ⟨s, hs⟩ : ∃ s, s = z % 32 := ⟨_, rfl⟩
  have hs32 : s < 32 := by omega
  have hk5 : k ≤ 100000000 := by omega
  have hkz : z = 32 * k + s := by omega
  have e1 : (z : Int) / 32 = (k : Int) := by omega
  have e2 : (z : Int) % 32 = (s : Int) := by omega
  have e3 : (64 : Int) - (s : Int) = ((64 - s : Nat) : Int) := by omega
  have e4 : (32 : Int) - (s : Int) = ((32 - s : Nat) : Int) := by omega
  have HKZ := Lib.hid hkz
  obtain ⟨y0, hy0⟩ : ∃ y, y = (lim a).getD k 0 := ⟨_, rfl⟩
  obtain ⟨y1, hy1⟩ : ∃ y, y = (lim a).getD (k + 1) 0 := ⟨_, rfl⟩
  obtain ⟨y2, hy2⟩ : ∃ y, y = (lim a).getD (k + 2) 0 := ⟨_, rfl⟩
  obtain ⟨P2, P1, P0, PF⟩ := top_parts (D := a / Bs ^ k) (y0 := y0) (y1 := y1) (y2 := y2) hs32 (by rw [hy0, limb_at]) (by rw [hy1, limb_at, Nat.pow_succ, Nat.div_div_eq_div_mul]) (by rw [hy2, limb_at, Nat.pow_succ, Nat.pow_succ, Nat.div_div_eq_div_mul, Nat.div_div_eq_div_mul, Nat.mul_assoc])
  have hX2 : s = 0 ∨ y2 = 0 → 2 ^ (64 - s) * (y2 % 2 ^ s) = 0 := fun h => by
    rcases h with h | h
    · subst h; simp [Nat.mod_one]
    · subst h; simp
  have hX1 : y1 = 0 → 2 ^ (64 - s) * (y2 % 2 ^ s) + 2 ^ (32 - s) * y1 = 2 ^ (64 - s) * (y2 % 2 ^ s) := fun h => by rw [h]; simp
  have hX0 : y0 = 0 → 2 ^ (64 - s) * (y2 % 2 ^ s) + 2 ^ (32 - s) * y1 + y0 / 2 ^ s = 2 ^ (64 - s) * (y2 % 2 ^ s) + 2 ^ (32 - s) * y1 := fun h => by rw [h]; simp
  have hF : a / Bs ^ k / 2 ^ s = a / 2 ^ z := by rw [HKZ.out, Nat.pow_add, Nat.pow_mul, Nat.div_div_eq_div_mul]
  rw [hF] at PF
  have hb0 : 2 ^ (64 - s) * (y2 % 2 ^ s) + 2 ^ (32 - s) * y1 < 18446744073709551616 ∧ 2 ^ (64 - s) * (y2 % 2 ^ s) < 18446744073709551616 := by
    have h1 : a / 2 ^ z % 18446744073709551616 < 18446744073709551616 := Nat.mod_lt _ (by decide)
    rw [← PF] at h1
    exact ⟨Nat.lt_of_le_of_lt (Nat.le_add_right _ _) h1, Nat.lt_of_le_of_lt (Nat.le_trans (Nat.le_add_right _ _) (Nat.le_add_right _ _)) h1⟩
  rw [PF] at P0 hX0
  generalize a / 2 ^ z % 18446744073709551616 = X0 at *
  generalize 2 ^ (64 - s) * (y2 % 2 ^ s) + 2 ^ (32 - s) * y1 = X1 at *
  generalize 2 ^ (64 - s) * (y2 % 2 ^ s) = X2 at *
  have N1 := Lib.hid hb0.1
  have N2 := Lib.hid hb0.2
  have G2 := Lib.hid P2
  have G1 := Lib.hid P1
  have G0 := Lib.hid P0
  have Z2 := Lib.hid hX2
  have Z1 := Lib.hid hX1
  have Z0 := Lib.hid hX0
  have HY0 := Lib.hid hy0
  have HY1 := Lib.hid hy1
  have HY2 := Lib.hid hy2
  clear hb0 hA hk hs hkz P2 P1 P0 PF hX2 hX1 hX0 hF hy0 hy1 hy2
  go_enter Tryz.func241, Tryz.ntmps241
  go_wp2
  go_loopw [7, 8] (fun vx vi wr => ∃ (j x : Nat), j ≤ 3 ∧ vi = .int .i64 ((j : Int) - 1) ∧ vx = .int .u64 (x : Int) ∧ Hid ((j = 3 → x = 0) ∧ (j = 2 → x = X2) ∧ (j = 1 → x = X1) ∧ (j = 0 → x = X0)) ∧ Hid (Ext w wr))
    (fun _ vi _ => (intOf vi + 1).toNat)
  case atStart => exact ⟨3, 0, by omega, rfl, rfl, ⟨fun _ => rfl, fun h => by omega, fun h => by omega, fun h => by omega⟩, ext_refl _⟩
  case round =>
    obtain ⟨j, x, hj, rfl, rfl, hx, hE⟩ := hrel
    have hlim : ∀ i, k + i < n → ∃ (bv ov y : Nat), A = some ⟨bv, ov, none⟩ ∧ Hid ((lim a).getD (k + i) 0 = y) ∧ y < 4294967296 ∧ wr.cell? ⟨bv, ov + (k + i), none⟩ = some (.int .u32 (y : Int)) := fun i h => by
      obtain ⟨bv, ov, hBe⟩ : ∃ b off, A = some ⟨b, off, none⟩ := by
        rcases HA.out.shape with ⟨_, h, _⟩ | h
        · omega
        · exact h
      subst hBe
      obtain ⟨y, hy, hyb, hcell⟩ := (HA.out.ext hE.out).get (k + i) h
      exact ⟨bv, ov, y, rfl, hy, hyb, hcell⟩
    have hno : ∀ i, ¬ k + i < n → (lim a).getD (k + i) 0 = 0 := fun i h => getD_ge (by rw [hlx.out]; omega)
    have HN := Lib.hid hno
    have HL := Lib.hid hlim
    clear hno hlim
    match j, hj with
    | 0, _ =>
      have he := hx.out.2.2.2 rfl
      subst he
      go_wp2
      refine bodyPost_ret (v := .int .u64 ↑x) ?h rfl ⟨rfl, hE.out⟩
      case h => simp [results, Tryz.results241, go_sem]
    | 3, _ =>
      obtain rfl := hx.out.1 rfl
      by_cases h : k + 2 < n
      · obtain ⟨bv, ov, y, rfl, hy, hyb, hcell⟩ := HL.out 2 h
        have hyy : y2 = y := by rw [HY2.out, hy.out]
        subst hyy
        by_cases hs0 : 0 < s
        · go_wp2
          case roundEnd =>
            rw [G2.out]
            exact ⟨⟨2, X2, by omega, rfl, rfl, ⟨fun h => by omega, fun _ => rfl, fun h => by omega, fun h => by omega⟩, hE.out⟩, by simp [intOf]⟩
        · have hz := Z2.out (.inl (by omega))
          have hs0' : s = 0 := by omega
          subst hs0'
          go_wp2
          case roundEnd =>
            exact ⟨⟨2, 0, by omega, rfl, rfl, ⟨fun h => by omega, fun _ => hz.symm, fun h => by omega, fun h => by omega⟩, hE.out⟩, by simp [intOf]⟩
      · have hz := Z2.out (.inr (HY2.out.trans (HN.out 2 h)))
        by_cases hs0 : 0 < s
        · go_wp2
          case roundEnd =>
            refine ⟨⟨2, 0, by omega, rfl, by simp, ⟨fun h => by omega, fun _ => hz.symm, fun h => by omega, fun h => by omega⟩, hE.out⟩, by simp [intOf]⟩
        · have hs0' : s = 0 := by omega
          subst hs0'
          go_wp2
          case roundEnd =>
            exact ⟨⟨2, 0, by omega, rfl, rfl, ⟨fun h => by omega, fun _ => hz.symm, fun h => by omega, fun h => by omega⟩, hE.out⟩, by simp [intOf]⟩
    | 2, _ =>
      have he := hx.out.2.1 rfl
      subst he
      by_cases h : k + 1 < n
      · obtain ⟨bv, ov, y, rfl, hy, hyb, hcell⟩ := HL.out 1 h
        have hyy : y1 = y := by rw [HY1.out, hy.out]
        subst hyy
        go_wp2
        case roundEnd =>
          rw [G1.out]
          exact ⟨⟨1, X1, by omega, rfl, rfl, ⟨fun h => by omega, fun h => by omega, fun _ => rfl, fun h => by omega⟩, hE.out⟩, by simp [intOf]⟩
      · have hz := Z1.out (HY1.out.trans (HN.out 1 h))
        go_wp2
        case roundEnd =>
          rw [bits_or64_0 _ N2.out]
          exact ⟨⟨1, x, by omega, rfl, rfl, ⟨fun h => by omega, fun h => by omega, fun _ => hz.symm, fun h => by omega⟩, hE.out⟩, by simp [intOf]⟩
    | 1, _ =>
      have he := hx.out.2.2.1 rfl
      subst he
      by_cases h : k < n
      · obtain ⟨bv, ov, y, rfl, hy, hyb, hcell⟩ := HL.out 0 h
        have hyy : y0 = y := by rw [HY0.out]; exact hy.out
        subst hyy
        rw [Nat.add_zero] at hcell
        go_wp2
        case roundEnd =>
          rw [show (y0 : Int) / 2 ^ s = ((y0 / 2 ^ s : Nat) : Int) by simp, G0.out]
          exact ⟨⟨0, X0, by omega, rfl, rfl, ⟨fun h => by omega, fun h => by omega, fun h => by omega, fun _ => rfl⟩, hE.out⟩, by simp [intOf]⟩
      · have hz := Z0.out (HY0.out.trans (HN.out 0 h))
        go_wp2
        case roundEnd =>
          rw [bits_or64_0 _ N1.out]
          exact ⟨⟨0, x, by omega, rfl, rfl, ⟨fun h => by omega, fun h => by omega, fun h => by omega, fun _ => hz.symm⟩, hE.out⟩, by simp [intOf]⟩
end Go.Proofs.YtkhkoeibpkglkaaGreatDoor
end
section
/- Words of the library's: two rows blended. -/
namespace Go.Proofs.YtkhkoeibpkglkaaGreatDoor
open Go.RowKit
attribute [local go_sem] sz2 sz3 sz4 sz5 sz6 sz7 sz8
set_option maxHeartbeats 4000000
set_option maxRecDepth 100000
attribute [local irreducible] Calls
theorem prod_bound {p : Int} {x : Nat} (h1 : -1073741824 < p) (h2 : p < 1073741824) (hx : x < 4294967296) : -4611686014132420609 ≤ p * (x : Int) ∧ p * (x : Int) ≤ 4611686014132420609 := by
  rcases Int.le_total 0 p with h | h
  · have h3 : p * (x : Int) ≤ 1073741823 * 4294967295 := Int.mul_le_mul (by omega) (by omega) (by omega) (by omega)
    have h4 : 0 ≤ p * (x : Int) := Int.mul_nonneg h (by omega)
    omega
  · have h3 : (-p) * (x : Int) ≤ 1073741823 * 4294967295 := Int.mul_le_mul (by omega) (by omega) (by omega) (by omega)
    have h4 : 0 ≤ (-p) * (x : Int) := Int.mul_nonneg (by omega) (by omega)
    rw [Int.neg_mul] at h3 h4
    omega
theorem cast_step (v k z : Nat) : ((v + Bs ^ k * z : Nat) : Int) = (v : Int) + (Bs : Int) ^ k * (z : Int) := by rw [Int.natCast_add, Int.natCast_mul, Int.natCast_pow]
theorem blend_step {os xs ys : List Nat} {i x y : Nat} {p q cy t : Int} (hl : i < os.length) (h : (val (os.take i) : Int) + (Bs : Int) ^ i * cy = p * (val (xs.take i) : Int) + q * (val (ys.take i) : Int)) (hx : xs.getD i 0 = x) (hy : ys.getD i 0 = y) (ht : t = p * (x : Int) + q * (y : Int) + cy) :
    (val ((os.set i (t % 4294967296).toNat).take (i + 1)) : Int) + (Bs : Int) ^ (i + 1) * (t / 4294967296) = p * (val (xs.take (i + 1)) : Int) + q * (val (ys.take (i + 1)) : Int) := by
  have e5 : (os.set i (t % 4294967296).toNat).getD i 0 = (t % 4294967296).toNat := by
    rw [List.getD_eq_getElem?_getD, List.getElem?_set_self hl, Option.getD_some]
  rw [val_take_succ, val_take_succ, val_take_succ, take_set_self, e5, hx, hy]
  have e1 : ((t % 4294967296).toNat : Int) = t % 4294967296 := Int.toNat_of_nonneg (Int.emod_nonneg _ (by decide))
  have e2 : t % 4294967296 + 4294967296 * (t / 4294967296) = t := Int.emod_add_mul_ediv t 4294967296
  rw [cast_step, cast_step, cast_step, e1, Int.pow_succ, Int.mul_assoc]
  have e3 : (Bs : Int) ^ i * (t % 4294967296) + (Bs : Int) ^ i * ((Bs : Int) * (t / 4294967296)) = (Bs : Int) ^ i * t := by
    rw [← Int.mul_add]
    show _ * (t % 4294967296 + 4294967296 * (t / 4294967296)) = _
    rw [e2]
  have e4 : (Bs : Int) ^ i * t = p * ((Bs : Int) ^ i * x) + q * ((Bs : Int) ^ i * y) + (Bs : Int) ^ i * cy := by
    rw [ht, Int.mul_add, Int.mul_add, Int.mul_left_comm, Int.mul_left_comm ((Bs : Int) ^ i) q]
  rw [Int.mul_add p, Int.mul_add q]
  omega
theorem bw_blend (A B : Option Addr) (n c m d a b : Nat) (p q : Int) (T : Nat) (hmn : m ≤ n) (hn : n ≤ 500000) (hp1 : -1073741824 < p) (hp2 : p < 1073741824) (hq1 : -1073741824 < q) (hq2 : q < 1073741824) (hT : p * (a : Int) + q * (b : Int) = (T : Int)) (w : World) (hA : Rd w A n c (lim a)) (hB : Rd w B m d (lim b)) :
    Calls Tryz.prog 243 #[.slice A n c, .slice B m d, .int .i64 p, .int .i64 q] w (WPost w T) := by
  have hmx := hA.mx
  have hcx := hA.cap
  have hmy := hB.mx
  have hcy := hB.cap
  have HA := Lib.hid hA
  have HB := Lib.hid hB
  have hlx := Lib.hid hA.len
  have hly := Lib.hid hB.len
  have HT := Lib.hid hT
  clear hA hB hT
  go_enter Tryz.func243, Tryz.ntmps243
  go_wp2_with (first
    | (at_make; refine make_u32 rfl _ _ rfl _ _ _ _ (n + 1) rfl rfl (by simp) (by simp) (by omega) ?_; intro w1 hx1 ho1; have hext1 := Lib.hid hx1; clear hx1)
   )
  have hGl : w.heap.size < w1.heap.size := (ho1.out.lt w.heap.size rfl).2
  go_loopw [10, 11] (fun vc vi wr => ∃ (i : Nat) (cy : Int) (os : List Nat), i ≤ n ∧ (-2147483648 ≤ cy ∧ cy ≤ 2147483648) ∧ vi = .int .i64 (i : Int) ∧ vc = .int .i64 cy ∧
      Hid (os.length = n + 1 ∧ Lb os ∧ (val (os.take i) : Int) + (Bs : Int) ^ i * cy = p * (val ((lim a).take i) : Int) + q * (val ((lim b).take i) : Int)) ∧
      Hid (wr.ownsRow w.heap.size 60 1 (.slice (some ⟨w.heap.size, 0, none⟩) (n + 1) (n + 1)) (n + 1) (os.map u32V)) ∧ Hid (Ext w wr))
    (fun _ vi _ => n - (intOf vi).toNat)
  case atStart => exact ⟨0, 0, List.replicate (n + 1) 0, Nat.zero_le _, by omega, rfl, rfl, ⟨by simp, lb_replicate _, by simp [val]⟩, ho1.out, hext1.out⟩
  case round =>
    clear ho1 hext1
    obtain ⟨i, cy, os, hi, hcb, rfl, rfl, hos, hown, hE⟩ := hrel
    obtain ⟨hcb1, hcb2⟩ := hcb
    by_cases h0 : i < n
    · obtain ⟨bx, ox, hXe⟩ : ∃ b off, A = some ⟨b, off, none⟩ := by
        rcases HA.out.shape with ⟨_, h, _⟩ | h
        · omega
        · exact h
      subst hXe
      obtain ⟨x, hx, hxb, hcx1⟩ := (HA.out.ext hE.out).get i h0
      obtain ⟨hc1, hf1⟩ := own_at hown.out i (by omega)
      obtain ⟨px, hpx⟩ : ∃ px, p * (x : Int) = px := ⟨_, rfl⟩
      have hpb := prod_bound hp1 hp2 hxb
      rw [hpx] at hpb
      obtain ⟨hpb1, hpb2⟩ := hpb
      by_cases h1 : i < m
      · obtain ⟨by', oy, hYe⟩ : ∃ b off, B = some ⟨b, off, none⟩ := by
          rcases HB.out.shape with ⟨_, h, _⟩ | h
          · omega
          · exact h
        subst hYe
        obtain ⟨y, hy, hyb, hcy1⟩ := (HB.out.ext hE.out).get i h1
        obtain ⟨qy, hqy⟩ : ∃ qy, q * (y : Int) = qy := ⟨_, rfl⟩
        have hqb := prod_bound hq1 hq2 hyb
        rw [hqy] at hqb
        obtain ⟨hqb1, hqb2⟩ := hqb
        have hst := blend_step (t := px + cy + qy) (by rw [hos.out.1]; omega) hos.out.2.2 hx.out hy.out (by rw [hpx, hqy]; omega)
        have HST := Lib.hid hst
        clear hst
        go_wp2
        case roundEnd =>
          obtain ⟨r, hr⟩ : ∃ r : Nat, (px + cy + qy) % 4294967296 = (r : Int) := ⟨((px + cy + qy) % 4294967296).toNat, by omega⟩
          have hst := HST.out
          rw [hr, Int.toNat_natCast] at hst
          rw [hr]
          refine ⟨⟨i + 1, (px + cy + qy) / 4294967296, os.set i r, by omega, by omega, by simp, rfl, ⟨by simp [hos.out.1], lb_set hos.out.2.1 _ (by unfold Bs; omega), hst⟩, own_set hown.out i r, ext_setCell hE.out (Nat.le_refl _) _⟩, ?_⟩
          simp [intOf]; omega
      · have hy0 : (lim b).getD i 0 = 0 := getD_ge (by rw [hly.out]; omega)
        have hst := blend_step (t := px + cy) (by rw [hos.out.1]; omega) hos.out.2.2 hx.out hy0 (by rw [hpx]; simp)
        have HST := Lib.hid hst
        clear hst hy0
        go_wp2
        case roundEnd =>
          obtain ⟨r, hr⟩ : ∃ r : Nat, (px + cy) % 4294967296 = (r : Int) := ⟨((px + cy) % 4294967296).toNat, by omega⟩
          have hst := HST.out
          rw [hr, Int.toNat_natCast] at hst
          rw [hr]
          refine ⟨⟨i + 1, (px + cy) / 4294967296, os.set i r, by omega, by omega, by simp, rfl, ⟨by simp [hos.out.1], lb_set hos.out.2.1 _ (by unfold Bs; omega), hst⟩, own_set hown.out i r, ext_setCell hE.out (Nat.le_refl _) _⟩, ?_⟩
          simp [intOf]; omega
    · obtain rfl : i = n := by omega
      have hv := hos.out.2.2
      rw [take_ge (l := lim a) (by rw [hlx.out]; exact Nat.le_refl _), take_ge (l := lim b) (by rw [hly.out]; exact hmn), val_lim, val_lim, HT.out] at hv
      have hvl : val (os.take i) < Bs ^ i := by
        have h1 := val_lt (os.take i) (fun x hx => hos.out.2.1 x (List.mem_of_mem_take hx))
        rwa [List.length_take, hos.out.1, Nat.min_eq_left (by omega)] at h1
      have hc0 : 0 ≤ cy := by
        refine Int.not_lt.1 fun hneg => ?_
        have h1 : (Bs : Int) ^ i * cy ≤ (Bs : Int) ^ i * (-1) := Int.mul_le_mul_of_nonneg_left (by omega) (Int.pow_nonneg (by decide))
        have h2 : ((val (os.take i) : Nat) : Int) < ((Bs ^ i : Nat) : Int) := Int.ofNat_lt.2 hvl
        rw [Int.natCast_pow] at h2
        omega
      obtain ⟨cn, rfl⟩ : ∃ cn : Nat, cy = (cn : Int) := ⟨cy.toNat, by omega⟩
      have hvv : val (os.set i cn) = T := by
        have h1 : val ((os.set i cn).take (i + 1)) = val (os.set i cn) := by rw [take_ge (by rw [List.length_set, hos.out.1]; exact Nat.le_refl _)]
        rw [← h1, val_take_succ, take_set_self, List.getD_eq_getElem?_getD, List.getElem?_set_self (by rw [hos.out.1]; omega), Option.getD_some]
        have h2 := cast_step (val (os.take i)) i cn
        rw [hv] at h2
        exact Int.ofNat.inj h2
      obtain ⟨hc1, hf1⟩ := own_at hown.out i (by omega)
      have hT := bw_trim_own (own_set hown.out i cn) (lb_set hos.out.2.1 _ (by unfold Bs; omega)) hvv
      have hEE := Lib.hid (ext_setCell (p := ⟨w.heap.size, i, none⟩) hE.out (Nat.le_refl _) (.int .u32 (cn : Int)))
      have hcm : (cn : Int) % 4294967296 = cn := by omega
      clear hv hvl hvv hc0
      go_wp2_with (first
        | (go_at_call 180; (with_reducible refine hT.mono ?_); rintro e w' ⟨⟨j, rfl, hR⟩, rfl⟩)
       )
      refine bodyPost_ret (v := .slice (some ⟨w.heap.size, 0, none⟩) j (i + 1)) ?h rfl ⟨_, j, i + 1, rfl, ⟨hR.out, fun q hq => ?_⟩, hEE.out⟩
      case h => simp [results, Tryz.results243, go_sem]
      cases hq; exact Nat.le_refl _
end Go.Proofs.YtkhkoeibpkglkaaGreatDoor
end
section
/- The greatest common divisor by several steps at once (Lehmer's way): the plain part. -/
namespace Go.Proofs.YtkhkoeibpkglkaaGreatDoor
structure Leh (X Y : Nat) (e : Int) (x y u0 u1 u2 v0 v1 v2 : Nat) : Prop where
  he : e = 1 ∨ e = -1
  hx : (x : Int) = e * ((u1 : Int) * X - v1 * Y)
  hy : (y : Int) = -e * ((u2 : Int) * X - v2 * Y)
  hd : e * ((u1 : Int) * v2 - u2 * v1) = 1
  hyx : y ≤ x
  hv : v1 ≤ v2 ∧ 1 ≤ v2 ∧ u2 ≤ v2
  hu : u1 ≤ v1 ∨ (u1 = 1 ∧ v1 = 0 ∧ u2 = 0 ∧ v2 = 1)
  hp : v0 = 0 ∨ (1 ≤ v0 ∧ u0 ≤ v0 ∧ u1 ≤ v1 ∧ v0 ≤ v1 ∧ v1 ≤ x ∧ v1 < 1073741824 ∧ ∃ xp : Nat, (xp : Int) = -e * ((u0 : Int) * X - v0 * Y) ∧ -e * ((u0 : Int) * v1 - u1 * v0) = 1 ∧ x + v0 + v1 ≤ xp)
theorem Leh.start {X Y : Nat} (h : Y ≤ X) : Leh X Y 1 X Y 0 1 0 0 0 1 :=
  ⟨.inl rfl, by simp, by simp, by simp, h, ⟨by omega, by omega, by omega⟩, .inr ⟨rfl, rfl, rfl, rfl⟩, .inl rfl⟩
theorem Leh.whole {X Y : Nat} {e : Int} {x y u0 u1 u2 v0 v1 v2 : Nat} (h : Leh X Y e x y u0 u1 u2 v0 v1 v2) : x * v2 + y * v1 = X := by
  have h1 := h.hx
  have h2 := h.hy
  have h3 := h.hd
  have : ((x * v2 + y * v1 : Nat) : Int) = (X : Int) := by
    rw [Int.natCast_add, Int.natCast_mul, Int.natCast_mul]
    rcases h.he with he | he <;> subst he <;> grind
  exact Int.ofNat.inj this
theorem Leh.le {X Y : Nat} {e : Int} {x y u0 u1 u2 v0 v1 v2 : Nat} (h : Leh X Y e x y u0 u1 u2 v0 v1 v2) : x ≤ X := by
  have h1 := h.whole
  have h2 := Nat.mul_le_mul_left x h.hv.2.1
  omega
theorem Leh.step {X Y : Nat} {e : Int} {x y u0 u1 u2 v0 v1 v2 : Nat} (h : Leh X Y e x y u0 u1 u2 v0 v1 v2) (hX : X < 1152921504606846976) (h1 : v2 ≤ y) (h2 : v1 + v2 ≤ x - y) :
    Leh X Y (-e) y (x % y) u1 u2 (u1 + x / y * u2) v1 v2 (v1 + x / y * v2) := by
  obtain ⟨hv1, hv2, hv3⟩ := h.hv
  have hy0 : 0 < y := by omega
  have hq : 1 ≤ x / y := (Nat.le_div_iff_mul_le hy0).2 (by have := h.hyx; omega)
  have hxy : x = x / y * y + x % y := by have := Nat.div_add_mod x y; rw [Nat.mul_comm] at this; exact this.symm
  have hm := Nat.mod_lt x hy0
  have hW := h.whole
  have ex := h.hx
  have ey := h.hy
  have ed := h.hd
  have hq1 : v2 ≤ x / y * v2 := Nat.le_mul_of_pos_left _ hq
  have hq2 : x / y * u2 ≤ x / y * v2 := Nat.mul_le_mul_left _ hv3
  generalize x / y = q at *
  generalize x % y = r at *
  have hxi : (x : Int) = (q : Int) * y + r := by rw [hxy]; simp
  refine ⟨by rcases h.he with he | he <;> subst he <;> simp, by rw [ey], ?_, ?_, by omega, ⟨by omega, by omega, ?_⟩, .inl hv3, ?_⟩
  · have : (r : Int) = (x : Int) - q * y := by omega
    rw [this, Int.natCast_add, Int.natCast_add, Int.natCast_mul, Int.natCast_mul]
    grind
  · rw [Int.natCast_add, Int.natCast_add, Int.natCast_mul, Int.natCast_mul]
    grind
  · rcases h.hu with h3 | ⟨h3, h4, h5, h6⟩
    · omega
    · subst h3 h4 h5 h6; omega
  · by_cases h0 : v1 = 0
    · exact .inl h0
    · right
      have hu1 : u1 ≤ v1 := by rcases h.hu with h3 | ⟨_, h4, _⟩ <;> omega
      have hb : v2 < 1073741824 := by
        refine Nat.lt_of_not_le fun h3 => ?_
        have h4 : 1073741824 * 1073741824 ≤ x * v2 := Nat.mul_le_mul (by omega) h3
        omega
      exact ⟨by omega, hu1, hv3, hv1, h1, hb, x, by rw [ex]; grind, by grind, by omega⟩
/-- What the blended rows come to. -/
theorem Leh.blend {X Y : Nat} {e : Int} {x y u0 u1 u2 v0 v1 v2 : Nat} (h : Leh X Y e x y u0 u1 u2 v0 v1 v2) (h0 : v0 ≠ 0) {a b M : Nat} (hX : X = a / M) (hY : Y = b / M) (hM : 0 < M) :
    ∃ A B : Nat, (A : Int) = -e * ((u0 : Int) * a - v0 * b) ∧ (B : Int) = e * ((u1 : Int) * a - v1 * b) ∧ B ≤ A ∧ A + B ≤ a ∧ Nat.gcd A B = Nat.gcd a b ∧ u0 < 1073741824 ∧ u1 < 1073741824 ∧ v0 < 1073741824 ∧ v1 < 1073741824 := by
  rcases h.hp with h1 | ⟨p1, p2, p3, p4, p5, p6, xp, p7, p8, p9⟩
  · exact absurd h1 h0
  have ex := h.hx
  obtain ⟨a', ha', hae⟩ : ∃ a', a' < M ∧ a = M * X + a' := ⟨a % M, Nat.mod_lt _ hM, by rw [hX]; exact (Nat.div_add_mod a M).symm⟩
  obtain ⟨b', hb', hbe⟩ : ∃ b', b' < M ∧ b = M * Y + b' := ⟨b % M, Nat.mod_lt _ hM, by rw [hY]; exact (Nat.div_add_mod b M).symm⟩
  have hai : (a : Int) = (M : Int) * X + a' := by rw [hae]; simp
  have hbi : (b : Int) = (M : Int) * Y + b' := by rw [hbe]; simp
  clear hX hY
  -- the rests count little
  have m1 : (u1 : Int) * a' ≤ (M : Int) * v1 := by
    have := Nat.mul_le_mul p3 (Nat.le_of_lt ha'); rw [Nat.mul_comm v1] at this; exact_mod_cast this
  have m2 : (v1 : Int) * b' ≤ (M : Int) * v1 := by
    have := Nat.mul_le_mul_left v1 (Nat.le_of_lt hb'); rw [Nat.mul_comm v1 M] at this; exact_mod_cast this
  have m3 : (u0 : Int) * a' ≤ (M : Int) * v0 := by
    have := Nat.mul_le_mul p2 (Nat.le_of_lt ha'); rw [Nat.mul_comm v0] at this; exact_mod_cast this
  have m4 : (v0 : Int) * b' ≤ (M : Int) * v0 := by
    have := Nat.mul_le_mul_left v0 (Nat.le_of_lt hb'); rw [Nat.mul_comm v0 M] at this; exact_mod_cast this
  have n1 : (0 : Int) ≤ (u1 : Int) * a' := Int.mul_nonneg (by omega) (by omega)
  have n2 : (0 : Int) ≤ (v1 : Int) * b' := Int.mul_nonneg (by omega) (by omega)
  have n3 : (0 : Int) ≤ (u0 : Int) * a' := Int.mul_nonneg (by omega) (by omega)
  have n4 : (0 : Int) ≤ (v0 : Int) * b' := Int.mul_nonneg (by omega) (by omega)
  have mx : (M : Int) * v1 ≤ (M : Int) * x := by exact_mod_cast Nat.mul_le_mul_left M p5
  have mp : (M : Int) * x + (M : Int) * v0 + (M : Int) * v1 ≤ (M : Int) * xp := by
    have := Nat.mul_le_mul_left M p9; rw [Nat.mul_add, Nat.mul_add] at this; exact_mod_cast this
  obtain ⟨A, hA⟩ : ∃ A : Int, A = -e * ((u0 : Int) * a - v0 * b) := ⟨_, rfl⟩
  obtain ⟨B, hB⟩ : ∃ B : Int, B = e * ((u1 : Int) * a - v1 * b) := ⟨_, rfl⟩
  have eB : B = (M : Int) * x + e * ((u1 : Int) * a' - v1 * b') := by rw [hB, hai, hbi, ex]; grind
  have eA : A = (M : Int) * xp - e * ((u0 : Int) * a' - v0 * b') := by rw [hA, hai, hbi, p7]; grind
  have hBn : 0 ≤ B := by rw [eB]; rcases h.he with he | he <;> subst he <;> omega
  have hBA : B ≤ A := by rw [eB, eA]; rcases h.he with he | he <;> subst he <;> omega
  have s1 : (v1 : Int) * A + v0 * B = a := by rw [hA, hB]; rcases h.he with he | he <;> subst he <;> grind
  have s2 : (u1 : Int) * A + u0 * B = b := by rw [hA, hB]; rcases h.he with he | he <;> subst he <;> grind
  obtain ⟨An, rfl⟩ : ∃ n : Nat, A = (n : Int) := ⟨A.toNat, by omega⟩
  obtain ⟨Bn, rfl⟩ : ∃ n : Nat, B = (n : Int) := ⟨B.toNat, by omega⟩
  have t1 : v1 * An + v0 * Bn = a := by exact_mod_cast s1
  have t2 : u1 * An + u0 * Bn = b := by exact_mod_cast s2
  refine ⟨An, Bn, hA, hB, by omega, ?_, ?_, by omega, by omega, by omega, by omega⟩
  · have k1 : An ≤ v1 * An := Nat.le_mul_of_pos_left _ (by omega)
    have k2 : Bn ≤ v0 * Bn := Nat.le_mul_of_pos_left _ (by omega)
    omega
  · refine Nat.dvd_antisymm (Nat.dvd_gcd ?_ ?_) (Nat.dvd_gcd ?_ ?_)
    · rw [← t1]; exact Nat.dvd_add (Nat.dvd_mul_left_of_dvd (Nat.gcd_dvd_left _ _) _) (Nat.dvd_mul_left_of_dvd (Nat.gcd_dvd_right _ _) _)
    · rw [← t2]; exact Nat.dvd_add (Nat.dvd_mul_left_of_dvd (Nat.gcd_dvd_left _ _) _) (Nat.dvd_mul_left_of_dvd (Nat.gcd_dvd_right _ _) _)
    · have g1 : ((Nat.gcd a b : Nat) : Int) ∣ a := Int.natCast_dvd_natCast.2 (Nat.gcd_dvd_left _ _)
      have g2 : ((Nat.gcd a b : Nat) : Int) ∣ b := Int.natCast_dvd_natCast.2 (Nat.gcd_dvd_right _ _)
      refine Int.natCast_dvd_natCast.1 ?_
      rw [hA]
      exact Int.dvd_mul_of_dvd_right (Int.dvd_sub (Int.dvd_mul_of_dvd_right g1) (Int.dvd_mul_of_dvd_right g2))
    · have g1 : ((Nat.gcd a b : Nat) : Int) ∣ a := Int.natCast_dvd_natCast.2 (Nat.gcd_dvd_left _ _)
      have g2 : ((Nat.gcd a b : Nat) : Int) ∣ b := Int.natCast_dvd_natCast.2 (Nat.gcd_dvd_right _ _)
      refine Int.natCast_dvd_natCast.1 ?_
      rw [hB]
      exact Int.dvd_mul_of_dvd_right (Int.dvd_sub (Int.dvd_mul_of_dvd_right g1) (Int.dvd_mul_of_dvd_right g2))
theorem zz_bits {b : Nat} (h : b ≠ 0) : zz b + 1 = bitsOf b ↔ b = 2 ^ zz b := by
  obtain ⟨m, hm⟩ := zz_spec h
  constructor
  · intro h1
    obtain ⟨-, -, h3⟩ := bitsOf_spec h
    rw [← h1, Nat.pow_succ] at h3
    rcases Nat.eq_zero_or_pos m with h0 | h0
    · subst h0; simpa using hm
    · have := Nat.mul_le_mul_left (2 ^ zz b) (show 2 ≤ 2 * m + 1 by omega)
      omega
  · intro h1
    exact (bitsOf_eq (Nat.le_of_eq h1.symm) (by rw [Nat.pow_succ]; have := Nat.two_pow_pos (zz b); omega)).symm
theorem gcd_pow {a k : Nat} (h : a ≠ 0) : Nat.gcd a (2 ^ k) = 2 ^ min (zz a) k := by
  obtain ⟨m, hm⟩ := zz_spec h
  generalize zz a = i at hm
  subst hm
  have hco : ∀ j, Nat.gcd (2 * m + 1) (2 ^ j) = 1 := fun j => Nat.Coprime.pow_right j (by rw [Nat.coprime_iff_gcd_eq_one]; show Nat.gcd (2 * m + 1) 2 = 1; rw [Nat.gcd_comm, Nat.gcd_rec]; simp [Nat.add_mod])
  rcases Nat.le_total i k with h1 | h1
  · obtain ⟨d, rfl⟩ : ∃ d, k = i + d := ⟨k - i, by omega⟩
    rw [Nat.pow_add, Nat.gcd_mul_left, hco, Nat.min_eq_left (by omega), Nat.mul_one]
  · obtain ⟨d, rfl⟩ : ∃ d, i = k + d := ⟨i - k, by omega⟩
    rw [Nat.min_eq_right (by omega), Nat.pow_add, Nat.mul_assoc]
    exact Nat.gcd_eq_right (Nat.dvd_mul_right _ _)
end Go.Proofs.YtkhkoeibpkglkaaGreatDoor
end
section
/- Words of the library's: the greatest common divisor. -/
namespace Go.Proofs.YtkhkoeibpkglkaaGreatDoor
open Go.RowKit
attribute [local go_sem] sz2 sz3 sz4 sz5 sz6 sz7 sz8
set_option maxHeartbeats 4000000
set_option maxRecDepth 100000
attribute [local irreducible] Calls
theorem bits_le (b : Nat) : bitsOf b ≤ 32 * (lim b).length := by
  by_cases h : b = 0
  · subst h; exact Nat.zero_le _
  · obtain ⟨h1, h2, -⟩ := bitsOf_spec h
    have h3 := lim_lt b
    have h4 : Bs ^ (lim b).length = 2 ^ (32 * (lim b).length) := by rw [Nat.pow_mul]
    rw [h4] at h3
    have h5 := (Nat.pow_lt_pow_iff_right (a := 2) (by decide)).1 (Nat.lt_of_le_of_lt h2 h3)
    omega
theorem zz_le (b : Nat) : zz b ≤ bitsOf b := by
  by_cases h : b = 0
  · subst h; exact Nat.le_refl _
  · obtain ⟨-, -, h1⟩ := bitsOf_spec h
    obtain ⟨k, hk⟩ := zz_spec h
    have h2 : 2 ^ zz b ≤ b := by
      have := Nat.mul_le_mul_left (2 ^ zz b) (show 1 ≤ 2 * k + 1 by omega)
      omega
    exact Nat.le_of_lt ((Nat.pow_lt_pow_iff_right (a := 2) (by decide)).1 (Nat.lt_of_le_of_lt h2 h1))
theorem one_row (w : World) : Rd (w.alloc (Obj.cells #[.int .u32 1] 60)) (some ⟨w.heap.size, 0, none⟩) 1 1 (lim 1) := by
  have e : lim 1 = [1] := by rw [lim_pos (by decide)]; simp [lim_zero, Bs]
  rw [e]
  exact Rd.made _ _ _ _ (fun x hx => by simp at hx; subst hx; decide) (by simp [u32V]) (by simp) rfl rfl
theorem up_one (W : World) (za zb g : Nat) (hg : Hid (g = 2 ^ min za zb)) (h1 : za ≤ 16000000) (wx : World) (hx : Ext (W.alloc (Obj.cells #[.int .u32 1] 60)) wx) :
    Calls Tryz.prog 197 #[.slice (some ⟨W.heap.size, 0, none⟩) 1 1, .int .i64 (min (za : Int) (zb : Int))] wx (WPost wx g) := by
  have h := bw_up (some ⟨W.heap.size, 0, none⟩) 1 1 1 (min za zb) (by omega) (by omega) wx ((one_row W).ext hx)
  have e : ((min za zb : Nat) : Int) = min (za : Int) (zb : Int) := by omega
  rw [e, Nat.one_mul, ← hg.out] at h
  exact h
/-- Two rows, the greater one first, with the same divisors as two numbers. -/
def Two (w : World) (g : Nat) (va vb : Value) (wx : World) : Prop := ∃ (A : Option Addr) (n c : Nat) (B : Option Addr) (m d a b : Nat), va = .slice A n c ∧ vb = .slice B m d ∧ Hid (Rd wx A n c (lim a)) ∧ Hid (Rd wx B m d (lim b)) ∧ Hid (b ≤ a ∧ Nat.gcd a b = g) ∧ Hid (Ext w wx) ∧ n ≤ 400000
/-- The same, with the measure of the loop. -/
def TwoG (w : World) (g gk : Nat) (va vb : Value) (wx : World) : Prop := ∃ (A : Option Addr) (n c : Nat) (B : Option Addr) (m d a b : Nat), va = .slice A n c ∧ vb = .slice B m d ∧ Hid (Rd wx A n c (lim a)) ∧ Hid (Rd wx B m d (lim b)) ∧ Hid (b ≤ a ∧ Nat.gcd a b = g) ∧ Hid (Ext w wx) ∧ n ≤ 400000 ∧ Hid (gk = a + b)
/-- The inner loop: the first bits, and the rows. -/
def Inn (w : World) (A : Option Addr) (n c a : Nat) (B : Option Addr) (m d b : Nat) (X Y gk : Nat) (vx vy vu0 vu1 vu2 vv0 vv1 vv2 ve : Value) (wi : World) : Prop := ∃ (x y u0 u1 u2 v0 v1 v2 : Nat) (even : Bool), gk = y ∧ vx = .int .u64 (x : Int) ∧ vy = .int .u64 (y : Int) ∧ vu0 = .int .u64 (u0 : Int) ∧ vu1 = .int .u64 (u1 : Int) ∧ vu2 = .int .u64 (u2 : Int) ∧
  vv0 = .int .u64 (v0 : Int) ∧ vv1 = .int .u64 (v1 : Int) ∧ vv2 = .int .u64 (v2 : Int) ∧ ve = .bool even ∧ Hid (Leh X Y (if even then -1 else 1) x y u0 u1 u2 v0 v1 v2) ∧ Hid (v2 < 1152921504606846976) ∧ Hid (Ext w wi) ∧ Hid (Rd wi A n c (lim a)) ∧ Hid (Rd wi B m d (lim b))
theorem bw_common (A B : Option Addr) (n c m d a b : Nat) (hn : n ≤ 400000) (hm : m ≤ 400000) (w : World) (hTz : Tz w) (hA : Rd w A n c (lim a)) (hB : Rd w B m d (lim b)) :
    Calls Tryz.prog 181 #[.slice A n c, .slice B m d] w (WPost w (Nat.gcd a b)) := by
  obtain ⟨g, hg⟩ : ∃ g, g = Nat.gcd a b := ⟨_, rfl⟩
  rw [← hg]
  have HA := Lib.hid hA
  have HB := Lib.hid hB
  have HT := Lib.hid hTz
  have HG := Lib.hid hg
  clear hA hB hTz hg
  go_enter Tryz.func181, Tryz.ntmps181
  go_upto_if 25 with (first
    | (go_at_call 239; (with_reducible refine (bw_cmp A _ n c m d a b _ HA.out HB.out).mono ?_); rintro e w1 ⟨rfl, xb1⟩)
   )
  go_cut [0, 1] (fun va vb wx => Two w g va vb wx)
  case first =>
    by_cases h : a < b
    · have hc : decide (cmpN a b < 0) = true := by unfold cmpN; rw [if_pos h]; rfl
      rw [hc]
      go_wp2
      go_meet
      case rel => exact ⟨B, m, d, A, n, c, b, a, rfl, rfl, HB.out.ext xb1, HA.out.ext xb1, ⟨by omega, by rw [Nat.gcd_comm]; exact HG.out.symm⟩, xb1, hm⟩
    · have hc : decide (cmpN a b < 0) = false := by unfold cmpN; rw [if_neg h]; split <;> rfl
      rw [hc]
      go_wp2
      go_meet
      case rel => exact ⟨A, n, c, B, m, d, a, b, rfl, rfl, HA.out.ext xb1, HB.out.ext xb1, ⟨by omega, HG.out.symm⟩, xb1, hn⟩
  case rest =>
    clear HA HB HG hm hn xb1 n c m d a b A B
    obtain ⟨A, n, c, B, m, d, a, b, rfl, rfl, HA, HB, HG, HE, hn⟩ := hcut
    have hmn : m ≤ n := by have := lim_mono HG.out.1; rwa [HA.out.len, HB.out.len] at this
    have hHT := Lib.hid (HT.out.ext HE.out)
    have hmx := HA.out.mx
    have hcx := HA.out.cap
    have hmy := HB.out.mx
    have hcy := HB.out.cap
    have hb0 : m = 0 ↔ b = 0 := by
      rw [← HB.out.len]; exact ⟨fun h => lim_nil.1 (List.eq_nil_of_length_eq_zero h), fun h => by rw [h, lim_zero]; rfl⟩
    have ha0 : n = 0 ↔ a = 0 := by
      rw [← HA.out.len]; exact ⟨fun h => lim_nil.1 (List.eq_nil_of_length_eq_zero h), fun h => by rw [h, lim_zero]; rfl⟩
    have HB0 := Lib.hid hb0
    have HA0 := Lib.hid ha0
    clear hb0 ha0
    go_upto_region 3 with (fail)
    go_cut [38] (fun v wx => ∃ bo, v = .bool bo ∧ Hid (decide (b ≠ 0 ∧ zz b + 1 = bitsOf b) = bo) ∧ Hid (Ext wc wx))
    case first =>
      by_cases h0 : m = 0
      · have hd : decide (b ≠ 0 ∧ zz b + 1 = bitsOf b) = false := by simp [HB0.out.1 h0]
        have HD := Lib.hid hd
        clear hd
        subst h0
        go_wp2
        go_meet
        case rel => exact ⟨_, rfl, HD, ext_refl _⟩
      · have hm0 : 0 < m := by omega
        obtain ⟨zb, hzb⟩ : ∃ z, z = zz b := ⟨_, rfl⟩
        obtain ⟨tb, htb⟩ : ∃ z, z = bitsOf b := ⟨_, rfl⟩
        have c1 := bw_zeros B m d b (by omega) wc hHT.out HB.out
        have c2 : ∀ wx, Ext wc wx → Calls Tryz.prog 134 #[.slice B m d] wx _ := fun wx hx => bw_bitLen B m d b (by omega) wx (HB.out.ext hx)
        have hzs : zb ≤ 100000000 ∧ tb ≤ 100000000 := by
          have h1 := bits_le b
          have h2 := zz_le b
          rw [HB.out.len] at h1
          rw [hzb, htb]; omega
        have hd : decide (b ≠ 0 ∧ zz b + 1 = bitsOf b) = ((zb : Int) + 1 == (tb : Int)) := by
          rw [← hzb, ← htb]
          have : b ≠ 0 := fun h => h0 (HB0.out.2 h)
          by_cases h : zb + 1 = tb
          · have h' : (zb : Int) + 1 = tb := by omega
            simp [this, h, h']
          · have h' : ¬ (zb : Int) + 1 = tb := by omega
            simp [this, h, h']
        have HD := Lib.hid hd
        rw [← hzb] at c1
        rw [← htb] at c2
        clear hzb htb hd
        go_wp2_with (first
          | (go_at_call 240; (with_reducible refine c1.mono ?_); rintro e w1 ⟨rfl, xb1⟩)
          | (go_at_call 134; (with_reducible refine (c2 _ xb1).mono ?_); rintro e w2 ⟨rfl, xb2⟩)
         )
        all_goals
          go_meet
          case rel => exact ⟨_, rfl, HD, ext_trans xb1 xb2⟩
    case rest =>
      obtain ⟨bo, rfl, hbo, hE2⟩ := hcut
      have hpow : ∀ wx, Ext wc wx → Hid (a ≠ 0 ∧ b ≠ 0 ∧ (a = 2 ^ zz a ∨ b = 2 ^ zz b) → g = 2 ^ min (zz a) (zz b)) := fun wx hx h => by
        rw [← HG.out.2]
        obtain ⟨h1, h2, h3 | h3⟩ := h
        · rw [Nat.gcd_comm, Nat.min_comm]; conv => lhs; rw [h3]
          exact gcd_pow h2
        · conv => lhs; rw [h3]
          exact gcd_pow h1
      have cA : ∀ wx, Ext w wx → Hid (Rd wx A n c (lim a)) → Calls Tryz.prog 240 #[.slice A n c] wx _ := fun wx hx hr => bw_zeros A n c a (by omega) wx (HT.out.ext hx) hr.out
      have cB : ∀ wx, Ext w wx → Hid (Rd wx B m d (lim b)) → Calls Tryz.prog 240 #[.slice B m d] wx _ := fun wx hx hr => bw_zeros B m d b (by omega) wx (HT.out.ext hx) hr.out
      have HE3 := Lib.hid (ext_trans HE.out hE2.out)
      have HA3 := Lib.hid (HA.out.ext hE2.out)
      have HB3 := Lib.hid (HB.out.ext hE2.out)
      cases bo with
      | true =>
        have hh : b ≠ 0 ∧ zz b + 1 = bitsOf b := of_decide_eq_true hbo.out
        have hg : Hid (g = 2 ^ min (zz a) (zz b)) := by
          have ha : a ≠ 0 := by have := HG.out.1; omega
          exact (hpow _ (ext_refl _)).out ⟨ha, hh.1, .inr ((zz_bits hh.1).1 hh.2)⟩
        clear hpow hh
        obtain ⟨za, hza⟩ : ∃ z, z = zz a := ⟨_, rfl⟩
        obtain ⟨zb, hzb⟩ : ∃ z, z = zz b := ⟨_, rfl⟩
        have hzs : za ≤ 16000000 ∧ zb ≤ 16000000 := by
          have h1 := bits_le b
          have h2 := zz_le b
          have h3 := bits_le a
          have h4 := zz_le a
          rw [HB.out.len] at h1
          rw [HA.out.len] at h3
          rw [hza, hzb]; omega
        obtain ⟨hzs1, hzs2⟩ := hzs
        rw [← hza] at cA hg
        rw [← hzb] at cB hg
        clear hza hzb
        go_wp2_with (first
          | (go_at_call 240; (with_reducible refine (cA _ (ext_alloc HE3.out _) (Lib.hid (HA3.out.ext (ext_alloc (ext_refl _) _)))).mono ?_); rintro e w5 ⟨rfl, xb5⟩)
          | (go_at_call 240; (with_reducible refine (cB _ (ext_trans (ext_alloc HE3.out _) xb5) (Lib.hid (HB3.out.ext (ext_trans (ext_alloc (ext_refl _) _) xb5)))).mono ?_); rintro e w6 ⟨rfl, xb6⟩)
          | (go_at_call 197; (with_reducible refine (up_one wc za zb g hg hzs1 _ (ext_trans xb5 xb6)).mono ?_); rintro e w7 ⟨A7, k7, c7, rfl, hR7, xb7⟩)
         )
        have hz := ext_size (ext_trans (ext_trans (ext_alloc HE3.out _) xb5) xb6)
        refine bodyPost_ret (v := .slice A7 k7 c7) ?h rfl ⟨A7, k7, c7, rfl, ⟨hR7.out.1, fun q hq => Nat.le_trans hz (Fr.at hR7.out.2 hq)⟩, ext_trans (ext_trans (ext_trans (ext_alloc HE3.out _) xb5) xb6) xb7⟩
        case h => simp [results, Tryz.results181, go_sem]
      | false =>
        clear hbo
        go_upto_region 5 with (fail)
        go_cut [61] (fun v wx => ∃ bo, v = .bool bo ∧ Hid (decide (a ≠ 0 ∧ zz a + 1 = bitsOf a ∧ b ≠ 0) = bo) ∧ Hid (Ext wc wx))
        case first =>
          clear cA cB hpow
          by_cases h0 : n = 0
          · have hd : decide (a ≠ 0 ∧ zz a + 1 = bitsOf a ∧ b ≠ 0) = false := by simp [HA0.out.1 h0]
            have HD := Lib.hid hd
            clear hd
            subst h0
            go_wp2
            go_meet
            case rel => exact ⟨_, rfl, HD, ext_refl _⟩
          · have hn0 : 0 < n := by omega
            have han : a ≠ 0 := fun h => h0 (HA0.out.2 h)
            obtain ⟨zb, hzb⟩ : ∃ z, z = zz a := ⟨_, rfl⟩
            obtain ⟨tb, htb⟩ : ∃ z, z = bitsOf a := ⟨_, rfl⟩
            have c1 := bw_zeros A n c a (by omega) wc (HT.out.ext HE3.out) HA3.out
            have c2 : ∀ wx, Ext wc wx → Calls Tryz.prog 134 #[.slice A n c] wx _ := fun wx hx => bw_bitLen A n c a (by omega) wx (HA3.out.ext hx)
            have hzs : zb ≤ 100000000 ∧ tb ≤ 100000000 := by
              have h1 := bits_le a
              have h2 := zz_le a
              rw [HA.out.len] at h1
              rw [hzb, htb]; omega
            rw [← hzb] at c1
            rw [← htb] at c2
            by_cases hp : zb + 1 = tb
            · have hd : decide (a ≠ 0 ∧ zz a + 1 = bitsOf a ∧ b ≠ 0) = decide (0 < m) := by
                rw [← hzb, ← htb]
                have hmb := HB0.out
                by_cases hm0 : m = 0
                · simp [hm0, hmb.1 hm0]
                · have h1 : b ≠ 0 := fun h => hm0 (hmb.2 h)
                  have h2 : 0 < m := by omega
                  simp [han, hp, h1]; omega
              have HD := Lib.hid hd
              have hbe : ((zb : Int) + 1 == (tb : Int)) = true := by simp; omega
              clear hd hzb htb hp
              go_wp2_with (first
                | (go_at_call 240; (with_reducible refine c1.mono ?_); rintro e w1 ⟨rfl, xb1⟩)
                | (go_at_call 134; (with_reducible refine (c2 _ xb1).mono ?_); rintro e w2 ⟨rfl, xb2⟩)
               )
              all_goals
                go_meet
                case rel => exact ⟨_, rfl, HD, ext_trans xb1 xb2⟩
            · have hd : decide (a ≠ 0 ∧ zz a + 1 = bitsOf a ∧ b ≠ 0) = false := by rw [← hzb, ← htb]; simp [hp]
              have HD := Lib.hid hd
              have hbe : ((zb : Int) + 1 == (tb : Int)) = false := by rw [beq_eq_false_iff_ne]; omega
              clear hd hzb htb hp
              go_wp2_with (first
                | (go_at_call 240; (with_reducible refine c1.mono ?_); rintro e w1 ⟨rfl, xb1⟩)
                | (go_at_call 134; (with_reducible refine (c2 _ xb1).mono ?_); rintro e w2 ⟨rfl, xb2⟩)
               )
              all_goals
                go_meet
                case rel => exact ⟨_, rfl, HD, ext_trans xb1 xb2⟩
        case rest =>
          obtain ⟨bo, rfl, hbo, hE4⟩ := hcut
          have HE5 := Lib.hid (ext_trans HE3.out hE4.out)
          have HA5 := Lib.hid (HA3.out.ext hE4.out)
          have HB5 := Lib.hid (HB3.out.ext hE4.out)
          cases bo with
          | true =>
            have hh : a ≠ 0 ∧ zz a + 1 = bitsOf a ∧ b ≠ 0 := of_decide_eq_true hbo.out
            have hg : Hid (g = 2 ^ min (zz a) (zz b)) := (hpow _ (ext_refl _)).out ⟨hh.1, hh.2.2, .inl ((zz_bits hh.1).1 hh.2.1)⟩
            clear hpow hh
            obtain ⟨za, hza⟩ : ∃ z, z = zz a := ⟨_, rfl⟩
            obtain ⟨zb, hzb⟩ : ∃ z, z = zz b := ⟨_, rfl⟩
            have hzs : za ≤ 16000000 ∧ zb ≤ 16000000 := by
              have h1 := bits_le b
              have h2 := zz_le b
              have h3 := bits_le a
              have h4 := zz_le a
              rw [HB.out.len] at h1
              rw [HA.out.len] at h3
              rw [hza, hzb]; omega
            obtain ⟨hzs1, hzs2⟩ := hzs
            rw [← hza] at cA hg
            rw [← hzb] at cB hg
            clear hza hzb
            go_wp2_with (first
              | (go_at_call 240; (with_reducible refine (cA _ (ext_alloc HE5.out _) (Lib.hid (HA5.out.ext (ext_alloc (ext_refl _) _)))).mono ?_); rintro e w5 ⟨rfl, xc5⟩)
              | (go_at_call 240; (with_reducible refine (cB _ (ext_trans (ext_alloc HE5.out _) xc5) (Lib.hid (HB5.out.ext (ext_trans (ext_alloc (ext_refl _) _) xc5)))).mono ?_); rintro e w6 ⟨rfl, xc6⟩)
              | (go_at_call 197; (with_reducible refine (up_one wc za zb g hg hzs1 _ (ext_trans xc5 xc6)).mono ?_); rintro e w7 ⟨A7, k7, c7, rfl, hR7, xc7⟩)
             )
            have hz := ext_size (ext_trans (ext_trans (ext_alloc HE5.out _) xc5) xc6)
            refine bodyPost_ret (v := .slice A7 k7 c7) ?h rfl ⟨A7, k7, c7, rfl, ⟨hR7.out.1, fun q hq => Nat.le_trans hz (Fr.at hR7.out.2 hq)⟩, ext_trans (ext_trans (ext_trans (ext_alloc HE5.out _) xc5) xc6) xc7⟩
            case h => simp [results, Tryz.results181, go_sem]
          | false =>
            clear hbo hpow cA cB HB0 HA0 hHT
            go_wp2
            go_loopg [0, 1] (a + b) (fun gk va vb wr => TwoG w g gk va vb wr)
            case atStart => exact ⟨A, n, c, B, m, d, a, b, rfl, rfl, HA5, HB5, HG, HE5, hn, rfl⟩
            case round =>
              clear HA HB HA3 HB3 HA5 HB5 HG HE HE3 HE5 hE2 hE4 hmn hmx hcx hmy hcy hn
              clear A n c B m d a b
              obtain ⟨A, n, c, B, m, d, a, b, rfl, rfl, HA, HB, HG, HE, hn, hgk⟩ := hrel
              have hmn : m ≤ n := by have := lim_mono HG.out.1; rwa [HA.out.len, HB.out.len] at this
              have hmx := HA.out.mx
              have hcx := HA.out.cap
              have hmy := HB.out.mx
              have hcy := HB.out.cap
              by_cases h2 : 2 < m
              · obtain ⟨ta, hta⟩ : ∃ t, t = bitsOf a := ⟨_, rfl⟩
                have hb2 : 18446744073709551616 ≤ b := by
                  have hb0 : b ≠ 0 := by rintro rfl; have := HB.out.len; rw [lim_zero] at this; simp at this; omega
                  have h1 := (lim_len hb0).1
                  rw [HB.out.len] at h1
                  exact Nat.le_trans (Nat.le_trans (by decide) (Nat.pow_le_pow_right (by decide) (show 2 ≤ m - 1 by omega))) h1
                have ha2 : 18446744073709551616 ≤ a := Nat.le_trans hb2 HG.out.1
                obtain ⟨-, s1, s2⟩ := bitsOf_spec (a := a) (by omega)
                rw [← hta] at s1 s2
                have hta60 : 60 < ta := by
                  refine Nat.lt_of_not_le fun h => ?_
                  have := Nat.lt_of_lt_of_le s2 (Nat.pow_le_pow_right (by decide) h)
                  omega
                obtain ⟨z, rfl⟩ : ∃ z, ta = z + 60 := ⟨ta - 60, by omega⟩
                have hz1 : z ≤ 100000000 := by have := bits_le a; rw [HA.out.len, ← hta] at this; omega
                have hX : a / 2 ^ z < 1152921504606846976 := by
                  rw [Nat.div_lt_iff_lt_mul (Nat.two_pow_pos z), Nat.mul_comm]
                  rw [Nat.pow_add] at s2; exact s2
                have hYX : b / 2 ^ z ≤ a / 2 ^ z := Nat.div_le_div_right HG.out.1
                have HST := Lib.hid (show a ≠ 0 ∧ b ≠ 0 by omega)
                obtain ⟨X, hXe⟩ : ∃ X, X = a / 2 ^ z := ⟨_, rfl⟩
                obtain ⟨Y, hYe⟩ : ∃ Y, Y = b / 2 ^ z := ⟨_, rfl⟩
                rw [← hXe] at hX hYX
                rw [← hYe] at hYX
                have c1 : ∀ wx, Ext wr wx → Calls Tryz.prog 134 #[.slice A n c] wx (fun e w' => e = .returned (.int .i64 ((z : Int) + 60)) ∧ Ext wx w') := fun wx hx => by
                  have := bw_bitLen A n c a (by omega) wx (HA.out.ext hx)
                  rw [← hta] at this
                  simpa using this
                have c2 : ∀ wx, Ext wr wx → Calls Tryz.prog 241 #[.slice A n c, .int .i64 (z : Int)] wx (fun e w' => e = .returned (.int .u64 (X : Int)) ∧ Ext wx w') := fun wx hx => by
                  have := bw_topBits A n c a z (by omega) hz1 wx (HA.out.ext hx)
                  rwa [← hXe, Nat.mod_eq_of_lt (by omega)] at this
                have c3 : ∀ wx, Ext wr wx → Calls Tryz.prog 241 #[.slice B m d, .int .i64 (z : Int)] wx (fun e w' => e = .returned (.int .u64 (Y : Int)) ∧ Ext wx w') := fun wx hx => by
                  have := bw_topBits B m d b z (by omega) hz1 wx (HB.out.ext hx)
                  rwa [← hYe, Nat.mod_eq_of_lt (by omega)] at this
                have HXE := Lib.hid hXe
                have HYE := Lib.hid hYe
                subst hgk
                clear hb2 ha2 s1 s2 hta60 hta hXe hYe
                go_wp2_with (first
                  | (go_at_call 134; (with_reducible refine (c1 _ (ext_refl _)).mono ?_); rintro e w1 ⟨rfl, xb1⟩)
                  | (go_at_call 241; (with_reducible refine (c2 _ xb1).mono ?_); rintro e w2 ⟨rfl, xb2⟩)
                  | (go_at_call 241; (with_reducible refine (c3 _ (ext_trans xb1 xb2)).mono ?_); rintro e w3 ⟨rfl, xb3⟩)
                 )
                go_loopg [6, 7, 8, 9, 10, 11, 12, 13, 14] Y (fun gk vx vy vu0 vu1 vu2 vv0 vv1 vv2 ve wi => Inn w A n c a B m d b X Y gk vx vy vu0 vu1 vu2 vv0 vv1 vv2 ve wi)
                case atStart => exact ⟨X, Y, 0, 1, 0, 0, 0, 1, false, rfl, rfl, rfl, rfl, rfl, rfl, rfl, rfl, rfl, rfl, Leh.start hYX, (by decide : 1 < 1152921504606846976), ext_trans HE.out (ext_trans xb1 (ext_trans xb2 xb3)), HA.out.ext (ext_trans xb1 (ext_trans xb2 xb3)), HB.out.ext (ext_trans xb1 (ext_trans xb2 xb3))⟩
                case round =>
                  obtain ⟨x, y, u0, u1, u2, v0, v1, v2, even, hgy, rfl, rfl, rfl, rfl, rfl, rfl, rfl, rfl, rfl, HL, HV, HEI, HAI, HBI⟩ := hrel
                  clear HE HA HB c1 c2 c3 xb1 xb2 xb3
                  have e1 := HL.out.hyx
                  have e2 := Nat.le_trans HL.out.le (Nat.le_of_lt hX)
                  have e3 := HV.out
                  have e4 := HL.out.hv
                  obtain ⟨e4, e5, e6⟩ := e4
                  have HYP := Lib.hid (show gk = y from hgy)
                  clear hgy
                  go_upto_region 14 with (fail)
                  go_cut [92] (fun v wi2 => ∃ bo, v = .bool bo ∧ Hid (decide (v2 ≤ y ∧ v1 + v2 ≤ x - y) = bo) ∧ Hid (Ext wr wi2))
                  case first =>
                    by_cases f1 : v2 ≤ y
                    · by_cases f2 : v1 + v2 ≤ x - y
                      · have F2 := Lib.hid (show decide (v2 ≤ y ∧ v1 + v2 ≤ x - y) = true from decide_eq_true ⟨f1, f2⟩)
                        have f3 : (v1 : Int) + (v2 : Int) ≤ (x : Int) - (y : Int) := by omega
                        clear f2
                        go_wp2
                        go_meet
                        case rel => exact ⟨_, rfl, F2, ext_refl _⟩
                      · have F2 := Lib.hid (show decide (v2 ≤ y ∧ v1 + v2 ≤ x - y) = false from decide_eq_false (fun h => f2 h.2))
                        have f3 : decide ((v1 : Int) + (v2 : Int) ≤ (x : Int) - (y : Int)) = false := decide_eq_false (by omega)
                        clear f2
                        go_wp2
                        go_meet
                        case rel => exact ⟨_, rfl, F2, ext_refl _⟩
                    · have F2 := Lib.hid (show decide (v2 ≤ y ∧ v1 + v2 ≤ x - y) = false from decide_eq_false (fun h => f1 h.1))
                      go_wp2
                      go_meet
                      case rel => exact ⟨_, rfl, F2, ext_refl _⟩
                  case rest =>
                    obtain ⟨bo, rfl, hbo, hEi⟩ := hcut
                    cases bo with
                    | true =>
                      obtain ⟨f1, f2⟩ : v2 ≤ y ∧ v1 + v2 ≤ x - y := of_decide_eq_true hbo.out
                      have hy0 : 0 < y := by omega
                      have hstep := HL.out.step hX f1 f2
                      obtain ⟨q, hq⟩ : ∃ q, q = x / y := ⟨_, rfl⟩
                      obtain ⟨r, hr⟩ : ∃ r, r = x % y := ⟨_, rfl⟩
                      have hxy : x = q * y + r := by rw [hq, hr, Nat.mul_comm]; exact (Nat.div_add_mod x y).symm
                      have hry : r < y := by rw [hr]; exact Nat.mod_lt _ hy0
                      rw [← hq, ← hr] at hstep
                      have HST2 := Lib.hid hstep
                      have g1 := hstep.whole
                      have g2 : v1 + q * v2 ≤ y * (v1 + q * v2) := Nat.le_mul_of_pos_left _ hy0
                      have g3 : u1 + q * u2 ≤ v1 + q * v2 := hstep.hv.2.2
                      clear hstep
                      obtain ⟨p, hp⟩ : ∃ p, p = q * y := ⟨_, rfl⟩
                      obtain ⟨su, hsu⟩ : ∃ p, p = q * u2 := ⟨_, rfl⟩
                      obtain ⟨sv, hsv⟩ : ∃ p, p = q * v2 := ⟨_, rfl⟩
                      rw [← hsv] at g1 g2 g3 HST2
                      rw [← hsu] at g3 HST2
                      rw [← hp] at hxy
                      have k1 : (q : Int) * (y : Int) = (p : Int) := by rw [hp]; simp
                      have k2 : (q : Int) * (u2 : Int) = (su : Int) := by rw [hsu]; simp
                      have k3 : (q : Int) * (v2 : Int) = (sv : Int) := by rw [hsv]; simp
                      have kq : (x : Int) / (y : Int) = (q : Int) := by rw [hq]; simp
                      have hqx : q ≤ x := by rw [hq]; exact Nat.div_le_self _ _
                      have l1 : v1 + sv < 1152921504606846976 := by omega
                      have l2 : u1 + su < 1152921504606846976 := by omega
                      have HYP2 := Lib.hid (show r < gk by rw [HYP.out]; exact hry)
                      have kr : (x : Int) - (p : Int) = (r : Int) := by omega
                      obtain ⟨un, hun⟩ : ∃ p, p = u1 + su := ⟨_, rfl⟩
                      obtain ⟨vn, hvn⟩ : ∃ p, p = v1 + sv := ⟨_, rfl⟩
                      rw [← hun] at l2 HST2
                      rw [← hvn] at l1 HST2
                      have ku : (u1 : Int) + (su : Int) = (un : Int) := by omega
                      have kv : (v1 : Int) + (sv : Int) = (vn : Int) := by omega
                      clear hun hvn
                      clear g1 g2 g3 hp hsu hsv hq hr HL HYP f1 f2
                      have hy1 : ((y : Int) == 0) = false := by rw [beq_eq_false_iff_ne]; omega
                      have HXY := Lib.hid hxy
                      clear hxy
                      go_wp2
                      go_roundg r
                      case measure => exact HYP2.out
                      case rel => exact ⟨y, r, u1, u2, un, v1, v2, vn, !even, rfl, rfl, rfl, rfl, rfl, rfl, rfl, rfl, rfl, rfl, by cases even <;> exact HST2.out, l1, ext_trans HEI.out hEi.out, HAI.out.ext hEi.out, HBI.out.ext hEi.out⟩
                    | false =>
                      have HEW := Lib.hid (ext_trans HEI.out hEi.out)
                      have HAW := Lib.hid (HAI.out.ext hEi.out)
                      have HBW := Lib.hid (HBI.out.ext hEi.out)
                      clear hbo HEI HAI HBI hEi HYP e2
                      by_cases hv0 : v0 = 0
                      · subst hv0
                        have hba := HG.out.1
                        have hb0 := HST.out.2
                        have hgg : Hid (a % b ≤ b ∧ Nat.gcd b (a % b) = g) := by
                          refine ⟨Nat.le_of_lt (Nat.mod_lt a (Nat.pos_of_ne_zero hb0)), ?_⟩
                          rw [← HG.out.2, Nat.gcd_comm b, ← Nat.gcd_rec, Nat.gcd_comm]
                        have hgm : Hid (b + a % b < a + b) := by
                          show _ < _
                          have := Nat.mod_lt a (Nat.pos_of_ne_zero hb0)
                          omega
                        clear hba hb0
                        go_wp2_with (first
                          | (go_at_call 242; (with_reducible refine (bw_div A B n c m d a b HST.out.2 hn _ HAW.out HBW.out).mono ?_); rintro e w7 ⟨A2, k2, d2, B2, m2, e2, rfl, hR2, hS2, xb2⟩)
                         )
                        go_roundg (b + a % b)
                        case measure => exact hgm.out
                        case rel => exact ⟨B, m, d, B2, m2, e2, b, a % b, rfl, rfl, HBW.out.ext xb2, hS2.out.1, hgg, ext_trans HEW.out xb2, by omega, rfl⟩
                      · have hv1 : ((v0 : Int) == 0) = false := by rw [beq_eq_false_iff_ne]; omega
                        obtain ⟨a2, b2, eA, eB, q1, q2, q3, q4, q5, q6, q7⟩ := HL.out.blend hv0 HXE.out HYE.out (Nat.two_pow_pos z)
                        have hgg : Hid (b2 ≤ a2 ∧ Nat.gcd a2 b2 = g) := ⟨q1, by rw [q3]; exact HG.out.2⟩
                        have hgm : Hid (a2 + b2 < a + b) := by show _ < _; have := HST.out.2; omega
                        have hla : (lim a2).length ≤ n := by have := lim_mono (show a2 ≤ a by omega); rwa [HAW.out.len] at this
                        have HLA := Lib.hid hla
                        clear q1 q2 q3 hla hv0
                        cases even with
                        | true =>
                          have c4 : ∀ wx, Ext wc wx → Calls Tryz.prog 243 #[.slice A n c, .slice B m d, .int .i64 (u0 : Int), .int .i64 (-(v0 : Int))] wx (WPost wx a2) := fun wx hx =>
                            bw_blend A B n c m d a b (u0 : Int) (-(v0 : Int)) a2 hmn (by omega) (by omega) (by omega) (by omega) (by omega) (by rw [eA]; simp; grind) wx (HAW.out.ext hx) (HBW.out.ext hx)
                          have c5 : ∀ wx, Ext wc wx → Calls Tryz.prog 243 #[.slice A n c, .slice B m d, .int .i64 (-(u1 : Int)), .int .i64 (v1 : Int)] wx (WPost wx b2) := fun wx hx =>
                            bw_blend A B n c m d a b (-(u1 : Int)) (v1 : Int) b2 hmn (by omega) (by omega) (by omega) (by omega) (by omega) (by rw [eB]; simp; grind) wx (HAW.out.ext hx) (HBW.out.ext hx)
                          clear eA eB
                          go_wp2_with (first
                            | (go_at_call 243; (with_reducible refine (c4 _ (ext_refl _)).mono ?_); rintro e w7 ⟨A2, k2, d2, rfl, hR2, xb2⟩)
                            | (go_at_call 243; (with_reducible refine (c5 _ xb2).mono ?_); rintro e w8 ⟨B2, m2, e2, rfl, hS2, xb3⟩)
                           )
                          go_roundg (a2 + b2)
                          case measure => exact hgm.out
                          case rel => exact ⟨A2, k2, d2, B2, m2, e2, a2, b2, rfl, rfl, hR2.out.1.ext xb3, hS2.out.1, hgg, ext_trans HEW.out (ext_trans xb2 xb3), by have := HLA.out; rw [hR2.out.1.len] at this; omega, rfl⟩
                        | false =>
                          have c4 : ∀ wx, Ext wc wx → Calls Tryz.prog 243 #[.slice A n c, .slice B m d, .int .i64 (-(u0 : Int)), .int .i64 (v0 : Int)] wx (WPost wx a2) := fun wx hx =>
                            bw_blend A B n c m d a b (-(u0 : Int)) (v0 : Int) a2 hmn (by omega) (by omega) (by omega) (by omega) (by omega) (by rw [eA]; simp; grind) wx (HAW.out.ext hx) (HBW.out.ext hx)
                          have c5 : ∀ wx, Ext wc wx → Calls Tryz.prog 243 #[.slice A n c, .slice B m d, .int .i64 (u1 : Int), .int .i64 (-(v1 : Int))] wx (WPost wx b2) := fun wx hx =>
                            bw_blend A B n c m d a b (u1 : Int) (-(v1 : Int)) b2 hmn (by omega) (by omega) (by omega) (by omega) (by omega) (by rw [eB]; simp; grind) wx (HAW.out.ext hx) (HBW.out.ext hx)
                          clear eA eB
                          go_wp2_with (first
                            | (go_at_call 243; (with_reducible refine (c4 _ (ext_refl _)).mono ?_); rintro e w7 ⟨A2, k2, d2, rfl, hR2, xb2⟩)
                            | (go_at_call 243; (with_reducible refine (c5 _ xb2).mono ?_); rintro e w8 ⟨B2, m2, e2, rfl, hS2, xb3⟩)
                           )
                          go_roundg (a2 + b2)
                          case measure => exact hgm.out
                          case rel => exact ⟨A2, k2, d2, B2, m2, e2, a2, b2, rfl, rfl, hR2.out.1.ext xb3, hS2.out.1, hgg, ext_trans HEW.out (ext_trans xb2 xb3), by have := HLA.out; rw [hR2.out.1.len] at this; omega, rfl⟩
              · by_cases hm0 : m = 0
                · have hb0 : b = 0 := lim_nil.1 (List.eq_nil_of_length_eq_zero (by rw [HB.out.len]; exact hm0))
                  have hga : Hid (g = a) := by
                    show _ = _
                    rw [← HG.out.2, hb0, Nat.gcd_zero_right]
                  clear hb0
                  subst hm0
                  go_wp2_with (first
                    | (go_at_call 120; (with_reducible refine (bw_copied A n c (lim a) (by omega) _ HA.out).mono ?_); rintro e w2 ⟨rfl, hR2, xb2⟩)
                   )
                  have hz := ext_size HE.out
                  refine bodyPost_ret (v := .slice (some ⟨wr.heap.size, 0, none⟩) n n) ?h rfl ⟨_, n, n, rfl, ⟨by rw [hga.out]; exact hR2.out, fun q hq => by cases hq; exact hz⟩, ext_trans HE.out xb2⟩
                  case h => simp [results, Tryz.results181, go_sem]
                · have hb0 : b ≠ 0 := fun h => hm0 (by rw [← HB.out.len, h, lim_zero]; rfl)
                  have hm1 : ((m : Int) == 0) = false := by rw [beq_eq_false_iff_ne]; omega
                  have hlb : (lim (a % b)).length ≤ 2 := by
                    have := lim_mono (Nat.le_of_lt (Nat.mod_lt a (Nat.pos_of_ne_zero hb0)))
                    rw [HB.out.len] at this; omega
                  go_wp2_with (first
                    | (go_at_call 242; (with_reducible refine (bw_div A B n c m d a b hb0 hn _ HA.out HB.out).mono ?_); rintro e w2 ⟨A2, k2, c2, B2, m2, d2, rfl, hR2, hS2, xb2⟩)
                    | (go_at_call 244; (with_reducible refine (bw_toUint B m d b (by rw [HB.out.len]; omega) _ (HB.out.ext xb2)).mono ?_); rintro e w3 ⟨rfl, rfl⟩)
                    | (go_at_call 244; (with_reducible refine (bw_toUint B2 m2 d2 (a % b) hlb _ hS2.out.1).mono ?_); rintro e w4 ⟨rfl, rfl⟩)
                   )
                  have hE2' := Lib.hid (ext_trans HE.out xb2)
                  have hB64 : b < 18446744073709551616 := by
                    have h1 := lim_lt b
                    rw [HB.out.len] at h1
                    exact Nat.lt_of_lt_of_le h1 (Nat.le_trans (Nat.pow_le_pow_right (by decide) (show m ≤ 2 by omega)) (by decide))
                  have hy64 : a % b < 18446744073709551616 := Nat.lt_trans (Nat.mod_lt a (Nat.pos_of_ne_zero hb0)) hB64
                  have hgg : Hid (Nat.gcd b (a % b) = g) := by
                    show _ = _
                    rw [← HG.out.2, Nat.gcd_comm b, ← Nat.gcd_rec, Nat.gcd_comm]
                  go_loopw [20, 21] (fun vx vy wr2 => ∃ x y : Nat, vx = .int .u64 (x : Int) ∧ vy = .int .u64 (y : Int) ∧ (x < 18446744073709551616 ∧ y < 18446744073709551616) ∧ Hid (Nat.gcd x y = g) ∧ Hid (Ext w wr2))
                    (fun _ vy _ => (intOf vy).toNat)
                  case atStart => exact ⟨b, a % b, rfl, by simp, ⟨hB64, hy64⟩, hgg.out, hE2'.out⟩
                  case round =>
                    obtain ⟨x, y, rfl, rfl, ⟨hx64, hy64⟩, hxy, hE5⟩ := hrel
                    by_cases hy0 : y = 0
                    · subst hy0
                      have hgx : g = x := by rw [← hxy.out, Nat.gcd_zero_right]
                      have HGX := Lib.hid hgx
                      clear hgx
                      go_wp2_with (first
                        | (go_at_call 200; (with_reducible refine (bw_fromUint x hx64 _).mono ?_); rintro e w7 ⟨A7, k7, c7, rfl, hR7, xb7⟩)
                       )
                      have hz := ext_size hE5.out
                      refine bodyPost_ret (v := .slice A7 k7 c7) ?h rfl ⟨A7, k7, c7, rfl, ⟨by rw [HGX.out]; exact hR7.out.1, fun q hq => Nat.le_trans hz (Fr.at hR7.out.2 hq)⟩, ext_trans hE5.out xb7⟩
                      case h => simp [results, Tryz.results181, go_sem]
                    · have hy1 : ((y : Int) == 0) = false := by rw [beq_eq_false_iff_ne]; omega
                      have hlt : x % y < y := Nat.mod_lt _ (by omega)
                      go_wp2
                      go_quiet (fail)
                      go_wp2
                      case roundEnd =>
                        have hmi : (x : Int) % (y : Int) = ((x % y : Nat) : Int) := by simp
                        refine ⟨⟨y, x % y, rfl, by rw [hmi], ⟨hy64, by omega⟩, ?_, ext_drewN hE5.out _⟩, ?_⟩
                        · show _ = _
                          rw [← hxy.out, Nat.gcd_comm y, ← Nat.gcd_rec, Nat.gcd_comm]
                        · rw [hmi]
                          show ((x % y : Nat) : Int).toNat < ((y : Nat) : Int).toNat
                          rw [Int.toNat_natCast, Int.toNat_natCast]
                          exact hlt
end Go.Proofs.YtkhkoeibpkglkaaGreatDoor
end
