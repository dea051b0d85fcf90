/- Lemmas of this proof, laid together: IntO, RndP, RndQ, RndR, IntP, RatF, RatG, AlvT, Alv, RndS, QkP, QkD, RatL, RatT, RatU, Prt, TxP, WorP, WorQ, WorN, WorR, NearA, NearP, ExP, RatO, RatK0, RatK, RatM, RatN, RatQ, RatS, RatY, RatV, RatW. -/
import Derived.Test.YtnkajjealkggdaaGreatDoorMg19
import Derived.Test.YtnkajjealkggdaaGreatDoorMg15
import Derived.Deep.DeepCutAuto
import Derived.Deep.RegionWith
import Derived.Deep.LoopGhost
import Ieee.Arith
import Derived.Test.YtnkajjealkggdaaGreatDoorMg16
import Derived.Test.YtnkajjealkggdaaGreatDoorMg11
import Derived.Test.YtnkajjealkggdaaGreatDoorMg12
import Derived.Test.YtnkajjealkggdaaGreatDoorMg09
import Derived.Lib.ParseIntBCases
import Derived.Laws.FloatArith
import Derived.Test.YtnkajjealkggdaaGreatDoorShelf
import Derived.Test.YtnkajjealkggdaaGreatDoorMg04
import Derived.Test.YtnkajjealkggdaaGreatDoorMg10
set_option linter.unusedSimpArgs false
set_option linter.unusedVariables false
section
/- Whole numbers of the library's: shifted up; as a machine number; the lowest bit; with a limb put below. -/
namespace Go.Proofs.YtnkajjealkggdaaGreatDoor
open Go.RowKit
attribute [local go_sem] sz2 sz3 sz4 sz5 sz6 sz7 sz8
set_option maxHeartbeats 4000000
set_option maxRecDepth 100000
attribute [local irreducible] Calls
attribute [local go_sem] D2.Oper.detAt D2.detUpon D2.relUpon
theorem sgn_shl (x : Int) (z : Nat) : sgn (decide (x < 0)) (x.natAbs * 2 ^ z) = x * 2 ^ z := by
  unfold sgn
  have hp : (0 : Int) < 2 ^ z := Int.pow_pos (by decide)
  by_cases h : x < 0
  · rw [decide_eq_true h, if_pos rfl]
    have : (x.natAbs : Int) = -x := by omega
    push_cast
    rw [this, Int.neg_mul, Int.neg_neg]
  · rw [decide_eq_false h, if_neg (by simp)]
    have : (x.natAbs : Int) = x := by omega
    push_cast
    rw [this]
theorem bi_Lsh (b o g p : Nat) (x : Int) (z : Nat) (A : Option Addr) (n c : Nat) (hn : n ≤ 500000) (hz : z ≤ 16000000) (w : World) (hr : Room w b o) (hx : IntIs w g p x A n c) :
    Calls Tryz.prog 61 #[.pointer (some ⟨b, o, none⟩), .pointer (some ⟨g, p, none⟩), .int .u64 (z : Int)] w (IPost w b o (x * 2 ^ z)) := by
  have HX := Lib.hid hx
  have HR := Lib.hid hr
  have lx := hx.room.lt
  have x0 := hx.neg
  have x1 := hx.words
  have hbl := hr.lt
  have hz2 : (z : Int) ≤ 16000000 := by omega
  have kM : ∀ w', Ext w w' → Calls Tryz.prog 110 #[.slice A n c, .int .i64 (IntKind.i64.wrap (z : Int))] w' (WPost w' (x.natAbs * 2 ^ z)) := fun w' he => by
    have e : IntKind.i64.wrap (z : Int) = (z : Int) := by rw [IntKind.wrap_i64]; omega
    rw [e]
    exact bw_up A n c _ z hn hz w' (HX.out.rd.ext he)
  clear hx hr
  go_enter Tryz.func61, Tryz.ntmps61
  go_wp2
  refine D2.wp_drawn_tail 12 (D2.tab [(11, RWord w.heap.size (x.natAbs * 2 ^ z))]) (by kernel_rfl) (by kernel_rfl) (by kernel_rfl) (D2.tab_stays (by simp [D2.stays_word])) (fun hq hqf => ?_)
  simp only [List.take_succ_cons, List.take_zero, List.drop_succ_cons, List.drop_zero]
  have z0 := fun nq => (hq nq g p lx).trans x0
  have z1 := fun nq => (hq nq g (p + 1) lx).trans x1
  iterate 11
    (refine D2.wpK_det rfl (fun K hK => ?_)
     go_simp
     first
       | (refine hK _ ?_; clear hK K)
       | (apply Exists.intro; refine ⟨fun x => ?_, hK _ ?_⟩; (first | exact z0 x | exact z1 x | (simp [z0, z1]; rfl)); clear hK K))
  refine D2.wpK_rel _ rfl rfl ?_ ?_
  · rintro _ ⟨nn, rfl⟩ _
    unfold D2.Oper.relAt
    go_simp
    exact D2.rel_wpost (ext_size nn.use) (kM _ nn.use)
  rintro v ⟨_, ⟨nn, rfl⟩, hr⟩
  obtain ⟨A9, k9, c9, rfl, -, -⟩ := hr
  clear nn
  refine D2.wpK_nil ?_
  intro nq2 hG
  have r9 : RWord w.heap.size (x.natAbs * 2 ^ z) [] (.slice A9 k9 c9) nq2.out := by have := hG.fact 11; simp [D2.Facts.put] at this; exact this
  have hR9 := Lib.hid (rword_at r9)
  have hF9 : Fr w A9 := hR9.out.2
  have hO9 := hF9.off HR.out.lt k9
  clear r9 hG
  go_wp2_with (first
    | (go_at_call 109; (with_reducible refine (bi_set b o _ A9 k9 c9 (x.natAbs * 2 ^ z) _ (HR.out.ext nq2.use) hR9.out.1 hO9).mono ?_); rintro e w3 ⟨rfl, hI3, xt3⟩)
   )
  refine bodyPost_ret (v := .pointer (some ⟨b, o, none⟩)) ?h rfl ⟨rfl, A9, k9, c9, ⟨by have := hI3.out; rwa [sgn_shl] at this, hF9⟩, (Tch.of nq2.use).trans xt3⟩
  case h => simp [results, Tryz.results61, go_sem]
end Go.Proofs.YtnkajjealkggdaaGreatDoor
end
section
/- Rounding a fraction to a float: the plain law. -/
namespace Go.Proofs.YtnkajjealkggdaaGreatDoor
open Go.RowKit
set_option maxRecDepth 100000
/-- a/d times 2 to the power of e, as two whole numbers. -/
def tA (a : Nat) (e : Int) : Nat := a * 2 ^ e.toNat
def tD (d : Nat) (e : Int) : Nat := d * 2 ^ (-e).toNat
/-- Is 2 to the power of e not above a/d? -/
def leP (a d : Nat) (e : Int) : Prop := tD d (-e) ≤ tA a (-e)
instance (a d : Nat) (e : Int) : Decidable (leP a d e) := by unfold leP; exact inferInstance
theorem leP_at {a d : Nat} {e : Int} (K : Nat) (h : 0 ≤ e + K) : leP a d e ↔ d * 2 ^ (e + K).toNat ≤ a * 2 ^ K := by
  unfold leP tA tD
  rw [Int.neg_neg]
  have h1 : (e + K).toNat = e.toNat + (K - (-e).toNat) := by omega
  have h2 : K = (-e).toNat + (K - (-e).toNat) := by omega
  have hp : 0 < 2 ^ (K - (-e).toNat) := Nat.two_pow_pos _
  rw [h1]
  conv => rhs; rhs; rw [h2]
  rw [Nat.pow_add, Nat.pow_add, ← Nat.mul_assoc, ← Nat.mul_assoc]
  constructor
  · intro h; exact Nat.mul_le_mul_right _ h
  · intro h; exact Nat.le_of_mul_le_mul_right h hp
theorem leP_mono {a d : Nat} {e f : Int} (h : leP a d e) (hf : f ≤ e) : leP a d f := by
  have k0 : 0 ≤ f + ((-f).toNat : Nat) := by omega
  rw [leP_at (-f).toNat k0]
  rw [leP_at (-f).toNat (by omega)] at h
  refine Nat.le_trans (Nat.mul_le_mul_left _ (Nat.pow_le_pow_right (by decide) (by omega))) h
theorem leP_scale {a d g : Nat} (hg : 0 < g) (e : Int) : leP (a * g) (d * g) e ↔ leP a d e := by
  unfold leP tA tD
  rw [Nat.mul_right_comm d g, Nat.mul_right_comm a g]
  constructor
  · intro h; exact Nat.le_of_mul_le_mul_right h hg
  · intro h; exact Nat.mul_le_mul_right _ h
/-- The exponent of two of the highest bit of a/d. -/
def lgQ (a d : Nat) : Int := if tA a (-((bitsOf a : Int) - bitsOf d)) < tD d (-((bitsOf a : Int) - bitsOf d)) then (bitsOf a : Int) - bitsOf d - 1 else (bitsOf a : Int) - bitsOf d
theorem lgQ_spec {a d : Nat} (ha : 0 < a) (hd : 0 < d) : leP a d (lgQ a d) ∧ ¬ leP a d (lgQ a d + 1) := by
  obtain ⟨a1, a2, a3⟩ := bitsOf_spec (a := a) (by omega)
  obtain ⟨d1, d2, d3⟩ := bitsOf_spec (a := d) (by omega)
  have hlo : leP a d ((bitsOf a : Int) - bitsOf d - 1) := by
    rw [leP_at (bitsOf d) (by omega)]
    have e1 : ((bitsOf a : Int) - bitsOf d - 1 + (bitsOf d : Nat)).toNat = bitsOf a - 1 := by omega
    rw [e1]
    calc d * 2 ^ (bitsOf a - 1) ≤ 2 ^ bitsOf d * 2 ^ (bitsOf a - 1) := Nat.mul_le_mul_right _ (by omega)
      _ = 2 ^ (bitsOf a - 1) * 2 ^ bitsOf d := Nat.mul_comm _ _
      _ ≤ a * 2 ^ bitsOf d := Nat.mul_le_mul_right _ a2
  have hhi : ¬ leP a d ((bitsOf a : Int) - bitsOf d + 1) := by
    rw [leP_at (bitsOf d) (by omega)]
    have e1 : ((bitsOf a : Int) - bitsOf d + 1 + (bitsOf d : Nat)).toNat = bitsOf a + 1 := by omega
    rw [e1]
    intro h
    have h1 : 2 ^ (bitsOf d - 1) * 2 ^ (bitsOf a + 1) ≤ a * 2 ^ bitsOf d := Nat.le_trans (Nat.mul_le_mul_right _ d2) h
    have h2 : a * 2 ^ bitsOf d < 2 ^ bitsOf a * 2 ^ bitsOf d := Nat.mul_lt_mul_of_pos_right a3 (Nat.two_pow_pos _)
    have e2 : 2 ^ (bitsOf d - 1) * 2 ^ (bitsOf a + 1) = 2 ^ bitsOf a * 2 ^ bitsOf d := by
      rw [← Nat.pow_add, ← Nat.pow_add]; congr 1; omega
    omega
  unfold lgQ
  split
  · rename_i h
    refine ⟨hlo, fun q => ?_⟩
    rw [show (bitsOf a : Int) - bitsOf d - 1 + 1 = (bitsOf a : Int) - bitsOf d by omega] at q
    unfold leP at q
    omega
  · rename_i h
    exact ⟨by unfold leP; omega, hhi⟩
theorem lgQ_eq {a d : Nat} (ha : 0 < a) (hd : 0 < d) {e : Int} (h1 : leP a d e) (h2 : ¬ leP a d (e + 1)) : lgQ a d = e := by
  obtain ⟨k1, k2⟩ := lgQ_spec ha hd
  rcases Int.lt_trichotomy (lgQ a d) e with q | q | q
  · exact absurd (leP_mono h1 (by omega)) k2
  · exact q
  · exact absurd (leP_mono k1 (by omega)) h2
theorem lgQ_scale {a d g : Nat} (ha : 0 < a) (hd : 0 < d) (hg : 0 < g) : lgQ (a * g) (d * g) = lgQ a d := by
  obtain ⟨k1, k2⟩ := lgQ_spec ha hd
  exact lgQ_eq (Nat.mul_pos ha hg) (Nat.mul_pos hd hg) ((leP_scale hg _).2 k1) (fun q => k2 ((leP_scale hg _).1 q))
/-- Does the one farther from nought stand for what lies between? (even, away, zero, up, down) -/
def upM (mode : Nat) (neg odd : Bool) (h : Int) : Bool :=
  if mode = 0 then decide (0 < h) || (decide (h = 0) && odd) else if mode = 1 then decide (0 ≤ h) else if mode = 2 then false else if mode = 3 then !neg else neg
/-- a/d rounded to a whole number. -/
def rdQ (mode : Nat) (neg : Bool) (a d : Nat) : Nat := if a % d = 0 then a / d else if upM mode neg (decide (a / d % 2 = 1)) (cmpN (2 * (a % d)) d) = true then a / d + 1 else a / d
theorem cmpN_scale {a b g : Nat} (hg : 0 < g) : cmpN (a * g) (b * g) = cmpN a b := by
  unfold cmpN
  simp only [Nat.mul_lt_mul_right hg]
theorem rdQ_scale {mode : Nat} {neg : Bool} {a d g : Nat} (hg : 0 < g) : rdQ mode neg (a * g) (d * g) = rdQ mode neg a d := by
  unfold rdQ
  have e1 : a * g / (d * g) = a / d := Nat.mul_div_mul_right _ _ hg
  have e2 : a * g % (d * g) = a % d * g := Nat.mul_mod_mul_right _ _ _
  have e3 : a % d * g = 0 ↔ a % d = 0 := by
    constructor
    · intro h
      rcases Nat.mul_eq_zero.1 h with h | h
      · exact h
      · omega
    · intro h; rw [h, Nat.zero_mul]
  rw [e1, e2, show 2 * (a % d * g) = 2 * (a % d) * g from (Nat.mul_assoc ..).symm, cmpN_scale hg]
  by_cases h : a % d = 0
  · rw [if_pos h, if_pos (e3.2 h)]
  · rw [if_neg h, if_neg (fun q => h (e3.1 q))]
theorem rdQ_le (mode : Nat) (neg : Bool) (a d : Nat) : a / d ≤ rdQ mode neg a d ∧ rdQ mode neg a d ≤ a / d + 1 := by
  unfold rdQ
  split
  · omega
  · split <;> omega
/-- The bias of a form. -/
def biasF (E : Nat) : Int := 2 ^ (E - 1) - 1
/-- What is gone over when a/d is rounded: the exponent, the low one, the whole number, and whether it is the number. -/
def lowQ (E a d : Nat) : Int := max (lgQ a d) (1 - biasF E)
def manQ (E F mode : Nat) (neg : Bool) (a d : Nat) : Nat := rdQ mode neg (tA a (F - lowQ E a d)) (tD d (F - lowQ E a d))
def rungQ (E F mode : Nat) (neg : Bool) (a d : Nat) : Nat := manQ E F mode neg a d + (lowQ E a d + biasF E - 1).toNat * 2 ^ F
def infQ (E F : Nat) : Nat := 2 ^ (E + F) - 2 ^ F
def overQ (E F mode : Nat) (neg : Bool) (a d : Nat) : Bool := decide (biasF E < lowQ E a d) || decide (infQ E F ≤ rungQ E F mode neg a d)
/-- The bits to which a/d is rounded, without a sign. -/
def bitsQ (E F mode : Nat) (neg : Bool) (a d : Nat) : Nat :=
  if overQ E F mode neg a d = true then (if mode = 2 ∨ (mode = 3 ∧ neg = true) ∨ (mode = 4 ∧ neg = false) then infQ E F - 1 else infQ E F) else rungQ E F mode neg a d
theorem tA_scale (a g : Nat) (e : Int) : tA (a * g) e = tA a e * g := by unfold tA; rw [Nat.mul_right_comm]
theorem tD_scale (d g : Nat) (e : Int) : tD (d * g) e = tD d e * g := by unfold tD; rw [Nat.mul_right_comm]
theorem bitsQ_scale {E F mode : Nat} {neg : Bool} {a d g : Nat} (ha : 0 < a) (hd : 0 < d) (hg : 0 < g) : bitsQ E F mode neg (a * g) (d * g) = bitsQ E F mode neg a d := by
  unfold bitsQ overQ rungQ manQ lowQ
  rw [lgQ_scale ha hd hg, tA_scale, tD_scale, rdQ_scale hg]
/-- The same worth, the same bits. -/
theorem bitsQ_eq {E F mode : Nat} {neg : Bool} {a d b c : Nat} (ha : 0 < a) (hd : 0 < d) (hb : 0 < b) (hc : 0 < c) (h : a * c = b * d) : bitsQ E F mode neg a d = bitsQ E F mode neg b c := by
  rw [← bitsQ_scale ha hd hc, ← bitsQ_scale hb hc hd, h, Nat.mul_comm d c]
end Go.Proofs.YtnkajjealkggdaaGreatDoor
end
section
/- Rounding a fraction to a float: the model's own floats round as that law. -/
namespace Go.Proofs.YtnkajjealkggdaaGreatDoor
open Go.RowKit
set_option maxRecDepth 100000
theorem cut_rdQ (neg : Bool) (x drop : Nat) : Ieee.Toward.even.cut neg x drop = rdQ 0 neg x (2 ^ drop) := by
  have hl : x < 2 ^ (x.log2 + 1) := Nat.lt_log2_self
  have key : ∀ g : Nat, 0 < g → ((decide (g < 2 * (x % g)) || (decide (g = 2 * (x % g)) && decide (x / g % 2 = 1))) = true ↔ x % g ≠ 0 ∧ upM 0 neg (decide (x / g % 2 = 1)) (cmpN (2 * (x % g)) g) = true) := by
    intro g hg
    unfold upM cmpN
    rw [if_pos rfl]
    simp only [Bool.or_eq_true, Bool.and_eq_true, decide_eq_true_eq]
    by_cases h1 : 2 * (x % g) < g
    · rw [if_pos h1]
      constructor
      · rintro (h | ⟨h, _⟩) <;> omega
      · rintro ⟨_, h | ⟨h, _⟩⟩ <;> omega
    · rw [if_neg h1]
      by_cases h2 : g < 2 * (x % g)
      · rw [if_pos h2]
        exact ⟨fun _ => ⟨by omega, .inl (by omega)⟩, fun _ => .inl h2⟩
      · rw [if_neg h2]
        constructor
        · rintro (h | ⟨h, h3⟩)
          · omega
          · exact ⟨by omega, .inr ⟨rfl, h3⟩⟩
        · rintro ⟨_, h | ⟨_, h⟩⟩
          · omega
          · exact .inr ⟨by omega, h⟩
  have fin : ∀ g : Nat, 0 < g → x / g + (decide (g < 2 * (x % g)) || (decide (g = 2 * (x % g)) && decide (x / g % 2 = 1))).toNat = rdQ 0 neg x g := by
    intro g hg
    unfold rdQ
    by_cases h : x % g = 0
    · rw [if_pos h]
      have : (decide (g < 2 * (x % g)) || (decide (g = 2 * (x % g)) && decide (x / g % 2 = 1))) = false := by
        rw [← Bool.not_eq_true, key g hg]; exact fun q => q.1 h
      rw [this]; rfl
    · rw [if_neg h]
      by_cases h2 : upM 0 neg (decide (x / g % 2 = 1)) (cmpN (2 * (x % g)) g) = true
      · rw [if_pos h2, (key g hg).2 ⟨h, h2⟩]; rfl
      · rw [if_neg h2]
        have : (decide (g < 2 * (x % g)) || (decide (g = 2 * (x % g)) && decide (x / g % 2 = 1))) = false := by
          rw [← Bool.not_eq_true, key g hg]; exact fun q => h2 q.2
        rw [this]; rfl
  have hcut : ∀ g : Nat, (x / g + (decide (g < 2 * (x % g)) || (g == 2 * (x % g) && x / g % 2 == 1)).toNat) = x / g + (decide (g < 2 * (x % g)) || (decide (g = 2 * (x % g)) && decide (x / g % 2 = 1))).toNat := by
    intro g
    have e1 : (g == 2 * (x % g)) = decide (g = 2 * (x % g)) := by rw [Bool.eq_iff_iff]; simp
    have e2 : (x / g % 2 == 1) = decide (x / g % 2 = 1) := by rw [Bool.eq_iff_iff]; simp
    rw [e1, e2]
  unfold Ieee.Toward.cut
  simp only [Nat.one_shiftLeft]
  rw [hcut, fin _ (Nat.two_pow_pos _)]
  rcases Nat.le_total drop (x.log2 + 2) with h | h
  · rw [Nat.min_eq_left h]
  · rw [Nat.min_eq_right h]
    have hz : ∀ k, x.log2 + 2 ≤ k → rdQ 0 neg x (2 ^ k) = 0 := by
      intro k hk
      have h1 : 2 ^ (x.log2 + 2) ≤ 2 ^ k := Nat.pow_le_pow_right (by decide) hk
      have h2 : 2 ^ (x.log2 + 2) = 2 * 2 ^ (x.log2 + 1) := by rw [Nat.pow_succ 2 (x.log2 + 1)]; omega
      have h3 : x / 2 ^ k = 0 := Nat.div_eq_of_lt (by omega)
      have h4 : x % 2 ^ k = x := Nat.mod_eq_of_lt (by omega)
      have h5 : 2 * x < 2 ^ k := by omega
      unfold rdQ
      rw [h3, h4]
      have h6 : cmpN (2 * x) (2 ^ k) = -1 := by unfold cmpN; rw [if_pos h5]
      rw [h6]
      split
      · rfl
      · rw [if_neg (by simp [upM])]
    rw [hz _ (Nat.le_refl _), hz _ h]
theorem lgQ_bin {m : Nat} (hm : 0 < m) (p : Int) : lgQ (tA m p) (tD 1 p) = p + m.log2 := by
  have h1 : 2 ^ m.log2 ≤ m := Nat.log2_self_le (by omega)
  have h2 : m < 2 ^ (m.log2 + 1) := Nat.lt_log2_self
  have ha : 0 < tA m p := Nat.mul_pos hm (Nat.two_pow_pos _)
  have hd : 0 < tD 1 p := Nat.mul_pos (by decide) (Nat.two_pow_pos _)
  refine lgQ_eq ha hd ?_ ?_
  · rw [leP_at ((-p).toNat) (by omega)]
    unfold tA tD
    rw [Nat.one_mul, ← Nat.pow_add, Nat.mul_assoc, ← Nat.pow_add]
    have e1 : (-p).toNat + (p + m.log2 + ((-p).toNat : Nat)).toNat = m.log2 + (p.toNat + (-p).toNat) := by omega
    rw [e1, Nat.pow_add]
    exact Nat.mul_le_mul_right _ h1
  · rw [leP_at ((-p).toNat) (by omega)]
    unfold tA tD
    rw [Nat.one_mul, ← Nat.pow_add, Nat.mul_assoc, ← Nat.pow_add]
    have e1 : (-p).toNat + (p + m.log2 + 1 + ((-p).toNat : Nat)).toNat = m.log2 + 1 + (p.toNat + (-p).toNat) := by omega
    rw [e1, Nat.pow_add]
    have := Nat.mul_lt_mul_of_pos_right h2 (Nat.two_pow_pos (p.toNat + (-p).toNat))
    omega
theorem rdQ_bin (mode : Nat) (neg : Bool) (m : Nat) (p l : Int) : rdQ mode neg (m * 2 ^ (p - l).toNat) (2 ^ (l - p).toNat) = rdQ mode neg (tA (tA m p) (-l)) (tD (tD 1 p) (-l)) := by
  unfold tA tD
  obtain ⟨c, c1, c2⟩ : ∃ c : Nat, p.toNat + (-l).toNat = (p - l).toNat + c ∧ (-p).toNat + l.toNat = (l - p).toNat + c := ⟨p.toNat + (-l).toNat - (p - l).toNat, by omega, by omega⟩
  rw [Int.neg_neg, Nat.one_mul, Nat.mul_assoc, ← Nat.pow_add, ← Nat.pow_add, c1, c2, Nat.pow_add, Nat.pow_add, ← Nat.mul_assoc, rdQ_scale (Nat.two_pow_pos c)]
abbrev fmt (E F : Nat) : Ieee.Format := { exponentBits := E, fractionBits := F }
/-- The even rung, cut at infinity. -/
def evenQ (E F a d : Nat) : Nat := min (rungQ E F 0 false a d) (infQ E F)
theorem rdQ_even (neg : Bool) (a d : Nat) : rdQ 0 neg a d = rdQ 0 false a d := rfl
theorem near_even (E F : Nat) (hE : 2 ≤ E) (neg : Bool) (m : Nat) (hm : 0 < m) (p : Int) : (fmt E F).nearest neg m p = (fmt E F).word neg (evenQ E F (tA m p) (tD 1 p)) := by
  have hbias : (fmt E F).leastPlace = 1 - biasF E - F := by
    unfold Ieee.Format.leastPlace biasF
    simp only
    omega
  have hinf : (fmt E F).infRung = infQ E F := by
    unfold Ieee.Format.infRung Ieee.Format.binade infQ
    simp only
    rw [Nat.sub_mul, Nat.pow_add, Nat.one_mul]
  unfold Ieee.Format.nearest
  rw [if_neg (by omega)]
  simp only
  rw [hinf, hbias]
  have hlow : lowQ E (tA m p) (tD 1 p) = max (p + m.log2) (1 - biasF E) := by unfold lowQ; rw [lgQ_bin hm]
  obtain ⟨low, hl⟩ : ∃ low, lowQ E (tA m p) (tD 1 p) = low := ⟨_, rfl⟩
  have hlast : max (p + (m.log2 : Nat) - (F : Nat)) (1 - biasF E - F) = low - F := by rw [← hl, hlow]; omega
  have hlow2 : 1 - biasF E ≤ low := by rw [← hl, hlow]; omega
  rw [hlast]
  congr 1
  unfold evenQ rungQ manQ
  rw [hl, Nat.shiftLeft_eq, cut_rdQ, rdQ_even neg, rdQ_bin, Int.neg_sub, Nat.add_comm]
  congr 2
  unfold Ieee.Format.binade
  simp only
  congr 2
  omega
end Go.Proofs.YtnkajjealkggdaaGreatDoor
end
section
/- Rounding a fraction to a float: bounds of the whole number; reading what was written; products and quotients of floats. -/
namespace Go.Proofs.YtnkajjealkggdaaGreatDoor
open Go.RowKit
set_option maxRecDepth 100000
theorem man_ge {a d F : Nat} {low : Int} (hd : 0 < d) (h : leP a d low) : 2 ^ F ≤ tA a (F - low) / tD d (F - low) := by
  unfold tA tD
  rw [Nat.le_div_iff_mul_le (Nat.mul_pos hd (Nat.two_pow_pos _)), Nat.mul_comm]
  rw [leP_at ((F - low).toNat) (by omega)] at h
  rw [Nat.mul_assoc, ← Nat.pow_add]
  have e1 : (-((F : Int) - low)).toNat + F = (low + (((F : Int) - low).toNat : Nat)).toNat := by omega
  rw [e1]; exact h
theorem bias_two (E : Nat) (hE : 2 ≤ E) : 2 * biasF E + 2 = ((2 ^ E : Nat) : Int) ∧ 1 ≤ biasF E := by
  obtain ⟨k, rfl⟩ : ∃ k, E = k + 2 := ⟨E - 2, by omega⟩
  have h1 : biasF (k + 2) = (2 : Int) ^ (k + 1) - 1 := rfl
  have h2 : (2 ^ (k + 2) : Nat) = 2 * 2 ^ (k + 1) := by rw [Nat.pow_succ 2 (k + 1)]; omega
  have h3 : ((2 : Int) ^ (k + 1)) = ((2 ^ (k + 1) : Nat) : Int) := by simp
  have h4 : 0 < 2 ^ k := Nat.two_pow_pos k
  have h5 : 2 ^ (k + 1) = 2 * 2 ^ k := by rw [Nat.pow_succ]; omega
  rw [h1, h2, h3]
  omega
theorem low_spec {E a d : Nat} (ha : 0 < a) (hd : 0 < d) : ¬ leP a d (lowQ E a d + 1) ∧ (lowQ E a d = lgQ a d ∨ (lowQ E a d = 1 - biasF E ∧ lgQ a d < lowQ E a d)) := by
  obtain ⟨k1, k2⟩ := lgQ_spec ha hd
  have : lowQ E a d = max (lgQ a d) (1 - biasF E) := rfl
  refine ⟨fun q => k2 (leP_mono q (by omega)), by omega⟩
theorem over_rung {E F mode : Nat} {neg : Bool} {a d : Nat} (hE : 2 ≤ E) (ha : 0 < a) (hd : 0 < d) (h : overQ E F mode neg a d = true) : infQ E F ≤ rungQ E F mode neg a d := by
  unfold overQ at h
  simp only [Bool.or_eq_true, decide_eq_true_eq] at h
  rcases h with h | h
  · obtain ⟨b1, b2⟩ := bias_two E hE
    obtain ⟨-, k3⟩ := low_spec (E := E) ha hd
    have hlg : lowQ E a d = lgQ a d := by omega
    have hm : 2 ^ F ≤ manQ E F mode neg a d := by
      unfold manQ
      exact Nat.le_trans (man_ge hd (by rw [hlg]; exact (lgQ_spec ha hd).1)) (rdQ_le _ _ _ _).1
    have ht : 2 ^ E - 2 ≤ (lowQ E a d + biasF E - 1).toNat := by omega
    have hmul := Nat.mul_le_mul_right (2 ^ F) ht
    unfold rungQ infQ
    have h2 : 2 ^ (E + F) = 2 ^ E * 2 ^ F := Nat.pow_add ..
    have h3 : (2 ^ E - 2) * 2 ^ F = 2 ^ E * 2 ^ F - 2 * 2 ^ F := Nat.sub_mul ..
    omega
  · exact h
theorem bits_even {E F : Nat} {neg : Bool} {a d : Nat} (hE : 2 ≤ E) (ha : 0 < a) (hd : 0 < d) : bitsQ E F 0 neg a d = evenQ E F a d := by
  have hr : rungQ E F 0 neg a d = rungQ E F 0 false a d := rfl
  unfold bitsQ evenQ
  by_cases h : overQ E F 0 neg a d = true
  · have := over_rung hE ha hd h
    rw [if_pos h, if_neg (by omega), ← hr, Nat.min_eq_right this]
  · rw [if_neg h, ← hr]
    unfold overQ at h
    simp only [Bool.or_eq_true, decide_eq_true_eq, not_or] at h
    rw [Nat.min_eq_left (by omega)]
theorem inf_lt (E F : Nat) : infQ E F < 2 ^ (E + F) := by
  unfold infQ
  have := Nat.two_pow_pos F
  have := Nat.two_pow_pos (E + F)
  omega
theorem word_div {E F : Nat} (neg : Bool) {r : Nat} (h : r < 2 ^ (E + F)) : ((fmt E F).word neg r / 2 ^ (E + F) % 2 == 1) = neg ∧ (fmt E F).word neg r % 2 ^ (E + F) = r := by
  have hp := Nat.two_pow_pos (E + F)
  unfold Ieee.Format.word Ieee.Format.signWeight
  cases neg with
  | false =>
    simp only [Bool.false_eq_true, if_false]
    rw [Nat.div_eq_of_lt h, Nat.mod_eq_of_lt h]
    exact ⟨rfl, rfl⟩
  | true =>
    simp only [if_true]
    rw [Nat.add_div_left _ hp, Nat.div_eq_of_lt h, Nat.add_mod_left, Nat.mod_eq_of_lt h]
    exact ⟨rfl, rfl⟩
/-- A float's number is read as it was written. -/
theorem read_exact {E F : Nat} (hE : 2 ≤ E) (neg : Bool) {m : Nat} (hm : 0 < m) (p : Int) (hlg : m.log2 ≤ F) (h1 : 1 - biasF E ≤ p + m.log2) (h2 : p + m.log2 ≤ biasF E) :
    (fmt E F).read ((fmt E F).nearest neg m p) = .number neg (m * 2 ^ (F - m.log2)) (p - (F - m.log2 : Nat)) := by
  obtain ⟨b1, b2⟩ := bias_two E hE
  have hlow : lowQ E (tA m p) (tD 1 p) = p + m.log2 := by unfold lowQ; rw [lgQ_bin hm]; omega
  have hman : manQ E F 0 false (tA m p) (tD 1 p) = m * 2 ^ (F - m.log2) := by
    unfold manQ
    have e0 := rdQ_bin 0 false m p (p + m.log2 - F)
    rw [Int.neg_sub] at e0
    rw [hlow, ← e0]
    have e1 : (p - (p + (m.log2 : Nat) - (F : Nat))).toNat = F - m.log2 := by omega
    have e2 : (p + (m.log2 : Nat) - (F : Nat) - p).toNat = 0 := by omega
    rw [e1, e2]
    unfold rdQ
    rw [Nat.pow_zero, Nat.mod_one, if_pos rfl, Nat.div_one]
  obtain ⟨M, hM⟩ : ∃ M, m * 2 ^ (F - m.log2) = M := ⟨_, rfl⟩
  have hM1 : 2 ^ F ≤ M := by
    rw [← hM]
    calc 2 ^ F = 2 ^ m.log2 * 2 ^ (F - m.log2) := by rw [← Nat.pow_add]; congr 1; omega
      _ ≤ m * 2 ^ (F - m.log2) := Nat.mul_le_mul_right _ (Nat.log2_self_le (by omega))
  have hM2 : M < 2 * 2 ^ F := by
    rw [← hM]
    calc m * 2 ^ (F - m.log2) < 2 ^ (m.log2 + 1) * 2 ^ (F - m.log2) := Nat.mul_lt_mul_of_pos_right Nat.lt_log2_self (Nat.two_pow_pos _)
      _ = 2 ^ (F + 1) := by rw [← Nat.pow_add]; congr 1; omega
      _ = 2 * 2 ^ F := by rw [Nat.pow_succ]; omega
  obtain ⟨t, ht⟩ : ∃ t : Nat, p + (m.log2 : Nat) + biasF E - 1 = t := ⟨(p + (m.log2 : Nat) + biasF E - 1).toNat, by omega⟩
  have htE : t + 2 ≤ 2 ^ E - 1 := by omega
  have hinf : infQ E F = (2 ^ E - 1) * 2 ^ F := by unfold infQ; rw [Nat.pow_add, Nat.sub_mul, Nat.one_mul]
  have hr : rungQ E F 0 false (tA m p) (tD 1 p) = M + t * 2 ^ F := by
    unfold rungQ
    rw [hman, hM, hlow, ht]; rfl
  have hlt : M + t * 2 ^ F < infQ E F := by
    have := Nat.mul_le_mul_right (2 ^ F) htE
    rw [Nat.add_mul] at this
    omega
  have hev : evenQ E F (tA m p) (tD 1 p) = M + t * 2 ^ F := by unfold evenQ; rw [hr, Nat.min_eq_left (by omega)]
  have hbias : (fmt E F).leastPlace = 1 - biasF E - F := by
    unfold Ieee.Format.leastPlace biasF
    simp only
    omega
  have hinf2 : (fmt E F).infRung = infQ E F := by
    unfold Ieee.Format.infRung Ieee.Format.binade
    simp only
    rw [hinf]
  have hbin : (fmt E F).binade = 2 ^ F := rfl
  have hsw : (fmt E F).signWeight = 2 ^ (E + F) := rfl
  obtain ⟨w1, w2⟩ := word_div (E := E) (F := F) neg (r := M + t * 2 ^ F) (Nat.lt_trans hlt (inf_lt E F))
  have hp := Nat.two_pow_pos F
  rw [near_even E F hE neg m hm p, hev, hM]
  unfold Ieee.Format.read
  simp only
  rw [hsw, w1, w2, hbin, hinf2, hbias, if_neg (by omega), if_pos hlt]
  have q1 : (M + t * 2 ^ F) / 2 ^ F = t + 1 := by
    rw [Nat.add_mul_div_right _ _ hp, Nat.div_eq_of_lt_le (by omega : 1 * 2 ^ F ≤ M) (by omega)]; omega
  have q2 : (M + t * 2 ^ F) % 2 ^ F = M - 2 ^ F := by
    rw [Nat.add_mul_mod_self_right, Nat.mod_eq_sub_mod hM1, Nat.mod_eq_of_lt (by omega)]
  rw [q1, q2]
  congr 1
  · omega
  · omega
theorem near_eq {E F : Nat} (hE : 2 ≤ E) (neg : Bool) {m1 m2 : Nat} (h1 : 0 < m1) (h2 : 0 < m2) {p1 p2 : Int} (h : tA m1 p1 * tD 1 p2 = tA m2 p2 * tD 1 p1) : (fmt E F).nearest neg m1 p1 = (fmt E F).nearest neg m2 p2 := by
  have a1 : 0 < tA m1 p1 := Nat.mul_pos h1 (Nat.two_pow_pos _)
  have a2 : 0 < tA m2 p2 := Nat.mul_pos h2 (Nat.two_pow_pos _)
  have d1 : 0 < tD 1 p1 := Nat.mul_pos (by decide) (Nat.two_pow_pos _)
  have d2 : 0 < tD 1 p2 := Nat.mul_pos (by decide) (Nat.two_pow_pos _)
  rw [near_even E F hE neg m1 h1, near_even E F hE neg m2 h2, ← bits_even (neg := false) hE a1 d1, ← bits_even (neg := false) hE a2 d2, bitsQ_eq a1 d1 a2 d2 h]
end Go.Proofs.YtnkajjealkggdaaGreatDoor
end
section
/- Whole numbers of the library's: a limb put below a number that was shifted up. -/
namespace Go.Proofs.YtnkajjealkggdaaGreatDoor
open Go.RowKit
attribute [local go_sem] sz2 sz3 sz4 sz5 sz6 sz7 sz8
set_option maxHeartbeats 4000000
set_option maxRecDepth 100000
attribute [local irreducible] Calls
theorem lim_shl (v : Nat) (h : v ≠ 0) : lim (v * 4294967296) = 0 :: lim v := by
  rw [lim_pos (by omega)]
  have e1 : v * 4294967296 % Bs = 0 := Nat.mul_mod_left v 4294967296
  have e2 : v * 4294967296 / Bs = v := Nat.mul_div_cancel v (by decide)
  rw [e1, e2]
theorem lim_sing {c : Nat} (h : c ≠ 0) (hc : c < 4294967296) : lim c = [c] := by
  rw [lim_pos h]
  have e1 : c % Bs = c := Nat.mod_eq_of_lt hc
  have e2 : c / Bs = 0 := Nat.div_eq_of_lt hc
  rw [e1, e2, lim_zero]
theorem bi_Or (b o g p h q v c : Nat) (hc : c < 4294967296) (A : Option Addr) (n cx : Nat) (B : Option Addr) (m cy : Nat) (hn : n ≤ 500000) (w : World) (hr : Room w b o) (hx : IntIs w g p ((v * 4294967296 : Nat) : Int) A n cx) (hy : IntIs w h q (c : Int) B m cy) :
    Calls Tryz.prog 62 #[.pointer (some ⟨b, o, none⟩), .pointer (some ⟨g, p, none⟩), .pointer (some ⟨h, q, none⟩)] w (IPost w b o ((v * 4294967296 + c : Nat) : Int)) := by
  have HX := Lib.hid hx
  have HY := Lib.hid hy
  have HR := Lib.hid hr
  have lx := hx.room.lt
  have x1 := hx.words
  have ly := hy.room.lt
  have y1 := hy.words
  have hxl : (lim (v * 4294967296)).length = n := by have := hx.rd.len; rwa [Int.natAbs_natCast] at this
  have hyl : (lim c).length = m := by have := hy.rd.len; rwa [Int.natAbs_natCast] at this
  have hm1 : m ≤ 1 := by
    by_cases h0 : c = 0
    · subst h0; rw [lim_zero] at hyl; simp at hyl; omega
    · rw [lim_sing h0 hc] at hyl; simp at hyl; omega
  -- the row behind the copy, and behind the loop
  obtain ⟨L, hL⟩ : ∃ L, max n m = L := ⟨_, rfl⟩
  have hLi : max (n : Int) (m : Int) = (L : Int) := by omega
  obtain ⟨zs, hzs⟩ : ∃ zs, lim (v * 4294967296) ++ (List.replicate L 0).drop n = zs := ⟨_, rfl⟩
  have hzl : zs.length = L := by rw [← hzs, List.length_append, hxl, List.length_drop, List.length_replicate]; omega
  have hrow : Lb zs ∧ val zs = v * 4294967296 ∧ (0 < m → zs.getD 0 0 = 0 ∧ Lb (zs.set 0 c) ∧ val (zs.set 0 c) = v * 4294967296 + c) := by
    by_cases h0 : v = 0
    · subst h0
      have hn0 : n = 0 := by rw [← hxl, Nat.zero_mul, lim_zero]; rfl
      subst hn0
      have hLm : L = m := by omega
      subst hLm
      have hz : zs = List.replicate L 0 := by rw [← hzs, Nat.zero_mul, lim_zero]; simp
      subst hz
      rcases (by omega : L = 0 ∨ L = 1) with e | e
      · subst e
        refine ⟨fun x hx => (by simp at hx), rfl, fun q => absurd q (by omega)⟩
      · subst e
        refine ⟨fun x hx => ?_, rfl, fun _ => ⟨rfl, fun x hx => ?_, ?_⟩⟩
        · simp at hx; subst hx; decide
        · simp at hx; subst hx; exact hc
        · simp [val]
    · have hl := lim_shl v h0
      have hnl : 1 ≤ n := by rw [← hxl, hl]; simp
      have hz : zs = 0 :: lim v := by
        rw [← hzs, hl, List.drop_of_length_le (by rw [List.length_replicate]; omega), List.append_nil]
      have hv := val_lim v
      subst hz
      refine ⟨fun x hx => ?_, ?_, fun _ => ⟨rfl, fun x hx => ?_, ?_⟩⟩
      · rcases List.mem_cons.1 hx with rfl | hx
        · decide
        · exact lb_lim v x hx
      · show 0 + Bs * val (lim v) = _
        rw [hv]
        show 0 + 4294967296 * v = _
        omega
      · rw [List.set_cons_zero] at hx
        rcases List.mem_cons.1 hx with rfl | hx
        · exact hc
        · exact lb_lim v x hx
      · rw [List.set_cons_zero]
        show c + Bs * val (lim v) = _
        rw [hv]
        show c + 4294967296 * v = _
        omega
  have hyc : 0 < m → (lim c) = [c] := fun hm => by
    by_cases h0 : c = 0
    · subst h0; rw [lim_zero] at hyl; simp at hyl; omega
    · exact lim_sing h0 hc
  have HRX : Hid (Rd w A n cx (lim (v * 4294967296))) := Lib.hid (by have := hx.rd; rwa [Int.natAbs_natCast] at this)
  have HRY : Hid (Rd w B m cy (lim c)) := Lib.hid (by have := hy.rd; rwa [Int.natAbs_natCast] at this)
  have HROW := Lib.hid hrow
  have HYC := Lib.hid hyc
  have HZS := Lib.hid hzs
  have HXL := Lib.hid hxl
  have HYL := Lib.hid hyl
  have hbl := HR.out.lt
  have hnL : n ≤ L := by omega
  have hmL : m ≤ L := by omega
  have hL5 : L ≤ 500001 := by omega
  have hLn : (L : Int) ≤ 500001 := by omega
  have hor : bits BinOp.or IntKind.u32 0 (c : Int) = (c : Int) := by
    have := bits_or32 0 c (by decide) hc
    rw [Nat.zero_or] at this
    exact this
  have hcv : (c : Int) < 4294967296 := by omega
  clear hx hy hr hrow hyc hzs hxl hyl hL
  go_enter Tryz.func62, Tryz.ntmps62
  go_upto_region 1 with fail
  refine wp_aft_tail 11 (by kernel_rfl) (by kernel_rfl) (by kernel_rfl) (fun hq hqf => ?_)
  simp only [List.take_succ_cons, List.take_zero, List.drop_succ_cons, List.drop_zero]
  repeat (go_big_quiet_step (first | fail
    ))
  refine wpQuiet_nil ?_
  rintro _ ⟨nq, rfl⟩
  have xl := ext_lt nq.use
  have xz := ext_size nq.use
  try simp at xz
  have hE0 := Lib.hid nq.use
  have x2 := (Below.cell (p := ⟨g, p + 1, none⟩) nq.use lx).trans x1
  have y2 := (Below.cell (p := ⟨h, q + 1, none⟩) nq.use ly).trans y1
  have lx2 := ext_lt nq.use _ lx
  have ly2 := ext_lt nq.use _ ly
  clear hq hqf x1 y1
  generalize nq.out = W at *
  clear nq
  have y2' := y2
  have ly2' := ly2
  go_upto_region 2 with (first
    | (at_make; refine make_u32 rfl _ _ rfl _ _ _ _ L rfl rfl rfl rfl (by omega) ?_; intro w1 hx1 ho1; have hext1 := Lib.hid hx1; have x2 := (Below.cell (p := ⟨g, p + 1, none⟩) hx1 lx2).trans x2; have y2 := (Below.cell (p := ⟨h, q + 1, none⟩) hx1 ly2).trans y2; have lx2 := ext_lt hx1 _ lx2; have ly2 := ext_lt hx1 _ ly2; clear hx1))
  have HOR := Lib.hid hor
  have HC := Lib.hid hc
  clear hLi hor hcv hc
  go_upto_region 3 with (first
    | (with_reducible refine copy_u32 rfl (.tmp 22) (.tmp 26) rfl ho1.out (HRX.out.ext (ext_trans hE0.out hext1.out)) rfl rfl hnL hext1.out (Nat.le_refl _) ?_; intro w2 hx2 ho2; have hext2 := Lib.hid hx2; clear hx2))
  rw [HZS.out] at ho2
  have y2 := (Below.cell (p := ⟨h, q + 1, none⟩) hext2.out ly2').trans y2'
  have ly2 := ext_lt hext2.out _ ly2'
  obtain ⟨H, hH⟩ : ∃ H, W.heap.size = H := ⟨_, rfl⟩
  have hWw := ext_size hE0.out
  rw [hH] at ho2
  rw [hH]
  have hWH : w.heap.size ≤ H := by omega
  have hWH2 : W.heap.size ≤ H := by omega
  clear x2 lx2 ho1 hext1 hH
  go_wp2_with fail
  go_loopw [33] (fun vi wr => ∃ i : Nat, i ≤ m ∧ vi = .int .i64 (i : Int) ∧ Hid (wr.ownsRow H 48 1 (.slice (some ⟨H, 0, none⟩) L L) L ((if i = 0 then zs else zs.set 0 c).map u32V)) ∧ Hid (Ext W wr)) (fun vi _ => m - (intOf vi).toNat)
  case atStart => exact ⟨0, Nat.zero_le _, rfl, ho2.out, hext2.out⟩
  case round =>
    obtain ⟨i, hi, rfl, ho, hE⟩ := hrel
    by_cases hlt : i < m
    · obtain rfl : i = 0 := by omega
      obtain rfl : m = 1 := by omega
      obtain ⟨z0, z1, z2⟩ := HROW.out.2.2 (by omega)
      have hL0 : 0 < L := by omega
      rw [if_pos rfl] at ho
      have hRY := HRY.out.ext (ext_trans hE0.out hE.out)
      rw [HYC.out (by omega)] at hRY
      rcases hRY.shape with ⟨_, q0, _⟩ | ⟨by_, oy, rfl⟩
      · omega
      · obtain ⟨hb1, hc1⟩ := hRY.cells by_ oy rfl 0 (by simp)
        simp only [List.getElem_cons_zero, Nat.add_zero] at hc1
        obtain ⟨ha1, hf1⟩ := own_at ho.out 0 hL0
        rw [z0] at ha1
        have hor := HOR.out
        have hL0' : (0 : Int) < (L : Int) := by omega
        clear z0 z1 z2 hRY
        go_wp2
        case roundEnd =>
          refine ⟨⟨1, by omega, rfl, ?_, ext_setCell hE.out (by omega) _⟩, by simp [intOf]⟩
          rw [if_neg (by decide)]
          exact Lib.hid (own_set ho.out 0 c)
    · obtain rfl : i = m := by omega
      have hlt' : ¬ (i : Int) < (i : Int) := by omega
      have hV : Lb (if i = 0 then zs else zs.set 0 c) ∧ val (if i = 0 then zs else zs.set 0 c) = v * 4294967296 + c := by
        by_cases g0 : i = 0
        · rw [if_pos g0]
          have hc0 : c = 0 := by
            have := HYL.out
            rw [g0] at this
            exact lim_nil.1 (List.eq_nil_of_length_eq_zero this)
          rw [hc0, Nat.add_zero]
          exact ⟨HROW.out.1, HROW.out.2.1⟩
        · rw [if_neg g0]
          exact ⟨(HROW.out.2.2 (by omega)).2.1, (HROW.out.2.2 (by omega)).2.2⟩
      have kT := Lib.hid (bw_trim_own ho.out hV.1 hV.2)
      have hE0w := Lib.hid (ext_trans hE0.out hE.out)
      have hHb : b < H := by omega
      have hO : ∀ k, Off (some ⟨H, 0, none⟩) k b := fun k x hx _ e => by cases hx; simp only at e; omega
      clear hV hlt HROW HYC HRY HRX HZS ho
      go_wp2_with (first
        | (go_at_call 111; (with_reducible refine (kT.out).mono ?_); rintro e w3 ⟨⟨k3, rfl, hR3⟩, rfl⟩)
        | (go_at_call 109; (with_reducible refine (bi_set b o false _ k3 L (v * 4294967296 + c) _ (HR.out.ext hE0w.out) hR3.out (hO _)).mono ?_); rintro e w4 ⟨rfl, hI4, xt4⟩))
      refine bodyPost_ret (v := .pointer (some ⟨b, o, none⟩)) ?h rfl ⟨rfl, _, _, _, ⟨hI4.out, fun x hx => by cases hx; show w.heap.size ≤ H; omega⟩, (Tch.of hE0w.out).trans xt4⟩
      case h => simp [results, Tryz.results62, go_sem]
end Go.Proofs.YtnkajjealkggdaaGreatDoor
end
section
/- Rounding a fraction to a float: quotients and products of floats that are whole numbers. -/
namespace Go.Proofs.YtnkajjealkggdaaGreatDoor
open Go.RowKit
set_option maxRecDepth 100000
theorem rdQ_eq {mode : Nat} {neg : Bool} {a d b c : Nat} (hd : 0 < d) (hc : 0 < c) (h : a * c = b * d) : rdQ mode neg a d = rdQ mode neg b c := by
  rw [← rdQ_scale (a := a) (d := d) hc, ← rdQ_scale (a := b) (d := c) hd, h, Nat.mul_comm d c]
theorem rdQ_sticky (X Y k : Nat) (hY : 0 < Y) (hk : 1 ≤ k) : rdQ 0 false (2 * (X / Y) + (X % Y != 0).toNat) (2 ^ (k + 1)) = rdQ 0 false X (Y * 2 ^ k) := by
  obtain ⟨Q, hQ⟩ : ∃ Q, X / Y = Q := ⟨_, rfl⟩
  obtain ⟨R, hR⟩ : ∃ R, X % Y = R := ⟨_, rfl⟩
  have hX : X = Y * Q + R := by rw [← hQ, ← hR]; exact (Nat.div_add_mod X Y).symm
  have hRY : R < Y := by rw [← hR]; exact Nat.mod_lt _ hY
  obtain ⟨P, hP⟩ : ∃ P, 2 ^ k = 2 * P := ⟨2 ^ (k - 1), by rw [← Nat.pow_succ']; congr 1; omega⟩
  have hP0 : 0 < P := by have := Nat.two_pow_pos k; omega
  have hP2 : 2 ^ (k + 1) = 2 * (2 * P) := by rw [Nat.pow_succ', hP]
  obtain ⟨u, hu⟩ : ∃ u, Q % (2 * P) = u := ⟨_, rfl⟩
  obtain ⟨q, hq⟩ : ∃ q, Q / (2 * P) = q := ⟨_, rfl⟩
  have hQq : Q = 2 * P * q + u := by rw [← hq, ← hu]; exact (Nat.div_add_mod Q _).symm
  have huP : u < 2 * P := by rw [← hu]; exact Nat.mod_lt _ (by omega)
  obtain ⟨s, hs⟩ : ∃ s, (R != 0).toNat = s := ⟨_, rfl⟩
  have hs0 : (R = 0 ∧ s = 0) ∨ (R ≠ 0 ∧ s = 1) := by
    rw [← hs]
    by_cases h : R = 0
    · left; subst h; exact ⟨rfl, rfl⟩
    · right
      refine ⟨h, ?_⟩
      have : (R != 0) = true := by simpa using h
      rw [this]; rfl
  rw [hQ, hR, hs, hP, hP2]
  have l1 : (2 * Q + s) / (2 * (2 * P)) = q := by
    refine Nat.div_eq_of_lt_le ?_ ?_
    · rw [hQq]
      have : q * (2 * (2 * P)) = 2 * (2 * P * q) := by rw [Nat.mul_comm q, Nat.mul_assoc]
      omega
    · rw [hQq]
      have : (q + 1) * (2 * (2 * P)) = 2 * (2 * P * q) + 2 * (2 * P) := by rw [Nat.add_mul, Nat.one_mul, Nat.mul_comm q, Nat.mul_assoc]
      omega
  have l2 : (2 * Q + s) % (2 * (2 * P)) = 2 * u + s := by
    have := Nat.div_add_mod (2 * Q + s) (2 * (2 * P))
    rw [l1] at this
    have e : 2 * (2 * P) * q = 2 * (2 * P * q) := Nat.mul_assoc ..
    omega
  have hYq : Y * (2 * P * q) = q * (Y * (2 * P)) := by rw [Nat.mul_comm (2 * P) q, Nat.mul_left_comm]
  have hXe : X = q * (Y * (2 * P)) + (Y * u + R) := by rw [hX, hQq, Nat.mul_add, hYq]; omega
  have hYu : Y * u + R < Y * (2 * P) := by
    have h1 : Y * (u + 1) ≤ Y * (2 * P) := Nat.mul_le_mul_left _ (by omega)
    rw [Nat.mul_add, Nat.mul_one] at h1
    omega
  have r1 : X / (Y * (2 * P)) = q := by
    refine Nat.div_eq_of_lt_le ?_ ?_
    · omega
    · rw [Nat.add_mul, Nat.one_mul]; omega
  have r2 : X % (Y * (2 * P)) = Y * u + R := by
    have := Nat.div_add_mod X (Y * (2 * P))
    rw [r1, Nat.mul_comm _ q] at this
    omega
  have c1 : cmpN (2 * (2 * u + s)) (2 * (2 * P)) = cmpN (2 * (Y * u + R)) (Y * (2 * P)) := by
    have e1 : 2 * (Y * u) = Y * (2 * u) := Nat.mul_left_comm ..
    rcases Nat.lt_trichotomy (2 * u) (2 * P) with g | g | g
    · have h1 : Y * (2 * u + 2) ≤ Y * (2 * P) := Nat.mul_le_mul_left _ (by omega)
      rw [Nat.mul_add, Nat.mul_comm Y 2] at h1
      unfold cmpN
      rw [if_pos (by omega), if_pos (by omega)]
    · have h1 : Y * (2 * u) = Y * (2 * P) := by rw [g]
      unfold cmpN
      rcases hs0 with ⟨h2, h3⟩ | ⟨h2, h3⟩
      · rw [if_neg (by omega), if_neg (by omega), if_neg (by omega), if_neg (by omega)]
      · rw [if_neg (by omega), if_pos (by omega), if_neg (by omega), if_pos (by omega)]
    · have h1 : Y * (2 * P + 2) ≤ Y * (2 * u) := Nat.mul_le_mul_left _ (by omega)
      rw [Nat.mul_add, Nat.mul_comm Y 2] at h1
      unfold cmpN
      rw [if_neg (by omega), if_pos (by omega), if_neg (by omega), if_pos (by omega)]
  have z1 : 2 * u + s = 0 ↔ Y * u + R = 0 := by
    constructor
    · intro h
      have hu0 : u = 0 := by omega
      rw [hu0, Nat.mul_zero]; omega
    · intro h
      have : Y * u = 0 := by omega
      rcases Nat.mul_eq_zero.1 this with h1 | h1
      · omega
      · omega
  unfold rdQ
  rw [l1, l2, r1, r2, c1]
  by_cases h : 2 * u + s = 0
  · rw [if_pos h, if_pos (z1.1 h)]
  · rw [if_neg h, if_neg (fun g => h (z1.2 g))]
theorem log2_eq {n k : Nat} (h1 : 2 ^ k ≤ n) (h2 : n < 2 ^ (k + 1)) : n.log2 = k := by
  have h0 : n ≠ 0 := by have := Nat.two_pow_pos k; omega
  exact (Nat.log2_eq_iff h0).2 ⟨h1, h2⟩
/-- A quotient of two floats' numbers is written as their fraction is rounded. -/
theorem quo_even {E F : Nat} (hE : 2 ≤ E) (s t : Bool) {m n : Nat} (hm : 0 < m) (hn : 0 < n) (hml : m.log2 ≤ F + 1 + n.log2) (i j : Int) :
    ((Ieee.Datum.quotient (F + 2) (.number s m i) (.number t n j)).map (fmt E F).write) = some ((fmt E F).word (s ^^ t) (evenQ E F (tA m (i - j)) (tD n (i - j)))) := by
  obtain ⟨mo, hmo⟩ : ∃ mo, F + 2 + n.log2 - m.log2 = mo := ⟨_, rfl⟩
  have hmo1 : mo + m.log2 = F + 2 + n.log2 := by omega
  obtain ⟨X, hX⟩ : ∃ X, m * 2 ^ mo = X := ⟨_, rfl⟩
  have hm1 := Nat.log2_self_le (n := m) (by omega)
  have hm2 := Nat.lt_log2_self (n := m)
  have hn1 := Nat.log2_self_le (n := n) (by omega)
  have hn2 := Nat.lt_log2_self (n := n)
  have hX1 : 2 ^ (F + 2 + n.log2) ≤ X := by
    rw [← hX, ← hmo1, Nat.pow_add, Nat.mul_comm]
    exact Nat.mul_le_mul_right _ hm1
  have hQ1 : 2 ^ (F + 1) ≤ X / n := by
    rw [Nat.le_div_iff_mul_le hn]
    refine Nat.le_trans (Nat.mul_le_mul_left _ (Nat.le_of_lt hn2)) ?_
    rw [← Nat.pow_add, show F + 1 + (n.log2 + 1) = F + 2 + n.log2 by omega]
    exact hX1
  obtain ⟨Q, hQ⟩ : ∃ Q, X / n = Q := ⟨_, rfl⟩
  have hQ0 : 0 < Q := by have := Nat.two_pow_pos (F + 1); omega
  obtain ⟨l, hl⟩ : ∃ l, Q.log2 = l := ⟨_, rfl⟩
  have hl1 : 2 ^ l ≤ Q := by rw [← hl]; exact Nat.log2_self_le (by omega)
  have hl2 : Q < 2 ^ (l + 1) := by rw [← hl]; exact Nat.lt_log2_self
  have hlF : F + 1 ≤ l := by
    rcases Nat.lt_or_ge l (F + 1) with h | h
    · have : 2 ^ (l + 1) ≤ 2 ^ (F + 1) := Nat.pow_le_pow_right (by decide) (by omega)
      omega
    · exact h
  obtain ⟨st, hst⟩ : ∃ st, (X % n != 0).toNat = st := ⟨_, rfl⟩
  have hst1 : st ≤ 1 := by rw [← hst]; exact Bool.toNat_le _
  obtain ⟨q2, hq2⟩ : ∃ q2, 2 * Q + st = q2 := ⟨_, rfl⟩
  have hq20 : 0 < q2 := by omega
  have hlog : q2.log2 = l + 1 := log2_eq (by rw [Nat.pow_succ]; omega) (by rw [Nat.pow_succ 2 (l + 1)]; omega)
  obtain ⟨P, hP⟩ : ∃ P, i - j = P := ⟨_, rfl⟩
  have hq : Ieee.Datum.quotient (F + 2) (.number s m i) (.number t n j) = some (.number (s ^^ t) q2 (i - j - mo - 1)) := by
    unfold Ieee.Datum.quotient
    simp only
    rw [if_neg (by omega), hmo, Nat.shiftLeft_eq, hX, hQ, hst, hq2]
  rw [hq, hP]
  show some ((fmt E F).nearest (s ^^ t) q2 (P - mo - 1)) = _
  rw [near_even E F hE _ q2 hq20]
  congr 2
  have hd1 : 0 < tD 1 (P - mo - 1) := Nat.mul_pos (by decide) (Nat.two_pow_pos _)
  have hA : 0 < tA m P := Nat.mul_pos hm (Nat.two_pow_pos _)
  have hD : 0 < tD n P := Nat.mul_pos hn (Nat.two_pow_pos _)
  have hXn : n * Q ≤ X ∧ X < n * (Q + 1) := by
    rw [← hQ]
    refine ⟨Nat.mul_div_le X n, ?_⟩
    rw [Nat.mul_add, Nat.mul_one]
    have := Nat.div_add_mod X n
    have := Nat.mod_lt X hn
    omega
  have hlg : lgQ (tA m P) (tD n P) = P - mo + l := by
    refine lgQ_eq hA hD ?_ ?_
    · rw [leP_at ((-P).toNat + mo) (by omega)]
      unfold tA tD
      rw [Nat.mul_assoc, Nat.mul_assoc, ← Nat.pow_add, ← Nat.pow_add]
      have e1 : (-P).toNat + (P - mo + (l : Nat) + (((-P).toNat + mo : Nat) : Int)).toNat = l + (P.toNat + (-P).toNat) := by omega
      have e2 : P.toNat + ((-P).toNat + mo) = mo + (P.toNat + (-P).toNat) := by omega
      rw [e1, e2, Nat.pow_add, Nat.pow_add 2 mo, ← Nat.mul_assoc, ← Nat.mul_assoc, hX]
      exact Nat.mul_le_mul_right _ (Nat.le_trans (Nat.mul_le_mul_left _ hl1) hXn.1)
    · rw [leP_at ((-P).toNat + mo) (by omega)]
      unfold tA tD
      rw [Nat.mul_assoc, Nat.mul_assoc, ← Nat.pow_add, ← Nat.pow_add]
      have e1 : (-P).toNat + (P - mo + (l : Nat) + 1 + (((-P).toNat + mo : Nat) : Int)).toNat = (l + 1) + (P.toNat + (-P).toNat) := by omega
      have e2 : P.toNat + ((-P).toNat + mo) = mo + (P.toNat + (-P).toNat) := by omega
      rw [e1, e2, Nat.pow_add, Nat.pow_add 2 mo, ← Nat.mul_assoc, ← Nat.mul_assoc, hX]
      have h1 : X < n * 2 ^ (l + 1) := Nat.lt_of_lt_of_le hXn.2 (Nat.mul_le_mul_left _ hl2)
      have := Nat.mul_lt_mul_of_pos_right h1 (Nat.two_pow_pos (P.toNat + (-P).toNat))
      omega
  have hlow : lowQ E (tA q2 (P - mo - 1)) (tD 1 (P - mo - 1)) = lowQ E (tA m P) (tD n P) := by
    unfold lowQ
    rw [hlg, lgQ_bin hq20, hlog]
    congr 1
    omega
  obtain ⟨low, hlo⟩ : ∃ low, lowQ E (tA m P) (tD n P) = low := ⟨_, rfl⟩
  have hlow1 : P - mo + l ≤ low := by rw [← hlo]; unfold lowQ; rw [hlg]; omega
  have hman : manQ E F 0 false (tA q2 (P - mo - 1)) (tD 1 (P - mo - 1)) = manQ E F 0 false (tA m P) (tD n P) := by
    unfold manQ
    rw [hlow, hlo]
    have e0 := rdQ_bin 0 false q2 (P - mo - 1) (low - F)
    rw [Int.neg_sub] at e0
    rw [← e0]
    obtain ⟨k, hk⟩ : ∃ k : Nat, (low - F - (P - mo - 1)).toNat = k + 1 ∧ 1 ≤ k ∧ low - F = P - mo + k := ⟨(low - F - (P - mo - 1)).toNat - 1, by omega, by omega, by omega⟩
    obtain ⟨k1, k2, k3⟩ := hk
    have e1 : (P - mo - 1 - (low - F)).toNat = 0 := by omega
    have hsk := rdQ_sticky X n k hn k2
    rw [hQ, hst, hq2] at hsk
    rw [k1, e1, Nat.pow_zero, Nat.mul_one, hsk, ← hX]
    refine rdQ_eq (Nat.mul_pos hn (Nat.two_pow_pos _)) (Nat.mul_pos hD (Nat.two_pow_pos _)) ?_
    unfold tA tD
    have e2 : mo + ((-P).toNat + (-((F : Int) - low)).toNat) = P.toNat + ((F : Int) - low).toNat + k := by omega
    calc m * 2 ^ mo * (n * 2 ^ (-P).toNat * 2 ^ (-((F : Int) - low)).toNat) = m * n * 2 ^ (mo + ((-P).toNat + (-((F : Int) - low)).toNat)) := by rw [Nat.pow_add, Nat.pow_add]; ac_rfl
      _ = m * n * 2 ^ (P.toNat + ((F : Int) - low).toNat + k) := by rw [e2]
      _ = m * 2 ^ P.toNat * 2 ^ ((F : Int) - low).toNat * (n * 2 ^ k) := by rw [Nat.pow_add, Nat.pow_add]; ac_rfl
  unfold evenQ rungQ
  rw [hman, hlow]
/-- A float that is this whole number. -/
def IsW (E F x v : Nat) : Prop := ∃ m p, (fmt E F).read x = .number false m p ∧ 0 < m ∧ m.log2 ≤ F ∧ tA m p = v * tD 1 p
theorem isW_of {E F n : Nat} (hE : 2 ≤ E) (hn : 0 < n) (h : n ≤ 2 ^ (F + 1)) (hb : (F : Int) + 1 ≤ biasF E) : IsW E F ((fmt E F).nearest false n 0) n := by
  have hb1 := (bias_two E hE).2
  have key : ∀ m : Nat, 0 < m → m.log2 ≤ F → ∀ p : Nat, m * 2 ^ p = n → p + m.log2 ≤ F + 1 → IsW E F ((fmt E F).nearest false n 0) n := by
    intro m hm hl p hp hpl
    have e1 : (fmt E F).nearest false n 0 = (fmt E F).nearest false m p := near_eq hE false hn hm (by
      unfold tA tD
      have a1 : (-(p : Int)).toNat = 0 := by omega
      have a2 : ((p : Int)).toNat = p := by omega
      rw [a1, a2]
      simp only [Int.toNat_zero, Int.neg_zero, Nat.pow_zero, Nat.mul_one]
      exact hp.symm)
    rw [e1]
    refine ⟨m * 2 ^ (F - m.log2), p - (F - m.log2 : Nat), read_exact hE false hm p hl (by omega) (by omega), Nat.mul_pos hm (Nat.two_pow_pos _), ?_, ?_⟩
    · have : (m * 2 ^ (F - m.log2)).log2 = F := by
        refine log2_eq ?_ ?_
        · calc 2 ^ F = 2 ^ m.log2 * 2 ^ (F - m.log2) := by rw [← Nat.pow_add]; congr 1; omega
            _ ≤ m * 2 ^ (F - m.log2) := Nat.mul_le_mul_right _ (Nat.log2_self_le (by omega))
        · calc m * 2 ^ (F - m.log2) < 2 ^ (m.log2 + 1) * 2 ^ (F - m.log2) := Nat.mul_lt_mul_of_pos_right Nat.lt_log2_self (Nat.two_pow_pos _)
            _ = 2 ^ (F + 1) := by rw [← Nat.pow_add]; congr 1; omega
      omega
    · unfold tA tD
      rw [Nat.one_mul, ← hp, Nat.mul_assoc, Nat.mul_assoc, ← Nat.pow_add, ← Nat.pow_add]
      congr 2
      omega
  rcases Nat.lt_or_ge n (2 ^ (F + 1)) with g | g
  · refine key n hn ?_ 0 (by rw [Nat.pow_zero, Nat.mul_one]) ?_
    · have := (Nat.log2_lt (by omega)).2 g; omega
    · have := (Nat.log2_lt (by omega)).2 g; omega
  · have hl0 : Nat.log2 1 = 0 := by decide
    refine key 1 (by decide) (by rw [hl0]; omega) (F + 1) (by omega) (by rw [hl0]; omega)
theorem mul_W {E F x y a b : Nat} (hE : 2 ≤ E) (hx : IsW E F x a) (hy : IsW E F y b) : (fmt E F).mul x y = some ((fmt E F).word false (evenQ E F (a * b) 1)) := by
  obtain ⟨m, p, h1, h2, -, h3⟩ := hx
  obtain ⟨n, q, k1, k2, -, k3⟩ := hy
  unfold Ieee.Format.mul
  rw [h1, k1]
  show some ((fmt E F).nearest (false ^^ false) (m * n) (p + q)) = _
  have hab : 0 < a * b := by
    have h4 : 0 < tA m p := Nat.mul_pos h2 (Nat.two_pow_pos _)
    have h5 : 0 < tA n q := Nat.mul_pos k2 (Nat.two_pow_pos _)
    refine Nat.mul_pos (Nat.pos_of_ne_zero fun e => ?_) (Nat.pos_of_ne_zero fun e => ?_)
    · rw [e, Nat.zero_mul] at h3; omega
    · rw [e, Nat.zero_mul] at k3; omega
  have hmn : 0 < m * n := Nat.mul_pos h2 k2
  rw [near_even E F hE _ _ hmn]
  congr 2
  have hA : 0 < tA (m * n) (p + q) := Nat.mul_pos hmn (Nat.two_pow_pos _)
  have hD : 0 < tD 1 (p + q) := Nat.mul_pos (by decide) (Nat.two_pow_pos _)
  rw [← bits_even (neg := false) hE hA hD, ← bits_even (neg := false) (d := 1) hE hab (by decide), bitsQ_eq (c := 1) hA hD hab (by decide) ?_]
  rw [Nat.mul_one]
  have e : m * 2 ^ p.toNat * (n * 2 ^ q.toNat) = a * 2 ^ (-p).toNat * (b * 2 ^ (-q).toNat) := by
    have h3' : m * 2 ^ p.toNat = a * 2 ^ (-p).toNat := by have := h3; unfold tA tD at this; rwa [Nat.one_mul] at this
    have k3' : n * 2 ^ q.toNat = b * 2 ^ (-q).toNat := by have := k3; unfold tA tD at this; rwa [Nat.one_mul] at this
    rw [h3', k3']
  unfold tA tD
  rw [Nat.one_mul]
  obtain ⟨c, c1, c2⟩ : ∃ c : Nat, p.toNat + q.toNat = (p + q).toNat + c ∧ (-p).toNat + (-q).toNat = (-(p + q)).toNat + c := ⟨p.toNat + q.toNat - (p + q).toNat, by omega, by omega⟩
  refine Nat.eq_of_mul_eq_mul_right (Nat.two_pow_pos c) ?_
  calc m * n * 2 ^ (p + q).toNat * 2 ^ c = m * n * 2 ^ (p.toNat + q.toNat) := by rw [c1, Nat.pow_add 2 _ c]; ac_rfl
    _ = m * 2 ^ p.toNat * (n * 2 ^ q.toNat) := by rw [Nat.pow_add]; ac_rfl
    _ = a * 2 ^ (-p).toNat * (b * 2 ^ (-q).toNat) := e
    _ = a * b * 2 ^ ((-p).toNat + (-q).toNat) := by rw [Nat.pow_add]; ac_rfl
    _ = a * b * 2 ^ (-(p + q)).toNat * 2 ^ c := by rw [c2, Nat.pow_add 2 _ c]; ac_rfl
theorem div_W {E F x y a b : Nat} (hE : 2 ≤ E) (hx : IsW E F x a) (hy : IsW E F y b) : (fmt E F).div x y = some ((fmt E F).word false (evenQ E F a b)) := by
  obtain ⟨m, p, h1, h2, hl, h3⟩ := hx
  obtain ⟨n, q, k1, k2, -, k3⟩ := hy
  unfold Ieee.Format.div
  rw [h1, k1]
  have := quo_even (F := F) hE false false h2 k2 (by omega) p q
  refine this.trans ?_
  congr 2
  have h4 : 0 < tA m p := Nat.mul_pos h2 (Nat.two_pow_pos _)
  have h5 : 0 < tA n q := Nat.mul_pos k2 (Nat.two_pow_pos _)
  have ha : 0 < a := Nat.pos_of_ne_zero fun e => by rw [e, Nat.zero_mul] at h3; omega
  have hb : 0 < b := Nat.pos_of_ne_zero fun e => by rw [e, Nat.zero_mul] at k3; omega
  have hA : 0 < tA m (p - q) := Nat.mul_pos h2 (Nat.two_pow_pos _)
  have hD : 0 < tD n (p - q) := Nat.mul_pos k2 (Nat.two_pow_pos _)
  rw [← bits_even (neg := false) hE hA hD, ← bits_even (neg := false) hE ha hb, bitsQ_eq hA hD ha hb ?_]
  have h3' : m * 2 ^ p.toNat = a * 2 ^ (-p).toNat := by have := h3; unfold tA tD at this; rwa [Nat.one_mul] at this
  have k3' : n * 2 ^ q.toNat = b * 2 ^ (-q).toNat := by have := k3; unfold tA tD at this; rwa [Nat.one_mul] at this
  unfold tA tD
  obtain ⟨c, c1, c2⟩ : ∃ c : Nat, p.toNat + (-q).toNat = (p - q).toNat + c ∧ (-p).toNat + q.toNat = (-(p - q)).toNat + c := ⟨p.toNat + (-q).toNat - (p - q).toNat, by omega, by omega⟩
  refine Nat.eq_of_mul_eq_mul_right (Nat.two_pow_pos c) ?_
  calc m * 2 ^ (p - q).toNat * b * 2 ^ c = m * 2 ^ p.toNat * (b * 2 ^ (-q).toNat) := by
        have : 2 ^ (p - q).toNat * 2 ^ c = 2 ^ p.toNat * 2 ^ (-q).toNat := by rw [← Nat.pow_add, ← Nat.pow_add, c1]
        calc m * 2 ^ (p - q).toNat * b * 2 ^ c = m * b * (2 ^ (p - q).toNat * 2 ^ c) := by ac_rfl
          _ = m * b * (2 ^ p.toNat * 2 ^ (-q).toNat) := by rw [this]
          _ = m * 2 ^ p.toNat * (b * 2 ^ (-q).toNat) := by ac_rfl
    _ = a * 2 ^ (-p).toNat * (n * 2 ^ q.toNat) := by rw [h3', k3']
    _ = a * (n * 2 ^ (-(p - q)).toNat) * 2 ^ c := by
        have : 2 ^ (-p).toNat * 2 ^ q.toNat = 2 ^ (-(p - q)).toNat * 2 ^ c := by rw [← Nat.pow_add, ← Nat.pow_add, c2]
        calc a * 2 ^ (-p).toNat * (n * 2 ^ q.toNat) = a * n * (2 ^ (-p).toNat * 2 ^ q.toNat) := by ac_rfl
          _ = a * n * (2 ^ (-(p - q)).toNat * 2 ^ c) := by rw [this]
          _ = a * (n * 2 ^ (-(p - q)).toNat) * 2 ^ c := by ac_rfl
end Go.Proofs.YtnkajjealkggdaaGreatDoor
end
section
/- quick: what is parsed and what native floats read: the plain law. -/
namespace Go.Proofs.YtnkajjealkggdaaGreatDoor
open Go.RowKit
set_option maxRecDepth 100000
/-- n times 10 to the power of e by native floats: their bits. -/
def rdB (E F : Nat) (neg : Bool) (n : Nat) (e : Int) : Nat := (if neg = true then 2 ^ (E + F) else 0) + (if n = 0 then 0 else evenQ E F (n * 10 ^ e.toNat) (10 ^ (-e).toNat))
/-- 10 to the power of k as a float's bits. -/
def tnB (E F k : Nat) : Nat := evenQ E F (10 ^ k) 1
theorem isW_bin {E F m : Nat} (hE : 2 ≤ E) (hm : 0 < m) (hl : m.log2 ≤ F) (p : Nat) (hb : (p : Int) + m.log2 ≤ biasF E) : IsW E F (evenQ E F (m * 2 ^ p) 1) (m * 2 ^ p) := by
  have hb1 := (bias_two E hE).2
  have e1 : (fmt E F).nearest false m p = evenQ E F (m * 2 ^ p) 1 := by
    rw [near_even E F hE false m hm]
    unfold tA tD
    have a1 : (-(p : Int)).toNat = 0 := by omega
    rw [a1, Int.toNat_natCast, Nat.pow_zero, Nat.mul_one]
    rfl
  rw [← e1]
  refine ⟨m * 2 ^ (F - m.log2), p - (F - m.log2 : Nat), read_exact hE false hm p hl (by omega) (by omega), Nat.mul_pos hm (Nat.two_pow_pos _), ?_, ?_⟩
  · have : (m * 2 ^ (F - m.log2)).log2 = F := by
      refine log2_eq ?_ ?_
      · calc 2 ^ F = 2 ^ m.log2 * 2 ^ (F - m.log2) := by rw [← Nat.pow_add]; congr 1; omega
          _ ≤ m * 2 ^ (F - m.log2) := Nat.mul_le_mul_right _ (Nat.log2_self_le (by omega))
      · calc m * 2 ^ (F - m.log2) < 2 ^ (m.log2 + 1) * 2 ^ (F - m.log2) := Nat.mul_lt_mul_of_pos_right Nat.lt_log2_self (Nat.two_pow_pos _)
          _ = 2 ^ (F + 1) := by rw [← Nat.pow_add]; congr 1; omega
    omega
  · unfold tA tD
    rw [Nat.one_mul, Nat.mul_assoc, Nat.mul_assoc, ← Nat.pow_add, ← Nat.pow_add]
    congr 2
    omega
theorem isW_ten {E F k : Nat} (hE : 2 ≤ E) (hl : (5 ^ k).log2 ≤ F) (hb : (k : Int) + (5 ^ k).log2 ≤ biasF E) : IsW E F (tnB E F k) (10 ^ k) := by
  have e : (10 : Nat) ^ k = 5 ^ k * 2 ^ k := by rw [← Nat.mul_pow]
  unfold tnB
  rw [e]
  exact isW_bin hE (Nat.pow_pos (by decide)) hl k hb
theorem log_mono {a b : Nat} (h : a ≤ b) (ha : a ≠ 0) : a.log2 ≤ b.log2 := by
  rw [Nat.le_log2 (by omega)]
  exact Nat.le_trans (Nat.log2_self_le ha) h
/-- The two kinds of floats: their fields, and the power up to which tens are exact. -/
inductive Kd : FloatKind → Nat → Nat → Nat → Prop
  | single : Kd .f32 8 23 10
  | double : Kd .f64 11 52 22
theorem Kd.fmt {k : FloatKind} {E F P : Nat} (h : Kd k E F P) : k.format = Proofs.YtnkajjealkggdaaGreatDoor.fmt E F ∧ 2 ≤ E ∧ (F : Int) + 1 ≤ biasF E := by
  cases h <;> exact ⟨rfl, by decide, by decide⟩
theorem Kd.ten {k : FloatKind} {E F P : Nat} (h : Kd k E F P) {j : Nat} (hj : j ≤ P) : IsW E F (tnB E F j) (10 ^ j) := by
  have h5 : (5 : Nat) ^ j ≤ 5 ^ P := Nat.pow_le_pow_right (by decide) hj
  have hl := log_mono h5 (Nat.ne_of_gt (Nat.pow_pos (by decide)))
  cases h
  · have e : Nat.log2 (5 ^ 10) = 23 := by decide
    have b : biasF 8 = 127 := by decide
    exact isW_ten (by decide) (by omega) (by omega)
  · have e : Nat.log2 (5 ^ 22) = 51 := by decide
    have b : biasF 11 = 1023 := by decide
    exact isW_ten (by decide) (by omega) (by omega)
theorem Kd.more {k : FloatKind} {E F P : Nat} (h : Kd k E F P) {j : Nat} (hj : j ≤ P) : floatBits .mul k (tnB E F j) (tnB E F 1) = some (tnB E F (j + 1)) := by
  obtain ⟨h1, h2, h3⟩ := h.fmt
  have hp : 1 ≤ P := by cases h <;> decide
  show k.format.mul _ _ = _
  rw [h1, mul_W h2 (h.ten hj) (h.ten hp)]
  show some (evenQ E F _ 1) = _
  rw [Nat.pow_one, ← Nat.pow_succ]
  rfl
theorem Kd.whole {k : FloatKind} {E F P : Nat} (h : Kd k E F P) {n : Nat} (hn : 0 < n) (h53 : n ≤ 2 ^ (F + 1)) : IsW E F (floatOfInt k (n : Int)) n := by
  obtain ⟨h1, h2, h3⟩ := h.fmt
  have := isW_of (F := F) h2 hn h53 h3
  have e : floatOfInt k (n : Int) = (Proofs.YtnkajjealkggdaaGreatDoor.fmt E F).nearest false n 0 := by
    show k.format.write (.number (decide ((n : Int) < 0)) (n : Int).natAbs 0) = _
    rw [h1, decide_eq_false (by omega), Int.natAbs_natCast]
    rfl
  rw [e]
  exact this
theorem Kd.nought {k : FloatKind} {E F P : Nat} (h : Kd k E F P) : floatOfInt k 0 = 0 := by cases h <;> decide
theorem Kd.times {k : FloatKind} {E F P : Nat} (h : Kd k E F P) {n j : Nat} (h53 : n ≤ 2 ^ (F + 1)) (hj : j ≤ P) : floatBits .mul k (floatOfInt k (n : Int)) (tnB E F j) = some (rdB E F false n (j : Int)) := by
  obtain ⟨h1, h2, h3⟩ := h.fmt
  have a1 : (-(j : Int)).toNat = 0 := by omega
  show k.format.mul _ _ = _
  unfold rdB
  rw [Int.toNat_natCast, a1, Nat.pow_zero, h1]
  rcases Nat.eq_zero_or_pos n with rfl | hn
  · obtain ⟨m, p, k1, k2, -, -⟩ := h.ten hj
    rw [show floatOfInt k ((0 : Nat) : Int) = 0 from h.nought]
    unfold Ieee.Format.mul
    rw [k1]
    cases h <;> (show some (Ieee.Format.nearest _ (false ^^ false) (0 * m) _) = _; rw [Nat.zero_mul]; rfl)
  · rw [mul_W h2 (h.whole hn h53) (h.ten hj), if_neg (show ¬ false = true by decide), if_neg (show ¬ n = 0 by omega), Nat.zero_add]
    rfl
theorem Kd.over {k : FloatKind} {E F P : Nat} (h : Kd k E F P) {n j : Nat} (h53 : n ≤ 2 ^ (F + 1)) (hj : j ≤ P) : floatBits .quo k (floatOfInt k (n : Int)) (tnB E F j) = some (rdB E F false n (-(j : Int))) := by
  obtain ⟨h1, h2, h3⟩ := h.fmt
  have a1 : (-(j : Int)).toNat = 0 := by omega
  show k.format.div _ _ = _
  unfold rdB
  rw [Int.neg_neg, Int.toNat_natCast, a1, Nat.pow_zero, Nat.mul_one, h1]
  rcases Nat.eq_zero_or_pos n with rfl | hn
  · obtain ⟨m, p, k1, k2, -, -⟩ := h.ten hj
    rw [show floatOfInt k ((0 : Nat) : Int) = 0 from h.nought]
    unfold Ieee.Format.div
    rw [k1]
    have e0 : ∀ i : Int, ∃ q, (Proofs.YtnkajjealkggdaaGreatDoor.fmt E F).read 0 = .number false 0 q := by cases h <;> exact fun _ => ⟨_, rfl⟩
    obtain ⟨q, e0⟩ := e0 0
    rw [e0]
    have e1 : ∃ r, Ieee.Datum.quotient ((Proofs.YtnkajjealkggdaaGreatDoor.fmt E F).fractionBits + 2) (.number false 0 q) (.number false m p) = some (.number false 0 r) := by
      unfold Ieee.Datum.quotient
      simp only
      rw [if_neg (by omega), Nat.zero_shiftLeft, Nat.zero_div, Nat.zero_mod]
      exact ⟨_, rfl⟩
    obtain ⟨r, e1⟩ := e1
    rw [e1]
    rfl
  · rw [div_W h2 (h.whole hn h53) (h.ten hj), if_neg (show ¬ false = true by decide), if_neg (show ¬ n = 0 by omega), Nat.zero_add]
    rfl
end Go.Proofs.YtnkajjealkggdaaGreatDoor
end
section
/- quick: the digits as a number; which decimals may be asked. -/
namespace Go.Proofs.YtnkajjealkggdaaGreatDoor
open Go.RowKit
attribute [local go_sem] bs_size bs_extract bs_get bs_append bs_toList const_get
attribute [local go_sem] sz2 sz3 sz4 sz5 sz6 sz7 sz8
set_option maxHeartbeats 8000000
set_option maxRecDepth 100000
attribute [local irreducible] Calls
/-- The error for a number that is too great stands. -/
def Er (w : World) : Prop := ∃ te pe, w.cell? ⟨6, 0, none⟩ = some (.iface te pe)
theorem Er.ext {w w' : World} (h : Er w) (he : Ext w w') : Er w' := by
  obtain ⟨te, pe, h⟩ := h
  exact ⟨te, pe, (Below.cell (p := ⟨6, 0, none⟩) he (Lib.lt_of_cell h)).trans h⟩
end Go.Proofs.YtnkajjealkggdaaGreatDoor
end
section
/- The program's fractions: sums, products, order. -/
namespace Go.Proofs.YtnkajjealkggdaaGreatDoor
open Go.RowKit
attribute [local go_sem] sz2 sz3 sz4 sz5 sz6 sz7 sz8
set_option maxHeartbeats 4000000
set_option maxRecDepth 100000
attribute [local irreducible] Calls
theorem run_makeFunc'' (P : Program) (fn : Fn) (first cap : Array Value) (w : World) : (Instr.makeFunc fn first cap).run P w = .ok (.func fn first cap) w := rfl
attribute [local go_sem] run_makeFunc''
end Go.Proofs.YtnkajjealkggdaaGreatDoor
end
