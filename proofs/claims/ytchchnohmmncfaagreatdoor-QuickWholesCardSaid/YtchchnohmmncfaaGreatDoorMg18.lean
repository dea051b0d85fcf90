/- Lemmas of this proof, laid together: RatP, RatJ, IntJ, IntO, RndR, IntP, NtK, NtL, IntK, BigQ, BigR, BigT, BigS, BigU, IntL, IntM, IntN, IntQ, RatK0, RatK, RatL, RatM, RatN, TwBigL, RatT, RatU. -/
import Derived.Test.YtchchnohmmncfaaGreatDoorMg17
import Derived.Test.YtchchnohmmncfaaGreatDoorMg03
import Derived.Deep.DeepCutAuto
import Derived.Deep.RegionWith
import Derived.Deep.LoopGhost
import Derived.Test.YtchchnohmmncfaaGreatDoorMg13
import Derived.Test.YtchchnohmmncfaaGreatDoorMg11
import Derived.Test.YtchchnohmmncfaaGreatDoorMg12
import Derived.Maps.AppendAt
import Derived.Test.YtchchnohmmncfaaGreatDoorMg16
import Derived.Shelf.Spec.TrailingZeros
set_option linter.unusedSimpArgs false
set_option linter.unusedVariables false
section
/- Fractions in their lowest terms, plainly. -/
namespace Go.Proofs.YtchchnohmmncfaaGreatDoor
/-- Of two that are the same, the one in lowest terms. -/
theorem low_uniq {a d A D : Nat} (hd : d ≠ 0) (hD : D ≠ 0) (hg : Nat.gcd a d = 1) (hx : a * D = A * d) : a = A / Nat.gcd A D ∧ d = D / Nat.gcd A D := by
  have hG : 0 < Nat.gcd A D := Nat.pos_of_ne_zero (fun h => hD (Nat.eq_zero_of_gcd_eq_zero_right h))
  obtain ⟨u, hu⟩ := Nat.gcd_dvd_left A D
  obtain ⟨v, hv⟩ := Nat.gcd_dvd_right A D
  have hc : Nat.gcd (A / Nat.gcd A D) (D / Nat.gcd A D) = 1 := Nat.coprime_div_gcd_div_gcd hG
  have e1 : A / Nat.gcd A D = u := Nat.div_eq_of_eq_mul_right hG hu
  have e2 : D / Nat.gcd A D = v := Nat.div_eq_of_eq_mul_right hG hv
  rw [e1, e2] at hc ⊢
  have hx' : a * v = u * d := by
    refine Nat.eq_of_mul_eq_mul_left hG ?_
    calc Nat.gcd A D * (a * v) = a * (Nat.gcd A D * v) := by grind
      _ = a * D := by rw [← hv]
      _ = A * d := hx
      _ = (Nat.gcd A D * u) * d := by rw [← hu]
      _ = Nat.gcd A D * (u * d) := by grind
  have d1 : a ∣ u := Nat.Coprime.dvd_of_dvd_mul_right (show Nat.Coprime a d from hg) ⟨v, hx'.symm⟩
  have d2 : u ∣ a := Nat.Coprime.dvd_of_dvd_mul_right (show Nat.Coprime u v from hc) ⟨d, hx'⟩
  have e3 : a = u := Nat.dvd_antisymm d1 d2
  refine ⟨e3, ?_⟩
  have d3 : d ∣ v := Nat.Coprime.dvd_of_dvd_mul_left (show Nat.Coprime d a by rw [Nat.coprime_comm]; exact hg) ⟨u, by rw [hx']; exact Nat.mul_comm _ _⟩
  have d4 : v ∣ d := Nat.Coprime.dvd_of_dvd_mul_left (show Nat.Coprime v u by rw [Nat.coprime_comm]; exact hc) ⟨a, by rw [← hx']; exact Nat.mul_comm _ _⟩
  exact Nat.dvd_antisymm d3 d4
/-- Above the line and below it, in lowest terms. -/
def canN (z : Int) (d : Nat) : Int := sgn (decide (z < 0)) (z.natAbs / Nat.gcd z.natAbs d : Nat)
def canD (z : Int) (d : Nat) : Nat := d / Nat.gcd z.natAbs d
theorem can_uniq {z : Int} {d : Nat} {Z : Int} {D : Nat} (hd : d ≠ 0) (hD : D ≠ 0) (hg : Nat.gcd z.natAbs d = 1) (hx : z * (D : Int) = Z * (d : Int)) : z = canN Z D ∧ d = canD Z D := by
  have ha : z.natAbs * D = Z.natAbs * d := by
    have := congrArg Int.natAbs hx
    rwa [Int.natAbs_mul, Int.natAbs_mul, Int.natAbs_natCast, Int.natAbs_natCast] at this
  have h := low_uniq hd hD hg ha
  have hs : decide (z < 0) = decide (Z < 0) := by
    have hd' : (0 : Int) < d := by omega
    have hD' : (0 : Int) < D := by omega
    by_cases h1 : z < 0
    · have : Z * (d : Int) < 0 := by rw [← hx]; exact Int.mul_neg_of_neg_of_pos h1 hD'
      have h2 : Z < 0 := by
        rcases Int.lt_or_le Z 0 with h | h
        · exact h
        · have := Int.mul_nonneg h (Int.le_of_lt hd'); omega
      rw [decide_eq_true h1, decide_eq_true h2]
    · have h3 : 0 ≤ z * (D : Int) := Int.mul_nonneg (by omega) (Int.le_of_lt hD')
      have h2 : ¬ Z < 0 := by
        intro h
        have := Int.mul_neg_of_neg_of_pos h hd'; omega
      rw [decide_eq_false h1, decide_eq_false h2]
  refine ⟨?_, h.2⟩
  unfold canN
  rw [← hs, ← h.1, sgn_self]
theorem canD_pos {z : Int} {d : Nat} (hd : d ≠ 0) : canD z d ≠ 0 := by
  unfold canD
  have := Nat.div_pos (Nat.le_of_dvd (Nat.pos_of_ne_zero hd) (Nat.gcd_dvd_right z.natAbs d)) (Nat.gcd_pos_of_pos_right z.natAbs (Nat.pos_of_ne_zero hd))
  omega
theorem can_gcd {z : Int} {d : Nat} (hd : d ≠ 0) : Nat.gcd (canN z d).natAbs (canD z d) = 1 := by
  unfold canN canD
  rw [sgn_abs]
  exact Nat.coprime_div_gcd_div_gcd (Nat.gcd_pos_of_pos_right z.natAbs (Nat.pos_of_ne_zero hd))
theorem can_self {z : Int} {d : Nat} (hd : d ≠ 0) (hg : Nat.gcd z.natAbs d = 1) : canN z d = z ∧ canD z d = d := by
  have := can_uniq hd hd hg rfl
  exact ⟨this.1.symm, this.2.symm⟩
/-- The words below the line of a fraction in lowest terms: nought has none. -/
def canW (z : Int) (d : Nat) : Nat := if z = 0 then 0 else canD z d
theorem canN_zero (d : Nat) : canN 0 d = 0 := by unfold canN; rw [Int.natAbs_zero, Nat.zero_div]; rfl
theorem canW_zero (d : Nat) : canW 0 d = 0 := if_pos rfl
theorem canW_den {z : Int} {d : Nat} (hd : d ≠ 0) : denOf (canW z d) = canD z d := by
  unfold canW
  by_cases h : z = 0
  · subst h; rw [if_pos rfl]; unfold denOf canD; rw [if_pos rfl, Int.natAbs_zero, Nat.gcd_zero_left, Nat.div_self (Nat.pos_of_ne_zero hd)]
  · rw [if_neg h]; unfold denOf; rw [if_neg (canD_pos hd)]
/-- A product in lowest terms. -/
theorem can_mul {a d b c : Nat} (had : Nat.gcd a d = 1) (hbc : Nat.gcd b c = 1) (hd : d ≠ 0) (hc : c ≠ 0) (s : Bool) :
    sgn s ((a / Nat.gcd a c) * (b / Nat.gcd b d) : Nat) = canN (sgn s (a * b : Nat)) (d * c) ∧ (d / Nat.gcd b d) * (c / Nat.gcd a c) = canD (sgn s (a * b : Nat)) (d * c) := by
  obtain ⟨u, hu⟩ := Nat.gcd_dvd_left a c
  obtain ⟨v, hv⟩ := Nat.gcd_dvd_right a c
  obtain ⟨x, hx⟩ := Nat.gcd_dvd_left b d
  obtain ⟨y, hy⟩ := Nat.gcd_dvd_right b d
  have hG : 0 < Nat.gcd a c := Nat.gcd_pos_of_pos_right a (Nat.pos_of_ne_zero hc)
  have hH : 0 < Nat.gcd b d := Nat.gcd_pos_of_pos_right b (Nat.pos_of_ne_zero hd)
  have c1 := Nat.coprime_div_gcd_div_gcd hG
  have c2 := Nat.coprime_div_gcd_div_gcd hH
  have e1 : a / Nat.gcd a c = u := Nat.div_eq_of_eq_mul_right hG hu
  have e2 : c / Nat.gcd a c = v := Nat.div_eq_of_eq_mul_right hG hv
  have e3 : b / Nat.gcd b d = x := Nat.div_eq_of_eq_mul_right hH hx
  have e4 : d / Nat.gcd b d = y := Nat.div_eq_of_eq_mul_right hH hy
  rw [e1, e2] at c1
  rw [e3, e4] at c2
  rw [e1, e2, e3, e4]
  have c3 : Nat.Coprime u y := Nat.Coprime.coprime_dvd_left ⟨_, (by rw [Nat.mul_comm]; exact hu)⟩ (Nat.Coprime.coprime_dvd_right ⟨_, (by rw [Nat.mul_comm]; exact hy)⟩ (show Nat.Coprime a d from had))
  have c4 : Nat.Coprime x v := Nat.Coprime.coprime_dvd_left ⟨_, (by rw [Nat.mul_comm]; exact hx)⟩ (Nat.Coprime.coprime_dvd_right ⟨_, (by rw [Nat.mul_comm]; exact hv)⟩ (show Nat.Coprime b c from hbc))
  have hcop : Nat.gcd (u * x) (y * v) = 1 := Nat.Coprime.mul_left (Nat.Coprime.mul_right c3 c1) (Nat.Coprime.mul_right c2 c4)
  have hy0 : y ≠ 0 := by intro h; rw [h, Nat.mul_zero] at hy; exact hd hy
  have hv0 : v ≠ 0 := by intro h; rw [h, Nat.mul_zero] at hv; exact hc hv
  refine can_uniq (Nat.mul_ne_zero hy0 hv0) (Nat.mul_ne_zero hd hc) (by rw [sgn_abs]; exact hcop) ?_
  have key : u * x * (d * c) = a * b * (y * v) := by
    conv => lhs; rw [hv, hy]
    conv => rhs; lhs; rw [hu, hx]
    grind
  have kz : ((u * x * (d * c) : Nat) : Int) = ((a * b * (y * v) : Nat) : Int) := congrArg _ key
  cases s
  · show ((u * x : Nat) : Int) * ((d * c : Nat) : Int) = ((a * b : Nat) : Int) * ((y * v : Nat) : Int)
    rw [← Int.natCast_mul, ← Int.natCast_mul]; exact kz
  · show -((u * x : Nat) : Int) * ((d * c : Nat) : Int) = -((a * b : Nat) : Int) * ((y * v : Nat) : Int)
    rw [Int.neg_mul, Int.neg_mul, ← Int.natCast_mul, ← Int.natCast_mul]; rw [kz]
/-- A sum in lowest terms. -/
theorem can_add {x y : Int} {p q : Nat} (hp : p ≠ 0) (hq : q ≠ 0) (hxp : Nat.gcd x.natAbs p = 1) (hyq : Nat.gcd y.natAbs q = 1) (g : Nat) (hg : g = Nat.gcd p q) (a : Int) (ha : a = x * ((q / g : Nat) : Int) + y * ((p / g : Nat) : Int)) (h : Nat) (hh : h = Nat.gcd a.natAbs g) :
    sgn (decide (a < 0)) (a.natAbs / h : Nat) = canN (x * q + y * p) (p * q) ∧ (p / g) * (q / h) = canD (x * q + y * p) (p * q) := by
  obtain ⟨u, hu⟩ : g ∣ p := by rw [hg]; exact Nat.gcd_dvd_left p q
  obtain ⟨v, hv⟩ : g ∣ q := by rw [hg]; exact Nat.gcd_dvd_right p q
  have hG : 0 < g := by rw [hg]; exact Nat.gcd_pos_of_pos_right p (Nat.pos_of_ne_zero hq)
  have e1 : p / g = u := by rw [hu, Nat.mul_div_cancel_left _ hG]
  have e2 : q / g = v := by rw [hv, Nat.mul_div_cancel_left _ hG]
  have c1 : Nat.Coprime u v := by
    have := Nat.coprime_div_gcd_div_gcd (m := p) (n := q) (by rw [← hg]; exact hG)
    rw [← hg, e1, e2] at this; exact this
  rw [e1, e2] at ha
  rw [e1]
  have hH : 0 < h := by rw [hh]; exact Nat.gcd_pos_of_pos_right _ hG
  obtain ⟨s, hs⟩ : h ∣ a.natAbs := by rw [hh]; exact Nat.gcd_dvd_left _ _
  obtain ⟨t, ht⟩ : h ∣ g := by rw [hh]; exact Nat.gcd_dvd_right _ _
  have e3 : a.natAbs / h = s := by rw [hs, Nat.mul_div_cancel_left _ hH]
  have e4 : g / h = t := by rw [ht, Nat.mul_div_cancel_left _ hH]
  have c2 : Nat.Coprime s t := by
    have := Nat.coprime_div_gcd_div_gcd (m := a.natAbs) (n := g) (by rw [← hh]; exact hH)
    rw [← hh, e3, e4] at this; exact this
  have hqh : q / h = t * v := by
    have : q = h * (t * v) := by rw [hv]; conv => lhs; lhs; rw [ht]
                                 grind
    rw [this, Nat.mul_div_cancel_left _ hH]
  rw [e3, hqh]
  have hxu : Nat.Coprime x.natAbs u := Nat.Coprime.coprime_dvd_right ⟨g, by rw [hu]; exact Nat.mul_comm _ _⟩ (show Nat.Coprime x.natAbs p from hxp)
  have hyv : Nat.Coprime y.natAbs v := Nat.Coprime.coprime_dvd_right ⟨g, by rw [hv]; exact Nat.mul_comm _ _⟩ (show Nat.Coprime y.natAbs q from hyq)
  have cau : Nat.Coprime a.natAbs u := by
    have h1 : Nat.gcd (x * (v : Int)).natAbs u = 1 := by
      rw [Int.natAbs_mul, Int.natAbs_natCast]
      exact Nat.Coprime.mul_left hxu c1.symm
    have h2 : Nat.gcd a.natAbs u ∣ Nat.gcd (x * (v : Int)).natAbs u := by
      refine Nat.dvd_gcd ?_ (Nat.gcd_dvd_right _ _)
      have d1 : ((Nat.gcd a.natAbs u : Nat) : Int) ∣ a := Int.ofNat_dvd_left.2 (Nat.gcd_dvd_left _ _)
      have d2 : ((Nat.gcd a.natAbs u : Nat) : Int) ∣ (u : Int) := Int.natCast_dvd_natCast.2 (Nat.gcd_dvd_right _ _)
      have d3 : ((Nat.gcd a.natAbs u : Nat) : Int) ∣ a - y * (u : Int) := Int.dvd_sub d1 (Int.dvd_trans d2 (Int.dvd_mul_left _ _))
      have e : a - y * (u : Int) = x * (v : Int) := by rw [ha]; omega
      rw [e] at d3
      exact Int.ofNat_dvd_left.1 d3
    rw [h1] at h2
    exact Nat.dvd_one.1 h2
  have cav : Nat.Coprime a.natAbs v := by
    have h1 : Nat.gcd (y * (u : Int)).natAbs v = 1 := by
      rw [Int.natAbs_mul, Int.natAbs_natCast]
      exact Nat.Coprime.mul_left hyv c1
    have h2 : Nat.gcd a.natAbs v ∣ Nat.gcd (y * (u : Int)).natAbs v := by
      refine Nat.dvd_gcd ?_ (Nat.gcd_dvd_right _ _)
      have d1 : ((Nat.gcd a.natAbs v : Nat) : Int) ∣ a := Int.ofNat_dvd_left.2 (Nat.gcd_dvd_left _ _)
      have d2 : ((Nat.gcd a.natAbs v : Nat) : Int) ∣ (v : Int) := Int.natCast_dvd_natCast.2 (Nat.gcd_dvd_right _ _)
      have d3 : ((Nat.gcd a.natAbs v : Nat) : Int) ∣ a - x * (v : Int) := Int.dvd_sub d1 (Int.dvd_trans d2 (Int.dvd_mul_left _ _))
      have e : a - x * (v : Int) = y * (u : Int) := by rw [ha]; omega
      rw [e] at d3
      exact Int.ofNat_dvd_left.1 d3
    rw [h1] at h2
    exact Nat.dvd_one.1 h2
  have csu : Nat.Coprime s u := Nat.Coprime.coprime_dvd_left ⟨h, by rw [Nat.mul_comm]; exact hs⟩ cau
  have csv : Nat.Coprime s v := Nat.Coprime.coprime_dvd_left ⟨h, by rw [Nat.mul_comm]; exact hs⟩ cav
  have hu0 : u ≠ 0 := by intro h; rw [h, Nat.mul_zero] at hu; exact hp hu
  have hv0 : v ≠ 0 := by intro h; rw [h, Nat.mul_zero] at hv; exact hq hv
  have ht0 : t ≠ 0 := by intro h'; rw [h', Nat.mul_zero] at ht; omega
  refine can_uniq (Nat.mul_ne_zero hu0 (Nat.mul_ne_zero ht0 hv0)) (Nat.mul_ne_zero hp hq) (by rw [sgn_abs]; exact Nat.Coprime.mul_right csu (Nat.Coprime.mul_right c2 csv)) ?_
  have ka : sgn (decide (a < 0)) (s : Nat) * (h : Int) = a := by
    have h1 := sgn_self a
    rw [hs] at h1
    refine Eq.trans ?_ h1
    generalize decide (a < 0) = b
    cases b
    · show (s : Int) * h = ((h * s : Nat) : Int)
      rw [Int.natCast_mul, Int.mul_comm]
    · show -(s : Int) * h = -((h * s : Nat) : Int)
      rw [Int.natCast_mul, Int.neg_mul, Int.mul_comm]
  have hs0 : (g : Int) = (h : Int) * (t : Int) := by rw [ht, Int.natCast_mul]
  have hp0 : (p : Int) = (g : Int) * (u : Int) := by rw [hu, Int.natCast_mul]
  have hq0 : (q : Int) = (g : Int) * (v : Int) := by rw [hv, Int.natCast_mul]
  generalize sgn (decide (a < 0)) (s : Nat) = sg at ka ⊢
  rw [Int.natCast_mul, Int.natCast_mul, Int.natCast_mul, hp0, hq0]
  have : x * ((g : Int) * v) + y * ((g : Int) * u) = g * a := by rw [ha]; grind
  rw [this, ← ka]
  rw [hs0]
  grind
end Go.Proofs.YtchchnohmmncfaaGreatDoor
end
section
/- Fractions of the library's: a product in lowest terms. -/
namespace Go.Proofs.YtchchnohmmncfaaGreatDoor
open Go.RowKit
attribute [local go_sem] sz2 sz3 sz4 sz5 sz6 sz7 sz8
set_option maxHeartbeats 4000000
set_option maxRecDepth 100000
attribute [local irreducible] Calls
attribute [local go_sem] D2.Oper.detAt D2.detUpon D2.relUpon
theorem Rd.nil_of {w : World} {A : Option Addr} {n c a : Nat} (h : Rd w A n c (lim a)) (ha : a = 0) : n = 0 := by
  have := h.len; rw [ha, lim_zero] at this; exact this.symm
namespace D2
/-- A row that was answered, new or old. -/
def RRow (v : Nat) : List Value → Value → World → Prop := fun _ u w => ∃ (A : Option Addr) (k c : Nat), u = .slice A k c ∧ Rd w A k c (lim v)
theorem stays_row (v : Nat) : Stays (RRow v) := fun _ _ _ _ ⟨A, k, c, h1, h2⟩ he => ⟨A, k, c, h1, h2.ext he⟩
theorem stays_word (N v : Nat) : Stays (RWord N v) := fun _ _ _ _ ⟨A, k, c, h1, h2, h3⟩ he => ⟨A, k, c, h1, h2.ext he, h3⟩
theorem row_at {v : Nat} {vals : List Value} {A : Option Addr} {k c : Nat} {w : World} (h : RRow v vals (.slice A k c) w) : Rd w A k c (lim v) := by
  obtain ⟨A', k', c', e, h2⟩ := h
  simp only [Value.slice.injEq] at e
  obtain ⟨rfl, rfl, rfl⟩ := e
  exact h2
theorem fresh_row {w w' : World} {A : Option Addr} {k c : Nat} : Fresh w (.slice A k c) w' := fun b hb => by simp [blk] at hb
theorem rel_row {f : FuncId} {args : Array Value} {v : Nat} {vals : List Value} {w : World} (h : Calls Tryz.prog f args w fun e w' => ∃ (B : Option Addr) (k l : Nat), e = .returned (.slice B k l) ∧ Hid (Rd w' B k l (lim v)) ∧ Ext w w') :
    Calls Tryz.prog f args w fun e w' => ∃ u, e = .returned u ∧ Ext w w' ∧ Fresh w u w' ∧ RRow v vals u w' :=
  h.mono fun _ _ ⟨B, k, l, h1, h2, h3⟩ => ⟨_, h1, h3, fresh_row, B, k, l, rfl, h2.out⟩
theorem rel_wpost {f : FuncId} {args : Array Value} {N v : Nat} {vals : List Value} {w : World} (hN : N ≤ w.heap.size) (h : Calls Tryz.prog f args w (WPost w v)) :
    Calls Tryz.prog f args w fun e w' => ∃ u, e = .returned u ∧ Ext w w' ∧ Fresh w u w' ∧ RWord N v vals u w' :=
  h.mono fun _ _ ⟨B, k, l, h1, h2, h3⟩ => ⟨_, h1, h3, fresh_row, B, k, l, rfl, h2.out.1, fun a ha => Nat.le_trans hN (h2.out.2 a ha)⟩
end D2
theorem denOf_ne (d : Nat) : denOf d ≠ 0 := by unfold denOf; split <;> omega
theorem den_len {w : World} {g : Nat} {z : Int} {A : Option Addr} {n c d : Nat} {D : Option Addr} {m e L : Nat} (h : RatIs w g z A n c d D m e) (hm : m ≤ L) (h1 : 1 ≤ L) : (lim (denOf d)).length ≤ L := by
  by_cases hd : d = 0
  · subst hd
    have : (lim (denOf 0)).length = 1 := by kernel_rfl
    omega
  · rw [show denOf d = d from if_neg hd, h.rd.len]; exact hm
theorem sgn_both (x y : Int) : sgn (!(decide (x < 0) == decide (y < 0))) (x.natAbs * y.natAbs : Nat) = x * y := by
  have hx := sgn_self x
  have hy := sgn_self y
  have k : ∀ (s t : Bool) (a b : Nat), sgn (!(s == t)) (a * b : Nat) = sgn s a * sgn t b := by
    intro s t a b; cases s <;> cases t <;> simp [sgn, Int.natCast_mul, Int.neg_mul, Int.mul_neg]
  rw [k, hx, hy]
end Go.Proofs.YtchchnohmmncfaaGreatDoor
end
section
/- Whole numbers of the library's: products, differences, quotients. -/
namespace Go.Proofs.YtchchnohmmncfaaGreatDoor
open Go.RowKit
attribute [local go_sem] sz2 sz3 sz4 sz5 sz6 sz7 sz8
set_option maxHeartbeats 4000000
set_option maxRecDepth 100000
attribute [local irreducible] Calls
attribute [local go_sem] D2.Oper.detAt D2.detUpon D2.relUpon
namespace D2
/-- A quotient and what is left, both new. -/
def RQuo (N q r : Nat) : List Value → Value → World → Prop := fun _ u w => ∃ (A : Option Addr) (k c : Nat) (B : Option Addr) (m d : Nat), u = .tuple #[.slice A k c, .slice B m d] ∧ (Rd w A k c (lim q) ∧ ∀ a, A = some a → N ≤ a.block) ∧ Rd w B m d (lim r) ∧ ∀ a, B = some a → N ≤ a.block
theorem stays_quo (N q r : Nat) : Stays (RQuo N q r) := fun _ _ _ _ ⟨A, k, c, B, m, d, h1, ⟨h2, h3⟩, h4, h5⟩ he => ⟨A, k, c, B, m, d, h1, ⟨h2.ext he, h3⟩, h4.ext he, h5⟩
theorem quo_at {N q r : Nat} {vals : List Value} {A : Option Addr} {k c : Nat} {B : Option Addr} {m d : Nat} {w : World} (h : RQuo N q r vals (.tuple #[.slice A k c, .slice B m d]) w) : (Rd w A k c (lim q) ∧ ∀ a, A = some a → N ≤ a.block) ∧ Rd w B m d (lim r) ∧ ∀ a, B = some a → N ≤ a.block := by
  obtain ⟨A', k', c', B', m', d', e, h1, h2⟩ := h
  cases e
  exact ⟨h1, h2⟩
theorem rel_quo {f : FuncId} {args : Array Value} {N q r : Nat} {vals : List Value} {w : World} (hN : N ≤ w.heap.size) (h : Calls Tryz.prog f args w (QPost w q r)) :
    Calls Tryz.prog f args w fun e w' => ∃ u, e = .returned u ∧ Ext w w' ∧ Fresh w u w' ∧ RQuo N q r vals u w' :=
  h.mono fun _ _ ⟨A, k, c, B, m, d, h1, h2, h3, h4⟩ => ⟨_, h1, h4, (fun b hb => by simp [blk] at hb), A, k, c, B, m, d, rfl, ⟨h2.out.1, fun a ha => Nat.le_trans hN (h2.out.2 a ha)⟩, h3.out.1, fun a ha => Nat.le_trans hN (h3.out.2 a ha)⟩
end D2
theorem sgn_turn (y : Int) : sgn (!decide (y < 0)) y.natAbs = -y := sgn_neg y
/-- Two blocks, one behind the other, may have turned. -/
abbrev QRPost (w : World) (b g : Nat) (q r : Int) : Ending → World → Prop := fun e w' => e = .returned (.tuple #[.pointer (some ⟨b, 0, none⟩), .pointer (some ⟨g, 0, none⟩)]) ∧ ∃ (A : Option Addr) (n c : Nat) (B : Option Addr) (m d : Nat) (w1 : World),
  Hid (IntIs w' b 0 q A n c ∧ Fr w A ∧ IntIs w' g 0 r B m d ∧ Fr w B) ∧ Tch g w w1 ∧ Tch b w1 w'
theorem bi_QuoRem (b g bx b2 : Nat) (x y : Int) (hy0 : y ≠ 0) (hbg : b ≠ g) (A : Option Addr) (n c : Nat) (B : Option Addr) (m d : Nat) (hn : n ≤ 400000) (w : World) (hr : Room w b 0) (hr2 : Room w g 0) (hx : IntIs w bx 0 x A n c) (hy : IntIs w b2 0 y B m d) :
    Calls Tryz.prog 158 #[.pointer (some ⟨b, 0, none⟩), .pointer (some ⟨bx, 0, none⟩), .pointer (some ⟨b2, 0, none⟩), .pointer (some ⟨g, 0, none⟩)] w
      (QRPost w b g (sgn (!(decide (x < 0) == decide (y < 0))) (x.natAbs / y.natAbs)) (sgn (decide (x < 0)) (x.natAbs % y.natAbs))) := by
  have HX := Lib.hid hx
  have HY := Lib.hid hy
  have HR := Lib.hid hr
  have HR2 := Lib.hid hr2
  have lx := hx.room.lt
  have x0 := hx.neg
  have x1 := hx.words
  have ly := hy.room.lt
  have y0 := hy.neg
  have y1 := hy.words
  simp only [Nat.zero_add] at x1 y1
  have kD : ∀ w', Ext w w' → Calls Tryz.prog 172 #[.slice A n c, .slice B m d] w' (QPost w' (x.natAbs / y.natAbs) (x.natAbs % y.natAbs)) := fun w' he => bw_div A B n c m d _ _ (by omega) hn w' (HX.out.rd.ext he) (HY.out.rd.ext he)
  clear hx hy hr hr2
  go_enter Tryz.func158, Tryz.ntmps158
  go_wp2
  refine wp_aft (by kernel_rfl) (by kernel_rfl) (fun hq hqf => ?_)
  repeat (go_big_quiet_step (first | fail
    ))
  refine wpQuiet_nil ?_
  rintro _ ⟨nq, rfl⟩
  have xl := ext_lt nq.use
  have xz := ext_size nq.use
  try simp at xz
  have hE := Lib.hid nq.use
  clear hq hqf
  have z0 := (Below.cell (p := ⟨bx, 0, none⟩) hE.out lx).trans x0
  have z1 := (Below.cell (p := ⟨bx, 1, none⟩) hE.out lx).trans x1
  have z2 := (Below.cell (p := ⟨b2, 0, none⟩) hE.out ly).trans y0
  have z3 := (Below.cell (p := ⟨b2, 1, none⟩) hE.out ly).trans y1
  have lx' := ext_lt hE.out _ lx
  have ly' := ext_lt hE.out _ ly
  generalize nq.out = W at *
  clear nq x0 x1 y0 y1
  go_upto_region 3 with (fail)
  refine D2.wp_drawn (D2.tab [(8, D2.RQuo W.heap.size (x.natAbs / y.natAbs) (x.natAbs % y.natAbs))]) (by kernel_rfl) (by kernel_rfl) (D2.tab_stays (by simp [D2.stays_quo])) (fun hq hqf => ?_)
  have u1 := fun nq => (hq nq bx 1 lx').trans z1
  have u3 := fun nq => (hq nq b2 1 ly').trans z3
  iterate 8
    (refine D2.wpK_det rfl (fun K hK => ?_)
     go_simp
     first
       | (refine hK _ ?_; clear hK K)
       | (apply Exists.intro; refine ⟨fun x => ?_, hK _ ?_⟩; (first | exact u1 x | exact u3 x | (simp [u1, u3]; rfl)); clear hK K))
  refine D2.wpK_rel _ rfl rfl ?_ ?_
  · rintro _ ⟨nn, rfl⟩ _
    unfold D2.Oper.relAt
    go_simp
    exact D2.rel_quo (ext_size nn.use) (kD _ (ext_trans hE.out nn.use))
  rintro v ⟨_, ⟨nn, rfl⟩, hr⟩
  obtain ⟨A5, k5, c5, B5, m5, d5, rfl, -⟩ := hr
  clear nn
  iterate 5
    (refine D2.wpK_det rfl (fun K hK => ?_)
     go_simp
     refine hK _ ?_; clear hK K)
  refine D2.wpK_nil ?_
  intro nq hG
  have r5 : D2.RQuo W.heap.size (x.natAbs / y.natAbs) (x.natAbs % y.natAbs) [] (.tuple #[.slice A5 k5 c5, .slice B5 m5 d5]) nq.out := by have := hG.fact 8; simp [D2.Facts.put] at this; exact this
  have hR5 := Lib.hid (D2.quo_at r5)
  have hE2 := Lib.hid (ext_trans hE.out nq.use)
  have fA : Fr w A5 := fun a ha => Nat.le_trans hE.out.size (hR5.out.1.2 a ha)
  have fB : Fr w B5 := fun a ha => Nat.le_trans hE.out.size (hR5.out.2.2 a ha)
  have oAb := fA.off HR.out.lt k5
  have oAg := fA.off HR2.out.lt k5
  have oBb := fB.off HR.out.lt m5
  have oBg := fB.off HR2.out.lt m5
  clear r5 hG u1 u3 hq hqf kD
  generalize nq.out = W2 at *
  clear nq
  clear z0 z1 z2 z3
  have HG := Lib.hid hbg
  have HY0 := Lib.hid hy0
  clear hbg hy0
  go_upto_region 5 with (first
    | (go_at_call 141; (with_reducible refine (bi_set g 0 _ B5 m5 d5 (x.natAbs % y.natAbs) _ (HR2.out.ext hE2.out) hR5.out.2.1 oBg).mono ?_); rintro e w3 ⟨rfl, hI3, xt3⟩)
   )
  have HI3 := Lib.hid (hI3.out)
  have HT3 := Lib.hid xt3
  clear hI3 xt3
  go_wp2_with (first
    | (go_at_call 141; (with_reducible refine (bi_set b 0 _ A5 k5 c5 (x.natAbs / y.natAbs) _ ((HR.out.ext hE2.out).tch HT3.out HG.out) (hR5.out.1.1.tch HT3.out oAg) oAb).mono ?_); rintro e w4 ⟨rfl, hI4, xt4⟩)
   )
  refine bodyPost_ret (v := .tuple #[.pointer (some ⟨b, 0, none⟩), .pointer (some ⟨g, 0, none⟩)]) ?h rfl ⟨rfl, A5, k5, c5, B5, m5, d5, w3, ⟨hI4.out, fA, HI3.out.tch xt4 (Ne.symm HG.out) oBb, fB⟩, (Tch.of hE2.out).trans HT3.out, xt4⟩
  case h => simp [results, Tryz.results158, go_sem]
end Go.Proofs.YtchchnohmmncfaaGreatDoor
end
section
/- Whole numbers of the library's: shifted up; as a machine number; the lowest bit; with a limb put below. -/
namespace Go.Proofs.YtchchnohmmncfaaGreatDoor
open Go.RowKit
attribute [local go_sem] sz2 sz3 sz4 sz5 sz6 sz7 sz8
set_option maxHeartbeats 4000000
set_option maxRecDepth 100000
attribute [local irreducible] Calls
attribute [local go_sem] D2.Oper.detAt D2.detUpon D2.relUpon
theorem sgn_shl (x : Int) (z : Nat) : sgn (decide (x < 0)) (x.natAbs * 2 ^ z) = x * 2 ^ z := by
  unfold sgn
  have hp : (0 : Int) < 2 ^ z := Int.pow_pos (by decide)
  by_cases h : x < 0
  · rw [decide_eq_true h, if_pos rfl]
    have : (x.natAbs : Int) = -x := by omega
    push_cast
    rw [this, Int.neg_mul, Int.neg_neg]
  · rw [decide_eq_false h, if_neg (by simp)]
    have : (x.natAbs : Int) = x := by omega
    push_cast
    rw [this]
theorem bi_Lsh (b o g p : Nat) (x : Int) (z : Nat) (A : Option Addr) (n c : Nat) (hn : n ≤ 500000) (hz : z ≤ 16000000) (w : World) (hr : Room w b o) (hx : IntIs w g p x A n c) :
    Calls Tryz.prog 126 #[.pointer (some ⟨b, o, none⟩), .pointer (some ⟨g, p, none⟩), .int .u64 (z : Int)] w (IPost w b o (x * 2 ^ z)) := by
  have HX := Lib.hid hx
  have HR := Lib.hid hr
  have lx := hx.room.lt
  have x0 := hx.neg
  have x1 := hx.words
  have hbl := hr.lt
  have hz2 : (z : Int) ≤ 16000000 := by omega
  have kM : ∀ w', Ext w w' → Calls Tryz.prog 142 #[.slice A n c, .int .i64 (IntKind.i64.wrap (z : Int))] w' (WPost w' (x.natAbs * 2 ^ z)) := fun w' he => by
    have e : IntKind.i64.wrap (z : Int) = (z : Int) := by rw [IntKind.wrap_i64]; omega
    rw [e]
    exact bw_up A n c _ z hn hz w' (HX.out.rd.ext he)
  clear hx hr
  go_enter Tryz.func126, Tryz.ntmps126
  go_wp2
  refine D2.wp_drawn_tail 12 (D2.tab [(11, RWord w.heap.size (x.natAbs * 2 ^ z))]) (by kernel_rfl) (by kernel_rfl) (by kernel_rfl) (D2.tab_stays (by simp [D2.stays_word])) (fun hq hqf => ?_)
  simp only [List.take_succ_cons, List.take_zero, List.drop_succ_cons, List.drop_zero]
  have z0 := fun nq => (hq nq g p lx).trans x0
  have z1 := fun nq => (hq nq g (p + 1) lx).trans x1
  iterate 11
    (refine D2.wpK_det rfl (fun K hK => ?_)
     go_simp
     first
       | (refine hK _ ?_; clear hK K)
       | (apply Exists.intro; refine ⟨fun x => ?_, hK _ ?_⟩; (first | exact z0 x | exact z1 x | (simp [z0, z1]; rfl)); clear hK K))
  refine D2.wpK_rel _ rfl rfl ?_ ?_
  · rintro _ ⟨nn, rfl⟩ _
    unfold D2.Oper.relAt
    go_simp
    exact D2.rel_wpost (ext_size nn.use) (kM _ nn.use)
  rintro v ⟨_, ⟨nn, rfl⟩, hr⟩
  obtain ⟨A9, k9, c9, rfl, -, -⟩ := hr
  clear nn
  refine D2.wpK_nil ?_
  intro nq2 hG
  have r9 : RWord w.heap.size (x.natAbs * 2 ^ z) [] (.slice A9 k9 c9) nq2.out := by have := hG.fact 11; simp [D2.Facts.put] at this; exact this
  have hR9 := Lib.hid (rword_at r9)
  have hF9 : Fr w A9 := hR9.out.2
  have hO9 := hF9.off HR.out.lt k9
  clear r9 hG
  go_wp2_with (first
    | (go_at_call 141; (with_reducible refine (bi_set b o _ A9 k9 c9 (x.natAbs * 2 ^ z) _ (HR.out.ext nq2.use) hR9.out.1 hO9).mono ?_); rintro e w3 ⟨rfl, hI3, xt3⟩)
   )
  refine bodyPost_ret (v := .pointer (some ⟨b, o, none⟩)) ?h rfl ⟨rfl, A9, k9, c9, ⟨by have := hI3.out; rwa [sgn_shl] at this, hF9⟩, (Tch.of nq2.use).trans xt3⟩
  case h => simp [results, Tryz.results126, go_sem]
theorem lim_two {v : Nat} (h : v < 18446744073709551616) : (lim v).length ≤ 2 := by
  rcases Nat.lt_or_ge (lim v).length 3 with h1 | h1
  · omega
  · exfalso
    have h0 : v ≠ 0 := by
      intro e
      subst e
      rw [lim_zero] at h1
      simp at h1
    have h2 := (lim_len h0).1
    have h3 : Bs ^ 2 ≤ Bs ^ ((lim v).length - 1) := Nat.pow_le_pow_right (by decide) (by omega)
    have h4 : Bs ^ 2 = 18446744073709551616 := by decide
    omega
theorem bi_Uint64 (b o v : Nat) (A : Option Addr) (n c : Nat) (hv : v < 18446744073709551616) (w : World) (hx : IntIs w b o (v : Int) A n c) :
    Calls Tryz.prog 147 #[.pointer (some ⟨b, o, none⟩)] w fun e w' => e = .returned (.int .u64 (v : Int)) ∧ Ext w w' := by
  have x1 := hx.words
  have hR := hx.rd
  rw [Int.natAbs_natCast] at hR
  have kU := Lib.hid (bw_toUint A n c v (lim_two hv) w hR)
  clear hx hR
  go_enter Tryz.func147, Tryz.ntmps147
  go_wp2_with (first
    | (go_at_call 162; (with_reducible refine (kU.out).mono ?_); rintro e w2 ⟨rfl, rfl⟩)
   )
  refine bodyPost_ret (v := .int .u64 ↑v) ?h rfl ⟨rfl, ext_refl _⟩
  case h => simp [results, Tryz.results147, go_sem]
theorem and_one32b (x : Nat) (hx : x < 4294967296) : bits BinOp.and IntKind.u32 (x : Int) 1 = ((x % 2 : Nat) : Int) := by
  have h := bits_and32 x 1 hx (by decide)
  rw [Nat.and_one_is_mod] at h
  exact h
theorem bi_Bit0 (b o v : Nat) (A : Option Addr) (n c : Nat) (w : World) (hx : IntIs w b o (v : Int) A n c) :
    Calls Tryz.prog 159 #[.pointer (some ⟨b, o, none⟩), .int .i64 0] w fun e w' => e = .returned (.int .u64 ((v % 2 : Nat) : Int)) ∧ Ext w w' := by
  have x1 := hx.words
  have hn := int_nil hx
  have hR := hx.rd
  rw [Int.natAbs_natCast] at hR
  by_cases hz : v = 0
  · obtain rfl : n = 0 := hn.2 (by omega)
    subst hz
    clear hn hR hx
    go_enter Tryz.func159, Tryz.ntmps159
    go_wp2
    refine bodyPost_ret (v := .int .u64 0) ?h rfl ⟨rfl, ext_refl _⟩
    case h => simp [results, Tryz.results159, go_sem]
  · have hn0 : n ≠ 0 := fun e => by have := hn.1 e; omega
    have hn1 : (0 : Int) < (n : Int) := by omega
    have hn2 : ¬ (n : Int) ≤ 0 := by omega
    have hn3 : decide ((n : Int) ≤ 0) = false := decide_eq_false hn2
    have hn4 : decide (n = 0) = false := decide_eq_false hn0
    rcases hR.shape with ⟨_, h, _⟩ | ⟨bx, ox, rfl⟩
    · omega
    · obtain ⟨hb, hc⟩ := hR.cells bx ox rfl 0 (by have := hR.len; omega)
      have e1 : (lim v)[0]'(by have := hR.len; omega) = v % Bs := by
        have := limb_at v 0
        rw [Nat.pow_zero, Nat.div_one, List.getD_eq_getElem?_getD, List.getElem?_eq_getElem (by have := hR.len; omega)] at this
        exact this
      rw [e1, Nat.add_zero] at hc
      obtain ⟨y, hy⟩ : ∃ y, v % Bs = y := ⟨_, rfl⟩
      rw [hy] at hc
      have hyb : y < 4294967296 := by rw [← hy]; exact Nat.mod_lt _ (by decide)
      have hm : y % 2 = v % 2 := by rw [← hy]; show v % 4294967296 % 2 = v % 2; omega
      have hyi : (y : Int) < 4294967296 := by omega
      obtain ⟨r, hr⟩ : ∃ r, y % 2 = r := ⟨_, rfl⟩
      have hA := and_one32b y hyb
      rw [← hm, hr]
      rw [hr] at hA
      have hw2 : IntKind.u64.wrap (r : Int) = (r : Int) := by rw [IntKind.wrap_u64]; omega
      have HA := Lib.hid hA
      clear hn hR hx hy hm e1 hz hn0 hA hr
      go_enter Tryz.func159, Tryz.ntmps159
      go_wp2
      rw [HA.out, hw2]
      refine bodyPost_ret (v := .int .u64 ↑r) ?h rfl ⟨rfl, ext_refl _⟩
      case h => simp [results, Tryz.results159, go_sem]
end Go.Proofs.YtchchnohmmncfaaGreatDoor
end
section
/- Rounding a fraction to a float: bounds of the whole number; reading what was written; products and quotients of floats. -/
namespace Go.Proofs.YtchchnohmmncfaaGreatDoor
open Go.RowKit
set_option maxRecDepth 100000
theorem man_ge {a d F : Nat} {low : Int} (hd : 0 < d) (h : leP a d low) : 2 ^ F ≤ tA a (F - low) / tD d (F - low) := by
  unfold tA tD
  rw [Nat.le_div_iff_mul_le (Nat.mul_pos hd (Nat.two_pow_pos _)), Nat.mul_comm]
  rw [leP_at ((F - low).toNat) (by omega)] at h
  rw [Nat.mul_assoc, ← Nat.pow_add]
  have e1 : (-((F : Int) - low)).toNat + F = (low + (((F : Int) - low).toNat : Nat)).toNat := by omega
  rw [e1]; exact h
theorem man_lt {a d F : Nat} {low : Int} (hd : 0 < d) (h : ¬ leP a d (low + 1)) : tA a (F - low) / tD d (F - low) < 2 ^ (F + 1) := by
  unfold tA tD
  rw [Nat.div_lt_iff_lt_mul (Nat.mul_pos hd (Nat.two_pow_pos _)), Nat.mul_comm (2 ^ (F + 1))]
  rw [leP_at ((F - low).toNat) (by omega)] at h
  rw [Nat.mul_assoc, ← Nat.pow_add]
  have e1 : (-((F : Int) - low)).toNat + (F + 1) = (low + 1 + (((F : Int) - low).toNat : Nat)).toNat := by omega
  rw [e1]; omega
theorem bias_two (E : Nat) (hE : 2 ≤ E) : 2 * biasF E + 2 = ((2 ^ E : Nat) : Int) ∧ 1 ≤ biasF E := by
  obtain ⟨k, rfl⟩ : ∃ k, E = k + 2 := ⟨E - 2, by omega⟩
  have h1 : biasF (k + 2) = (2 : Int) ^ (k + 1) - 1 := rfl
  have h2 : (2 ^ (k + 2) : Nat) = 2 * 2 ^ (k + 1) := by rw [Nat.pow_succ 2 (k + 1)]; omega
  have h3 : ((2 : Int) ^ (k + 1)) = ((2 ^ (k + 1) : Nat) : Int) := by simp
  have h4 : 0 < 2 ^ k := Nat.two_pow_pos k
  have h5 : 2 ^ (k + 1) = 2 * 2 ^ k := by rw [Nat.pow_succ]; omega
  rw [h1, h2, h3]
  omega
theorem low_spec {E a d : Nat} (ha : 0 < a) (hd : 0 < d) : ¬ leP a d (lowQ E a d + 1) ∧ (lowQ E a d = lgQ a d ∨ (lowQ E a d = 1 - biasF E ∧ lgQ a d < lowQ E a d)) := by
  obtain ⟨k1, k2⟩ := lgQ_spec ha hd
  have : lowQ E a d = max (lgQ a d) (1 - biasF E) := rfl
  refine ⟨fun q => k2 (leP_mono q (by omega)), by omega⟩
theorem over_rung {E F mode : Nat} {neg : Bool} {a d : Nat} (hE : 2 ≤ E) (ha : 0 < a) (hd : 0 < d) (h : overQ E F mode neg a d = true) : infQ E F ≤ rungQ E F mode neg a d := by
  unfold overQ at h
  simp only [Bool.or_eq_true, decide_eq_true_eq] at h
  rcases h with h | h
  · obtain ⟨b1, b2⟩ := bias_two E hE
    obtain ⟨-, k3⟩ := low_spec (E := E) ha hd
    have hlg : lowQ E a d = lgQ a d := by omega
    have hm : 2 ^ F ≤ manQ E F mode neg a d := by
      unfold manQ
      exact Nat.le_trans (man_ge hd (by rw [hlg]; exact (lgQ_spec ha hd).1)) (rdQ_le _ _ _ _).1
    have ht : 2 ^ E - 2 ≤ (lowQ E a d + biasF E - 1).toNat := by omega
    have hmul := Nat.mul_le_mul_right (2 ^ F) ht
    unfold rungQ infQ
    have h2 : 2 ^ (E + F) = 2 ^ E * 2 ^ F := Nat.pow_add ..
    have h3 : (2 ^ E - 2) * 2 ^ F = 2 ^ E * 2 ^ F - 2 * 2 ^ F := Nat.sub_mul ..
    omega
  · exact h
theorem bits_even {E F : Nat} {neg : Bool} {a d : Nat} (hE : 2 ≤ E) (ha : 0 < a) (hd : 0 < d) : bitsQ E F 0 neg a d = evenQ E F a d := by
  have hr : rungQ E F 0 neg a d = rungQ E F 0 false a d := rfl
  unfold bitsQ evenQ
  by_cases h : overQ E F 0 neg a d = true
  · have := over_rung hE ha hd h
    rw [if_pos h, if_neg (by omega), ← hr, Nat.min_eq_right this]
  · rw [if_neg h, ← hr]
    unfold overQ at h
    simp only [Bool.or_eq_true, decide_eq_true_eq, not_or] at h
    rw [Nat.min_eq_left (by omega)]
theorem inf_lt (E F : Nat) : infQ E F < 2 ^ (E + F) := by
  unfold infQ
  have := Nat.two_pow_pos F
  have := Nat.two_pow_pos (E + F)
  omega
theorem word_div {E F : Nat} (neg : Bool) {r : Nat} (h : r < 2 ^ (E + F)) : ((fmt E F).word neg r / 2 ^ (E + F) % 2 == 1) = neg ∧ (fmt E F).word neg r % 2 ^ (E + F) = r := by
  have hp := Nat.two_pow_pos (E + F)
  unfold Ieee.Format.word Ieee.Format.signWeight
  cases neg with
  | false =>
    simp only [Bool.false_eq_true, if_false]
    rw [Nat.div_eq_of_lt h, Nat.mod_eq_of_lt h]
    exact ⟨rfl, rfl⟩
  | true =>
    simp only [if_true]
    rw [Nat.add_div_left _ hp, Nat.div_eq_of_lt h, Nat.add_mod_left, Nat.mod_eq_of_lt h]
    exact ⟨rfl, rfl⟩
/-- A float's number is read as it was written. -/
theorem read_exact {E F : Nat} (hE : 2 ≤ E) (neg : Bool) {m : Nat} (hm : 0 < m) (p : Int) (hlg : m.log2 ≤ F) (h1 : 1 - biasF E ≤ p + m.log2) (h2 : p + m.log2 ≤ biasF E) :
    (fmt E F).read ((fmt E F).nearest neg m p) = .number neg (m * 2 ^ (F - m.log2)) (p - (F - m.log2 : Nat)) := by
  obtain ⟨b1, b2⟩ := bias_two E hE
  have hlow : lowQ E (tA m p) (tD 1 p) = p + m.log2 := by unfold lowQ; rw [lgQ_bin hm]; omega
  have hman : manQ E F 0 false (tA m p) (tD 1 p) = m * 2 ^ (F - m.log2) := by
    unfold manQ
    have e0 := rdQ_bin 0 false m p (p + m.log2 - F)
    rw [Int.neg_sub] at e0
    rw [hlow, ← e0]
    have e1 : (p - (p + (m.log2 : Nat) - (F : Nat))).toNat = F - m.log2 := by omega
    have e2 : (p + (m.log2 : Nat) - (F : Nat) - p).toNat = 0 := by omega
    rw [e1, e2]
    unfold rdQ
    rw [Nat.pow_zero, Nat.mod_one, if_pos rfl, Nat.div_one]
  obtain ⟨M, hM⟩ : ∃ M, m * 2 ^ (F - m.log2) = M := ⟨_, rfl⟩
  have hM1 : 2 ^ F ≤ M := by
    rw [← hM]
    calc 2 ^ F = 2 ^ m.log2 * 2 ^ (F - m.log2) := by rw [← Nat.pow_add]; congr 1; omega
      _ ≤ m * 2 ^ (F - m.log2) := Nat.mul_le_mul_right _ (Nat.log2_self_le (by omega))
  have hM2 : M < 2 * 2 ^ F := by
    rw [← hM]
    calc m * 2 ^ (F - m.log2) < 2 ^ (m.log2 + 1) * 2 ^ (F - m.log2) := Nat.mul_lt_mul_of_pos_right Nat.lt_log2_self (Nat.two_pow_pos _)
      _ = 2 ^ (F + 1) := by rw [← Nat.pow_add]; congr 1; omega
      _ = 2 * 2 ^ F := by rw [Nat.pow_succ]; omega
  obtain ⟨t, ht⟩ : ∃ t : Nat, p + (m.log2 : Nat) + biasF E - 1 = t := ⟨(p + (m.log2 : Nat) + biasF E - 1).toNat, by omega⟩
  have htE : t + 2 ≤ 2 ^ E - 1 := by omega
  have hinf : infQ E F = (2 ^ E - 1) * 2 ^ F := by unfold infQ; rw [Nat.pow_add, Nat.sub_mul, Nat.one_mul]
  have hr : rungQ E F 0 false (tA m p) (tD 1 p) = M + t * 2 ^ F := by
    unfold rungQ
    rw [hman, hM, hlow, ht]; rfl
  have hlt : M + t * 2 ^ F < infQ E F := by
    have := Nat.mul_le_mul_right (2 ^ F) htE
    rw [Nat.add_mul] at this
    omega
  have hev : evenQ E F (tA m p) (tD 1 p) = M + t * 2 ^ F := by unfold evenQ; rw [hr, Nat.min_eq_left (by omega)]
  have hbias : (fmt E F).leastPlace = 1 - biasF E - F := by
    unfold Ieee.Format.leastPlace biasF
    simp only
    omega
  have hinf2 : (fmt E F).infRung = infQ E F := by
    unfold Ieee.Format.infRung Ieee.Format.binade
    simp only
    rw [hinf]
  have hbin : (fmt E F).binade = 2 ^ F := rfl
  have hsw : (fmt E F).signWeight = 2 ^ (E + F) := rfl
  obtain ⟨w1, w2⟩ := word_div (E := E) (F := F) neg (r := M + t * 2 ^ F) (Nat.lt_trans hlt (inf_lt E F))
  have hp := Nat.two_pow_pos F
  rw [near_even E F hE neg m hm p, hev, hM]
  unfold Ieee.Format.read
  simp only
  rw [hsw, w1, w2, hbin, hinf2, hbias, if_neg (by omega), if_pos hlt]
  have q1 : (M + t * 2 ^ F) / 2 ^ F = t + 1 := by
    rw [Nat.add_mul_div_right _ _ hp, Nat.div_eq_of_lt_le (by omega : 1 * 2 ^ F ≤ M) (by omega)]; omega
  have q2 : (M + t * 2 ^ F) % 2 ^ F = M - 2 ^ F := by
    rw [Nat.add_mul_mod_self_right, Nat.mod_eq_sub_mod hM1, Nat.mod_eq_of_lt (by omega)]
  rw [q1, q2]
  congr 1
  · omega
  · omega
theorem near_eq {E F : Nat} (hE : 2 ≤ E) (neg : Bool) {m1 m2 : Nat} (h1 : 0 < m1) (h2 : 0 < m2) {p1 p2 : Int} (h : tA m1 p1 * tD 1 p2 = tA m2 p2 * tD 1 p1) : (fmt E F).nearest neg m1 p1 = (fmt E F).nearest neg m2 p2 := by
  have a1 : 0 < tA m1 p1 := Nat.mul_pos h1 (Nat.two_pow_pos _)
  have a2 : 0 < tA m2 p2 := Nat.mul_pos h2 (Nat.two_pow_pos _)
  have d1 : 0 < tD 1 p1 := Nat.mul_pos (by decide) (Nat.two_pow_pos _)
  have d2 : 0 < tD 1 p2 := Nat.mul_pos (by decide) (Nat.two_pow_pos _)
  rw [near_even E F hE neg m1 h1, near_even E F hE neg m2 h2, ← bits_even (neg := false) hE a1 d1, ← bits_even (neg := false) hE a2 d2, bitsQ_eq a1 d1 a2 d2 h]
end Go.Proofs.YtchchnohmmncfaaGreatDoor
end
section
/- Whole numbers of the library's: a limb put below a number that was shifted up. -/
namespace Go.Proofs.YtchchnohmmncfaaGreatDoor
open Go.RowKit
attribute [local go_sem] sz2 sz3 sz4 sz5 sz6 sz7 sz8
set_option maxHeartbeats 4000000
set_option maxRecDepth 100000
attribute [local irreducible] Calls
theorem lim_shl (v : Nat) (h : v ≠ 0) : lim (v * 4294967296) = 0 :: lim v := by
  rw [lim_pos (by omega)]
  have e1 : v * 4294967296 % Bs = 0 := Nat.mul_mod_left v 4294967296
  have e2 : v * 4294967296 / Bs = v := Nat.mul_div_cancel v (by decide)
  rw [e1, e2]
theorem lim_sing {c : Nat} (h : c ≠ 0) (hc : c < 4294967296) : lim c = [c] := by
  rw [lim_pos h]
  have e1 : c % Bs = c := Nat.mod_eq_of_lt hc
  have e2 : c / Bs = 0 := Nat.div_eq_of_lt hc
  rw [e1, e2, lim_zero]
theorem bi_Or (b o g p h q v c : Nat) (hc : c < 4294967296) (A : Option Addr) (n cx : Nat) (B : Option Addr) (m cy : Nat) (hn : n ≤ 500000) (w : World) (hr : Room w b o) (hx : IntIs w g p ((v * 4294967296 : Nat) : Int) A n cx) (hy : IntIs w h q (c : Int) B m cy) :
    Calls Tryz.prog 127 #[.pointer (some ⟨b, o, none⟩), .pointer (some ⟨g, p, none⟩), .pointer (some ⟨h, q, none⟩)] w (IPost w b o ((v * 4294967296 + c : Nat) : Int)) := by
  have HX := Lib.hid hx
  have HY := Lib.hid hy
  have HR := Lib.hid hr
  have lx := hx.room.lt
  have x1 := hx.words
  have ly := hy.room.lt
  have y1 := hy.words
  have hxl : (lim (v * 4294967296)).length = n := by have := hx.rd.len; rwa [Int.natAbs_natCast] at this
  have hyl : (lim c).length = m := by have := hy.rd.len; rwa [Int.natAbs_natCast] at this
  have hm1 : m ≤ 1 := by
    by_cases h0 : c = 0
    · subst h0; rw [lim_zero] at hyl; simp at hyl; omega
    · rw [lim_sing h0 hc] at hyl; simp at hyl; omega
  -- the row behind the copy, and behind the loop
  obtain ⟨L, hL⟩ : ∃ L, max n m = L := ⟨_, rfl⟩
  have hLi : max (n : Int) (m : Int) = (L : Int) := by omega
  obtain ⟨zs, hzs⟩ : ∃ zs, lim (v * 4294967296) ++ (List.replicate L 0).drop n = zs := ⟨_, rfl⟩
  have hzl : zs.length = L := by rw [← hzs, List.length_append, hxl, List.length_drop, List.length_replicate]; omega
  have hrow : Lb zs ∧ val zs = v * 4294967296 ∧ (0 < m → zs.getD 0 0 = 0 ∧ Lb (zs.set 0 c) ∧ val (zs.set 0 c) = v * 4294967296 + c) := by
    by_cases h0 : v = 0
    · subst h0
      have hn0 : n = 0 := by rw [← hxl, Nat.zero_mul, lim_zero]; rfl
      subst hn0
      have hLm : L = m := by omega
      subst hLm
      have hz : zs = List.replicate L 0 := by rw [← hzs, Nat.zero_mul, lim_zero]; simp
      subst hz
      rcases (by omega : L = 0 ∨ L = 1) with e | e
      · subst e
        refine ⟨fun x hx => (by simp at hx), rfl, fun q => absurd q (by omega)⟩
      · subst e
        refine ⟨fun x hx => ?_, rfl, fun _ => ⟨rfl, fun x hx => ?_, ?_⟩⟩
        · simp at hx; subst hx; decide
        · simp at hx; subst hx; exact hc
        · simp [val]
    · have hl := lim_shl v h0
      have hnl : 1 ≤ n := by rw [← hxl, hl]; simp
      have hz : zs = 0 :: lim v := by
        rw [← hzs, hl, List.drop_of_length_le (by rw [List.length_replicate]; omega), List.append_nil]
      have hv := val_lim v
      subst hz
      refine ⟨fun x hx => ?_, ?_, fun _ => ⟨rfl, fun x hx => ?_, ?_⟩⟩
      · rcases List.mem_cons.1 hx with rfl | hx
        · decide
        · exact lb_lim v x hx
      · show 0 + Bs * val (lim v) = _
        rw [hv]
        show 0 + 4294967296 * v = _
        omega
      · rw [List.set_cons_zero] at hx
        rcases List.mem_cons.1 hx with rfl | hx
        · exact hc
        · exact lb_lim v x hx
      · rw [List.set_cons_zero]
        show c + Bs * val (lim v) = _
        rw [hv]
        show c + 4294967296 * v = _
        omega
  have hyc : 0 < m → (lim c) = [c] := fun hm => by
    by_cases h0 : c = 0
    · subst h0; rw [lim_zero] at hyl; simp at hyl; omega
    · exact lim_sing h0 hc
  have HRX : Hid (Rd w A n cx (lim (v * 4294967296))) := Lib.hid (by have := hx.rd; rwa [Int.natAbs_natCast] at this)
  have HRY : Hid (Rd w B m cy (lim c)) := Lib.hid (by have := hy.rd; rwa [Int.natAbs_natCast] at this)
  have HROW := Lib.hid hrow
  have HYC := Lib.hid hyc
  have HZS := Lib.hid hzs
  have HXL := Lib.hid hxl
  have HYL := Lib.hid hyl
  have hbl := HR.out.lt
  have hnL : n ≤ L := by omega
  have hmL : m ≤ L := by omega
  have hL5 : L ≤ 500001 := by omega
  have hLn : (L : Int) ≤ 500001 := by omega
  have hor : bits BinOp.or IntKind.u32 0 (c : Int) = (c : Int) := by
    have := bits_or32 0 c (by decide) hc
    rw [Nat.zero_or] at this
    exact this
  have hcv : (c : Int) < 4294967296 := by omega
  clear hx hy hr hrow hyc hzs hxl hyl hL
  go_enter Tryz.func127, Tryz.ntmps127
  go_upto_region 1 with fail
  refine wp_aft_tail 11 (by kernel_rfl) (by kernel_rfl) (by kernel_rfl) (fun hq hqf => ?_)
  simp only [List.take_succ_cons, List.take_zero, List.drop_succ_cons, List.drop_zero]
  repeat (go_big_quiet_step (first | fail
    ))
  refine wpQuiet_nil ?_
  rintro _ ⟨nq, rfl⟩
  have xl := ext_lt nq.use
  have xz := ext_size nq.use
  try simp at xz
  have hE0 := Lib.hid nq.use
  have x2 := (Below.cell (p := ⟨g, p + 1, none⟩) nq.use lx).trans x1
  have y2 := (Below.cell (p := ⟨h, q + 1, none⟩) nq.use ly).trans y1
  have lx2 := ext_lt nq.use _ lx
  have ly2 := ext_lt nq.use _ ly
  clear hq hqf x1 y1
  generalize nq.out = W at *
  clear nq
  have y2' := y2
  have ly2' := ly2
  go_upto_region 2 with (first
    | (at_make; refine make_u32 rfl _ _ rfl _ _ _ _ L rfl rfl rfl rfl (by omega) ?_; intro w1 hx1 ho1; have hext1 := Lib.hid hx1; have x2 := (Below.cell (p := ⟨g, p + 1, none⟩) hx1 lx2).trans x2; have y2 := (Below.cell (p := ⟨h, q + 1, none⟩) hx1 ly2).trans y2; have lx2 := ext_lt hx1 _ lx2; have ly2 := ext_lt hx1 _ ly2; clear hx1))
  have HOR := Lib.hid hor
  have HC := Lib.hid hc
  clear hLi hor hcv hc
  go_upto_region 3 with (first
    | (with_reducible refine copy_u32 rfl (.tmp 22) (.tmp 26) rfl ho1.out (HRX.out.ext (ext_trans hE0.out hext1.out)) rfl rfl hnL hext1.out (Nat.le_refl _) ?_; intro w2 hx2 ho2; have hext2 := Lib.hid hx2; clear hx2))
  rw [HZS.out] at ho2
  have y2 := (Below.cell (p := ⟨h, q + 1, none⟩) hext2.out ly2').trans y2'
  have ly2 := ext_lt hext2.out _ ly2'
  obtain ⟨H, hH⟩ : ∃ H, W.heap.size = H := ⟨_, rfl⟩
  have hWw := ext_size hE0.out
  rw [hH] at ho2
  rw [hH]
  have hWH : w.heap.size ≤ H := by omega
  have hWH2 : W.heap.size ≤ H := by omega
  clear x2 lx2 ho1 hext1 hH
  go_wp2_with fail
  go_loopw [33] (fun vi wr => ∃ i : Nat, i ≤ m ∧ vi = .int .i64 (i : Int) ∧ Hid (wr.ownsRow H 38 1 (.slice (some ⟨H, 0, none⟩) L L) L ((if i = 0 then zs else zs.set 0 c).map u32V)) ∧ Hid (Ext W wr)) (fun vi _ => m - (intOf vi).toNat)
  case atStart => exact ⟨0, Nat.zero_le _, rfl, ho2.out, hext2.out⟩
  case round =>
    obtain ⟨i, hi, rfl, ho, hE⟩ := hrel
    by_cases hlt : i < m
    · obtain rfl : i = 0 := by omega
      obtain rfl : m = 1 := by omega
      obtain ⟨z0, z1, z2⟩ := HROW.out.2.2 (by omega)
      have hL0 : 0 < L := by omega
      rw [if_pos rfl] at ho
      have hRY := HRY.out.ext (ext_trans hE0.out hE.out)
      rw [HYC.out (by omega)] at hRY
      rcases hRY.shape with ⟨_, q0, _⟩ | ⟨by_, oy, rfl⟩
      · omega
      · obtain ⟨hb1, hc1⟩ := hRY.cells by_ oy rfl 0 (by simp)
        simp only [List.getElem_cons_zero, Nat.add_zero] at hc1
        obtain ⟨ha1, hf1⟩ := own_at ho.out 0 hL0
        rw [z0] at ha1
        have hor := HOR.out
        have hL0' : (0 : Int) < (L : Int) := by omega
        clear z0 z1 z2 hRY
        go_wp2
        case roundEnd =>
          refine ⟨⟨1, by omega, rfl, ?_, ext_setCell hE.out (by omega) _⟩, by simp [intOf]⟩
          rw [if_neg (by decide)]
          exact Lib.hid (own_set ho.out 0 c)
    · obtain rfl : i = m := by omega
      have hlt' : ¬ (i : Int) < (i : Int) := by omega
      have hV : Lb (if i = 0 then zs else zs.set 0 c) ∧ val (if i = 0 then zs else zs.set 0 c) = v * 4294967296 + c := by
        by_cases g0 : i = 0
        · rw [if_pos g0]
          have hc0 : c = 0 := by
            have := HYL.out
            rw [g0] at this
            exact lim_nil.1 (List.eq_nil_of_length_eq_zero this)
          rw [hc0, Nat.add_zero]
          exact ⟨HROW.out.1, HROW.out.2.1⟩
        · rw [if_neg g0]
          exact ⟨(HROW.out.2.2 (by omega)).2.1, (HROW.out.2.2 (by omega)).2.2⟩
      have kT := Lib.hid (bw_trim_own ho.out hV.1 hV.2)
      have hE0w := Lib.hid (ext_trans hE0.out hE.out)
      have hHb : b < H := by omega
      have hO : ∀ k, Off (some ⟨H, 0, none⟩) k b := fun k x hx _ e => by cases hx; simp only at e; omega
      clear hV hlt HROW HYC HRY HRX HZS ho
      go_wp2_with (first
        | (go_at_call 143; (with_reducible refine (kT.out).mono ?_); rintro e w3 ⟨⟨k3, rfl, hR3⟩, rfl⟩)
        | (go_at_call 141; (with_reducible refine (bi_set b o false _ k3 L (v * 4294967296 + c) _ (HR.out.ext hE0w.out) hR3.out (hO _)).mono ?_); rintro e w4 ⟨rfl, hI4, xt4⟩))
      refine bodyPost_ret (v := .pointer (some ⟨b, o, none⟩)) ?h rfl ⟨rfl, _, _, _, ⟨hI4.out, fun x hx => by cases hx; show w.heap.size ≤ H; omega⟩, (Tch.of hE0w.out).trans xt4⟩
      case h => simp [results, Tryz.results127, go_sem]
end Go.Proofs.YtchchnohmmncfaaGreatDoor
end
section
/- The program's whole numbers: small ones; powers. -/
namespace Go.Proofs.YtchchnohmmncfaaGreatDoor
open Go.RowKit
attribute [local go_sem] sz2 sz3 sz4 sz5 sz6 sz7 sz8
set_option maxHeartbeats 4000000
set_option maxRecDepth 100000
attribute [local irreducible] Calls
/-- A natural number with no room behind it. -/
abbrev NatPost (w : World) (v : Nat) : Ending → World → Prop := fun e w' => ∃ (A : Option Addr) (k : Nat), e = .returned (natV A k k) ∧ Hid (Rd w' A k k (lim v) ∧ Fr w A) ∧ Ext w w'
theorem nof_any (v : Nat) (hv : v < 18446744073709551616) (w : World) : Calls Tryz.prog 56 #[.int .u64 (v : Int)] w (NatPost w v) := by
  have hval : val [v % 4294967296, v / 4294967296] = v := by
    have := Nat.mod_add_div v 4294967296
    simp [val, Bs]; omega
  have hlb : Lb [v % 4294967296, v / 4294967296] := by
    intro x hx
    simp at hx
    unfold Bs
    rcases hx with rfl | rfl <;> omega
  have hR : Rd ((w.alloc (Obj.cells #[.slice none 0 0] 88)).alloc (Obj.cells #[.int .u32 ((v : Int) % 4294967296), .int .u32 ((v : Int) / 4294967296)] 38)) (some ⟨w.heap.size + 1, 0, none⟩) 2 2 [v % 4294967296, v / 4294967296] :=
    Rd.made _ _ _ _ hlb (by simp [u32V]) (by simp) (by simp) rfl
  have hT : Calls Tryz.prog 96 #[.slice (some ⟨w.heap.size + 1, 0, none⟩) 2 2] ((w.alloc (Obj.cells #[.slice none 0 0] 88)).alloc (Obj.cells #[.int .u32 ((v : Int) % 4294967296), .int .u32 ((v : Int) / 4294967296)] 38)) fun e w'' => ∃ (A' : Option Addr) (k : Nat), e = .returned (natV A' k k) ∧ Hid (Rd w'' A' k k (lim v) ∧ ∀ a, A' = some a → w.heap.size < a.block) ∧ Ext ((w.alloc (Obj.cells #[.slice none 0 0] 88)).alloc (Obj.cells #[.int .u32 ((v : Int) % 4294967296), .int .u32 ((v : Int) / 4294967296)] 38)) w'' := by
    refine (trimmed_any _ _ _ _ _ hR).mono ?_
    rintro e w'' ⟨A', k, rfl, h2, h3⟩
    refine ⟨A', k, rfl, ⟨?_, fun a ha => ?_⟩, h3⟩
    · have := h2.out.1 _ (hR.ext h3); rwa [hval] at this
    · have := h2.out.2 a ha; cases this; exact Nat.lt_succ_self _
  clear hR hval hlb
  go_enter Tryz.func56, Tryz.ntmps56
  go_wp2_with (first
    | (go_at_call 96; (with_reducible refine hT.mono ?_); rintro e w3 ⟨A3, k3, rfl, hR3, xb3⟩; have r0 := (Below.cell (p := ⟨w.heap.size, 0, none⟩) xb3 (by simp; omega)).trans (show _ = some (Value.slice none 0 0) by simp [go_sem]); have f0 := (Below.frozen (p := ⟨w.heap.size, 0, none⟩) xb3 (by simp; omega)).trans (show _ = false by simp [go_sem]))
   )
  have hcr := World.cell?_setCell_same _ _ (.slice A3 k3 k3) r0
  refine bodyPost_ret (v := natV A3 k3 k3) ?h rfl ⟨A3, k3, rfl, ⟨hR3.out.1.set _ hR3.out.2, fun a ha => Nat.le_of_lt (hR3.out.2 a ha)⟩, ext_setCell (ext_trans (ext_alloc (ext_alloc (ext_refl _) _) _) xb3) (Nat.le_refl _) _⟩
  case h => simp [results, Tryz.results56, go_sem, hcr]
/-- A number with an error of nought. -/
abbrev NatPost0 (w : World) (v : Nat) : Ending → World → Prop := fun e w' => ∃ (A : Option Addr) (k : Nat), e = .returned (.tuple #[natV A k k, .int .i64 0]) ∧ Hid (Rd w' A k k (lim v) ∧ Fr w A) ∧ Ext w w'
/-- Three cells: two of the loop's and the answer's. -/
structure PC (w : World) (G6 G7 Gr : Nat) (v6 v7 vr : Value) : Prop where
  c6 : w.cell? ⟨G6, 0, none⟩ = some v6
  c7 : w.cell? ⟨G7, 0, none⟩ = some v7
  cr : w.cell? ⟨Gr, 0, none⟩ = some vr
  f6 : w.frozen? ⟨G6, 0, none⟩ = false
  f7 : w.frozen? ⟨G7, 0, none⟩ = false
  fr : w.frozen? ⟨Gr, 0, none⟩ = false
  l7 : G7 < w.heap.size
theorem PC.ext {w w' : World} {G6 G7 Gr : Nat} {v6 v7 vr : Value} (h : PC w G6 G7 Gr v6 v7 vr) (h6 : G6 < G7) (hr : Gr < G7) (he : Ext w w') : PC w' G6 G7 Gr v6 v7 vr :=
  ⟨(Below.cell (p := ⟨G6, 0, none⟩) he (Nat.lt_trans h6 h.l7)).trans h.c6, (Below.cell (p := ⟨G7, 0, none⟩) he h.l7).trans h.c7, (Below.cell (p := ⟨Gr, 0, none⟩) he (Nat.lt_trans hr h.l7)).trans h.cr,
   (Below.frozen (p := ⟨G6, 0, none⟩) he (Nat.lt_trans h6 h.l7)).trans h.f6, (Below.frozen (p := ⟨G7, 0, none⟩) he h.l7).trans h.f7, (Below.frozen (p := ⟨Gr, 0, none⟩) he (Nat.lt_trans hr h.l7)).trans h.fr, ext_lt he _ h.l7⟩
end Go.Proofs.YtchchnohmmncfaaGreatDoor
end
section
/- The program's numbers: bits, shifts down. -/
namespace Go.Proofs.YtchchnohmmncfaaGreatDoor
open Go.RowKit
attribute [local go_sem] sz2 sz3 sz4 sz5 sz6 sz7 sz8
set_option maxHeartbeats 4000000
set_option maxRecDepth 100000
attribute [local irreducible] Calls
theorem lower_step {xs os : List Nat} {j s x V O : Nat} (hs : s < 32) (hj : 0 < j) (hjn : j ≤ xs.length) (hl : os.length = xs.length) (hb : Lb xs) (hV : val (xs.drop j) = V) (hO : val (os.drop j) = O) (hOV : O = V / 2 ^ s) (hx : xs.getD (j - 1) 0 = x) :
    val ((os.set (j - 1) ((V % Bs * 4294967296 + x) / 2 ^ s % 4294967296)).drop (j - 1)) = val (xs.drop (j - 1)) / 2 ^ s ∧ x = val (xs.drop (j - 1)) % Bs := by
  have h1 : j - 1 < xs.length := by omega
  have e1 : xs.drop (j - 1) = x :: xs.drop j := by
    rw [List.drop_eq_getElem_cons h1, show j - 1 + 1 = j by omega]
    rw [List.getD_eq_getElem?_getD, List.getElem?_eq_getElem h1] at hx
    congr 1
  have h2 : j - 1 < (os.set (j - 1) ((V % Bs * 4294967296 + x) / 2 ^ s % 4294967296)).length := by rw [List.length_set]; omega
  have e2 : (os.set (j - 1) ((V % Bs * 4294967296 + x) / 2 ^ s % 4294967296)).drop (j - 1) = (V % Bs * 4294967296 + x) / 2 ^ s % 4294967296 :: os.drop j := by
    rw [List.drop_eq_getElem_cons h2, show j - 1 + 1 = j by omega, List.getElem_set_self, List.drop_set_of_lt (by omega)]
  have hxb : x < Bs := by
    have := lb_getD hb (j - 1); rw [hx] at this; exact this
  rw [e1, e2]
  simp only [val]
  rw [hV, hO]
  have q1 : (x + Bs * V) / Bs = V := by rw [Nat.add_mul_div_left _ _ (by decide), Nat.div_eq_of_lt hxb, Nat.zero_add]
  have q2 : (x + Bs * V) % Bs = x := by rw [Nat.add_mul_mod_self_left, Nat.mod_eq_of_lt hxb]
  have q3 := div_limb (D := x + Bs * V) (T := V % Bs * 4294967296 + x) hs (by rw [q1, q2])
  refine ⟨?_, q2.symm⟩
  rw [q3, hOV]
  have q4 : V / 2 ^ s = (x + Bs * V) / 2 ^ s / Bs := by rw [Nat.div_div_eq_div_mul, Nat.mul_comm (2 ^ s), ← Nat.div_div_eq_div_mul, q1]
  rw [q4]
  exact Nat.mod_add_div _ _
theorem lowered_any (A : Option Addr) (n c : Nat) (xs : List Nat) (s : Nat) (hs : s < 32) (hn : n ≤ 1000000) (w : World) (hA : Rd w A n c xs) :
    Calls Tryz.prog 125 #[.slice A n c, .int .i64 (s : Int)] w fun e w' => ∃ (A' : Option Addr) (os : List Nat), e = .returned (.slice A' n n) ∧ Hid (Rd w' A' n n os ∧ val os = val xs / 2 ^ s ∧ Fr w A') ∧ Ext w w' := by
  have hmx := hA.mx
  have hcx := hA.cap
  have HA := Lib.hid hA
  have hlx := Lib.hid hA.len
  clear hA
  go_enter Tryz.func125, Tryz.ntmps125
  go_wp2_with (first
    | (at_make; refine make_u32 rfl _ _ rfl _ _ _ _ n rfl rfl rfl rfl (by omega) ?_; intro w1 hx1 ho1; have hext1 := Lib.hid hx1; clear hx1)
    | go_in)
  have hfr : w.heap.size < w1.heap.size := (ho1.out.lt w.heap.size rfl).2
  go_loopw [6, 7] (fun vr vi wr => ∃ (j V : Nat) (os : List Nat), j ≤ n ∧ vi = .int .i64 ((j : Int) - 1) ∧ vr = .int .u64 ((V % Bs : Nat) : Int) ∧ Hid (os.length = n ∧ Lb os ∧ val (xs.drop j) = V ∧ val (os.drop j) = V / 2 ^ s) ∧
      Hid (wr.ownsRow w.heap.size 38 1 (.slice (some ⟨w.heap.size, 0, none⟩) n n) n (os.map u32V)) ∧ Hid (Ext w wr))
    (fun _ vi _ => (intOf vi + 1).toNat)
  case atStart => exact ⟨n, 0, List.replicate n 0, Nat.le_refl _, by go_num, rfl, ⟨by simp, lb_replicate n, by rw [List.drop_eq_nil_of_le (by rw [hlx.out]; exact Nat.le_refl _)]; rfl, by rw [List.drop_eq_nil_of_le (by simp)]; simp [val]⟩, ho1.out, hext1.out⟩
  case round =>
    obtain ⟨j, V, os, hj, rfl, rfl, hos, hown, hext⟩ := hrel
    by_cases h0 : 0 < j
    · obtain ⟨b, off, hAe⟩ : ∃ b off, A = some ⟨b, off, none⟩ := by
        rcases HA.out.shape with ⟨_, h, _⟩ | h
        · omega
        · exact h
      subst hAe
      obtain ⟨x, hx, hxb, hcell⟩ := (HA.out.ext hext.out).get (j - 1) (by omega)
      obtain ⟨hc1, hf1⟩ := own_at hown.out (j - 1) (by omega)
      have hst := Lib.hid (lower_step (O := V / 2 ^ s) hs h0 (by rw [hlx.out]; omega) (by rw [hos.out.1, hlx.out]) HA.out.lb hos.out.2.2.1 hos.out.2.2.2 rfl hx.out)
      have hVb : V % Bs < 4294967296 := Nat.mod_lt _ (by decide)
      have O1 := or_shift (V % Bs) x hVb hxb
      generalize V % Bs = ab at hst hVb O1 ⊢
      go_wp2
      case roundEnd =>
        refine ⟨⟨j - 1, val (xs.drop (j - 1)), os.set (j - 1) ((ab * 4294967296 + x) / 2 ^ s % 4294967296), by omega, ?_, ?_, ⟨by rw [List.length_set]; exact hos.out.1, lb_set hos.out.2.1 _ (Nat.mod_lt _ (by decide)), rfl, hst.out.1⟩, ?_, ?_⟩, ?_⟩
        · simp; omega
        · rw [← hst.out.2]
        · have e : ((ab : Int) * 4294967296 + (x : Int)) / 2 ^ s % 4294967296 = (((ab * 4294967296 + x) / 2 ^ s % 4294967296 : Nat) : Int) := by simp
          rw [e]
          exact own_set hown.out _ _
        · exact ext_setCell hext.out (Nat.le_refl _) _
        · simp [intOf]; omega
    · obtain rfl : j = 0 := by omega
      obtain ⟨A', c', he, hR⟩ := Rd.own hown.out hos.out.2.1
      cases he
      have hv := hos.out.2.2
      simp only [List.drop_zero] at hv
      have HX := Lib.hid (show Rd wr (some ⟨w.heap.size, 0, none⟩) n n os ∧ val os = val xs / 2 ^ s ∧ Fr w (some ⟨w.heap.size, 0, none⟩) from ⟨hR, by rw [hv.2, hv.1], fun q hq => by cases hq; exact Nat.le_refl _⟩)
      clear hR hv h0 hj
      go_wp2
      refine bodyPost_ret (v := .slice (some ⟨w.heap.size, 0, none⟩) n n) ?h rfl ⟨_, os, rfl, HX, hext.out⟩
      case h => simp [results, Tryz.results125, go_sem]
theorem and_one32 (r : Nat) (hr : r < 4294967296) : bits BinOp.and IntKind.u32 (r : Int) 1 = ((r % 2 : Nat) : Int) := by
  have h1 : (BitVec.ofInt 32 (r : Int)).toNat = r := by rw [BitVec.ofInt_natCast, BitVec.toNat_ofNat]; exact Nat.mod_eq_of_lt (by omega)
  have h2 : (BitVec.ofInt 32 1).toNat = 1 := by decide
  show IntKind.u32.wrap ((BitVec.ofInt 32 (r : Int) &&& BitVec.ofInt 32 1).toNat : Int) = _
  rw [BitVec.toNat_and, h1, h2, Nat.and_one_is_mod, IntKind.wrap_u32]
  omega
theorem ndown_any (A : Option Addr) (n c v i : Nat) (hi : i ≤ 1000000) (hl : n ≤ 16384) (hv : v / 2 ^ i ≠ 0) (w : World) (hA : Rd w A n c (lim v)) :
    Calls Tryz.prog 95 #[natV A n c, .int .i64 (i : Int)] w (NatPost0 w (v / 2 ^ i)) := by
  have hla := hA.len
  have hmx := hA.mx
  have hcx := hA.cap
  have chA : ∀ w', Ext w w' → Calls Tryz.prog 91 #[natV A n c] w' fun e w'' => e = .returned (.int .i64 0) ∧ Ext w' w'' := fun w' he => by
    have := ncheck_any A n c (lim v) w' (hA.ext he); rwa [chk_lim (by omega)] at this
  obtain ⟨k, hk⟩ : ∃ k, k = i / 32 := ⟨_, rfl⟩
  obtain ⟨s, hs⟩ : ∃ s, s = i % 32 := ⟨_, rfl⟩
  have hs32 : s < 32 := by omega
  have hkz : i = 32 * k + s := by omega
  have e1 : (i : Int) / 32 = (k : Int) := by omega
  have e2 : (i : Int) % 32 = (s : Int) := by omega
  have e3 : v / 2 ^ i = v / Bs ^ k / 2 ^ s := by
    rw [hkz, Nat.pow_add, Nat.pow_mul, Nat.div_div_eq_div_mul]
  have hkn : k < n := by
    rcases Nat.lt_or_ge k n with h | h
    · exact h
    · exfalso; apply hv
      rw [e3, Nat.div_eq_of_lt (Nat.lt_of_lt_of_le (lim_lt v) (Nat.pow_le_pow_right (by decide) (by omega))), Nat.zero_div]
  have kL : ∀ A' m c' w', Ext w w' → m ≤ 1000000 → Rd w' A' m c' ((lim v).drop k) → Calls Tryz.prog 125 #[.slice A' m c', .int .i64 (s : Int)] w' fun e w'' => ∃ (B : Option Addr) (os : List Nat), e = .returned (.slice B m m) ∧ Hid (Rd w'' B m m os ∧ val os = v / 2 ^ i ∧ Fr w' B) ∧ Ext w' w'' := fun A' m c' w' _ hm hR => by
    have := lowered_any A' m c' _ s hs32 hm w' hR
    rw [show val ((lim v).drop k) = v / Bs ^ k by rw [lim_drop, val_lim], ← e3] at this
    exact this
  have HA := Lib.hid hA
  obtain ⟨b, off, hAe⟩ : ∃ b off, A = some ⟨b, off, none⟩ := by
    rcases HA.out.shape with ⟨_, h, _⟩ | h
    · omega
    · exact h
  subst hAe
  clear hA hk hs hkz e3 hv
  generalize v / 2 ^ i = V at *
  have hnk : n - k ≤ 1000000 := by omega
  have hkn' : k ≤ n := Nat.le_of_lt hkn
  go_enter Tryz.func95, Tryz.ntmps95
  go_wp2_with (first
    | (go_at_call 91; (with_reducible refine (chA _ (by (repeat (first | exact ext_refl _ | assumption | refine ext_setCell ?_ (by simp; try omega) _ | refine ext_alloc ?_ _ | refine ext_drew ?_ | refine ext_drewN ?_ _ | refine ext_trans ?_ (Aft.use _) | refine ext_trans ?_ (by assumption))))).mono ?_); rintro e w1 ⟨rfl, xb1⟩; obtain ⟨xc1, xf1, xl1, xz1⟩ := ext_use xb1; (try simp at xz1); obtain ⟨l1_0, gc, gf⟩ := kp xb1 (w.heap.size) (by first | omega | (simp; try omega)); have r1_0 := gc 0; have f1_0 := gf 0; clear gc gf; obtain ⟨l1_1, gc, gf⟩ := kp xb1 (w.heap.size + 1) (by first | omega | (simp; try omega)); have r1_1 := gc 0; have f1_1 := gf 0; clear gc gf)
    | (go_at_call 125; (with_reducible refine (kL _ _ _ _ (by (repeat (first | exact ext_refl _ | assumption | refine ext_setCell ?_ (by simp; try omega) _ | refine ext_alloc ?_ _ | refine ext_drew ?_ | refine ext_drewN ?_ _ | refine ext_trans ?_ (Aft.use _) | refine ext_trans ?_ (by assumption)))) hnk ((HA.out.ext (by (repeat (first | exact ext_refl _ | assumption | refine ext_setCell ?_ (by simp; try omega) _ | refine ext_alloc ?_ _ | refine ext_drew ?_ | refine ext_drewN ?_ _ | refine ext_trans ?_ (Aft.use _) | refine ext_trans ?_ (by assumption))))).drop hkn')).mono ?_); rintro e w2 ⟨B, os, rfl, hR2, xb2⟩; obtain ⟨xc2, xf2, xl2, xz2⟩ := ext_use xb2; (try simp at xz2); obtain ⟨l2_0, gc, gf⟩ := kp xb2 (w.heap.size + 1) (by first | omega | (simp; try omega)); have r2_0 := gc 0; have f2_0 := gf 0; clear gc gf)
    | (go_at_call 96; (with_reducible refine (trimmed_any B _ _ os _ hR2.out.1).mono ?_); rintro e w3 ⟨D, m, rfl, hR3, xb3⟩; obtain ⟨xc3, xf3, xl3, xz3⟩ := ext_use xb3; (try simp at xz3); obtain ⟨l3_0, gc, gf⟩ := kp xb3 (w.heap.size + 1) (by first | omega | (simp; try omega)); have r3_0 := gc 0; have f3_0 := gf 0; clear gc gf)
  )
  have hF : ∀ x, D = some x → w.heap.size + 1 < x.block := fun x hx => by have := hR2.out.2.2 x (hR3.out.2 x hx); have := ext_size xb1; simp at *; omega
  have hRv : Rd w3 D m m (lim V) := by have := hR3.out.1 w3 (hR2.out.1.ext xb3); rwa [hR2.out.2.1] at this
  have hEE : Ext w w3 := by (repeat (first | exact ext_refl _ | assumption | refine ext_setCell ?_ (by simp; try omega) _ | refine ext_alloc ?_ _ | refine ext_drew ?_ | refine ext_drewN ?_ _ | refine ext_trans ?_ (Aft.use _) | refine ext_trans ?_ (by assumption)))
  have z0 : w3.cell? ⟨w.heap.size + 1, 0, none⟩ = some (.slice none 0 0) := by simp [go_sem, *]
  have q0 : (w3.setCell ⟨w.heap.size + 1, 0, none⟩ (.slice D m m)).cell? ⟨w.heap.size + 1, 0, none⟩ = some (.slice D m m) := World.cell?_setCell_same _ _ _ z0
  refine bodyPost_ret (v := .tuple #[natV D m m, .int .i64 0]) ?h rfl ⟨D, m, rfl, ⟨hRv.set _ (fun x hx => hF x hx), fun x hx => Nat.le_of_lt (by have := hF x hx; omega)⟩, ext_setCell hEE (by simp) _⟩
  case h => simp [results, Tryz.results95, go_sem, q0]
end Go.Proofs.YtchchnohmmncfaaGreatDoor
end
section
/- Whole numbers of the library's: quotients rounded down. -/
namespace Go.Proofs.YtchchnohmmncfaaGreatDoor
open Go.RowKit
attribute [local go_sem] sz2 sz3 sz4 sz5 sz6 sz7 sz8
set_option maxHeartbeats 4000000
set_option maxRecDepth 100000
theorem floor_plain {x y : Int} (hy : 0 < y) (h : ¬ (x < 0 ∧ x.natAbs % y.natAbs ≠ 0)) : sgn (decide (x < 0)) (x.natAbs / y.natAbs) = x / y ∧ sgn (decide (x < 0)) (x.natAbs % y.natAbs) = x % y := by
  obtain ⟨d, rfl⟩ : ∃ d : Nat, y = (d : Int) := ⟨y.natAbs, by omega⟩
  have hd : 0 < d := by omega
  rw [Int.natAbs_natCast] at *
  have hdm := Nat.div_add_mod x.natAbs d
  have hml := Nat.mod_lt x.natAbs hd
  obtain ⟨h1, h2⟩ := (Int.ediv_emod_unique (a := x) (b := (d : Int)) (r := sgn (decide (x < 0)) (x.natAbs % d)) (q := sgn (decide (x < 0)) (x.natAbs / d)) (by omega)).2 (by
    generalize x.natAbs % d = r at *
    generalize hq : x.natAbs / d = q at *
    by_cases h0 : x < 0
    · have hr : r = 0 := by
        by_cases hr : r = 0
        · exact hr
        · exact absurd ⟨h0, hr⟩ h
      subst hr
      simp only [sgn, decide_eq_true h0, if_true]
      have e : ((d * q + 0 : Nat) : Int) = (x.natAbs : Int) := by rw [hdm]
      simp only [Nat.add_zero, Int.natCast_mul] at e
      refine ⟨?_, by omega, by omega⟩
      rw [Int.mul_neg]
      omega
    · simp only [sgn, decide_eq_false h0]
      have e : ((d * q + r : Nat) : Int) = (x.natAbs : Int) := by rw [hdm]
      rw [Int.natCast_add, Int.natCast_mul] at e
      refine ⟨?_, by simp, by simp; omega⟩
      simp only [Bool.false_eq_true, if_false]
      omega)
  exact ⟨h1.symm, h2.symm⟩
theorem floor_turn {x y : Int} (hy : 0 < y) (h0 : x < 0) (h : x.natAbs % y.natAbs ≠ 0) : sgn (decide (x < 0)) (x.natAbs / y.natAbs) - 1 = x / y ∧ ((y.natAbs - x.natAbs % y.natAbs : Nat) : Int) = x % y := by
  obtain ⟨d, rfl⟩ : ∃ d : Nat, y = (d : Int) := ⟨y.natAbs, by omega⟩
  have hd : 0 < d := by omega
  rw [Int.natAbs_natCast] at *
  have hdm := Nat.div_add_mod x.natAbs d
  have hml := Nat.mod_lt x.natAbs hd
  obtain ⟨h1, h2⟩ := (Int.ediv_emod_unique (a := x) (b := (d : Int)) (r := ((d - x.natAbs % d : Nat) : Int)) (q := sgn (decide (x < 0)) (x.natAbs / d) - 1) (by omega)).2 (by
    generalize x.natAbs % d = r at *
    generalize hq : x.natAbs / d = q at *
    simp only [sgn, decide_eq_true h0, if_true]
    have e : ((d * q + r : Nat) : Int) = (x.natAbs : Int) := by rw [hdm]
    rw [Int.natCast_add, Int.natCast_mul] at e
    refine ⟨?_, by omega, by omega⟩
    rw [Int.mul_sub, Int.mul_neg]
    omega)
  exact ⟨h1.symm, h2.symm⟩
attribute [local irreducible] Calls
/-- A quotient rounded down, and what is left; the rest of memory is as it was. -/
abbrev DMPost (w : World) (b g : Nat) (q r : Int) : Ending → World → Prop := fun e w' => e = .returned (.tuple #[.pointer (some ⟨b, 0, none⟩), .pointer (some ⟨g, 0, none⟩)]) ∧ ∃ (A : Option Addr) (n c : Nat) (B : Option Addr) (m d : Nat),
  Hid (IntIs w' b 0 q A n c ∧ Fr w A ∧ IntIs w' g 0 r B m d ∧ Fr w B) ∧ Hid (∀ U, Ext U w → U.heap.size ≤ b → U.heap.size ≤ g → Ext U w') ∧ w.heap.size ≤ w'.heap.size
end Go.Proofs.YtchchnohmmncfaaGreatDoor
end
section
/- Words of the library's: powers. -/
namespace Go.Proofs.YtchchnohmmncfaaGreatDoor
open Go.RowKit
attribute [local go_sem] sz2 sz3 sz4 sz5 sz6 sz7 sz8
set_option maxHeartbeats 4000000
set_option maxRecDepth 100000
theorem pow_halves (b n i : Nat) : b ^ (n / 2 ^ i) = b ^ (n / 2 ^ (i + 1)) * b ^ (n / 2 ^ (i + 1)) * b ^ (n / 2 ^ i % 2) := by
  rw [← Nat.pow_add, ← Nat.pow_add]
  congr 1
  have e : n / 2 ^ (i + 1) = n / 2 ^ i / 2 := by rw [Nat.pow_succ, ← Nat.div_div_eq_div_mul]
  omega
attribute [local irreducible] Calls
end Go.Proofs.YtchchnohmmncfaaGreatDoor
end
section
/- Whole numbers of the library's: powers. -/
namespace Go.Proofs.YtchchnohmmncfaaGreatDoor
open Go.RowKit
attribute [local go_sem] sz2 sz3 sz4 sz5 sz6 sz7 sz8
set_option maxHeartbeats 4000000
set_option maxRecDepth 100000
theorem bit_u32 (n i : Nat) (h : n / 2 ^ i < 4294967296) {d : Nat} (hd : n / 2 ^ i % 2 = d) : (bits BinOp.and IntKind.u32 ((n : Int) / 2 ^ i) 1 == 1) = decide (d = 1) := by
  have e : (n : Int) / 2 ^ i = ((n / 2 ^ i : Nat) : Int) := by rw [Int.natCast_ediv, Int.natCast_pow]; rfl
  rw [e, and_one32 _ h, hd]
  rcases (show d = 0 ∨ d = 1 by omega) with rfl | rfl <;> rfl
attribute [local irreducible] Calls
end Go.Proofs.YtchchnohmmncfaaGreatDoor
end
section
/- The order of two fractions, plainly. -/
namespace Go.Proofs.YtchchnohmmncfaaGreatDoor
theorem sign_pos_mul (x : Int) {q : Nat} (hq : q ≠ 0) : (x * (q : Int)).sign = x.sign := by
  rw [Int.sign_mul, Int.sign_eq_one_of_pos (show (0 : Int) < q by omega), Int.mul_one]
theorem sign_three (z : Int) : (z < 0 ∧ z.sign = -1) ∨ (z = 0 ∧ z.sign = 0) ∨ (0 < z ∧ z.sign = 1) := by
  rcases Int.lt_trichotomy z 0 with h | h | h
  · exact .inl ⟨h, Int.sign_eq_neg_one_of_neg h⟩
  · exact .inr (.inl ⟨h, by rw [h]; rfl⟩)
  · exact .inr (.inr ⟨h, Int.sign_eq_one_of_pos h⟩)
/-- Fractions on different sides, or nought. -/
theorem rcmp_far {x y : Int} {p q : Nat} (hp : p ≠ 0) (hq : q ≠ 0) (h : x.sign ≠ y.sign) : (x * (q : Int) - y * (p : Int)).sign = if x.sign < y.sign then -1 else 1 := by
  have a := sign_pos_mul x hq
  have b := sign_pos_mul y hp
  generalize x * (q : Int) = X at a ⊢
  generalize y * (p : Int) = Y at b ⊢
  rw [← a, ← b] at h ⊢
  rcases sign_three X with ⟨h1, h2⟩ | ⟨h1, h2⟩ | ⟨h1, h2⟩ <;> rcases sign_three Y with ⟨k1, k2⟩ | ⟨k1, k2⟩ | ⟨k1, k2⟩ <;> rw [h2, k2] at h ⊢ <;>
    first
      | exact absurd rfl h
      | (rw [if_pos (by decide)]; exact Int.sign_eq_neg_one_of_neg (by omega))
      | (rw [if_neg (by decide)]; exact Int.sign_eq_one_of_pos (by omega))
theorem rcmp_nil {x y : Int} {p q : Nat} (hx : x = 0) (hy : y = 0) : (x * (q : Int) - y * (p : Int)).sign = 0 := by
  rw [hx, hy]; simp
theorem rcmp_near {x y : Int} {p q : Nat} (h : x.sign = y.sign) (h0 : x ≠ 0) :
    (x * (q : Int) - y * (p : Int)).sign = if x < 0 then - cmpN (x.natAbs * q) (y.natAbs * p) else cmpN (x.natAbs * q) (y.natAbs * p) := by
  rw [cmpN_sign]
  rcases sign_three x with ⟨h1, h2⟩ | ⟨h1, h2⟩ | ⟨h1, h2⟩
  · rcases sign_three y with ⟨k1, k2⟩ | ⟨k1, k2⟩ | ⟨k1, k2⟩
    · rw [if_pos h1, ← Int.sign_neg]
      congr 1
      obtain ⟨a, rfl⟩ : ∃ a : Nat, x = -(a : Int) := ⟨x.natAbs, by omega⟩
      obtain ⟨b, rfl⟩ : ∃ b : Nat, y = -(b : Int) := ⟨y.natAbs, by omega⟩
      simp only [Int.natAbs_neg, Int.natAbs_natCast, Int.natCast_mul]
      grind
    · rw [h2, k2] at h; exact absurd h (by decide)
    · rw [h2, k2] at h; exact absurd h (by decide)
  · exact absurd h1 h0
  · rcases sign_three y with ⟨k1, k2⟩ | ⟨k1, k2⟩ | ⟨k1, k2⟩
    · rw [h2, k2] at h; exact absurd h (by decide)
    · rw [h2, k2] at h; exact absurd h (by decide)
    · rw [if_neg (by omega)]
      congr 1
      obtain ⟨a, rfl⟩ : ∃ a : Nat, x = (a : Int) := ⟨x.natAbs, by omega⟩
      obtain ⟨b, rfl⟩ : ∃ b : Nat, y = (b : Int) := ⟨y.natAbs, by omega⟩
      simp only [Int.natAbs_natCast, Int.natCast_mul]
theorem wrap_neg_cmp (a b : Nat) : IntKind.i64.wrap (-(cmpN a b)) = -(cmpN a b) := by
  unfold cmpN
  split
  · decide
  · split <;> decide
end Go.Proofs.YtchchnohmmncfaaGreatDoor
end
section
/- Fractions of the library's: sums. -/
namespace Go.Proofs.YtchchnohmmncfaaGreatDoor
open Go.RowKit
attribute [local go_sem] sz2 sz3 sz4 sz5 sz6 sz7 sz8
set_option maxHeartbeats 4000000
set_option maxRecDepth 100000
attribute [local irreducible] Calls
attribute [local go_sem] D2.Oper.detAt D2.detUpon D2.relUpon
theorem sum_len {a b n : Nat} (ha : (lim a).length ≤ n) (hb : (lim b).length ≤ n) : (lim (a + b)).length ≤ n + 1 := by
  refine lim_le ?_
  have h1 : a < Bs ^ n := Nat.lt_of_lt_of_le (lim_lt a) (Nat.pow_le_pow_right (by decide) ha)
  have h2 : b < Bs ^ n := Nat.lt_of_lt_of_le (lim_lt b) (Nat.pow_le_pow_right (by decide) hb)
  rw [Nat.pow_succ]
  have : (2 : Nat) ≤ Bs := by decide
  generalize Bs ^ n = P at *
  generalize Bs = Q at *
  have := Nat.mul_le_mul_left P this
  omega
theorem sum_len' {X Y : Int} {n : Nat} (ha : (lim X.natAbs).length ≤ n) (hb : (lim Y.natAbs).length ≤ n) : (lim (X + Y).natAbs).length ≤ n + 1 :=
  Nat.le_trans (lim_mono (Int.natAbs_add_le X Y)) (sum_len ha hb)
/-- The sum's parts, as they are to be met. -/
theorem turned_sgn (t : Bool) (y : Int) (k : Nat) : sgn (!(decide (y < 0) == t)) (y.natAbs * k : Nat) = (if t then -y else y) * (k : Int) := by
  have h : ∀ (s : Bool) (a : Nat), sgn s (a * k : Nat) = sgn s a * (k : Int) := fun s a => by cases s <;> simp [sgn, Int.natCast_mul, Int.neg_mul]
  rw [h]
  congr 1
  cases t with
  | false =>
    rw [show (!(decide (y < 0) == false)) = decide (y < 0) by cases decide (y < 0) <;> rfl, if_neg (by decide)]; exact sgn_self y
  | true =>
    rw [show (!(decide (y < 0) == true)) = !decide (y < 0) by cases decide (y < 0) <;> rfl, if_pos rfl]; exact sgn_neg y
theorem plain_sgn (y : Int) (k : Nat) : sgn (decide (y < 0)) (y.natAbs * k : Nat) = y * (k : Int) := by
  have h : ∀ (s : Bool) (a : Nat), sgn s (a * k : Nat) = sgn s a * (k : Int) := fun s a => by cases s <;> simp [sgn, Int.natCast_mul, Int.neg_mul]
  rw [h, sgn_self]
theorem add_made (x y : Int) (P Q G : Nat) (hP : G ∣ P) (hQ : G ∣ Q) : (x * ((Q / G : Nat) : Int) + y * ((P / G : Nat) : Int)) * (G : Int) = x * (Q : Int) + y * (P : Int) := by
  obtain ⟨u, rfl⟩ := hP
  obtain ⟨v, rfl⟩ := hQ
  rcases Nat.eq_zero_or_pos G with h | h
  · subst h; simp
  · rw [Nat.mul_div_cancel_left _ h, Nat.mul_div_cancel_left _ h, Int.natCast_mul, Int.natCast_mul]; grind
end Go.Proofs.YtchchnohmmncfaaGreatDoor
end
section
/- The program's fractions: sums, products, order. -/
namespace Go.Proofs.YtchchnohmmncfaaGreatDoor
open Go.RowKit
attribute [local go_sem] sz2 sz3 sz4 sz5 sz6 sz7 sz8
set_option maxHeartbeats 4000000
set_option maxRecDepth 100000
attribute [local irreducible] Calls
theorem run_makeFunc'' (P : Program) (fn : Fn) (first cap : Array Value) (w : World) : (Instr.makeFunc fn first cap).run P w = .ok (.func fn first cap) w := rfl
attribute [local go_sem] run_makeFunc''
theorem canN_le (z : Int) (d : Nat) : (canN z d).natAbs ≤ z.natAbs := by unfold canN; rw [sgn_abs]; exact Nat.div_le_self _ _
theorem canD_le (z : Int) (d : Nat) : canD z d ≤ d := by unfold canD; exact Nat.div_le_self _ _
end Go.Proofs.YtchchnohmmncfaaGreatDoor
end
section
/- (The document's library.) Words of the library's: how many bits, how many noughts last. -/

namespace Go.Proofs.YtchchnohmmncfaaGreatDoor.NB
open Go.RowKit
attribute [local go_sem] sz2 sz3 sz4 sz5 sz6 sz7 sz8
set_option maxHeartbeats 4000000
set_option maxRecDepth 100000
attribute [local irreducible] Calls
theorem bw_bitLen (A : Option Addr) (n c a : Nat) (hn : n ≤ 1000000) (w : World) (hA : Rd w A n c (lim a)) :
    Calls Tryz.prog 110 #[.slice A n c] w fun e w' => e = .returned (.int .i64 (bitsOf a : Nat)) ∧ Ext w w' := by
  have hmx := hA.mx
  have hcx := hA.cap
  have hl := hA.len
  by_cases h0 : n = 0
  · subst h0
    have ha : a = 0 := lim_nil.1 (List.eq_nil_of_length_eq_zero hl)
    have hb : bitsOf a = 0 := by rw [ha]; rfl
    rw [hb]
    clear hA hl ha hb
    go_enter Tryz.func110, Tryz.ntmps110
    go_wp2
    refine bodyPost_ret (v := .int .i64 0) ?h rfl ⟨rfl, ext_refl _⟩
    case h => simp [results, Tryz.results110, go_sem]
  · obtain ⟨k, rfl⟩ : ∃ k, n = k + 1 := ⟨n - 1, by omega⟩
    obtain ⟨bv, ov, hBe⟩ : ∃ b off, A = some ⟨b, off, none⟩ := by
      rcases hA.shape with ⟨_, h, _⟩ | h
      · omega
      · exact h
    subst hBe
    obtain ⟨top, ht, htb, hct⟩ := hA.get k (by omega)
    obtain ⟨hb, -, -, hbl⟩ := bitsOf_top hl ht.out
    rw [hb]
    have hk : ((k : Int) + 1 == 0) = false := by rw [beq_eq_false_iff_ne]; omega
    clear hA hl hb ht
    go_enter Tryz.func110, Tryz.ntmps110
    go_wp2_with (first
      | (go_at_call 132; (with_reducible refine (Tryz.bits_Len32 (top : Int) _ (by omega) (by omega)).mono ?_); rintro e w2 ⟨rfl, rfl⟩; simp only [Int.toNat_natCast])
     )
    refine bodyPost_ret (v := .int .i64 ↑(32 * k + Lib.bitLen top)) ?h rfl ⟨rfl, ext_refl _⟩
    case h => simp [results, Tryz.results110, go_sem]
theorem bw_zeros (A : Option Addr) (n c a : Nat) (hn : n ≤ 1000000) (w : World) (hT : Tz w) (hA : Rd w A n c (lim a)) :
    Calls Tryz.prog 151 #[.slice A n c] w fun e w' => e = .returned (.int .i64 (zz a : Nat)) ∧ Ext w w' := by
  have hmx := hA.mx
  have hcx := hA.cap
  have HA := Lib.hid hA
  have HT := Lib.hid hT
  have hlx := Lib.hid hA.len
  clear hA hT
  go_enter Tryz.func151, Tryz.ntmps151
  go_wp2
  go_loopw [3] (fun vi wr => ∃ i : Nat, i ≤ n ∧ vi = .int .i64 (i : Int) ∧ Hid (val ((lim a).take i) = 0) ∧ Hid (Ext w wr))
    (fun vi _ => n - (intOf vi).toNat)
  case atStart => exact ⟨0, Nat.zero_le _, rfl, (rfl : val [] = 0), ext_refl _⟩
  case round =>
    obtain ⟨i, hi, rfl, hv, hE⟩ := hrel
    by_cases h0 : i < n
    · obtain ⟨bv, ov, hBe⟩ : ∃ b off, A = some ⟨b, off, none⟩ := by
        rcases HA.out.shape with ⟨_, h, _⟩ | h
        · omega
        · exact h
      subst hBe
      obtain ⟨x, hx, hxb, hcell⟩ := (HA.out.ext hE.out).get i h0
      by_cases hx0 : x = 0
      · subst hx0
        go_wp2
        case roundEnd =>
          refine ⟨⟨i + 1, by omega, by simp, ?_, hE.out⟩, ?_⟩
          · show _ = _
            rw [val_take_succ, hv.out, hx.out, Nat.mul_zero]
          · simp [intOf]; omega
      · obtain ⟨hz, hc⟩ := zz_at hv.out hx.out hx0 hxb
        have hne : ((x : Int) == 0) = false := by rw [beq_eq_false_iff_ne]; omega
        have hni : ((i : Int) == (n : Int)) = false := by rw [beq_eq_false_iff_ne]; omega
        have HZ := Lib.hid hz
        have HX0 := Lib.hid hx0
        generalize hk : Lib.ctz 32 x = k at hz HZ hc
        have hcall : Calls Tryz.prog 124 #[.int .u32 (x : Int)] wr fun e w' => e = .returned (.int .i64 (k : Nat)) ∧ wr = w' := by rw [← hk]; exact bw_tz x hx0 hxb wr (HT.out.ext hE.out)
        clear hz hx0 hk
        go_wp2_with (first
          | (go_at_call 124; (with_reducible refine hcall.mono ?_); rintro e w2 ⟨rfl, rfl⟩)
         )
        refine bodyPost_ret (v := .int .i64 ↑(32 * i + k)) ?h rfl ⟨by rw [HZ.out], hE.out⟩
        case h => simp [results, Tryz.results151, go_sem]
    · obtain rfl : i = n := by omega
      have ha : zz a = 0 := by
        have h := hv.out
        rw [take_ge (by rw [hlx.out]; exact Nat.le_refl _), val_lim] at h
        rw [h]; rfl
      have HZ := Lib.hid ha
      clear ha
      go_wp2
      refine bodyPost_ret (v := .int .i64 0) ?h rfl ⟨by rw [HZ.out]; rfl, hE.out⟩
      case h => simp [results, Tryz.results151, go_sem]
end Go.Proofs.YtchchnohmmncfaaGreatDoor.NB
end
