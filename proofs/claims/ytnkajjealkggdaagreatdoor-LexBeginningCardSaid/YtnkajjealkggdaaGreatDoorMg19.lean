/- Lemmas of this proof, laid together: BigL, BigM, BigN, BigO0, BigO, IntA, IntB, IntF, RatA, ByP, IntC, IntD, IntE, RatB, SlO, RatC, BigP, NtK, BigQ, BigR, RatD, RatE, IntG, LookQ, RatH, IntH, RatI, BigS, BigT, BigU, IntI, RatP, RatJ, IntJ, IntK, IntL, IntM, BitsL, NtL, IntN. -/
import Derived.Test.YtnkajjealkggdaaGreatDoorMg18
import Derived.Deep.DeepCutAuto
import Derived.Deep.RegionWith
import Derived.Shelf.Spec.TrailingZeros
import Derived.Deep.LoopGhost
import Derived.Test.YtnkajjealkggdaaGreatDoorMg11
import Derived.Test.YtnkajjealkggdaaGreatDoorMg08
import Derived.Deep.Heap
import Derived.Test.YtnkajjealkggdaaGreatDoorMg15
import Derived.Maps.AppendAt
import Derived.Test.YtnkajjealkggdaaGreatDoorMg10
import Derived.Test.YtnkajjealkggdaaGreatDoorMg04
set_option linter.unusedSimpArgs false
set_option linter.unusedVariables false
section
/- Words of the library's: how many bits, how many noughts last. -/
namespace Go.Proofs.YtnkajjealkggdaaGreatDoor
open Go.RowKit
attribute [local go_sem] sz2 sz3 sz4 sz5 sz6 sz7 sz8
set_option maxHeartbeats 4000000
set_option maxRecDepth 100000
attribute [local irreducible] Calls
/-- How many bits a number has. -/
def bitsOf (a : Nat) : Nat := if a = 0 then 0 else a.log2 + 1
theorem bitsOf_eq {a k : Nat} (h1 : 2 ^ k ≤ a) (h2 : a < 2 ^ (k + 1)) : bitsOf a = k + 1 := by
  have h0 : a ≠ 0 := by have := Nat.two_pow_pos k; omega
  unfold bitsOf
  rw [if_neg h0, (Nat.log2_eq_iff h0).2 ⟨h1, h2⟩]
theorem bitsOf_spec {a : Nat} (h0 : a ≠ 0) : 0 < bitsOf a ∧ 2 ^ (bitsOf a - 1) ≤ a ∧ a < 2 ^ bitsOf a := by
  unfold bitsOf
  rw [if_neg h0]
  exact ⟨by omega, Nat.log2_self_le h0, Nat.lt_log2_self⟩
theorem bitsOf_top {a m top : Nat} (hm : (lim a).length = m + 1) (ht : (lim a).getD m 0 = top) : bitsOf a = 32 * m + Lib.bitLen top ∧ top ≠ 0 ∧ top < 4294967296 ∧ Lib.bitLen top ≤ 32 := by
  have ha0 : a ≠ 0 := by rintro rfl; rw [lim_zero] at hm; simp at hm
  have ht0 : top ≠ 0 := by have := lim_last ha0; rwa [hm, Nat.add_sub_cancel, ht] at this
  have htb : top < 4294967296 := by rw [← ht]; exact lb_getD (lb_lim a) _
  have hb := Lib.bitLenAux_bounds 64 top (by omega) ht0
  have hl : Lib.bitLen top ≤ 32 := Lib.bitLen_le top 32 (by omega) (by omega)
  change 1 ≤ Lib.bitLen top ∧ 2 ^ (Lib.bitLen top - 1) ≤ top ∧ top < 2 ^ Lib.bitLen top at hb
  obtain ⟨h1, h2, h3⟩ := hb
  refine ⟨?_, ht0, htb, hl⟩
  have hlt : a < Bs ^ (m + 1) := by have := lim_lt a; rwa [hm] at this
  have hpk : 0 < Bs ^ m := Nat.pow_pos (by decide)
  have hdiv : a / Bs ^ m = top := by
    rw [limb_at, Nat.mod_eq_of_lt] at ht
    · exact ht
    · rw [Nat.div_lt_iff_lt_mul hpk, Nat.mul_comm, ← Nat.pow_succ]; exact hlt
  have hlo : Bs ^ m * top ≤ a := by rw [← hdiv, Nat.mul_comm]; exact Nat.div_mul_le_self _ _
  have hhi : a < Bs ^ m * (top + 1) := by rw [← hdiv]; exact Nat.lt_mul_div_succ a hpk
  have hB : Bs ^ m = 2 ^ (32 * m) := by rw [Nat.pow_mul]
  have e : 32 * m + Lib.bitLen top = (32 * m + (Lib.bitLen top - 1)) + 1 := by omega
  rw [e]
  refine bitsOf_eq ?_ ?_
  · rw [Nat.pow_add, ← hB]
    exact Nat.le_trans (Nat.mul_le_mul_left _ h2) hlo
  · rw [← e, Nat.pow_add, ← hB]
    exact Nat.lt_of_lt_of_le hhi (Nat.mul_le_mul_left _ h3)
theorem bw_bitLen (A : Option Addr) (n c a : Nat) (hn : n ≤ 1000000) (w : World) (hA : Rd w A n c (lim a)) :
    Calls Tryz.prog 113 #[.slice A n c] w fun e w' => e = .returned (.int .i64 (bitsOf a : Nat)) ∧ Ext w w' := by
  have hmx := hA.mx
  have hcx := hA.cap
  have hl := hA.len
  by_cases h0 : n = 0
  · subst h0
    have ha : a = 0 := lim_nil.1 (List.eq_nil_of_length_eq_zero hl)
    have hb : bitsOf a = 0 := by rw [ha]; rfl
    rw [hb]
    clear hA hl ha hb
    go_enter Tryz.func113, Tryz.ntmps113
    go_wp2
    refine bodyPost_ret (v := .int .i64 0) ?h rfl ⟨rfl, ext_refl _⟩
    case h => simp [results, Tryz.results113, go_sem]
  · obtain ⟨k, rfl⟩ : ∃ k, n = k + 1 := ⟨n - 1, by omega⟩
    obtain ⟨bv, ov, hBe⟩ : ∃ b off, A = some ⟨b, off, none⟩ := by
      rcases hA.shape with ⟨_, h, _⟩ | h
      · omega
      · exact h
    subst hBe
    obtain ⟨top, ht, htb, hct⟩ := hA.get k (by omega)
    obtain ⟨hb, -, -, hbl⟩ := bitsOf_top hl ht.out
    rw [hb]
    have hk : ((k : Int) + 1 == 0) = false := by rw [beq_eq_false_iff_ne]; omega
    clear hA hl hb ht
    go_enter Tryz.func113, Tryz.ntmps113
    go_wp2_with (first
      | (go_at_call 148; (with_reducible refine (Tryz.bits_Len32 (top : Int) _ (by omega) (by omega)).mono ?_); rintro e w2 ⟨rfl, rfl⟩; simp only [Int.toNat_natCast])
     )
    refine bodyPost_ret (v := .int .i64 ↑(32 * k + Lib.bitLen top)) ?h rfl ⟨rfl, ext_refl _⟩
    case h => simp [results, Tryz.results113, go_sem]
/-- How many bits of nought a number ends with (0 of 0). -/
def zz (a : Nat) : Nat := if a = 0 then 0 else Lib.ctzFrom a a
theorem zz_spec {a : Nat} (h : a ≠ 0) : ∃ m, a = 2 ^ zz a * (2 * m + 1) := by
  unfold zz
  rw [if_neg h]
  obtain ⟨m, hm, -⟩ := Lib.ctzFrom_spec a a (by omega) Nat.lt_two_pow_self
  exact ⟨m, hm⟩
theorem odd_pow : ∀ (i j m n : Nat), 2 ^ i * (2 * m + 1) = 2 ^ j * (2 * n + 1) → i = j
  | 0, 0, _, _, _ => rfl
  | 0, j + 1, m, n, h => by rw [Nat.pow_zero, Nat.pow_succ, Nat.mul_comm (2 ^ j), Nat.mul_assoc] at h; omega
  | i + 1, 0, m, n, h => by rw [Nat.pow_zero, Nat.pow_succ, Nat.mul_comm (2 ^ i), Nat.mul_assoc] at h; omega
  | i + 1, j + 1, m, n, h => by
    rw [Nat.pow_succ, Nat.pow_succ, Nat.mul_comm (2 ^ i), Nat.mul_comm (2 ^ j), Nat.mul_assoc, Nat.mul_assoc] at h
    rw [odd_pow i j m n (by omega)]
theorem zz_eq {a k m : Nat} (h : a = 2 ^ k * (2 * m + 1)) : zz a = k := by
  have h0 : a ≠ 0 := by have := Nat.mul_pos (Nat.two_pow_pos k) (show 0 < 2 * m + 1 by omega); omega
  obtain ⟨n, hn⟩ := zz_spec h0
  exact odd_pow _ _ _ _ (hn.symm.trans h)
theorem zz_at {a n x : Nat} (h0 : val ((lim a).take n) = 0) (hx : (lim a).getD n 0 = x) (hx0 : x ≠ 0) (hxb : x < 4294967296) : zz a = 32 * n + Lib.ctz 32 x ∧ Lib.ctz 32 x < 32 := by
  obtain ⟨m, hm, hk⟩ := Lib.ctzFrom_spec 32 x (by omega) (by omega)
  have e : Lib.ctz 32 x = Lib.ctzFrom 32 x := by unfold Lib.ctz; rw [if_neg hx0]
  rw [e]
  refine ⟨?_, hk⟩
  generalize Lib.ctzFrom 32 x = k at *
  rw [val_take_lim] at h0
  rw [limb_at] at hx
  have h1 := Nat.mod_add_div a (Bs ^ n)
  rw [h0, Nat.zero_add] at h1
  have h2 := Nat.mod_add_div (a / Bs ^ n) Bs
  rw [hx] at h2
  have e3 : Bs = 2 ^ k * (2 * 2 ^ (31 - k)) := by
    rw [Nat.mul_comm 2, ← Nat.pow_succ, ← Nat.pow_add, show k + (31 - k).succ = 32 by omega]
  refine zz_eq (m := m + 2 ^ (31 - k) * (a / Bs ^ n / Bs)) ?_
  rw [Nat.pow_add, Nat.pow_mul, Nat.mul_assoc]
  change a = Bs ^ n * _
  have e4 : a / Bs ^ n = 2 ^ k * (2 * (m + 2 ^ (31 - k) * (a / Bs ^ n / Bs)) + 1) := by
    have e5 : Bs * (a / Bs ^ n / Bs) = 2 ^ k * (2 * (2 ^ (31 - k) * (a / Bs ^ n / Bs))) := by
      rw [← Nat.mul_assoc 2, ← Nat.mul_assoc, ← e3]
    rw [e5] at h2
    rw [Nat.mul_add, show 2 * (m + 2 ^ (31 - k) * (a / Bs ^ n / Bs)) = 2 * m + 2 * (2 ^ (31 - k) * (a / Bs ^ n / Bs)) by omega, Nat.mul_add]
    rw [Nat.mul_add] at hm
    omega
  rw [← e4]; exact h1.symm
/-- The table of the library's stands as it was laid. -/
def Tz (w : World) : Prop := TabAt 4 Lib.deBruijn32tab w
theorem Tz.ext {w w' : World} (h : Tz w) (he : Ext w w') : Tz w' := fun j hj => by
  have h1 := h j hj
  have hb : 4 < w.heap.size := by
    refine Nat.lt_of_not_le fun hle => ?_
    simp [World.cell?, Array.getElem?_eq_none hle] at h1
  rw [(ext_use he).1 _ _ hb]; exact h1
theorem bw_tz_core (x k idx : Nat) (w : World) (h0 : ((x : Int) == 0) = false) (key : bits BinOp.and IntKind.u32 (x : Int) (-(x : Int) % 4294967296) * 125613361 % 4294967296 / 134217728 = (idx : Int)) (hi' : idx < 32) (hk : k < 32) (hcell : w.cell? ⟨4, idx, none⟩ = some (.int .u8 k)) :
    Calls Tryz.prog 174 #[.int .u32 (x : Int)] w fun e w' => e = .returned (.int .i64 (k : Nat)) ∧ w = w' := by
  go_enter Tryz.func174, Tryz.ntmps174
  go_wp2_with (simp only [key])
  go_ret
  exact ⟨rfl, rfl⟩
theorem bw_tz (x : Nat) (hx0 : x ≠ 0) (hx : x < 4294967296) (w : World) (hT : Tz w) :
    Calls Tryz.prog 174 #[.int .u32 (x : Int)] w fun e w' => e = .returned (.int .i64 (Lib.ctz 32 x : Nat)) ∧ w = w' := by
  obtain ⟨hlow, hk⟩ := Lib.lowest_bit 32 x hx0 hx
  obtain ⟨hi, htab⟩ := Lib.deBruijn32_at _ hk
  have hcell := hT _ hi
  rw [htab] at hcell
  exact bw_tz_core x _ _ w (by simp; omega) (tz32_key x _ hx hx0 hlow) hi hk hcell
theorem bw_zeros (A : Option Addr) (n c a : Nat) (hn : n ≤ 1000000) (w : World) (hT : Tz w) (hA : Rd w A n c (lim a)) :
    Calls Tryz.prog 134 #[.slice A n c] w fun e w' => e = .returned (.int .i64 (zz a : Nat)) ∧ Ext w w' := by
  have hmx := hA.mx
  have hcx := hA.cap
  have HA := Lib.hid hA
  have HT := Lib.hid hT
  have hlx := Lib.hid hA.len
  clear hA hT
  go_enter Tryz.func134, Tryz.ntmps134
  go_wp2
  go_loopw [3] (fun vi wr => ∃ i : Nat, i ≤ n ∧ vi = .int .i64 (i : Int) ∧ Hid (val ((lim a).take i) = 0) ∧ Hid (Ext w wr))
    (fun vi _ => n - (intOf vi).toNat)
  case atStart => exact ⟨0, Nat.zero_le _, rfl, (rfl : val [] = 0), ext_refl _⟩
  case round =>
    obtain ⟨i, hi, rfl, hv, hE⟩ := hrel
    by_cases h0 : i < n
    · obtain ⟨bv, ov, hBe⟩ : ∃ b off, A = some ⟨b, off, none⟩ := by
        rcases HA.out.shape with ⟨_, h, _⟩ | h
        · omega
        · exact h
      subst hBe
      obtain ⟨x, hx, hxb, hcell⟩ := (HA.out.ext hE.out).get i h0
      by_cases hx0 : x = 0
      · subst hx0
        go_wp2
        case roundEnd =>
          refine ⟨⟨i + 1, by omega, by simp, ?_, hE.out⟩, ?_⟩
          · show _ = _
            rw [val_take_succ, hv.out, hx.out, Nat.mul_zero]
          · simp [intOf]; omega
      · obtain ⟨hz, hc⟩ := zz_at hv.out hx.out hx0 hxb
        have hne : ((x : Int) == 0) = false := by rw [beq_eq_false_iff_ne]; omega
        have hni : ((i : Int) == (n : Int)) = false := by rw [beq_eq_false_iff_ne]; omega
        have HZ := Lib.hid hz
        have HX0 := Lib.hid hx0
        generalize hk : Lib.ctz 32 x = k at hz HZ hc
        have hcall : Calls Tryz.prog 174 #[.int .u32 (x : Int)] wr fun e w' => e = .returned (.int .i64 (k : Nat)) ∧ wr = w' := by rw [← hk]; exact bw_tz x hx0 hxb wr (HT.out.ext hE.out)
        clear hz hx0 hk
        go_wp2_with (first
          | (go_at_call 174; (with_reducible refine hcall.mono ?_); rintro e w2 ⟨rfl, rfl⟩)
         )
        refine bodyPost_ret (v := .int .i64 ↑(32 * i + k)) ?h rfl ⟨by rw [HZ.out], hE.out⟩
        case h => simp [results, Tryz.results134, go_sem]
    · obtain rfl : i = n := by omega
      have ha : zz a = 0 := by
        have h := hv.out
        rw [take_ge (by rw [hlx.out]; exact Nat.le_refl _), val_lim] at h
        rw [h]; rfl
      have HZ := Lib.hid ha
      clear ha
      go_wp2
      refine bodyPost_ret (v := .int .i64 0) ?h rfl ⟨by rw [HZ.out]; rfl, hE.out⟩
      case h => simp [results, Tryz.results134, go_sem]
end Go.Proofs.YtnkajjealkggdaaGreatDoor
end
section
/- The greatest common divisor by several steps at once (Lehmer's way): the plain part. -/
namespace Go.Proofs.YtnkajjealkggdaaGreatDoor
structure Leh (X Y : Nat) (e : Int) (x y u0 u1 u2 v0 v1 v2 : Nat) : Prop where
  he : e = 1 ∨ e = -1
  hx : (x : Int) = e * ((u1 : Int) * X - v1 * Y)
  hy : (y : Int) = -e * ((u2 : Int) * X - v2 * Y)
  hd : e * ((u1 : Int) * v2 - u2 * v1) = 1
  hyx : y ≤ x
  hv : v1 ≤ v2 ∧ 1 ≤ v2 ∧ u2 ≤ v2
  hu : u1 ≤ v1 ∨ (u1 = 1 ∧ v1 = 0 ∧ u2 = 0 ∧ v2 = 1)
  hp : v0 = 0 ∨ (1 ≤ v0 ∧ u0 ≤ v0 ∧ u1 ≤ v1 ∧ v0 ≤ v1 ∧ v1 ≤ x ∧ v1 < 1073741824 ∧ ∃ xp : Nat, (xp : Int) = -e * ((u0 : Int) * X - v0 * Y) ∧ -e * ((u0 : Int) * v1 - u1 * v0) = 1 ∧ x + v0 + v1 ≤ xp)
theorem Leh.whole {X Y : Nat} {e : Int} {x y u0 u1 u2 v0 v1 v2 : Nat} (h : Leh X Y e x y u0 u1 u2 v0 v1 v2) : x * v2 + y * v1 = X := by
  have h1 := h.hx
  have h2 := h.hy
  have h3 := h.hd
  have : ((x * v2 + y * v1 : Nat) : Int) = (X : Int) := by
    rw [Int.natCast_add, Int.natCast_mul, Int.natCast_mul]
    rcases h.he with he | he <;> subst he <;> grind
  exact Int.ofNat.inj this
theorem Leh.le {X Y : Nat} {e : Int} {x y u0 u1 u2 v0 v1 v2 : Nat} (h : Leh X Y e x y u0 u1 u2 v0 v1 v2) : x ≤ X := by
  have h1 := h.whole
  have h2 := Nat.mul_le_mul_left x h.hv.2.1
  omega
theorem Leh.step {X Y : Nat} {e : Int} {x y u0 u1 u2 v0 v1 v2 : Nat} (h : Leh X Y e x y u0 u1 u2 v0 v1 v2) (hX : X < 1152921504606846976) (h1 : v2 ≤ y) (h2 : v1 + v2 ≤ x - y) :
    Leh X Y (-e) y (x % y) u1 u2 (u1 + x / y * u2) v1 v2 (v1 + x / y * v2) := by
  obtain ⟨hv1, hv2, hv3⟩ := h.hv
  have hy0 : 0 < y := by omega
  have hq : 1 ≤ x / y := (Nat.le_div_iff_mul_le hy0).2 (by have := h.hyx; omega)
  have hxy : x = x / y * y + x % y := by have := Nat.div_add_mod x y; rw [Nat.mul_comm] at this; exact this.symm
  have hm := Nat.mod_lt x hy0
  have hW := h.whole
  have ex := h.hx
  have ey := h.hy
  have ed := h.hd
  have hq1 : v2 ≤ x / y * v2 := Nat.le_mul_of_pos_left _ hq
  have hq2 : x / y * u2 ≤ x / y * v2 := Nat.mul_le_mul_left _ hv3
  generalize x / y = q at *
  generalize x % y = r at *
  have hxi : (x : Int) = (q : Int) * y + r := by rw [hxy]; simp
  refine ⟨by rcases h.he with he | he <;> subst he <;> simp, by rw [ey], ?_, ?_, by omega, ⟨by omega, by omega, ?_⟩, .inl hv3, ?_⟩
  · have : (r : Int) = (x : Int) - q * y := by omega
    rw [this, Int.natCast_add, Int.natCast_add, Int.natCast_mul, Int.natCast_mul]
    grind
  · rw [Int.natCast_add, Int.natCast_add, Int.natCast_mul, Int.natCast_mul]
    grind
  · rcases h.hu with h3 | ⟨h3, h4, h5, h6⟩
    · omega
    · subst h3 h4 h5 h6; omega
  · by_cases h0 : v1 = 0
    · exact .inl h0
    · right
      have hu1 : u1 ≤ v1 := by rcases h.hu with h3 | ⟨_, h4, _⟩ <;> omega
      have hb : v2 < 1073741824 := by
        refine Nat.lt_of_not_le fun h3 => ?_
        have h4 : 1073741824 * 1073741824 ≤ x * v2 := Nat.mul_le_mul (by omega) h3
        omega
      exact ⟨by omega, hu1, hv3, hv1, h1, hb, x, by rw [ex]; grind, by grind, by omega⟩
end Go.Proofs.YtnkajjealkggdaaGreatDoor
end
section
/- Words of the library's: the greatest common divisor. -/
namespace Go.Proofs.YtnkajjealkggdaaGreatDoor
open Go.RowKit
attribute [local go_sem] sz2 sz3 sz4 sz5 sz6 sz7 sz8
set_option maxHeartbeats 4000000
set_option maxRecDepth 100000
attribute [local irreducible] Calls
theorem one_row (w : World) : Rd (w.alloc (Obj.cells #[.int .u32 1] 48)) (some ⟨w.heap.size, 0, none⟩) 1 1 (lim 1) := by
  have e : lim 1 = [1] := by rw [lim_pos (by decide)]; simp [lim_zero, Bs]
  rw [e]
  exact Rd.made _ _ _ _ (fun x hx => by simp at hx; subst hx; decide) (by simp [u32V]) (by simp) rfl rfl
/-- Two rows, the greater one first, with the same divisors as two numbers. -/
def Two (w : World) (g : Nat) (va vb : Value) (wx : World) : Prop := ∃ (A : Option Addr) (n c : Nat) (B : Option Addr) (m d a b : Nat), va = .slice A n c ∧ vb = .slice B m d ∧ Hid (Rd wx A n c (lim a)) ∧ Hid (Rd wx B m d (lim b)) ∧ Hid (b ≤ a ∧ Nat.gcd a b = g) ∧ Hid (Ext w wx) ∧ n ≤ 400000
end Go.Proofs.YtnkajjealkggdaaGreatDoor
end
section
/- Whole numbers of the library's: objects in memory, set. -/
namespace Go.Proofs.YtnkajjealkggdaaGreatDoor
open Go.RowKit
attribute [local go_sem] sz2 sz3 sz4 sz5 sz6 sz7 sz8
set_option maxHeartbeats 4000000
set_option maxRecDepth 100000
attribute [local irreducible] Calls
/-- Nothing that was there has turned but the block b; new blocks may have come. -/
structure Tch (b : Nat) (w w' : World) : Prop where
  os : w'.os = w.os
  tape : w'.tape = w.tape
  output : w'.output = w.output
  size : w.heap.size ≤ w'.heap.size
  block : ∀ k, k < w.heap.size → k ≠ b → w'.heap[k]? = w.heap[k]?
theorem Tch.refl (b : Nat) (w : World) : Tch b w w := ⟨rfl, rfl, rfl, Nat.le_refl _, fun _ _ _ => rfl⟩
theorem Tch.trans {b : Nat} {u v w : World} (h : Tch b u v) (k : Tch b v w) : Tch b u w :=
  ⟨k.os.trans h.os, k.tape.trans h.tape, k.output.trans h.output, Nat.le_trans h.size k.size, fun i hi hb => (k.block i (Nat.lt_of_lt_of_le hi h.size) hb).trans (h.block i hi hb)⟩
theorem Tch.of {b : Nat} {w w' : World} (h : Ext w w') : Tch b w w' := ⟨h.os, h.tape, h.output, h.size, fun i hi _ => h.block i hi⟩
theorem Tch.set {b : Nat} {u w : World} (h : Tch b u w) (o : Nat) (v : Value) : Tch b u (w.setCell ⟨b, o, none⟩ v) :=
  ⟨h.os, h.tape, h.output, by simpa using h.size, fun i hi hb => (Below.heap_setCell w ⟨b, o, none⟩ v i hb).trans (h.block i hi hb)⟩
theorem Tch.ext {b : Nat} {W w w' : World} (h : Tch b w w') (hE : Ext W w) (hb : W.heap.size ≤ b) : Ext W w' :=
  ⟨h.os.trans hE.os, h.tape.trans hE.tape, h.output.trans hE.output, Nat.le_trans hE.size h.size, fun i hi => (h.block i (Nat.lt_of_lt_of_le hi hE.size) (by omega)).trans (hE.block i hi)⟩
theorem Tch.cell {b : Nat} {w w' : World} (h : Tch b w w') {p : Addr} (hp : p.block < w.heap.size) (hb : p.block ≠ b) : w'.cell? p = w.cell? p := World.cell?_of_block (w := w) (h.block p.block hp hb)
theorem Tch.frozen {b : Nat} {w w' : World} (h : Tch b w w') {p : Addr} (hp : p.block < w.heap.size) (hb : p.block ≠ b) : w'.frozen? p = w.frozen? p := World.frozen?_of_block (w := w) (h.block p.block hp hb)
/-- A slice, if it has anything, does not lie in the block b. -/
def Off (A : Option Addr) (n b : Nat) : Prop := ∀ x, A = some x → n ≠ 0 → x.block ≠ b
theorem Fr.off {W : World} {A : Option Addr} (h : Fr W A) {b : Nat} (hb : b < W.heap.size) (n : Nat) : Off A n b := fun x hx _ e => by have := h x hx; omega
theorem Rd.tch {b : Nat} {w w' : World} {A : Option Addr} {n c : Nat} {xs : List Nat} (h : Rd w A n c xs) (ht : Tch b w w') (ho : Off A n b) : Rd w' A n c xs :=
  ⟨h.len, h.cap, h.mx, h.lb, h.none_, h.at_, fun g off hA i hi => by
    obtain ⟨h1, h2⟩ := h.cells g off hA i hi
    exact ⟨Nat.lt_of_lt_of_le h1 ht.size, (ht.cell (p := ⟨g, off + i, none⟩) h1 (ho ⟨g, off, none⟩ hA (by have := h.len; omega))).trans h2⟩⟩
theorem Rd.off {w : World} {A : Option Addr} {n c : Nat} {xs : List Nat} (h : Rd w A n c xs) {g : Nat} (hg : w.heap.size ≤ g) : Off A n g := fun x hx hn e => by
  have := h.at_ x hx
  obtain ⟨g', off, s⟩ := x
  simp only at this e
  subst this e
  have := (h.cells _ off hx 0 (by have := h.len; omega)).1
  omega
/-- Room for a whole number. -/
structure Room (w : World) (b o : Nat) : Prop where
  lt : b < w.heap.size
  c0 : ∃ v, w.cell? ⟨b, o, none⟩ = some v
  c1 : ∃ v, w.cell? ⟨b, o + 1, none⟩ = some v
  f0 : w.frozen? ⟨b, o, none⟩ = false
  f1 : w.frozen? ⟨b, o + 1, none⟩ = false
/-- A whole number stands there, with these words. -/
structure IntIs (w : World) (b o : Nat) (z : Int) (A : Option Addr) (n c : Nat) : Prop where
  room : Room w b o
  neg : w.cell? ⟨b, o, none⟩ = some (.bool (decide (z < 0)))
  words : w.cell? ⟨b, o + 1, none⟩ = some (.slice A n c)
  rd : Rd w A n c (lim z.natAbs)
  off : Off A n b
theorem Room.ext {w w' : World} {b o : Nat} (h : Room w b o) (he : Ext w w') : Room w' b o := by
  obtain ⟨hl, ⟨v, h0⟩, ⟨u, h1⟩, h2, h3⟩ := h
  exact ⟨Nat.lt_of_lt_of_le hl he.size, ⟨v, (Below.cell (p := ⟨b, o, none⟩) he hl).trans h0⟩, ⟨u, (Below.cell (p := ⟨b, o + 1, none⟩) he hl).trans h1⟩, (Below.frozen (p := ⟨b, o, none⟩) he hl).trans h2, (Below.frozen (p := ⟨b, o + 1, none⟩) he hl).trans h3⟩
theorem Room.tch {w w' : World} {b o g : Nat} (h : Room w b o) (he : Tch g w w') (hg : b ≠ g) : Room w' b o := by
  obtain ⟨hl, ⟨v, h0⟩, ⟨u, h1⟩, h2, h3⟩ := h
  exact ⟨Nat.lt_of_lt_of_le hl he.size, ⟨v, (he.cell (p := ⟨b, o, none⟩) hl hg).trans h0⟩, ⟨u, (he.cell (p := ⟨b, o + 1, none⟩) hl hg).trans h1⟩, (he.frozen (p := ⟨b, o, none⟩) hl hg).trans h2, (he.frozen (p := ⟨b, o + 1, none⟩) hl hg).trans h3⟩
theorem IntIs.ext {w w' : World} {b o : Nat} {z : Int} {A : Option Addr} {n c : Nat} (h : IntIs w b o z A n c) (he : Ext w w') : IntIs w' b o z A n c :=
  ⟨h.room.ext he, (Below.cell (p := ⟨b, o, none⟩) he h.room.lt).trans h.neg, (Below.cell (p := ⟨b, o + 1, none⟩) he h.room.lt).trans h.words, h.rd.ext he, h.off⟩
theorem IntIs.tch {w w' : World} {b o g : Nat} {z : Int} {A : Option Addr} {n c : Nat} (h : IntIs w b o z A n c) (he : Tch g w w') (hg : b ≠ g) (ho : Off A n g) : IntIs w' b o z A n c :=
  ⟨h.room.tch he hg, (he.cell (p := ⟨b, o, none⟩) h.room.lt hg).trans h.neg, (he.cell (p := ⟨b, o + 1, none⟩) h.room.lt hg).trans h.words, h.rd.tch he ho, h.off⟩
theorem int_made {w : World} {b o : Nat} {A : Option Addr} {k c : Nat} (hr : Room w b o) {z : Int} (hR : Rd w A k c (lim z.natAbs)) (ho : Off A k b) {s : Bool} (hs : s = decide (z < 0)) :
    IntIs ((w.setCell ⟨b, o + 1, none⟩ (.slice A k c)).setCell ⟨b, o, none⟩ (.bool s)) b o z A k c := by
  have ht : Tch b w ((w.setCell ⟨b, o + 1, none⟩ (.slice A k c)).setCell ⟨b, o, none⟩ (.bool s)) := ((Tch.refl b w).set _ _).set _ _
  obtain ⟨hl, ⟨v0, h0⟩, ⟨v1, h1⟩, h2, h3⟩ := hr
  have k0 : ((w.setCell ⟨b, o + 1, none⟩ (.slice A k c)).setCell ⟨b, o, none⟩ (.bool s)).cell? ⟨b, o, none⟩ = some (.bool s) := by
    refine World.cell?_setCell_same _ _ _ (u := v0) ?_
    rw [World.cell?_setCell_other _ _ _ _ (by intro e; simp at e)]; exact h0
  have k1 : ((w.setCell ⟨b, o + 1, none⟩ (.slice A k c)).setCell ⟨b, o, none⟩ (.bool s)).cell? ⟨b, o + 1, none⟩ = some (.slice A k c) := by
    rw [World.cell?_setCell_other _ _ _ _ (by intro e; simp at e)]
    exact World.cell?_setCell_same _ _ _ h1
  exact ⟨⟨by simpa using hl, ⟨_, k0⟩, ⟨_, k1⟩, by simpa using h2, by simpa using h3⟩, by rw [k0, hs], k1, hR.tch ht ho, ho⟩
theorem trimZ_lim_lim (a : Nat) : trimZ (lim a) = lim a := by rw [trimZ_lim _ (lb_lim a), val_lim]
/-- A sign and a size. -/
def sgn (neg : Bool) (a : Nat) : Int := if neg then -(a : Int) else a
theorem sgn_abs (neg : Bool) (a : Nat) : (sgn neg a).natAbs = a := by cases neg <;> simp [sgn]
theorem sgn_lt (neg : Bool) (a : Nat) : decide (sgn neg a < 0) = (neg && decide (0 < a)) := by cases neg <;> simp [sgn] <;> omega
theorem bi_setx (b o : Nat) (neg : Bool) (A : Option Addr) (n c a : Nat) (w : World) (hr : Room w b o) (hA : Rd w A n c (lim a)) (ho : Off A n b) :
    Calls Tryz.prog 109 #[.pointer (some ⟨b, o, none⟩), .bool neg, .slice A n c] w fun e w' => e = .returned (.pointer (some ⟨b, o, none⟩)) ∧ Hid (IntIs w' b o (sgn neg a) A n c) ∧ Tch b w w' ∧ Hid (∀ p, p ≠ o → p ≠ o + 1 → w'.cell? ⟨b, p, none⟩ = w.cell? ⟨b, p, none⟩ ∧ w'.frozen? ⟨b, p, none⟩ = w.frozen? ⟨b, p, none⟩) := by
  have hlen := hA.len
  have HA := Lib.hid hA
  have HR := Lib.hid hr
  obtain ⟨hl, ⟨v0, h0⟩, ⟨v1, h1⟩, h2, h3⟩ := hr
  have HO := Lib.hid ho
  have hz : a = 0 ↔ n = 0 := by rw [← hlen]; exact ⟨fun h => by rw [h, lim_zero]; rfl, fun h => lim_nil.1 (List.eq_nil_of_length_eq_zero h)⟩
  have HZ := Lib.hid (show decide (0 < n) = decide (0 < a) by rw [decide_eq_decide]; omega)
  clear ho hA hz
  cases neg
  all_goals
   go_enter Tryz.func109, Tryz.ntmps109
   go_wp2_with (first
    | (go_at_call 111; (with_reducible refine (bw_trim A n c (lim a) _ HA.out).mono ?_); rintro e w1 ⟨k, rfl, hR1, rfl⟩; rw [trimZ_lim_lim] at hR1; obtain rfl : n = k := by rw [← hlen]; exact hR1.len)
    )
   refine bodyPost_ret (v := .pointer (some ⟨b, o, none⟩)) ?h rfl ⟨rfl, int_made HR.out (by rw [sgn_abs]; exact hR1) HO.out (by rw [sgn_lt]; first | rfl | (rw [← HZ.out]; rfl)), ((Tch.refl b w).set _ _).set _ _, fun p h1 h2 => ⟨by rw [World.cell?_setCell_other _ _ _ _ (by intro e; simp at e; try omega), World.cell?_setCell_other _ _ _ _ (by intro e; simp at e; try omega)], by simp⟩⟩
   case h => simp [results, Tryz.results109, go_sem]
theorem bi_set (b o : Nat) (neg : Bool) (A : Option Addr) (n c a : Nat) (w : World) (hr : Room w b o) (hA : Rd w A n c (lim a)) (ho : Off A n b) :
    Calls Tryz.prog 109 #[.pointer (some ⟨b, o, none⟩), .bool neg, .slice A n c] w fun e w' => e = .returned (.pointer (some ⟨b, o, none⟩)) ∧ Hid (IntIs w' b o (sgn neg a) A n c) ∧ Tch b w w' :=
  (bi_setx b o neg A n c a w hr hA ho).mono fun _ _ ⟨h1, h2, h3, _⟩ => ⟨h1, h2, h3⟩
end Go.Proofs.YtnkajjealkggdaaGreatDoor
end
section
/- Whole numbers of the library's: copied, with the sign turned. -/
namespace Go.Proofs.YtnkajjealkggdaaGreatDoor
open Go.RowKit
attribute [local go_sem] sz2 sz3 sz4 sz5 sz6 sz7 sz8
set_option maxHeartbeats 4000000
set_option maxRecDepth 100000
attribute [local irreducible] Calls
attribute [local go_sem] Oper.detAt detUpon relUpon
/-- What a method that sets a number leaves. -/
abbrev IPost (w : World) (b o : Nat) (z : Int) : Ending → World → Prop := fun e w' => e = .returned (.pointer (some ⟨b, o, none⟩)) ∧ ∃ (A : Option Addr) (n c : Nat), Hid (IntIs w' b o z A n c ∧ Fr w A) ∧ Tch b w w'
end Go.Proofs.YtnkajjealkggdaaGreatDoor
end
section
/- Fractions of the library's: objects in memory, set. -/
namespace Go.Proofs.YtnkajjealkggdaaGreatDoor
open Go.RowKit
attribute [local go_sem] sz2 sz3 sz4 sz5 sz6 sz7 sz8
set_option maxHeartbeats 4000000
set_option maxRecDepth 100000
attribute [local irreducible] Calls
attribute [local go_sem] Oper.detAt detUpon relUpon
/-- Room for a fraction. -/
structure RatRoom (w : World) (g : Nat) : Prop where
  int : Room w g 0
  c2 : ∃ v, w.cell? ⟨g, 2, none⟩ = some v
  f2 : w.frozen? ⟨g, 2, none⟩ = false
/-- A fraction stands there, with these words. -/
structure RatIs (w : World) (g : Nat) (z : Int) (A : Option Addr) (n c : Nat) (d : Nat) (D : Option Addr) (m e : Nat) : Prop where
  int : IntIs w g 0 z A n c
  c2 : w.cell? ⟨g, 2, none⟩ = some (.slice D m e)
  f2 : w.frozen? ⟨g, 2, none⟩ = false
  rd : Rd w D m e (lim d)
  off : Off D m g
theorem RatRoom.ext {w w' : World} {g : Nat} (h : RatRoom w g) (he : Ext w w') : RatRoom w' g := by
  obtain ⟨h1, ⟨v, h2⟩, h3⟩ := h
  exact ⟨h1.ext he, ⟨v, (Below.cell (p := ⟨g, 2, none⟩) he h1.lt).trans h2⟩, (Below.frozen (p := ⟨g, 2, none⟩) he h1.lt).trans h3⟩
theorem RatIs.ext {w w' : World} {g : Nat} {z : Int} {A : Option Addr} {n c : Nat} {d : Nat} {D : Option Addr} {m e : Nat} (h : RatIs w g z A n c d D m e) (he : Ext w w') : RatIs w' g z A n c d D m e :=
  ⟨h.int.ext he, (Below.cell (p := ⟨g, 2, none⟩) he h.int.room.lt).trans h.c2, (Below.frozen (p := ⟨g, 2, none⟩) he h.int.room.lt).trans h.f2, h.rd.ext he, h.off⟩
theorem RatIs.tch {w w' : World} {g b : Nat} {z : Int} {A : Option Addr} {n c : Nat} {d : Nat} {D : Option Addr} {m e : Nat} (h : RatIs w g z A n c d D m e) (ht : Tch b w w') (hg : g ≠ b) (hA : Off A n b) (hD : Off D m b) : RatIs w' g z A n c d D m e :=
  ⟨h.int.tch ht hg hA, (ht.cell (p := ⟨g, 2, none⟩) h.int.room.lt hg).trans h.c2, (ht.frozen (p := ⟨g, 2, none⟩) h.int.room.lt hg).trans h.f2, h.rd.tch ht hD, h.off⟩
theorem Fr.none (w : World) : Fr w none := fun _ h => by cases h
end Go.Proofs.YtnkajjealkggdaaGreatDoor
end
section
/- Bytes of a number, the one of most worth first: the plain part. -/
namespace Go.Proofs.YtnkajjealkggdaaGreatDoor
set_option maxRecDepth 100000
/-- The last n bytes of a number, the one of most worth first. -/
def beB (n a : Nat) : List UInt8 := (List.range n).map fun i => UInt8.ofNat (a / 256 ^ (n - 1 - i) % 256)
theorem beB_length (n a : Nat) : (beB n a).length = n := by simp [beB]
theorem beB_getD {n a i : Nat} (h : i < n) : ((beB n a).getD i 0).toNat = a / 256 ^ (n - 1 - i) % 256 := by
  rw [List.getD_eq_getElem?_getD, List.getElem?_eq_getElem (by rw [beB_length]; exact h)]
  simp [beB]
theorem pow256 (q r : Nat) : 256 ^ (4 * q + r) = Bs ^ q * 256 ^ r := by rw [Nat.pow_add, Nat.pow_mul]
theorem or_byte {os : List Nat} (hb : Lb os) {q r c V : Nat} (hr : r < 4) (hq : q < os.length) (hv : val os = 256 ^ (4 * q + r + 1) * V) (hc : c < 256) {x : Nat} (hx : os.getD q 0 = x) :
    c * 2 ^ (8 * r) < 4294967296 ∧ (x ||| c * 2 ^ (8 * r)) = x + c * 2 ^ (8 * r) ∧ x + c * 2 ^ (8 * r) < 4294967296 ∧ val (os.set q (x + c * 2 ^ (8 * r))) = 256 ^ (4 * q + r) * (256 * V + c) ∧ Lb (os.set q (x + c * 2 ^ (8 * r))) := by
  have hxb : x < 4294967296 := by
    rw [← hx, List.getD_eq_getElem?_getD, List.getElem?_eq_getElem hq]; exact hb _ (List.getElem_mem hq)
  have hs : val os = val (os.take q) + Bs ^ q * (x + Bs * val (os.drop (q + 1))) := by
    have h1 : os = os.take q ++ (x :: os.drop (q + 1)) := by
      have h2 : os.drop q = x :: os.drop (q + 1) := by
        rw [List.drop_eq_getElem_cons hq]
        rw [List.getD_eq_getElem?_getD, List.getElem?_eq_getElem hq] at hx
        rw [← hx]; rfl
      rw [← h2, List.take_append_drop]
    conv => lhs; rw [h1]
    rw [val_append, List.length_take, Nat.min_eq_left (Nat.le_of_lt hq)]
    rfl
  have ht : val (os.take q) < Bs ^ q := by
    have := val_lt (os.take q) (fun y hy => hb y (List.mem_of_mem_take hy))
    rwa [List.length_take, Nat.min_eq_left (Nat.le_of_lt hq)] at this
  have hp : 0 < Bs ^ q := Nat.pow_pos (by decide)
  have he : 256 ^ (4 * q + r + 1) * V = Bs ^ q * (256 ^ (r + 1) * V) := by rw [Nat.add_assoc, pow256, Nat.mul_assoc]
  have h0 : x + Bs * val (os.drop (q + 1)) = 256 ^ (r + 1) * V := by
    have h1 : Bs ^ q * (256 ^ (r + 1) * V) = val (os.take q) + Bs ^ q * (x + Bs * val (os.drop (q + 1))) := by rw [← he, ← hv, hs]
    have h2 : (Bs ^ q * (256 ^ (r + 1) * V)) / Bs ^ q = (val (os.take q) + Bs ^ q * (x + Bs * val (os.drop (q + 1)))) / Bs ^ q := by rw [h1]
    rw [Nat.mul_div_cancel_left _ hp, Nat.add_mul_div_left _ _ hp, Nat.div_eq_of_lt ht, Nat.zero_add] at h2
    exact h2.symm
  obtain ⟨R, hR⟩ : ∃ R, R = val (os.drop (q + 1)) := ⟨_, rfl⟩
  rw [← hR] at h0
  unfold Bs at h0
  have hdiv : ∃ y, x = 2 ^ (8 * r + 8) * y ∧ 2 ^ (8 * r + 8) * y + 2 ^ (8 * r + 8) ≤ 4294967296 := by
    match r, hr with
    | 0, _ => exact ⟨x / 256, by simp at h0 ⊢; omega, by simp at h0 ⊢; omega⟩
    | 1, _ => exact ⟨x / 65536, by simp at h0 ⊢; omega, by simp at h0 ⊢; omega⟩
    | 2, _ => exact ⟨x / 16777216, by simp at h0 ⊢; omega, by simp at h0 ⊢; omega⟩
    | 3, _ => exact ⟨x / 4294967296, by simp at h0 ⊢; omega, by simp at h0 ⊢; omega⟩
  obtain ⟨y, hy, hyb⟩ := hdiv
  have hcs : c * 2 ^ (8 * r) < 2 ^ (8 * r + 8) := by
    rw [Nat.pow_add, Nat.mul_comm]; exact Nat.mul_lt_mul_of_pos_left hc (Nat.two_pow_pos _)
  have hlt : x + c * 2 ^ (8 * r) < 4294967296 := by omega
  refine ⟨by omega, ?_, hlt, ?_, ?_⟩
  · rw [hy, Nat.or_comm, or_add hcs]
  · have h1 := val_set os q (x + c * 2 ^ (8 * r)) hq
    rw [hx, hv, he] at h1
    have h2 : Bs ^ q * (x + c * 2 ^ (8 * r)) = Bs ^ q * x + Bs ^ q * (c * 2 ^ (8 * r)) := Nat.mul_add ..
    have h3 : 256 ^ (4 * q + r) * (256 * V + c) = Bs ^ q * (256 ^ (r + 1) * V) + Bs ^ q * (c * 2 ^ (8 * r)) := by
      rw [pow256, Nat.mul_assoc, Nat.mul_add, Nat.mul_add]
      congr 1
      · rw [Nat.pow_succ, Nat.mul_assoc]
      · rw [Nat.mul_comm c, Nat.pow_mul]
    omega
  · intro z hz
    rcases List.mem_or_eq_of_mem_set hz with h | h
    · exact hb z h
    · subst h; exact hlt
theorem byte_next (a k : Nat) : 256 * (a / 256 ^ (k + 1)) + a / 256 ^ k % 256 = a / 256 ^ k := by
  rw [Nat.pow_succ, ← Nat.div_div_eq_div_mul]
  exact Nat.div_add_mod _ _
theorem byte_of_limb (a q r : Nat) (hr : r < 4) : a / Bs ^ q % Bs / 2 ^ (8 * r) % 256 = a / 256 ^ (4 * q + r) % 256 := by
  rw [pow256, ← Nat.div_div_eq_div_mul]
  generalize a / Bs ^ q = D
  unfold Bs
  match r, hr with
  | 0, _ => simp <;> omega
  | 1, _ => simp <;> omega
  | 2, _ => simp <;> omega
  | 3, _ => simp <;> omega
theorem lim_bytes (a : Nat) : ((bitsOf a + 7) / 8 + 3) / 4 = (lim a).length ∧ a < 256 ^ ((bitsOf a + 7) / 8) := by
  by_cases h : a = 0
  · subst h; simp [bitsOf, lim_zero]
  · obtain ⟨h0, h1, h2⟩ := bitsOf_spec h
    obtain ⟨h3, h4⟩ := lim_len h
    have h5 := lim_lt a
    have e1 : ∀ k, Bs ^ k = 2 ^ (32 * k) := fun k => by rw [Nat.pow_mul]
    have e2 : ∀ k, 256 ^ k = 2 ^ (8 * k) := fun k => by rw [Nat.pow_mul]
    rw [e1] at h3 h5
    have h6 : 32 * ((lim a).length - 1) < bitsOf a := (Nat.pow_lt_pow_iff_right (a := 2) (by decide)).1 (Nat.lt_of_le_of_lt h3 h2)
    have h7 : bitsOf a - 1 < 32 * (lim a).length := (Nat.pow_lt_pow_iff_right (a := 2) (by decide)).1 (Nat.lt_of_le_of_lt (by first | exact h1 | (have := h1; rwa [Nat.pow_sub_one] at this) | skip) h5)
    refine ⟨by omega, ?_⟩
    rw [e2]
    exact Nat.lt_of_lt_of_le h2 (Nat.pow_le_pow_right (by decide) (by omega))
end Go.Proofs.YtnkajjealkggdaaGreatDoor
end
section
/- Whole numbers of the library's: out of bytes. -/
namespace Go.Proofs.YtnkajjealkggdaaGreatDoor
open Go.RowKit
attribute [local go_sem] sz2 sz3 sz4 sz5 sz6 sz7 sz8
set_option maxHeartbeats 4000000
set_option maxRecDepth 100000
attribute [local irreducible] Calls
/-- Bytes that stand in a row of their own. -/
def ByAt (w : World) (g n : Nat) (l : List UInt8) : Prop := g < w.heap.size ∧ ∀ i, i < n → w.cell? ⟨g, i, none⟩ = some (.int .u8 ((l.getD i 0).toNat : Int))
theorem ByAt.ext {w w' : World} {g n : Nat} {l : List UInt8} (h : ByAt w g n l) (he : Ext w w') : ByAt w' g n l :=
  ⟨Nat.lt_of_lt_of_le h.1 he.size, fun i hi => (Below.cell (p := ⟨g, i, none⟩) he h.1).trans (h.2 i hi)⟩
end Go.Proofs.YtnkajjealkggdaaGreatDoor
end
section
/- Whole numbers of the library's: out of limbs. -/
namespace Go.Proofs.YtnkajjealkggdaaGreatDoor
open Go.RowKit
attribute [local go_sem] sz2 sz3 sz4 sz5 sz6 sz7 sz8
set_option maxHeartbeats 4000000
set_option maxRecDepth 100000
attribute [local irreducible] Calls
theorem bV_ofNat (x : Nat) : bV (UInt8.ofNat (x % 256)) = .int .u8 ((x : Int) % 256) := by
  simp [bV]
theorem ofNat_byte (x : Nat) : (UInt8.ofNat (x % 256)).toNat = x % 256 := by simp
theorem getD_set8 {l : List UInt8} {i j : Nat} {y : UInt8} (hi : i < l.length) : (l.set i y).getD j 0 = if i = j then y else l.getD j 0 := by
  rw [List.getD_eq_getElem?_getD, List.getD_eq_getElem?_getD, List.getElem?_set]
  by_cases h : i = j
  · subst h; simp [hi]
  · simp [h]
end Go.Proofs.YtnkajjealkggdaaGreatDoor
end
section
/- Fractions of the library's: above and below the line; bytes, limbs. -/
namespace Go.Proofs.YtnkajjealkggdaaGreatDoor
open Go.RowKit
attribute [local go_sem] sz2 sz3 sz4 sz5 sz6 sz7 sz8
set_option maxHeartbeats 4000000
set_option maxRecDepth 100000
attribute [local irreducible] Calls
/-- A whole number in a block of its own. -/
abbrev NPost (w : World) (z : Int) : Ending → World → Prop := fun e w' => ∃ (b : Nat) (B : Option Addr) (k l : Nat), e = .returned (.pointer (some ⟨b, 0, none⟩)) ∧ Hid (IntIs w' b 0 z B k l ∧ Fr w B) ∧ w.heap.size ≤ b ∧ Ext w w'
theorem int_room (w : World) : Room (w.alloc (Obj.cells #[.bool false, .slice none 0 0] 112)) w.heap.size 0 :=
  ⟨by simp, ⟨_, by simp [go_sem]; rfl⟩, ⟨_, by simp [go_sem]; rfl⟩, by simp [go_sem], by simp [go_sem]⟩
theorem bi_BitLen (b o : Nat) (z : Int) (A : Option Addr) (n c : Nat) (hn : n ≤ 1000000) (w : World) (hx : IntIs w b o z A n c) :
    Calls Tryz.prog 64 #[.pointer (some ⟨b, o, none⟩)] w fun e w' => e = .returned (.int .i64 (bitsOf z.natAbs : Nat)) ∧ Ext w w' := by
  have HX := Lib.hid hx
  have x1 := hx.words
  clear hx
  go_enter Tryz.func64, Tryz.ntmps64
  go_wp2_with (first
    | (go_at_call 113; (with_reducible refine (bw_bitLen A n c z.natAbs hn _ HX.out.rd).mono ?_); rintro e w2 ⟨rfl, xb2⟩)
   )
  refine bodyPost_ret (v := .int .i64 ↑(bitsOf z.natAbs)) ?h rfl ⟨rfl, xb2⟩
  case h => simp [results, Tryz.results64, go_sem]
end Go.Proofs.YtnkajjealkggdaaGreatDoor
end
section
/- Rows of limbs of a call's own, whole. -/
namespace Go.Proofs.YtnkajjealkggdaaGreatDoor
open Go.RowKit
theorem own_zero {w : World} {base : Nat} {e : TypeId} {size : Nat} {v : Value} {n : Nat} {xs : List Value} (h : w.ownsRow base e size v n xs) : w.ownsRow 0 e size v n xs := by
  obtain ⟨h1, h2⟩ := h
  refine ⟨h1, ?_⟩
  rcases h2 with h2 | ⟨g, cap, cur, rfl, _, h3⟩
  · exact .inl h2
  · exact .inr ⟨g, cap, cur, rfl, Nat.zero_le _, h3⟩
theorem own_still {w w' : World} {e : TypeId} {size : Nat} {A : Option Addr} {c m n : Nat} {xs : List Value} (h : w.ownsRow 0 e size (.slice A m c) n xs) (hb : ∀ a, A = some a → w'.heap[a.block]? = w.heap[a.block]?) : w'.ownsRow 0 e size (.slice A m c) n xs := by
  obtain ⟨h1, h2⟩ := h
  refine ⟨h1, ?_⟩
  rcases h2 with h2 | ⟨g, cap, cur, he, h0, h3, h4⟩
  · exact .inl h2
  · refine .inr ⟨g, cap, cur, he, h0, ?_, h4⟩
    have := hb ⟨g, 0, none⟩ (by simp only [Value.slice.injEq] at he; exact he.1)
    exact this.trans h3
theorem own_lt {w : World} {e : TypeId} {size : Nat} {A : Option Addr} {c m n : Nat} {xs : List Value} (h : w.ownsRow 0 e size (.slice A m c) n xs) {a : Addr} (ha : A = some a) : a.block < w.heap.size := by
  subst ha
  exact (h.lt a.block rfl).2
/-- A slice that reads as these limbs, whose row is nobody else's; its block is none of Z's. -/
structure RdO (w : World) (A : Option Addr) (n c : Nat) (xs : List Nat) (Z : Option Addr) : Prop extends Rd w A n c xs where
  own : w.ownsRow 0 48 1 (.slice A n c) n (xs.map u32V)
  apt : ∀ a z, A = some a → Z = some z → a.block ≠ z.block
  full : c = n
instance rdoRd (w : World) (A : Option Addr) (n c : Nat) (xs : List Nat) (Z : Option Addr) : CoeOut (RdO w A n c xs Z) (Rd w A n c xs) := ⟨RdO.toRd⟩
theorem RdO.ext {w w' : World} {A : Option Addr} {n c : Nat} {xs : List Nat} {Z : Option Addr} (h : RdO w A n c xs Z) (he : Ext w w') : RdO w' A n c xs Z :=
  ⟨h.toRd.ext he, own_still h.own (fun a ha => he.block _ (own_lt h.own ha)), h.apt, h.full⟩
theorem RdO.set {w : World} {A : Option Addr} {n c : Nat} {xs : List Nat} {Z : Option Addr} (h : RdO w A n c xs Z) {p : Addr} (u : Value) (hne : ∀ a, A = some a → p.block < a.block) : RdO (w.setCell p u) A n c xs Z :=
  ⟨h.toRd.set u hne, own_still h.own (fun a ha => Go.Deep.blk_setCell_other w p u a.block (Nat.ne_of_gt (hne a ha))), h.apt, h.full⟩
theorem RdO.tch {b : Nat} {w w' : World} {A : Option Addr} {n c : Nat} {xs : List Nat} {Z : Option Addr} (h : RdO w A n c xs Z) (ht : Tch b w w') (ho : ∀ a, A = some a → a.block ≠ b) : RdO w' A n c xs Z :=
  ⟨h.toRd.tch ht (fun a ha _ => ho a ha), own_still h.own (fun a ha => ht.block _ (own_lt h.own ha) (ho a ha)), h.apt, h.full⟩
end Go.Proofs.YtnkajjealkggdaaGreatDoor
end
section
/- Whole numbers of the library's: told in bytes and in limbs. -/
namespace Go.Proofs.YtnkajjealkggdaaGreatDoor
open Go.RowKit
attribute [local go_sem] sz2 sz3 sz4 sz5 sz6 sz7 sz8
set_option maxHeartbeats 4000000
set_option maxRecDepth 100000
attribute [local irreducible] Calls
theorem bi_Bytes (b o : Nat) (z : Int) (A : Option Addr) (n c : Nat) (hn : n ≤ 1000000) (w : World) (hx : IntIs w b o z A n c) :
    Calls Tryz.prog 137 #[.pointer (some ⟨b, o, none⟩)] w fun e w' => ∃ g, e = .returned (.slice (some ⟨g, 0, none⟩) ((bitsOf z.natAbs + 7) / 8) ((bitsOf z.natAbs + 7) / 8)) ∧ Hid (ByAt w' g ((bitsOf z.natAbs + 7) / 8) (beB ((bitsOf z.natAbs + 7) / 8) z.natAbs)) ∧ w.heap.size ≤ g ∧ Ext w w' := by
  obtain ⟨a, ha⟩ : ∃ a, a = z.natAbs := ⟨_, rfl⟩
  obtain ⟨tb, htb⟩ : ∃ t, t = bitsOf a := ⟨_, rfl⟩
  obtain ⟨N, hN⟩ : ∃ N, N = (tb + 7) / 8 := ⟨_, rfl⟩
  have HX := Lib.hid hx
  have x1 := hx.words
  have lx := hx.room.lt
  have hbl : ∀ w', Ext w w' → Calls Tryz.prog 64 #[.pointer (some ⟨b, o, none⟩)] w' fun e w'' => e = .returned (.int .i64 (tb : Int)) ∧ Ext w' w'' := fun w' he => by
    have := bi_BitLen b o z A n c hn w' (HX.out.ext he); rwa [← ha, ← htb] at this
  have hR := Lib.hid hx.rd
  have hlen := hx.rd.len
  rw [← ha] at hR hlen ⊢
  have hlb := lim_bytes a
  rw [← htb, ← hN] at hlb
  rw [← htb, ← hN]
  have hNn : (N + 3) / 4 = n := by rw [← hlen]; exact hlb.1
  have hN2 : N ≤ 4 * n := by omega
  have eN : ((tb : Int) + 7) / 8 = (N : Int) := by omega
  have htb2 : tb ≤ 40000000 := by omega
  clear hx ha htb hN hlb hlen
  go_enter Tryz.func137, Tryz.ntmps137
  go_wp2_with (first
    | (go_at_call 64; (with_reducible refine (hbl _ (ext_refl _)).mono ?_); rintro e w0 ⟨rfl, xb0⟩)
    | (at_make; refine make_u8 rfl _ _ rfl _ _ _ _ N rfl rfl eN eN (by omega) ?_; intro w1 hx1 ho1; have hext1 := Lib.hid hx1; clear hx1)
   )
  have hE1 := Lib.hid (ext_trans xb0 hext1.out)
  have hg0 : w.heap.size ≤ w0.heap.size := ext_size xb0
  obtain ⟨g, hgg⟩ : ∃ g, g = w0.heap.size := ⟨_, rfl⟩
  rw [← hgg] at ho1 hg0 ⊢
  clear xb0 hext1 hgg
  go_loopw [13] (fun vi wr => ∃ (i : Nat) (l : List UInt8), i ≤ N ∧ vi = .int .i64 (i : Int) ∧ Hid (l.length = N ∧ ∀ p, p < i → (l.getD p 0).toNat = a / 256 ^ (N - 1 - p) % 256) ∧
      Hid (wr.ownsRow g 5 1 (.slice (some ⟨g, 0, none⟩) N N) N (l.map bV)) ∧ Hid (Ext w wr))
    (fun vi _ => N - (intOf vi).toNat)
  case atStart => exact ⟨0, List.replicate N 0, Nat.zero_le _, rfl, ⟨by simp, fun p h => by omega⟩, ho1.out, hE1.out⟩
  case round =>
    clear ho1 hE1
    obtain ⟨i, l, hi, rfl, hl, hown, hext⟩ := hrel
    by_cases h1 : i < N
    · obtain ⟨bx, ox, hXe⟩ : ∃ b off, A = some ⟨b, off, none⟩ := by
        rcases hR.out.shape with ⟨_, h, _⟩ | h
        · omega
        · exact h
      subst hXe
      obtain ⟨k, hk⟩ : ∃ k, k = N - 1 - i := ⟨_, rfl⟩
      obtain ⟨q, hq⟩ : ∃ q, q = k / 4 := ⟨_, rfl⟩
      obtain ⟨r, hr4⟩ : ∃ r, r = k % 4 := ⟨_, rfl⟩
      obtain ⟨s, hs⟩ : ∃ s, s = 8 * r := ⟨_, rfl⟩
      have hqn : q < n := by omega
      obtain ⟨x, hx, hxb, hcx1⟩ := (hR.out.ext hext.out).get q hqn
      have xw := (Below.cell (p := ⟨b, o + 1, none⟩) hext.out lx).trans x1
      have hgl : g < wr.heap.size := (hown.out.lt _ rfl).2
      obtain ⟨hc1, hf1⟩ := ownb_at hown.out i h1
      have e1 : (N : Int) - 1 - (i : Int) = (k : Int) := by omega
      have e2 : (k : Int) / 4 = (q : Int) := by omega
      have e3 : (k : Int) % 4 = (r : Int) := by omega
      have e4 : 8 * (r : Int) = (s : Int) := by omega
      have hs24 : s ≤ 24 := by omega
      have hxl : x = a / Bs ^ q % Bs := by rw [← limb_at]; exact hx.out.symm
      have hcc : x / 2 ^ s % 256 = a / 256 ^ k % 256 := by
        rw [hxl, hs, byte_of_limb _ _ _ (by omega), show 4 * q + r = k by omega]
      have HCC := Lib.hid hcc
      have HK := Lib.hid hk
      clear hcc hk hq hr4 hs hxl
      go_wp2
      case roundEnd =>
        have v1 : Value.int IntKind.u8 ((x : Int) / 2 ^ s % 256) = bV (UInt8.ofNat (x / 2 ^ s % 256)) := by rw [bV_ofNat]; simp
        rw [v1]
        refine ⟨⟨i + 1, l.set i (UInt8.ofNat (x / 2 ^ s % 256)), by omega, by simp, ⟨by simp [hl.out.1], fun p hp => ?_⟩, ?_, ?_⟩, ?_⟩
        · rw [getD_set8 (by rw [hl.out.1]; exact h1)]
          by_cases p1 : i = p
          · subst p1
            rw [if_pos rfl, ofNat_byte, HCC.out, HK.out]
          · rw [if_neg p1]
            exact hl.out.2 p (by omega)
        · exact ownb_set hown.out _ _
        · exact ext_setCell hext.out hg0 _
        · simp [intOf]; omega
    · obtain rfl : i = N := by omega
      have hby : Hid (ByAt wr g i (beB i a)) := by
        refine ⟨(hown.out.lt _ rfl).2, fun p hp => ?_⟩
        rw [(ownb_at hown.out p hp).1, hl.out.2 p hp, beB_getD hp]
      go_wp2
      refine bodyPost_ret (v := .slice (some ⟨g, 0, none⟩) i i) ?h rfl ⟨g, rfl, hby, hg0, hext.out⟩
      case h => simp [results, Tryz.results137, go_sem]
end Go.Proofs.YtnkajjealkggdaaGreatDoor
end
section
/- Words of the library's: times a word and a word more, in place; powers. -/
namespace Go.Proofs.YtnkajjealkggdaaGreatDoor
open Go.RowKit
attribute [local go_sem] sz2 sz3 sz4 sz5 sz6 sz7 sz8
set_option maxHeartbeats 4000000
set_option maxRecDepth 100000
/-- A row whose last limb is not nought stays so. -/
theorem small_len {x m cc : Nat} (hm : 0 < m) {os : List Nat} {k cy : Nat} (hk : os.length = k) (hb : Lb os) (hkx : (lim x).length = k) (hv : val os + Bs ^ k * cy = x * m + cc) (hcy : cy < Bs) :
    (cy = 0 → os = lim (x * m + cc)) ∧ (0 < cy → os ++ [cy] = lim (x * m + cc)) := by
  constructor
  · intro h
    subst h
    rw [Nat.mul_zero, Nat.add_zero] at hv
    rw [← hv]
    refine lim_of os hb ?_
    intro hne
    have h0 : x ≠ 0 := by
      intro e
      subst e
      rw [lim_zero] at hkx
      have h1 := List.length_pos_iff.2 hne
      simp at hkx
      omega
    have h1 := (lim_len h0).1
    have h2 : x * 1 ≤ x * m := Nat.mul_le_mul_left _ hm
    rw [hkx, ← hk] at h1
    omega
  · intro h
    have h1 : val (os ++ [cy]) = x * m + cc := by rw [val_snoc, hk]; exact hv
    rw [← h1]
    refine lim_of _ (lb_snoc.2 ⟨hb, hcy⟩) ?_
    intro _
    rw [List.length_append, val_snoc]
    simp only [List.length_singleton, Nat.add_sub_cancel]
    have : Bs ^ os.length * 1 ≤ Bs ^ os.length * cy := Nat.mul_le_mul_left _ h
    omega
attribute [local irreducible] Calls
theorem bw_mulSmall (W : World) (v : Value) (n x m cc : Nat) (hm : 0 < m) (hm2 : m < 4294967296) (hcc : cc < 4294967296) (hn : n ≤ 100000) (w : World) (hE : Ext W w) (hown : w.ownsRow W.heap.size 48 1 v n ((lim x).map u32V)) :
    Calls Tryz.prog 173 #[v, .int .u32 (m : Int), .int .u32 (cc : Int)] w fun e w' => ∃ (v' : Value) (n' : Nat), e = .returned v' ∧ Hid (w'.ownsRow W.heap.size 48 1 v' n' ((lim (x * m + cc)).map u32V)) ∧ n' ≤ n + 1 ∧ Ext W w' := by
  have hkx : (lim x).length = n := by have := hown.1; simpa using this
  obtain ⟨AO, cO, rfl, hRd⟩ := Rd.own hown (lb_lim x)
  have hcO := hRd.cap
  have hcOm := hRd.mx
  have HO := Lib.hid hown
  have HW := Lib.hid hE
  have HK := Lib.hid hkx
  clear hRd hown hE hkx
  go_enter Tryz.func173, Tryz.ntmps173
  go_wp2
  go_loopw [7, 8] (fun vc vi wr => ∃ (p cy : Nat) (os : List Nat), p ≤ n ∧ cy < 4294967296 ∧ vi = .int .i64 (p : Int) ∧ vc = .int .u64 (cy : Int) ∧ Hid (os.length = n ∧ Lb os ∧ os.drop p = (lim x).drop p ∧ val (os.take p) + Bs ^ p * cy = val ((lim x).take p) * m + cc) ∧
      Hid (wr.ownsRow W.heap.size 48 1 (.slice AO n cO) n (os.map u32V)) ∧ Hid (Ext W wr)) (fun _ vi _ => n - (intOf vi).toNat)
  case atStart => exact ⟨0, cc, lim x, Nat.zero_le _, hcc, rfl, rfl, ⟨HK.out, lb_lim x, rfl, by simp [val]⟩, HO.out, HW.out⟩
  case round =>
    clear HO HW
    obtain ⟨p, cy, os, hp, hcy, rfl, rfl, hos, hown, hext⟩ := hrel
    by_cases hpk : p < n
    · obtain ⟨g, hg⟩ : ∃ g, AO = some ⟨g, 0, none⟩ := by
        rcases hown.out.2 with ⟨_, h⟩ | ⟨g, cap', cur, h, _⟩
        · omega
        · simp only [Value.slice.injEq] at h
          exact ⟨g, h.1⟩
      subst hg
      have hlt := hown.out.lt g rfl
      obtain ⟨o, ho, hob⟩ : ∃ o : Nat, Hid ((lim x).getD p 0 = o) ∧ o < 4294967296 := ⟨_, rfl, lb_getD (lb_lim x) _⟩
      have ho2 : os.getD p 0 = o := by
        have h1 := congrArg (fun z : List Nat => z.getD 0 0) hos.out.2.2.1
        simp only [List.getD_eq_getElem?_getD, List.getElem?_drop, Nat.add_zero] at h1
        rw [List.getD_eq_getElem?_getD, h1, ← List.getD_eq_getElem?_getD]
        exact ho.out
      obtain ⟨hc1, hf1⟩ := own_at hown.out p hpk
      rw [ho2] at hc1
      obtain ⟨pr, hpr⟩ : ∃ pr, pr = o * m := ⟨_, rfl⟩
      have hprb : pr ≤ 18446744065119617025 := by
        rw [hpr]
        exact Nat.mul_le_mul (show o ≤ 4294967295 by omega) (show m ≤ 4294967295 by omega)
      have hpri : (o : Int) * (m : Int) = (pr : Int) := by rw [hpr]; exact (Int.natCast_mul _ _).symm
      have HPR := Lib.hid hpr
      have hlg := hlt.2
      clear hpr ho2 hlt
      go_wp2
      case roundEnd =>
        have hst := inpl_step (T := m) hos.out.1 HK.out hpk hos.out.2.2.1 hos.out.2.2.2 ho.out
        rw [← HPR.out] at hst
        refine ⟨⟨p + 1, (cy + pr) / 4294967296, os.set p ((cy + pr) % 4294967296), by omega, by omega, by simp, by go_num, ⟨by rw [List.length_set]; exact hos.out.1, lb_set hos.out.2.1 _ (Nat.mod_lt _ (by decide)), hst.1, hst.2⟩, ?_, ?_⟩, ?_⟩
        · have e : ((pr : Int) + (cy : Int)) % 4294967296 = (((cy + pr) % 4294967296 : Nat) : Int) := by omega
          show World.ownsRow _ _ _ _ _ _ _
          rw [e]
          exact own_set hown.out p _
        · exact ext_setCell hext.out ((hown.out.lt g rfl).1) _
        · simp [intOf]; omega
    · obtain rfl : p = n := by omega
      have hfin : Hid (val os + Bs ^ p * cy = x * m + cc) := Lib.hid (by
        have h1 := hos.out.2.2.2
        rw [take_ge (by rw [hos.out.1]; exact Nat.le_refl _), take_ge (by rw [HK.out]; exact Nat.le_refl _), val_lim] at h1
        exact h1)
      have hS := Lib.hid (small_len hm hos.out.1 hos.out.2.1 HK.out hfin.out hcy)
      clear hpk
      by_cases hc0 : 0 < cy
      · go_wp2_with (first
          | (at_builtin; refine push_u32 rfl _ _ rfl _ rfl hext.out hown.out rfl cy ⟨wr.heap.size, 0, none⟩ 1 rfl (by rw [World.cell?_alloc_at _ _ _ _ rfl]; simp [u32V]; try omega) (by omega) ?_)
          | go_in)
        all_goals
          intro v' w3 hx3 ho3
          have HX3 := Lib.hid hx3
          have HO3 := Lib.hid ho3
          clear hx3 ho3 hown hext
          go_wp2
          refine bodyPost_ret (v := v') ?h rfl ⟨_, p + 1, rfl, ?_, Nat.le_refl _, HX3.out⟩
          case h => simp [results, Tryz.results173, go_sem]
          rw [← hS.out.2 hc0, List.map_append]
          exact HO3
      · obtain rfl : cy = 0 := by omega
        go_wp2
        refine bodyPost_ret (v := .slice AO p cO) ?h rfl ⟨_, rfl, p, ?_, by omega, hext.out⟩
        case h => simp [results, Tryz.results173, go_sem]
        rw [← hS.out.1 (by simp)]
        exact hown
end Go.Proofs.YtnkajjealkggdaaGreatDoor
end
section
/- The program's whole numbers: small ones; powers. -/
namespace Go.Proofs.YtnkajjealkggdaaGreatDoor
open Go.RowKit
attribute [local go_sem] sz2 sz3 sz4 sz5 sz6 sz7 sz8
set_option maxHeartbeats 4000000
set_option maxRecDepth 100000
attribute [local irreducible] Calls
theorem and_one (r : Nat) (hr : r < 9223372036854775808) : bits BinOp.and IntKind.i64 (r : Int) 1 = ((r % 2 : Nat) : Int) := by
  have h1 : (BitVec.ofInt 64 (r : Int)).toNat = r := by rw [BitVec.ofInt_natCast, BitVec.toNat_ofNat]; exact Nat.mod_eq_of_lt (by omega)
  have h2 : (BitVec.ofInt 64 1).toNat = 1 := by decide
  show IntKind.i64.wrap ((BitVec.ofInt 64 (r : Int) &&& BitVec.ofInt 64 1).toNat : Int) = _
  rw [BitVec.toNat_and, h1, h2, Nat.and_one_is_mod, IntKind.wrap_i64]
  omega
/-- Three cells: two of the loop's and the answer's. -/
structure PC (w : World) (G6 G7 Gr : Nat) (v6 v7 vr : Value) : Prop where
  c6 : w.cell? ⟨G6, 0, none⟩ = some v6
  c7 : w.cell? ⟨G7, 0, none⟩ = some v7
  cr : w.cell? ⟨Gr, 0, none⟩ = some vr
  f6 : w.frozen? ⟨G6, 0, none⟩ = false
  f7 : w.frozen? ⟨G7, 0, none⟩ = false
  fr : w.frozen? ⟨Gr, 0, none⟩ = false
  l7 : G7 < w.heap.size
theorem PC.ext {w w' : World} {G6 G7 Gr : Nat} {v6 v7 vr : Value} (h : PC w G6 G7 Gr v6 v7 vr) (h6 : G6 < G7) (hr : Gr < G7) (he : Ext w w') : PC w' G6 G7 Gr v6 v7 vr :=
  ⟨(Below.cell (p := ⟨G6, 0, none⟩) he (Nat.lt_trans h6 h.l7)).trans h.c6, (Below.cell (p := ⟨G7, 0, none⟩) he h.l7).trans h.c7, (Below.cell (p := ⟨Gr, 0, none⟩) he (Nat.lt_trans hr h.l7)).trans h.cr,
   (Below.frozen (p := ⟨G6, 0, none⟩) he (Nat.lt_trans h6 h.l7)).trans h.f6, (Below.frozen (p := ⟨G7, 0, none⟩) he h.l7).trans h.f7, (Below.frozen (p := ⟨Gr, 0, none⟩) he (Nat.lt_trans hr h.l7)).trans h.fr, ext_lt he _ h.l7⟩
end Go.Proofs.YtnkajjealkggdaaGreatDoor
end
section
/- Words of the library's: powers. -/
namespace Go.Proofs.YtnkajjealkggdaaGreatDoor
open Go.RowKit
attribute [local go_sem] sz2 sz3 sz4 sz5 sz6 sz7 sz8
set_option maxHeartbeats 4000000
set_option maxRecDepth 100000
theorem pow_halves (b n i : Nat) : b ^ (n / 2 ^ i) = b ^ (n / 2 ^ (i + 1)) * b ^ (n / 2 ^ (i + 1)) * b ^ (n / 2 ^ i % 2) := by
  rw [← Nat.pow_add, ← Nat.pow_add]
  congr 1
  have e : n / 2 ^ (i + 1) = n / 2 ^ i / 2 := by rw [Nat.pow_succ, ← Nat.div_div_eq_div_mul]
  omega
theorem pow_part {b n i : Nat} (hb : 2 ≤ b) : b ^ (n / 2 ^ i) ≤ b ^ n := Nat.pow_le_pow_right (by omega) (Nat.div_le_self _ _)
theorem word_row (w : World) (x : Nat) (h0 : 0 < x) (hx : x < 4294967296) : Rd (w.alloc (Obj.cells #[.int .u32 (x : Int)] 48)) (some ⟨w.heap.size, 0, none⟩) 1 1 (lim x) := by
  have e : lim x = [x] := by rw [lim_pos (by omega), Nat.mod_eq_of_lt hx, Nat.div_eq_of_lt hx, lim_zero]
  rw [e]
  exact Rd.made w #[.int .u32 (x : Int)] 48 [x] (by intro y hy; simp at hy; rw [hy]; exact hx) (by simp [u32V]) (by simp) rfl (by simp)
theorem bit_i64 (n i : Nat) (h : n / 2 ^ i < 9223372036854775808) {d : Nat} (hd : n / 2 ^ i % 2 = d) : (bits BinOp.and IntKind.i64 ((n : Int) / 2 ^ i) 1 == 1) = decide (d = 1) := by
  have e : (n : Int) / 2 ^ i = ((n / 2 ^ i : Nat) : Int) := by rw [Int.natCast_ediv, Int.natCast_pow]; rfl
  rw [e, and_one _ h, hd]
  rcases (show d = 0 ∨ d = 1 by omega) with rfl | rfl <;> rfl
attribute [local irreducible] Calls
theorem bw_power (b n : Nat) (hb : 2 ≤ b) (hb2 : b < 4294967296) (hn : n < 9223372036854775808) (hl : (lim (b ^ n)).length ≤ 90000) (w : World) :
    Calls Tryz.prog 150 #[.int .i64 (b : Int), .int .i64 (n : Int)] w (WPost w (b ^ n)) := by
  have HL := Lib.hid hl
  clear hl
  go_enter Tryz.func150, Tryz.ntmps150
  go_wp2
  go_loopg [5, 6] 63 (fun j vo vi wr => ∃ (x : Nat) (A : Option Addr) (k c : Nat), j ≤ 63 ∧ vi = .int .i64 ((j : Int) - 1) ∧ vo = .slice A k c ∧ Hid (x = b ^ (n / 2 ^ j)) ∧ Hid (Rd wr A k c (lim x) ∧ Fr w A) ∧ Hid (Ext w wr))
  case atStart =>
    refine ⟨1, _, 1, 1, Nat.le_refl _, rfl, rfl, ?_, ⟨one_row w, fun a ha => by cases ha; exact Nat.le_refl _⟩, ext_alloc (ext_refl _) _⟩
    show 1 = b ^ (n / 2 ^ 63)
    rw [Nat.div_eq_of_lt (show n < 2 ^ 63 by omega)]; rfl
  case round =>
    obtain ⟨x, A, k, c, hj, rfl, rfl, hx, hR, hext⟩ := hrel
    by_cases h0 : 0 < gk
    · obtain ⟨i, rfl⟩ : ∃ i, gk = i + 1 := ⟨gk - 1, by omega⟩
      have e1 : ((i + 1 : Nat) : Int) - 1 = (i : Int) := by omega
      rw [e1]
      have hxp : 0 < x := by rw [hx.out]; exact Nat.pow_pos (by omega)
      have hkx : (lim x).length = k := hR.out.1.len
      have hk1 : 1 ≤ k := by
        rcases Nat.eq_zero_or_pos k with e | e
        · rw [e] at hkx; have := lim_nil.1 (List.eq_nil_of_length_eq_zero hkx); omega
        · exact e
      have hkb : k ≤ 90000 := by
        have h1 := lim_mono (pow_part (n := n) (i := i + 1) hb)
        rw [← hx.out, hkx] at h1
        exact Nat.le_trans h1 HL.out
      have hcap := hR.out.1.cap
      have hmx := hR.out.1.mx
      have hsq : ∀ w', Ext wr w' → Calls Tryz.prog 171 #[.slice A k c, .slice A k c] w' (WPost w' (x * x)) := fun w' he => bw_mul (k + k) A A k c k c x x rfl (by omega) w' (hR.out.1.ext he) (hR.out.1.ext he)
      have hbm : ∀ (A1 : Option Addr) (k1 c1 : Nat) (w1 : World), Ext wr w1 → Hid (Rd w1 A1 k1 c1 (lim (x * x))) → Calls Tryz.prog 171 #[.slice A1 k1 c1, .slice (some ⟨w1.heap.size, 0, none⟩) 1 1] (w1.alloc (Obj.cells #[.int .u32 (b : Int)] 48)) (WPost (w1.alloc (Obj.cells #[.int .u32 (b : Int)] 48)) (x * x * b)) := fun A1 k1 c1 w1 he h1 => by
        have hk1' : k1 ≤ 90000 := by
          have h2 := lim_mono (pow_part (n := n) (i := i) hb)
          have h3 : (lim (x * x)).length ≤ (lim (b ^ (n / 2 ^ i))).length := lim_mono (by
            rw [pow_halves, ← hx.out]
            exact Nat.le_mul_of_pos_right _ (Nat.pow_pos (by omega)))
          rw [h1.out.len] at h3
          have := HL.out
          omega
        exact bw_mul (k1 + 1) A1 _ k1 c1 1 1 (x * x) b rfl (by omega) _ (h1.out.ext (ext_alloc (ext_refl _) _)) (word_row w1 b (by omega) hb2)
      have hst : x * x * b ^ (n / 2 ^ i % 2) = b ^ (n / 2 ^ i) := by rw [hx.out]; exact (pow_halves b n i).symm
      have HST := Lib.hid hst
      have HSQ := Lib.hid hsq
      have hbit : n / 2 ^ i % 2 = 0 ∨ n / 2 ^ i % 2 = 1 := by omega
      have hsh : n / 2 ^ i < 9223372036854775808 := Nat.lt_of_le_of_lt (Nat.div_le_self _ _) hn
      clear hst hsq hxp
      by_cases hk2 : 1 < k
      · skip
        rcases hbit with hbit | hbit
        · have hb1 := bit_i64 n i hsh hbit
          simp at hb1
          go_wp2_with (first
            | (go_at_call 171; (with_reducible refine (HSQ.out _ (ext_refl _)).mono ?_); rintro e w1 ⟨A1, k1, c1, rfl, hR1, xb1⟩; obtain ⟨xc1, xf1, xl1, xz1⟩ := ext_use xb1; (try simp at xz1))
           )
          go_roundg i
          case rel => exact ⟨x * x, A1, k1, c1, by omega, rfl, rfl, by rw [← HST.out, hbit, Nat.pow_zero, Nat.mul_one]; exact rfl, ⟨hR1.out.1, hR1.out.2.mono hext.out⟩, ext_trans hext.out xb1⟩
          case measure => omega
        · have hb1 := bit_i64 n i hsh hbit
          simp at hb1
          go_wp2_with (first
            | (go_at_call 171; (with_reducible refine (HSQ.out _ (ext_refl _)).mono ?_); rintro e w1 ⟨A1, k1, c1, rfl, hR1, xb1⟩; obtain ⟨xc1, xf1, xl1, xz1⟩ := ext_use xb1; (try simp at xz1))
            | (go_at_call 171; (with_reducible refine (hbm A1 k1 c1 w1 xb1 (Lib.hid hR1.out.1)).mono ?_); rintro e w2 ⟨A2, k2, c2, rfl, hR2, xb2⟩; obtain ⟨xc2, xf2, xl2, xz2⟩ := ext_use xb2; (try simp at xz2))
           )
          go_roundg i
          case rel => exact ⟨x * x * b, A2, k2, c2, by omega, rfl, rfl, by rw [← HST.out, hbit, Nat.pow_one]; exact rfl, ⟨hR2.out.1, hR2.out.2.mono (ext_trans hext.out (ext_trans xb1 (ext_alloc (ext_refl _) _)))⟩, ext_trans hext.out (ext_trans xb1 (ext_trans (ext_alloc (ext_refl _) _) xb2))⟩
          case measure => omega
      · obtain rfl : k = 1 := by omega
        obtain ⟨bb, off, rfl⟩ : ∃ bb off, A = some ⟨bb, off, none⟩ := by
          rcases hR.out.1.shape with ⟨_, h, _⟩ | h
          · omega
          · exact h
        obtain ⟨y, hy, hyb, hc⟩ := hR.out.1.get 0 (by omega)
        have hxy : x = y := by
          have h1 := hy.out
          have h2 : x < Bs := by have := lim_lt x; rw [hkx, Nat.pow_one] at this; exact this
          have h3 : x ≠ 0 := by intro e; rw [e, lim_zero] at hkx; simp at hkx
          rw [lim_pos h3] at h1
          rw [← h1]
          exact (Nat.mod_eq_of_lt h2).symm
        subst hxy
        rw [Nat.add_zero] at hc
        have hx0 : 1 ≤ x := by
          rcases Nat.eq_zero_or_pos x with e | e
          · rw [e, lim_zero] at hkx; simp at hkx
          · exact e
        by_cases hx1 : 1 < x
        · skip
          rcases hbit with hbit | hbit
          · have hb1 := bit_i64 n i hsh hbit
            simp at hb1
            go_wp2_with (first
              | (go_at_call 171; (with_reducible refine (HSQ.out _ (ext_refl _)).mono ?_); rintro e w1 ⟨A1, k1, c1, rfl, hR1, xb1⟩; obtain ⟨xc1, xf1, xl1, xz1⟩ := ext_use xb1; (try simp at xz1))
             )
            go_roundg i
            case rel => exact ⟨x * x, A1, k1, c1, by omega, rfl, rfl, by rw [← HST.out, hbit, Nat.pow_zero, Nat.mul_one]; exact rfl, ⟨hR1.out.1, hR1.out.2.mono hext.out⟩, ext_trans hext.out xb1⟩
            case measure => omega
          · have hb1 := bit_i64 n i hsh hbit
            simp at hb1
            go_wp2_with (first
              | (go_at_call 171; (with_reducible refine (HSQ.out _ (ext_refl _)).mono ?_); rintro e w1 ⟨A1, k1, c1, rfl, hR1, xb1⟩; obtain ⟨xc1, xf1, xl1, xz1⟩ := ext_use xb1; (try simp at xz1))
              | (go_at_call 171; (with_reducible refine (hbm A1 k1 c1 w1 xb1 (Lib.hid hR1.out.1)).mono ?_); rintro e w2 ⟨A2, k2, c2, rfl, hR2, xb2⟩; obtain ⟨xc2, xf2, xl2, xz2⟩ := ext_use xb2; (try simp at xz2))
             )
            go_roundg i
            case rel => exact ⟨x * x * b, A2, k2, c2, by omega, rfl, rfl, by rw [← HST.out, hbit, Nat.pow_one]; exact rfl, ⟨hR2.out.1, hR2.out.2.mono (ext_trans hext.out (ext_trans xb1 (ext_alloc (ext_refl _) _)))⟩, ext_trans hext.out (ext_trans xb1 (ext_trans (ext_alloc (ext_refl _) _) xb2))⟩
            case measure => omega
        · obtain rfl : x = 1 := by omega
          have H1x : Hid (Rd wr (some ⟨bb, off, none⟩) 1 c (lim (1 * 1))) := Lib.hid hR.out.1
          rcases hbit with hbit | hbit
          · have hb1 := bit_i64 n i hsh hbit
            simp at hb1
            go_wp2
            go_roundg i
            case rel => exact ⟨1, _, 1, c, by omega, rfl, rfl, by rw [← HST.out, hbit, Nat.pow_zero]; exact rfl, hR, hext⟩
            case measure => omega
          · have hb1 := bit_i64 n i hsh hbit
            simp at hb1
            go_wp2_with (first
              | (go_at_call 171; (with_reducible refine (hbm _ 1 c wr (ext_refl _) H1x).mono ?_); rintro e w2 ⟨A2, k2, c2, rfl, hR2, xb2⟩; obtain ⟨xc2, xf2, xl2, xz2⟩ := ext_use xb2; (try simp at xz2))
             )
            go_roundg i
            case rel => exact ⟨1 * 1 * b, A2, k2, c2, by omega, rfl, rfl, by rw [← HST.out, hbit, Nat.pow_one]; exact rfl, ⟨hR2.out.1, hR2.out.2.mono (ext_trans hext.out (ext_trans (ext_refl _) (ext_alloc (ext_refl _) _)))⟩, ext_trans hext.out (ext_trans (ext_refl _) (ext_trans (ext_alloc (ext_refl _) _) xb2))⟩
            case measure => omega
    · obtain rfl : gk = 0 := by omega
      have hfin : x = b ^ n := by rw [hx.out, Nat.pow_zero, Nat.div_one]
      clear h0
      go_wp2
      refine bodyPost_ret (v := .slice A k c) ?h rfl ⟨A, k, c, rfl, ⟨by rw [← hfin]; exact hR.out.1, hR.out.2⟩, hext.out⟩
      case h => simp [results, Tryz.results150, go_sem]
end Go.Proofs.YtnkajjealkggdaaGreatDoor
end
section
/- Words of the library's: texts of digits are read. -/
namespace Go.Proofs.YtnkajjealkggdaaGreatDoor
open Go.RowKit
attribute [local go_sem] bs_size bs_extract bs_get bs_append bs_toList const_get
attribute [local go_sem] sz2 sz3 sz4 sz5 sz6 sz7 sz8
set_option maxHeartbeats 4000000
set_option maxRecDepth 100000
attribute [local irreducible] Calls
abbrev ReadPost (w : World) (v : Nat) : Ending → World → Prop := fun e w' => ∃ (A : Option Addr) (k c : Nat), e = .returned (.tuple #[.slice A k c, .bool true]) ∧ Hid (Rd w' A k c (lim v) ∧ Fr w A) ∧ Ext w w'
end Go.Proofs.YtnkajjealkggdaaGreatDoor
end
section
/- Fractions of the library's: the sign; told. -/
namespace Go.Proofs.YtnkajjealkggdaaGreatDoor
open Go.RowKit
attribute [local go_sem] sz2 sz3 sz4 sz5 sz6 sz7 sz8
set_option maxHeartbeats 4000000
set_option maxRecDepth 100000
attribute [local irreducible] Calls
theorem int_nil {w : World} {b o : Nat} {z : Int} {A : Option Addr} {n c : Nat} (h : IntIs w b o z A n c) : n = 0 ↔ z = 0 := by
  rw [← h.rd.len]
  constructor
  · intro e; have := lim_nil.1 (List.eq_nil_of_length_eq_zero e); omega
  · intro e; subst e; simp [lim_zero]
theorem bi_Sign (b o : Nat) (z : Int) (A : Option Addr) (n c : Nat) (w : World) (hx : IntIs w b o z A n c) :
    Calls Tryz.prog 97 #[.pointer (some ⟨b, o, none⟩)] w fun e w' => e = .returned (.int .i64 z.sign) ∧ Ext w w' := by
  have x0 := hx.neg
  have x1 := hx.words
  have hn := int_nil hx
  clear hx
  by_cases hz : z = 0
  · obtain rfl : n = 0 := hn.2 hz
    subst hz
    clear hn
    go_enter Tryz.func97, Tryz.ntmps97
    go_wp2
    refine bodyPost_ret (v := .int .i64 0) ?h rfl ⟨rfl, ext_refl _⟩
    case h => simp [results, Tryz.results97, go_sem]
  · have h1 : ((n : Int) == 0) = false := by rw [beq_eq_false_iff_ne]; omega
    clear hn
    by_cases hs : z < 0
    · have e1 : decide (z < 0) = true := decide_eq_true hs
      rw [e1] at x0
      have e2 : z.sign = -1 := Int.sign_eq_neg_one_of_neg hs
      clear hs e1 hz
      go_enter Tryz.func97, Tryz.ntmps97
      go_wp2
      refine bodyPost_ret (v := .int .i64 (-1)) ?h rfl ⟨by rw [e2], ext_refl _⟩
      case h => simp [results, Tryz.results97, go_sem]
    · have e1 : decide (z < 0) = false := decide_eq_false hs
      rw [e1] at x0
      have e2 : z.sign = 1 := Int.sign_eq_one_of_pos (by omega)
      clear hs e1 hz
      go_enter Tryz.func97, Tryz.ntmps97
      go_wp2
      refine bodyPost_ret (v := .int .i64 1) ?h rfl ⟨by rw [e2], ext_refl _⟩
      case h => simp [results, Tryz.results97, go_sem]
end Go.Proofs.YtnkajjealkggdaaGreatDoor
end
section
/- The program's fractions: made. -/
namespace Go.Proofs.YtnkajjealkggdaaGreatDoor
open Go.RowKit
attribute [local go_sem] sz2 sz3 sz4 sz5 sz6 sz7 sz8
set_option maxHeartbeats 4000000
set_option maxRecDepth 100000
attribute [local irreducible] Calls
theorem IntIs.lenNat {w : World} {b o a : Nat} {B : Option Addr} {k l : Nat} (h : IntIs w b o ((a : Nat) : Int) B k l) : (lim a).length = k := by have := h.rd.len; rwa [Int.natAbs_natCast] at this
end Go.Proofs.YtnkajjealkggdaaGreatDoor
end
section
/- Fractions of the library's: products. -/
namespace Go.Proofs.YtnkajjealkggdaaGreatDoor
open Go.RowKit
attribute [local go_sem] sz2 sz3 sz4 sz5 sz6 sz7 sz8
set_option maxHeartbeats 4000000
set_option maxRecDepth 100000
attribute [local irreducible] Calls
theorem bw_mulA (A B : Option Addr) (n c m d a b : Nat) (hs : n + m ≤ 200000) (w : World) (hA : Rd w A n c (lim a)) (hB : Rd w B m d (lim b)) : Calls Tryz.prog 171 #[.slice A n c, .slice B m d] w (WPost w (a * b)) := bw_mul (n + m) A B n c m d a b rfl hs w hA hB
end Go.Proofs.YtnkajjealkggdaaGreatDoor
end
section
/- Words of the library's: short numbers are told in tens. -/
namespace Go.Proofs.YtnkajjealkggdaaGreatDoor
open Go.RowKit
attribute [local go_sem] bs_size bs_extract bs_get bs_append bs_toList const_get
attribute [local go_sem] sz2 sz3 sz4 sz5 sz6 sz7 sz8
set_option maxHeartbeats 8000000
set_option maxRecDepth 100000
theorem own_pre {w : World} {base : Nat} {e : TypeId} {g n cap : Nat} {xs : List Value} (h : w.ownsRow base e 1 (.slice (some ⟨g, 0, none⟩) n cap) n xs) {k : Nat} (hk : k ≤ n) : w.ownsRow base e 1 (.slice (some ⟨g, 0, none⟩) k cap) k (xs.take k) := by
  obtain ⟨h1, h2⟩ := h
  refine ⟨by rw [List.length_take]; omega, ?_⟩
  rcases h2 with ⟨h3, _⟩ | ⟨g', cap', cur, h3, h4, h5, h6, h7, h8, h9⟩
  · cases h3
  · simp only [Value.slice.injEq, Option.some.injEq, Addr.mk.injEq] at h3
    obtain ⟨⟨rfl, _⟩, _, rfl⟩ := h3
    refine .inr ⟨g, cap, cur, rfl, h4, h5, by omega, h7, h8, ?_⟩
    rw [← h9, List.take_take, Nat.mul_one, Nat.mul_one, Nat.min_eq_left hk]
theorem own_base {w : World} {base b2 : Nat} {e : TypeId} {s : Nat} {v : Value} {n : Nat} {xs : List Value} (h : w.ownsRow base e s v n xs) (hb : b2 ≤ base) : w.ownsRow b2 e s v n xs := by
  obtain ⟨h1, h2⟩ := h
  refine ⟨h1, ?_⟩
  rcases h2 with h3 | ⟨g', cap', cur, h3, h4, h5⟩
  · exact .inl h3
  · exact .inr ⟨g', cap', cur, h3, by omega, h5⟩
theorem own_only {w w' : World} {base : Nat} {e : TypeId} {s : Nat} {v : Value} {n : Nat} {xs : List Value} (h : w.ownsRow base e s v n xs) {row : Option Nat} (hg : w.grownBy w' row) (hne : ∀ b, v.ownBlock = some b → row ≠ some b) : w'.ownsRow base e s v n xs := by
  have hl := h.lt
  obtain ⟨h1, h2⟩ := h
  refine ⟨h1, ?_⟩
  rcases h2 with h3 | ⟨g', cap', cur, h3, h4, h5, h6⟩
  · exact .inl h3
  · refine .inr ⟨g', cap', cur, h3, h4, ?_, h6⟩
    have hb : v.ownBlock = some g' := by rw [h3]; rfl
    rw [hg.block g' (hl g' hb).2 (fun e => hne g' hb e.symm)]
    exact h5
theorem own_form {w : World} {base : Nat} {e : TypeId} {v : Value} {n : Nat} {xs : List Value} (h : w.ownsRow base e 1 v n xs) : (v = .slice none 0 0 ∧ n = 0) ∨ ∃ g c, v = .slice (some ⟨g, 0, none⟩) n c ∧ n ≤ c ∧ c ≤ 9223372036854775807 ∧ base ≤ g ∧ g < w.heap.size := by
  have hl := h.lt
  obtain ⟨h1, h2⟩ := h
  rcases h2 with h3 | ⟨g', cap', cur, h3, h4, h5, h6, h7, h8⟩
  · exact .inl h3
  · exact .inr ⟨g', cap', h3, h6, h7, h4, (hl g' (by rw [h3]; rfl)).2⟩
theorem own_size {w : World} {base : Nat} {e : TypeId} {v : Value} {n : Nat} {xs : List Value} (h : w.ownsRow base e 1 v n xs) (hn : 0 < n) : base + 1 ≤ w.heap.size := by
  rcases own_form h with ⟨_, h0⟩ | ⟨g, c, _, _, _, h1, h2⟩ <;> omega
/-- A byte more in a row of one's own; another row stays. -/
theorem push_u8o {ops : Array Oper} {rest : List Oper} {o : Oper} {a : Act} {Q : Exit → Act → World → Prop} {w : World} (hgd : o.guard = none) (s x : Operand)
    (ho : o.op = .call { callee := .builtin .append, args := #[s, x], argTypes := #[23, 23] })
    {W : World} {w0 : World} (ob : Obj) (hw : w = w0.alloc ob) (hW : Ext W w0) {base : Nat} (hbase : W.heap.size ≤ base) (hsz0 : base ≤ w0.heap.size) {v : Value} {n : Nat} {xs : List UInt8} (hown : w0.ownsRow base 5 1 v n (xs.map bV)) (hs : a.eval s = v)
    (y : UInt8) (ad : Addr) (c : Nat) (hx : a.eval x = .slice (some ad) 1 c) (hnew : w.cell? ad = some (bV y)) (hn : n ≤ 1000000000)
    {b2 : Nat} {e2 : TypeId} {s2 : Nat} {v2 : Value} {n2 : Nat} {xs2 : List Value} (h2 : w0.ownsRow b2 e2 s2 v2 n2 xs2) (hap : ∀ b, v2.ownBlock = some b → b < base)
    (h : ∀ v' w', Ext W w' → Hid (w'.ownsRow base 5 1 v' (n + 1) ((xs ++ [y]).map bV)) → Hid (w'.ownsRow b2 e2 s2 v2 n2 xs2) → wpList Tryz.prog ops Q rest (a.put o.dst v') w') : wpList Tryz.prog ops Q (o :: rest) a w := by
  obtain ⟨i, hi, hz, hsz, hby⟩ := info_parts u8_info
  subst hw
  have hlt := hown.lt
  refine wpList_append_own _ hgd s x _ ho base 5 i _ 1 1 u8_under hi hz hsz hby rfl (by decide) v n _ hs (hown.alloc _) ad 1 c [bV y] hx rfl ?_ ?_ ?_ ?_ ?_ ?_
  · intro j u hj
    match j, hj with
    | 0, hj => simp at hj; subst hj; simpa [Addr.add] using hnew
  · intro u hu; simp at hu; subst hu; rfl
  · unfold maxLen; omega
  · omega
  · simp; omega
  · intro v' w' ho' hg _
    refine h v' w' (ext_grown (ext_alloc hW _) (hown.alloc _) hbase hg) ?_ ?_
    · show World.ownsRow _ _ _ _ _ _ _
      simpa using ho'
    · refine Lib.hid (own_only (h2.alloc _) hg fun b hb e => ?_)
      have h3 := hap b hb
      have h4 := hlt b e
      omega
attribute [local irreducible] Calls
theorem bw_copied_own (A : Option Addr) (n c : Nat) (xs : List Nat) (hn : n ≤ 1000000) (w : World) (hA : Rd w A n c xs) :
    Calls Tryz.prog 151 #[.slice A n c] w fun e w' => e = .returned (.slice (some ⟨w.heap.size, 0, none⟩) n n) ∧ Hid (w'.ownsRow w.heap.size 48 1 (.slice (some ⟨w.heap.size, 0, none⟩) n n) n (xs.map u32V)) ∧ Ext w w' := by
  have HA := Lib.hid hA
  have hlen := Lib.hid hA.len
  clear hA
  go_enter Tryz.func151, Tryz.ntmps151
  go_wp2_with (first
    | (at_make; refine make_u32 rfl _ _ rfl _ _ _ _ n rfl rfl (by simp) (by simp) (by omega) ?_; intro w1 hx1 ho1; have hext1 := Lib.hid hx1; clear hx1)
    | (with_reducible refine copy_u32 rfl (.tmp 7) (.tmp 8) rfl ho1.out (HA.out.ext hext1.out) rfl rfl (Nat.le_refl _) hext1.out (Nat.le_refl _) ?_; intro w2 hx2 ho2; have hext2 := Lib.hid hx2; clear hx2)
    | go_in)
  refine bodyPost_ret (v := .slice (some ⟨w.heap.size, 0, none⟩) n n) ?h rfl ⟨rfl, ?_, hext2.out⟩
  case h => simp [results, Tryz.results151, go_sem]
  have e : xs ++ (List.replicate n 0).drop n = xs := by simp
  rw [e] at ho2
  exact ho2
end Go.Proofs.YtnkajjealkggdaaGreatDoor
end
section
/- Words of the library's: numbers are told in tens. -/
namespace Go.Proofs.YtnkajjealkggdaaGreatDoor
open Go.RowKit
attribute [local go_sem] bs_size bs_extract bs_get bs_append bs_toList const_get
attribute [local go_sem] sz2 sz3 sz4 sz5 sz6 sz7 sz8
set_option maxHeartbeats 8000000
set_option maxRecDepth 100000
/-- A row of bytes behind another one. -/
theorem push_u8s {ops : Array Oper} {rest : List Oper} {o : Oper} {a : Act} {Q : Exit → Act → World → Prop} {w : World} (hgd : o.guard = none) (s x : Operand)
    (ho : o.op = .call { callee := .builtin .append, args := #[s, x], argTypes := #[23, 23] })
    {W : World} (hW : Ext W w) {base : Nat} (hbase : W.heap.size ≤ base) (hsz0 : base ≤ w.heap.size) {v : Value} {n : Nat} {xs : List UInt8} (hown : w.ownsRow base 5 1 v n (xs.map bV)) (hs : a.eval s = v)
    {b2 : Nat} {v2 : Value} {m : Nat} {ys : List UInt8} (h2 : w.ownsRow b2 5 1 v2 m (ys.map bV)) (hx : a.eval x = v2) (hm : 0 < m) (hn : n + m ≤ 1000000000)
    (h : ∀ v' w', Ext W w' → Hid (w'.ownsRow base 5 1 v' (n + m) ((xs ++ ys).map bV)) → wpList Tryz.prog ops Q rest (a.put o.dst v') w') : wpList Tryz.prog ops Q (o :: rest) a w := by
  obtain ⟨i, hi, hz, hsz, hby⟩ := info_parts u8_info
  rcases own_form h2 with ⟨_, h0⟩ | ⟨g, c, rfl, hc1, hc2, hg1, hg2⟩
  · omega
  have hyl : ys.length = m := by have := h2.1; simpa using this
  refine wpList_append_own _ hgd s x _ ho base 5 i _ 1 1 u8_under hi hz hsz hby rfl (by decide) v n _ hs hown ⟨g, 0, none⟩ m c (ys.map bV) hx (by simpa using hyl) ?_ ?_ ?_ ?_ hsz0 ?_
  · intro j u hj
    have hj' : j < m := by
      have := (List.getElem?_eq_some_iff.1 hj).1
      simp at this; omega
    have h3 := (ownb_at h2 j hj').1
    have e : Addr.add ⟨g, 0, none⟩ j = ⟨g, j, none⟩ := by unfold Addr.add; split <;> simp_all
    rw [e, h3]
    rw [List.getElem?_map] at hj
    rw [List.getD_eq_getElem?_getD]
    cases hq : ys[j]? with
    | none => rw [hq] at hj; cases hj
    | some z => rw [hq] at hj; simp at hj; subst hj; rfl
  · intro u hu
    obtain ⟨z, _, rfl⟩ := List.mem_map.1 hu
    rfl
  · unfold maxLen; omega
  · omega
  · intro v' w' ho' hg _
    refine h v' w' (ext_grown hW hown hbase hg) ?_
    show World.ownsRow _ _ _ _ _ _ _
    simpa using ho'
attribute [local irreducible] Calls
abbrev TellPost (w : World) (l : List UInt8) : Ending → World → Prop := fun e w' => ∃ vv, e = .returned vv ∧ Hid (w'.ownsRow w.heap.size 5 1 vv l.length (l.map bV)) ∧ Ext w w'
end Go.Proofs.YtnkajjealkggdaaGreatDoor
end
section
/- Whole numbers of the library's: out of machine numbers; without a sign; products, differences. -/
namespace Go.Proofs.YtnkajjealkggdaaGreatDoor
open Go.RowKit
attribute [local go_sem] sz2 sz3 sz4 sz5 sz6 sz7 sz8
set_option maxHeartbeats 4000000
set_option maxRecDepth 100000
attribute [local irreducible] Calls
attribute [local go_sem] Oper.detAt detUpon relUpon
theorem bi_SetInt64 (b o : Nat) (x : Int) (h1 : -9223372036854775808 ≤ x) (h2 : x ≤ 9223372036854775807) (w : World) (hr : Room w b o) :
    Calls Tryz.prog 112 #[.pointer (some ⟨b, o, none⟩), .int .i64 x] w (IPost w b o x) := by
  have HR := Lib.hid hr
  have hlt := hr.lt
  clear hr
  by_cases h0 : x < 0
  · obtain ⟨n, rfl⟩ : ∃ n : Nat, x = -(n : Int) := ⟨x.natAbs, by omega⟩
    have hn : n < 18446744073709551616 := by omega
    have h0' : -(n : Int) < 0 := h0
    have hF : ∀ w', Calls Tryz.prog 147 #[.int .u64 (IntKind.u64.wrap (-IntKind.u64.wrap (-(n : Int))))] w' fun e w'' => ∃ (A : Option Addr) (k c : Nat), e = .returned (.slice A k c) ∧ Hid (Rd w'' A k c (lim n) ∧ Fr w' A) ∧ Ext w' w'' := fun w' => by
      have e1 : IntKind.u64.wrap (-IntKind.u64.wrap (-(n : Int))) = (n : Int) := by rw [IntKind.wrap_u64, IntKind.wrap_u64]; omega
      rw [e1]
      exact bw_fromUint n hn w'
    have hsg : Hid (sgn true n = -(n : Int)) := Lib.hid rfl
    go_enter Tryz.func112, Tryz.ntmps112
    go_wp2_with (first
      | (go_at_call 147; (with_reducible refine (hF _).mono ?_); rintro e w1 ⟨A1, k1, c1, rfl, hR1, xb1⟩; obtain ⟨xc1, xf1, xl1, xz1⟩ := ext_use xb1; (try simp at xz1))
      | (go_at_call 109; (with_reducible refine (bi_set b o true A1 k1 c1 n _ (HR.out.ext xb1) hR1.out.1 (hR1.out.2.off hlt k1)).mono ?_); rintro e w3 ⟨rfl, hI3, xt3⟩)
     )
    refine bodyPost_ret (v := .pointer (some ⟨b, o, none⟩)) ?h rfl ⟨rfl, A1, k1, c1, ⟨by have := hI3.out; rwa [hsg.out] at this, hR1.out.2⟩, (Tch.of xb1).trans xt3⟩
    case h => simp [results, Tryz.results112, go_sem]
  · obtain ⟨n, rfl⟩ : ∃ n : Nat, x = (n : Int) := ⟨x.natAbs, by omega⟩
    have hF : ∀ w', Calls Tryz.prog 147 #[.int .u64 (n : Int)] w' fun e w'' => ∃ (A : Option Addr) (k c : Nat), e = .returned (.slice A k c) ∧ Hid (Rd w'' A k c (lim n) ∧ Fr w' A) ∧ Ext w' w'' := fun w' => bw_fromUint n (by omega) w'
    have hsg : Hid (sgn false n = (n : Int)) := Lib.hid rfl
    go_enter Tryz.func112, Tryz.ntmps112
    go_wp2_with (first
      | (go_at_call 147; (with_reducible refine (hF _).mono ?_); rintro e w1 ⟨A1, k1, c1, rfl, hR1, xb1⟩; obtain ⟨xc1, xf1, xl1, xz1⟩ := ext_use xb1; (try simp at xz1))
      | (go_at_call 109; (with_reducible refine (bi_set b o false A1 k1 c1 n _ (HR.out.ext xb1) hR1.out.1 (hR1.out.2.off hlt k1)).mono ?_); rintro e w3 ⟨rfl, hI3, xt3⟩)
     )
    refine bodyPost_ret (v := .pointer (some ⟨b, o, none⟩)) ?h rfl ⟨rfl, A1, k1, c1, ⟨by have := hI3.out; rwa [hsg.out] at this, hR1.out.2⟩, (Tch.of xb1).trans xt3⟩
    case h => simp [results, Tryz.results112, go_sem]
theorem bi_NewInt (x : Int) (h1 : -9223372036854775808 ≤ x) (h2 : x ≤ 9223372036854775807) (w : World) :
    Calls Tryz.prog 63 #[.int .i64 x] w (NPost w x) := by
  have hrm := Lib.hid (int_room w)
  go_enter Tryz.func63, Tryz.ntmps63
  go_wp2_with (first
    | (go_at_call 112; (with_reducible refine (bi_SetInt64 w.heap.size 0 x h1 h2 _ hrm.out).mono ?_); rintro e w3 ⟨rfl, A3, n3, c3, hI3, xt3⟩)
   )
  have hEE := Lib.hid (xt3.ext (ext_alloc (ext_refl w) _) (Nat.le_refl _))
  refine bodyPost_ret (v := .pointer (some ⟨w.heap.size, 0, none⟩)) ?h rfl ⟨_, A3, n3, c3, rfl, ⟨hI3.out.1, Fr.mono hI3.out.2 (ext_alloc (ext_refl w) _)⟩, Nat.le_refl _, hEE.out⟩
  case h => simp [results, Tryz.results63, go_sem]
end Go.Proofs.YtnkajjealkggdaaGreatDoor
end
section
/- Fractions of the library's: a product in lowest terms. -/
namespace Go.Proofs.YtnkajjealkggdaaGreatDoor
open Go.RowKit
attribute [local go_sem] sz2 sz3 sz4 sz5 sz6 sz7 sz8
set_option maxHeartbeats 4000000
set_option maxRecDepth 100000
attribute [local irreducible] Calls
attribute [local go_sem] D2.Oper.detAt D2.detUpon D2.relUpon
namespace D2
theorem stays_word (N v : Nat) : Stays (RWord N v) := fun _ _ _ _ ⟨A, k, c, h1, h2, h3⟩ he => ⟨A, k, c, h1, h2.ext he, h3⟩
theorem fresh_row {w w' : World} {A : Option Addr} {k c : Nat} : Fresh w (.slice A k c) w' := fun b hb => by simp [blk] at hb
theorem rel_wpost {f : FuncId} {args : Array Value} {N v : Nat} {vals : List Value} {w : World} (hN : N ≤ w.heap.size) (h : Calls Tryz.prog f args w (WPost w v)) :
    Calls Tryz.prog f args w fun e w' => ∃ u, e = .returned u ∧ Ext w w' ∧ Fresh w u w' ∧ RWord N v vals u w' :=
  h.mono fun _ _ ⟨B, k, l, h1, h2, h3⟩ => ⟨_, h1, h3, fresh_row, B, k, l, rfl, h2.out.1, fun a ha => Nat.le_trans hN (h2.out.2 a ha)⟩
end D2
end Go.Proofs.YtnkajjealkggdaaGreatDoor
end
section
/- Whole numbers of the library's: out of texts. -/
namespace Go.Proofs.YtnkajjealkggdaaGreatDoor
open Go.RowKit
attribute [local go_sem] bs_size bs_extract bs_get bs_append bs_toList const_get
attribute [local go_sem] sz2 sz3 sz4 sz5 sz6 sz7 sz8
set_option maxHeartbeats 4000000
set_option maxRecDepth 100000
attribute [local irreducible] Calls
abbrev StrPost (w : World) (b : Nat) (z : Int) : Ending → World → Prop := fun e w' => e = .returned (.tuple #[.pointer (some ⟨b, 0, none⟩), .bool true]) ∧ ∃ (A : Option Addr) (n c : Nat), Hid (IntIs w' b 0 z A n c ∧ Fr w A) ∧ Tch b w w'
end Go.Proofs.YtnkajjealkggdaaGreatDoor
end
section
/- The program's numbers: bits, shifts down. -/
namespace Go.Proofs.YtnkajjealkggdaaGreatDoor
open Go.RowKit
attribute [local go_sem] sz2 sz3 sz4 sz5 sz6 sz7 sz8
set_option maxHeartbeats 4000000
set_option maxRecDepth 100000
attribute [local irreducible] Calls
theorem and_one32 (r : Nat) (hr : r < 4294967296) : bits BinOp.and IntKind.u32 (r : Int) 1 = ((r % 2 : Nat) : Int) := by
  have h1 : (BitVec.ofInt 32 (r : Int)).toNat = r := by rw [BitVec.ofInt_natCast, BitVec.toNat_ofNat]; exact Nat.mod_eq_of_lt (by omega)
  have h2 : (BitVec.ofInt 32 1).toNat = 1 := by decide
  show IntKind.u32.wrap ((BitVec.ofInt 32 (r : Int) &&& BitVec.ofInt 32 1).toNat : Int) = _
  rw [BitVec.toNat_and, h1, h2, Nat.and_one_is_mod, IntKind.wrap_u32]
  omega
end Go.Proofs.YtnkajjealkggdaaGreatDoor
end
