/- Lemmas of this proof, laid together: BigH, BigJ, NtH, TwBigH, TwBigJ. -/
import Derived.Test.YtchchnohmmncfaaGreatDoorMg10
import Derived.Test.YtchchnohmmncfaaGreatDoorMg11
import Derived.Test.YtchchnohmmncfaaGreatDoorMg01
import Derived.Deep.DeepCutAuto
import Derived.Deep.RegionWith
import Derived.Deep.LoopGhost
import Derived.Test.YtchchnohmmncfaaGreatDoorMg12
import Derived.Deep.CutRange
set_option linter.unusedSimpArgs false
set_option linter.unusedVariables false
section
/- Words of the library's: shifts. -/
namespace Go.Proofs.YtchchnohmmncfaaGreatDoor
open Go.RowKit
attribute [local go_sem] sz2 sz3 sz4 sz5 sz6 sz7 sz8
set_option maxHeartbeats 4000000
set_option maxRecDepth 100000
attribute [local irreducible] Calls
theorem or_add {q c s : Nat} (h : c < 2 ^ s) : c ||| 2 ^ s * q = 2 ^ s * q + c := by rw [Nat.two_pow_add_eq_or_of_lt h, Nat.or_comm]
theorem pow_s {s : Nat} (h : s < 32) : 2 ^ s * 2 ^ (32 - s) = 4294967296 ∧ 0 < 2 ^ s ∧ 2 ^ s ≤ 2147483648 := by
  refine ⟨by rw [← Nat.pow_add, show s + (32 - s) = 32 by omega], Nat.two_pow_pos s, ?_⟩
  exact Nat.pow_le_pow_right (by decide) (show s ≤ 31 by omega)
theorem shl_wrap {x s : Nat} (hx : x < 4294967296) (hs : s < 32) : IntKind.u64.wrap ((x : Int) * 2 ^ s) = ((2 ^ s * x : Nat) : Int) ∧ 2 ^ s * x < 9223372036854775808 ∧ 2 ^ s * x / 4294967296 < 2 ^ s := by
  obtain ⟨h1, h2, h3⟩ := pow_s hs
  have h4 : 2 ^ s * x ≤ 2147483648 * 4294967295 := Nat.mul_le_mul h3 (by omega)
  have e : (x : Int) * 2 ^ s = ((2 ^ s * x : Nat) : Int) := by rw [Nat.mul_comm]; simp
  refine ⟨?_, by omega, ?_⟩
  · rw [e, IntKind.wrap_u64]; omega
  · rw [Nat.div_lt_iff_lt_mul (by decide)]
    exact Nat.mul_lt_mul_of_pos_left (by omega) h2
theorem or_low {x s cy : Nat} (hs : s < 32) (hc : cy < 2 ^ s) : bits .or .u32 (cy : Int) (((2 ^ s * x : Nat) : Int) % 4294967296) = ((2 ^ s * x % 4294967296 + cy : Nat) : Int) ∧ 2 ^ s * x % 4294967296 + cy < 4294967296 := by
  obtain ⟨h1, h2, h3⟩ := pow_s hs
  have e : 2 ^ s * x % 4294967296 = 2 ^ s * (x % 2 ^ (32 - s)) := by rw [← h1, Nat.mul_mod_mul_left]
  have hlt : 2 ^ s * (x % 2 ^ (32 - s)) + cy < 4294967296 := by
    have h5 : x % 2 ^ (32 - s) + 1 ≤ 2 ^ (32 - s) := Nat.mod_lt _ (Nat.two_pow_pos _)
    have h6 := Nat.mul_le_mul_left (2 ^ s) h5
    rw [h1, Nat.mul_add, Nat.mul_one] at h6
    omega
  have e2 : (((2 ^ s * x : Nat) : Int) % 4294967296) = ((2 ^ s * x % 4294967296 : Nat) : Int) := by omega
  rw [e2, bits_or32 _ _ (by omega) (by omega), e, or_add hc]
  exact ⟨rfl, hlt⟩
theorem up_step {os : List Nat} {N i k s x cy V : Nat} (hs : s < 32) (hl : os.length = N) (hN : i + k + 1 < N) (hb : Lb os) (hc : os.getD (i + k) 0 = cy) (hcs : cy < 2 ^ s) (hz : ∀ p, i + k < p → os.getD p 0 = 0) (hx : x < 4294967296) (hv : val os = Bs ^ k * (2 ^ s * V)) :
    Lb ((os.set (i + k) (2 ^ s * x % 4294967296 + cy)).set (i + k + 1) (2 ^ s * x / 4294967296)) ∧ val ((os.set (i + k) (2 ^ s * x % 4294967296 + cy)).set (i + k + 1) (2 ^ s * x / 4294967296)) = Bs ^ k * (2 ^ s * (V + Bs ^ i * x)) := by
  have hw := shl_wrap hx hs
  have ho := (or_low (x := x) hs hcs).2
  have hp := pow_s hs
  refine ⟨lb_set (lb_set hb _ ho) _ (by unfold Bs; omega), ?_⟩
  have h1 := val_set os (i + k) (2 ^ s * x % 4294967296 + cy) (by omega)
  have h2 := val_set (os.set (i + k) (2 ^ s * x % 4294967296 + cy)) (i + k + 1) (2 ^ s * x / 4294967296) (by rw [List.length_set]; omega)
  rw [hc] at h1
  rw [getD_set_ne (by omega), hz _ (by omega), Nat.mul_zero, Nat.add_zero] at h2
  rw [h2]
  have h3 : Bs ^ (i + k) * (2 ^ s * x % 4294967296 + cy) + Bs ^ (i + k + 1) * (2 ^ s * x / 4294967296) = Bs ^ (i + k) * (2 ^ s * x) + Bs ^ (i + k) * cy := by
    rw [Nat.pow_succ, Nat.mul_assoc, ← Nat.mul_add, ← Nat.mul_add]
    congr 1
    have := Nat.mod_add_div (2 ^ s * x) 4294967296
    unfold Bs
    omega
  have h4 : Bs ^ k * (2 ^ s * (V + Bs ^ i * x)) = Bs ^ k * (2 ^ s * V) + Bs ^ (i + k) * (2 ^ s * x) := by
    rw [Nat.mul_add, Nat.mul_add]
    congr 1
    rw [Nat.pow_add, Nat.mul_left_comm (2 ^ s), ← Nat.mul_assoc, Nat.mul_comm (Bs ^ k)]
  rw [h4]
  omega
theorem bw_up (A : Option Addr) (n c a : Nat) (z : Nat) (hn : n ≤ 500000) (hz : z ≤ 16000000) (w : World) (hA : Rd w A n c (lim a)) :
    Calls Tryz.prog 142 #[.slice A n c, .int .i64 (z : Int)] w (WPost w (a * 2 ^ z)) := by
  have hmx := hA.mx
  have hcx := hA.cap
  have HA := Lib.hid hA
  have hlx := Lib.hid hA.len
  have hlen := hA.len
  clear hA
  by_cases h0 : n = 0
  · subst h0
    have ha : a = 0 := lim_nil.1 (List.eq_nil_of_length_eq_zero hlen)
    subst ha
    clear hlen
    go_enter Tryz.func142, Tryz.ntmps142
    go_wp2
    refine bodyPost_ret (v := .slice none 0 0) ?h rfl ⟨none, 0, 0, rfl, ⟨by rw [Nat.zero_mul, lim_zero]; exact Rd.nil _, fun a h => by cases h⟩, ext_refl _⟩
    case h => simp [results, Tryz.results142, go_sem]
  · obtain ⟨bx, ox, hXe⟩ : ∃ b off, A = some ⟨b, off, none⟩ := by
      rcases HA.out.shape with ⟨_, h, _⟩ | h
      · omega
      · exact h
    subst hXe
    obtain ⟨k, hk⟩ : ∃ k, k = z / 32 := ⟨_, rfl⟩
    obtain ⟨s, hs⟩ : ∃ s, s = z % 32 := ⟨_, rfl⟩
    have hs32 : s < 32 := by omega
    have hk5 : k ≤ 500000 := by omega
    have hkz : z = 32 * k + s := by omega
    have e1 : (z : Int) / 32 = (k : Int) := by omega
    have e2 : (z : Int) % 32 = (s : Int) := by omega
    have HKZ := Lib.hid hkz
    clear hlen hk hs hkz
    go_enter Tryz.func142, Tryz.ntmps142
    go_wp2_with (first
      | (at_make; refine make_u32 rfl _ _ rfl _ _ _ _ (n + k + 1) rfl rfl (by simp) (by simp) (by omega) ?_; intro w1 hx1 ho1; have hext1 := Lib.hid hx1; clear hx1)
     )
    have hGl : w.heap.size < w1.heap.size := (ho1.out.lt w.heap.size rfl).2
    go_loopw [8] (fun vi wr => ∃ (i cy : Nat) (os : List Nat), i ≤ n ∧ vi = .int .i64 (i : Int) ∧ Hid (os.length = n + k + 1 ∧ Lb os ∧ val os = Bs ^ k * (2 ^ s * val ((lim a).take i)) ∧ (os.getD (i + k) 0 = cy ∧ cy < 2 ^ s) ∧ ∀ p, i + k < p → os.getD p 0 = 0) ∧
        Hid (wr.ownsRow w.heap.size 38 1 (.slice (some ⟨w.heap.size, 0, none⟩) (n + k + 1) (n + k + 1)) (n + k + 1) (os.map u32V)) ∧ Hid (Ext w wr))
      (fun vi _ => n - (intOf vi).toNat)
    case atStart => exact ⟨0, 0, List.replicate (n + k + 1) 0, Nat.zero_le _, rfl, ⟨by simp, lb_replicate _, by rw [val_replicate]; simp [val], ⟨getD_replicate0 _ _, Nat.two_pow_pos s⟩, fun p _ => getD_replicate0 _ _⟩, ho1.out, hext1.out⟩
    case round =>
      clear ho1 hext1
      obtain ⟨i, cy, os, hi, rfl, hos, hown, hext⟩ := hrel
      by_cases h1 : i < n
      · obtain ⟨x, hx, hxb, hcx1⟩ := (HA.out.ext hext.out).get i h1
        obtain ⟨hc1, hf1⟩ := own_at hown.out (i + k) (by omega)
        obtain ⟨hc2, hf2⟩ := own_at hown.out (i + k + 1) (by omega)
        rw [hos.out.2.2.2.1.1] at hc1
        rw [hos.out.2.2.2.2 (i + k + 1) (by omega)] at hc2
        obtain ⟨w1', w2', w3'⟩ := shl_wrap hxb hs32
        obtain ⟨o1, o2⟩ := or_low (x := x) hs32 hos.out.2.2.2.1.2
        have hu := up_step (V := val ((lim a).take i)) hs32 hos.out.1 (by omega) hos.out.2.1 hos.out.2.2.2.1.1 hos.out.2.2.2.1.2 hos.out.2.2.2.2 hxb hos.out.2.2.1
        have O1 := Lib.hid o1
        have O2 := Lib.hid w1'
        have O3 := Lib.hid (show 2 ^ s * x / 4294967296 < 4294967296 ∧ 2 ^ s * x / 4294967296 < 2 ^ s from ⟨by omega, w3'⟩)
        have HU := Lib.hid hu
        clear o1 o2 w1' w2' w3' hu
        go_wp2
        case roundEnd =>
          refine ⟨⟨i + 1, 2 ^ s * x / 4294967296, (os.set (i + k) (2 ^ s * x % 4294967296 + cy)).set (i + k + 1) (2 ^ s * x / 4294967296), by omega, by simp, ⟨by simp [hos.out.1], HU.out.1, ?_, ⟨?_, O3.out.2⟩, fun p hp => ?_⟩, ?_, ?_⟩, ?_⟩
          · rw [HU.out.2, val_take_succ, hx.out]
          · rw [show i + 1 + k = i + k + 1 by omega, List.getD_eq_getElem?_getD, List.getElem?_set_self (by rw [List.length_set, hos.out.1]; omega)]; rfl
          · rw [getD_set_ne (by omega), getD_set_ne (by omega)]; exact hos.out.2.2.2.2 p (by omega)
          · show World.ownsRow _ _ _ _ _ _ _
            rw [O2.out, O1.out, show ((2 ^ s * x : Nat) : Int) / 4294967296 % 4294967296 = ((2 ^ s * x / 4294967296 : Nat) : Int) by have := O3.out.1; omega]
            exact own_set (own_set hown.out _ _) _ _
          · exact ext_setCell (ext_setCell hext.out (Nat.le_refl _) _) (Nat.le_refl _) _
          · simp [intOf]; omega
      · obtain rfl : i = n := by omega
        have hv : val os = a * 2 ^ z := by
          rw [hos.out.2.2.1, take_ge (by rw [hlx.out]; exact Nat.le_refl _), val_lim, HKZ.out, Nat.pow_add, Nat.mul_comm a, Nat.pow_mul, ← Nat.mul_assoc]
        have hT := bw_trim_own hown.out hos.out.2.1 hv
        have hE := hext.out
        clear hv
        go_wp2_with (first
          | (go_at_call 143; (with_reducible refine hT.mono ?_); rintro e w' ⟨⟨j, rfl, hR⟩, rfl⟩)
         )
        refine bodyPost_ret (v := .slice (some ⟨w.heap.size, 0, none⟩) j (i + k + 1)) ?h rfl ⟨_, j, i + k + 1, rfl, ⟨hR.out, fun q hq => ?_⟩, hE⟩
        case h => simp [results, Tryz.results142, go_sem]
        cases hq; exact Nat.le_refl _
theorem or_shift' (r x : Nat) (hr : r < 4294967296) (hx : x < 4294967296) : bits BinOp.or IntKind.u64 (x : Int) ((r : Int) * 4294967296) = ((r * 4294967296 + x : Nat) : Int) := by
  rw [← or_shift r x hr hx]
  show IntKind.u64.wrap ((BitVec.ofInt 64 _ ||| BitVec.ofInt 64 _).toNat : Int) = IntKind.u64.wrap ((BitVec.ofInt 64 _ ||| BitVec.ofInt 64 _).toNat : Int)
  rw [BitVec.or_comm]
theorem limb_at (a j : Nat) : (lim a).getD j 0 = a / Bs ^ j % Bs := by
  have h := lim_drop j a
  have e : (lim a).getD j 0 = ((lim a).drop j).getD 0 0 := by rw [List.getD_eq_getElem?_getD, List.getD_eq_getElem?_getD, List.getElem?_drop, Nat.add_zero]
  rw [e, h]
  by_cases h0 : a / Bs ^ j = 0
  · rw [h0, lim_zero]; rfl
  · rw [lim_pos h0]; rfl
theorem div_limb_aux (T R s M : Nat) : (T + 2 ^ s * (R * M)) / 2 ^ s % M = T / 2 ^ s % M := by rw [Nat.add_mul_div_left _ _ (Nat.two_pow_pos s), Nat.add_mul_mod_self_right]
theorem div_limb {D s T : Nat} (hs : s < 32) (hT : T = D / Bs % Bs * 4294967296 + D % Bs) : T / 2 ^ s % 4294967296 = D / 2 ^ s % Bs := by
  obtain ⟨h1, h2, h3⟩ := pow_s hs
  have e : D = T + 2 ^ s * ((2 ^ (32 - s) * (D / Bs / Bs)) * Bs) := by
    have a1 := Nat.mod_add_div D Bs
    have a2 := Nat.mod_add_div (D / Bs) Bs
    have a3 : 2 ^ s * ((2 ^ (32 - s) * (D / Bs / Bs)) * Bs) = Bs * (Bs * (D / Bs / Bs)) := by
      rw [Nat.mul_comm _ Bs, Nat.mul_left_comm, ← Nat.mul_assoc (2 ^ s), h1]
    rw [a3]
    have a4 : Bs * (D / Bs) = Bs * (D / Bs % Bs) + Bs * (Bs * (D / Bs / Bs)) := by rw [← Nat.mul_add, a2]
    have a5 : D / Bs % Bs * 4294967296 = Bs * (D / Bs % Bs) := by rw [Nat.mul_comm]
    omega
  have h := div_limb_aux T (2 ^ (32 - s) * (D / Bs / Bs)) s Bs
  rw [← e] at h
  exact h.symm
theorem take_set_self {l : List Nat} {i y : Nat} : (l.set i y).take i = l.take i := by
  rw [List.take_set_of_le (Nat.le_refl _)]
theorem bw_down_core (A : Option Addr) (n c a : Nat) (z : Nat) (hn : n ≤ 500000) (hz : z ≤ 16000000) (w : World) (hA : Rd w A n c (lim a)) :
    Calls Tryz.prog 187 #[.slice A n c, .int .i64 (z : Int)] w fun e w' => ∃ (A : Option Addr) (k c : Nat), e = .returned (.slice A k c) ∧ Hid (Rd w' A k c (lim (a / 2 ^ z)) ∧ Fr w A ∧ ∀ q, A = some q → q.block < w'.heap.size) ∧ Ext w w' := by
  have hmx := hA.mx
  have hcx := hA.cap
  have HA := Lib.hid hA
  have hlx := Lib.hid hA.len
  clear hA
  obtain ⟨k, hk⟩ : ∃ k, k = z / 32 := ⟨_, rfl⟩
  obtain ⟨s, hs⟩ : ∃ s, s = z % 32 := ⟨_, rfl⟩
  have hs32 : s < 32 := by omega
  have hk5 : k ≤ 500000 := by omega
  have hkz : z = 32 * k + s := by omega
  have e1 : (z : Int) / 32 = (k : Int) := by omega
  have e2 : (z : Int) % 32 = (s : Int) := by omega
  have HKZ := Lib.hid hkz
  clear hk hs hkz
  have hpz : Hid (a / 2 ^ z = (a / Bs ^ k) / 2 ^ s) := by
    show _ = _
    rw [HKZ.out, Nat.pow_add, Nat.pow_mul, Nat.div_div_eq_div_mul]
  by_cases h0 : n ≤ k
  · have hv : Hid (a / 2 ^ z = 0) := by
      show _ = _
      rw [hpz.out, Nat.div_eq_of_lt (Nat.lt_of_lt_of_le (lim_lt a) (Nat.pow_le_pow_right (by decide) (by rw [hlx.out]; exact h0))), Nat.zero_div]
    go_enter Tryz.func187, Tryz.ntmps187
    go_wp2
    refine bodyPost_ret (v := .slice none 0 0) ?h rfl ⟨none, 0, 0, rfl, ⟨by rw [hv.out, lim_zero]; exact Rd.nil _, (fun a h => by cases h), (fun a h => by cases h)⟩, ext_refl _⟩
    case h => simp [results, Tryz.results187, go_sem]
  · obtain ⟨bx, ox, hXe⟩ : ∃ b off, A = some ⟨b, off, none⟩ := by
      rcases HA.out.shape with ⟨_, h, _⟩ | h
      · omega
      · exact h
    subst hXe
    obtain ⟨q, hq⟩ : ∃ q, n = k + q := ⟨n - k, by omega⟩
    subst hq
    have hq0 : 0 < q := by omega
    go_enter Tryz.func187, Tryz.ntmps187
    go_wp2_with (first
      | (at_make; refine make_u32 rfl _ _ rfl _ _ _ _ q rfl rfl (by omega) (by omega) (by omega) ?_; intro w1 hx1 ho1; have hext1 := Lib.hid hx1; clear hx1)
     )
    have hGl : w.heap.size < w1.heap.size := (ho1.out.lt w.heap.size rfl).2
    go_loopw [8] (fun vi wr => ∃ (i : Nat) (os : List Nat), i ≤ q ∧ vi = .int .i64 (i : Int) ∧ Hid (os.length = q ∧ Lb os ∧ val (os.take i) = (a / Bs ^ k / 2 ^ s) % Bs ^ i ∧ ∀ p, i ≤ p → os.getD p 0 = 0) ∧
        Hid (wr.ownsRow w.heap.size 38 1 (.slice (some ⟨w.heap.size, 0, none⟩) q q) q (os.map u32V)) ∧ Hid (Ext w wr))
      (fun vi _ => q - (intOf vi).toNat)
    case atStart => exact ⟨0, List.replicate q 0, Nat.zero_le _, rfl, ⟨by simp, lb_replicate _, by simp [val, Nat.mod_one], fun p _ => getD_replicate0 _ _⟩, ho1.out, hext1.out⟩
    case round =>
      clear ho1 hext1
      obtain ⟨i, os, hi, rfl, hos, hown, hext⟩ := hrel
      by_cases h1 : i < q
      · obtain ⟨x, hx, hxb, hcx1⟩ := (HA.out.ext hext.out).get (i + k) (by omega)
        obtain ⟨hc1, hf1⟩ := own_at hown.out i (by omega)
        have fin : ∀ (y : Nat) (v : Int), (lim a).getD (i + k + 1) 0 = y → v = (((y * 4294967296 + x) / 2 ^ s % 4294967296 : Nat) : Int) → ∃ (i' : Nat) (os' : List Nat), i' ≤ q ∧ Value.int IntKind.i64 ((i : Int) + 1) = .int .i64 (i' : Int) ∧ Hid (os'.length = q ∧ Lb os' ∧ val (os'.take i') = (a / Bs ^ k / 2 ^ s) % Bs ^ i' ∧ ∀ p, i' ≤ p → os'.getD p 0 = 0) ∧
            Hid ((wr.setCell ⟨w.heap.size, i, none⟩ (.int .u32 v)).ownsRow w.heap.size 38 1 (.slice (some ⟨w.heap.size, 0, none⟩) q q) q (os'.map u32V)) ∧ Hid (Ext w (wr.setCell ⟨w.heap.size, i, none⟩ (.int .u32 v))) := by
          rintro y v hy rfl
          refine ⟨i + 1, os.set i ((y * 4294967296 + x) / 2 ^ s % 4294967296), by omega, by simp, ⟨by simp [hos.out.1], lb_set hos.out.2.1 _ (Nat.mod_lt _ (by decide)), ?_, fun p hp => by rw [getD_set_ne (by omega)]; exact hos.out.2.2.2 p (by omega)⟩, own_set hown.out _ _, ext_setCell hext.out (Nat.le_refl _) _⟩
          have e1 : x = a / Bs ^ (i + k) % Bs := by rw [← hx.out]; exact limb_at _ _
          have e2 : y = a / Bs ^ (i + k) / Bs % Bs := by rw [← hy, limb_at, Nat.pow_succ, Nat.div_div_eq_div_mul]
          have e3 : a / Bs ^ k / 2 ^ s / Bs ^ i = a / Bs ^ (i + k) / 2 ^ s := by rw [Nat.div_div_eq_div_mul, Nat.div_div_eq_div_mul, Nat.div_div_eq_div_mul, Nat.pow_add, Nat.mul_comm (2 ^ s), ← Nat.mul_assoc, Nat.mul_comm (Bs ^ k)]
          have e4 := div_limb (D := a / Bs ^ (i + k)) (T := y * 4294967296 + x) hs32 (by rw [← e1, ← e2])
          have e5 : (os.set i ((y * 4294967296 + x) / 2 ^ s % 4294967296)).getD i 0 = (y * 4294967296 + x) / 2 ^ s % 4294967296 := by
            rw [List.getD_eq_getElem?_getD, List.getElem?_set_self (by rw [hos.out.1]; omega), Option.getD_some]
          rw [val_take_succ, take_set_self, hos.out.2.2.1, Nat.mod_pow_succ, e5, e4, e3]
        have HF := Lib.hid fin
        clear fin
        by_cases h2 : i + k + 1 < k + q
        · obtain ⟨y, hy, hyb, hcy1⟩ := (HA.out.ext hext.out).get (i + k + 1) (by omega)
          have O1 := Lib.hid (or_shift' y x hyb hxb)
          go_wp2
          case roundEnd =>
            refine ⟨HF.out y _ hy.out (by rw [O1.out]; simp), ?_⟩
            simp [intOf]; omega
        · have hy0 : (lim a).getD (i + k + 1) 0 = 0 := getD_ge (by rw [hlx.out]; omega)
          have HY := Lib.hid hy0
          clear hy0
          go_wp2
          case roundEnd =>
            refine ⟨HF.out 0 _ HY.out (by simp), ?_⟩
            simp [intOf]; omega
      · obtain rfl : i = q := by omega
        have hv : val os = a / 2 ^ z := by
          have h3 := hos.out.2.2.1
          rw [take_ge (by rw [hos.out.1]; exact Nat.le_refl _)] at h3
          rw [h3, hpz.out]
          refine Nat.mod_eq_of_lt (Nat.lt_of_le_of_lt (Nat.div_le_self _ _) ?_)
          rw [Nat.div_lt_iff_lt_mul (Nat.pow_pos (by decide)), ← Nat.pow_add]
          have := lim_lt a
          rw [hlx.out] at this
          rwa [Nat.add_comm i k]
        have hT := bw_trim_own hown.out hos.out.2.1 hv
        have hE := hext.out
        have hlt := (hown.out.lt w.heap.size rfl).2
        clear hv
        go_wp2_with (first
          | (go_at_call 143; (with_reducible refine hT.mono ?_); rintro e w' ⟨⟨j, rfl, hR⟩, rfl⟩)
         )
        refine bodyPost_ret (v := .slice (some ⟨w.heap.size, 0, none⟩) j i) ?h rfl ⟨_, j, i, rfl, ⟨hR.out, fun q hq => ?_, fun q hq => ?_⟩, hE⟩
        case h => simp [results, Tryz.results187, go_sem]
        · cases hq; exact Nat.le_refl _
        · cases hq; exact hlt
end Go.Proofs.YtchchnohmmncfaaGreatDoor
end
section
/- Words of the library's: one figure of a quotient. -/
namespace Go.Proofs.YtchchnohmmncfaaGreatDoor
open Go.RowKit
attribute [local go_sem] sz2 sz3 sz4 sz5 sz6 sz7 sz8
set_option maxHeartbeats 4000000
set_option maxRecDepth 100000
attribute [local irreducible] Calls
/-- A part of a row of the call's own, read. -/
theorem own_seg {w : World} {base g N : Nat} {os : List Nat} (h : Hid (w.ownsRow base 38 1 (.slice (some ⟨g, 0, none⟩) N N) N (os.map u32V))) (j p : Nat) (hp : j + p < N) : w.cell? ⟨g, j + p, none⟩ = some (.int .u32 ((os.getD (j + p) 0 : Nat) : Int)) ∧ w.frozen? ⟨g, j + p, none⟩ = false :=
  own_at h.out (j + p) hp
theorem ext_only {w w' : World} (h : Ext w w') (r : Option Nat) : w.grownBy w' r := ⟨h.os, h.tape, h.output, Below.size h, fun k hk _ => Below.block h k hk⟩
theorem and_low (a : Nat) (ha : a < 18446744073709551616) : bits BinOp.and IntKind.u64 (a : Int) 4294967295 = ((a % 4294967296 : Nat) : Int) := by
  have h1 : (BitVec.ofInt 64 (a : Int)).toNat = a := by
    rw [BitVec.ofInt_natCast, BitVec.toNat_ofNat]; exact Nat.mod_eq_of_lt (by omega)
  have h2 : (BitVec.ofInt 64 (4294967295 : Int)).toNat = 2 ^ 32 - 1 := by decide
  show IntKind.u64.wrap ((BitVec.ofInt 64 (a : Int) &&& BitVec.ofInt 64 (4294967295 : Int)).toNat : Int) = _
  rw [BitVec.toNat_and, h1, h2, Nat.and_two_pow_sub_one_eq_mod, IntKind.wrap_u64]
  omega
theorem borrow_u64 {x l bo : Nat} (hx : x < 4294967296) (hl : l < 4294967296) (hb : bo ≤ 1) :
    IntKind.u64.wrap (IntKind.u64.wrap ((x : Int) - (l : Int)) - (bo : Int)) % 4294967296 = (((x + 8589934592 - l - bo) % 4294967296 : Nat) : Int) ∧
    IntKind.u64.wrap (IntKind.u64.wrap ((x : Int) - (l : Int)) - (bo : Int)) / 9223372036854775808 = ((if x < l + bo then 1 else 0 : Nat) : Int) := by
  simp only [IntKind.wrap_u64]
  refine ⟨by omega, ?_⟩
  split <;> omega
theorem bw_figure (base g N j n cu : Nat) (os0 : List Nat) (B : Option Addr) (d V : Nat) (w : World) (hown : Hid (w.ownsRow base 38 1 (.slice (some ⟨g, 0, none⟩) N N) N (os0.map u32V))) (hlb : Lb os0) (hB : Rd w B n d (lim V)) (hap : ∀ a, B = some a → a.block ≠ g)
    (hn2 : 2 ≤ n) (hjn : j + n + 1 ≤ N) (hN : N ≤ 1000000) (hcu : n + 1 ≤ cu) (hcu2 : cu ≤ 9223372036854775807) (htop : 2147483648 ≤ (lim V).getD (n - 1) 0) (hW : seg os0 j (n + 1) < Bs * V) :
    Calls Tryz.prog 186 #[.slice (some ⟨g, j, none⟩) (n + 1) cu, .slice B n d] w fun e w' => ∃ os' : List Nat, e = .returned (.int .u32 ((seg os0 j (n + 1) / V : Nat) : Int)) ∧ Hid (w'.ownsRow base 38 1 (.slice (some ⟨g, 0, none⟩) N N) N (os'.map u32V)) ∧
      Hid (Lb os' ∧ seg os' j (n + 1) = seg os0 j (n + 1) % V ∧ ∀ p, p < j ∨ j + n + 1 ≤ p → os'.getD p 0 = os0.getD p 0) ∧ Hid (w.grownBy w' (some g)) := by
  have hmy := hB.mx
  have hcy := hB.cap
  have hgl : g < w.heap.size := (hown.out.lt g rfl).2
  have hol : os0.length = N := by have := hown.out.1; simpa using this
  obtain ⟨bv, ov, hBe⟩ : ∃ b off, B = some ⟨b, off, none⟩ := by
    rcases hB.shape with ⟨_, h, _⟩ | h
    · omega
    · exact h
  subst hBe
  have hbg : bv ≠ g := hap _ rfl
  have HB := Lib.hid hB
  have hly := Lib.hid hB.len
  have hap' : Hid (∀ a, some (⟨bv, ov, none⟩ : Addr) = some a → a.block ≠ g) := hap
  have HOL := Lib.hid (show os0.length = N ∧ Lb os0 from ⟨hol, hlb⟩)
  -- the highest words
  obtain ⟨top, ht, htb, hct⟩ := HB.out.get (n - 1) (by omega)
  obtain ⟨x2, hx2, hx2b, hcx2⟩ := HB.out.get (n - 2) (by omega)
  obtain ⟨un, hun⟩ : ∃ un, un = os0.getD (j + n) 0 := ⟨_, rfl⟩
  obtain ⟨u1, hu1⟩ : ∃ u1, u1 = os0.getD (j + (n - 1)) 0 := ⟨_, rfl⟩
  obtain ⟨u2, hu2⟩ : ∃ u2, u2 = os0.getD (j + (n - 2)) 0 := ⟨_, rfl⟩
  have hunb : un < 4294967296 := by rw [hun]; exact lb_getD hlb _
  have hu1b : u1 < 4294967296 := by rw [hu1]; exact lb_getD hlb _
  have hu2b : u2 < 4294967296 := by rw [hu2]; exact lb_getD hlb _
  obtain ⟨cn, fn⟩ := own_seg hown j n (by omega)
  obtain ⟨c1, f1⟩ := own_seg hown j (n - 1) (by omega)
  obtain ⟨c2, f2⟩ := own_seg hown j (n - 2) (by omega)
  rw [← hun] at cn
  rw [← hu1] at c1
  rw [← hu2] at c2
  rw [ht.out] at htop
  obtain ⟨W, hWW⟩ : ∃ W, W = seg os0 j (n + 1) := ⟨_, rfl⟩
  rw [← hWW] at hW ⊢
  -- the three highest of the one, the two highest of the other
  obtain ⟨Bn, hBn⟩ : ∃ Bn, Bn = Bs ^ (n - 2) := ⟨_, rfl⟩
  have hBp : 0 < Bn := by rw [hBn]; exact Nat.pow_pos (by decide)
  obtain ⟨Wr, hWr, hWe⟩ : ∃ Wr, Wr < Bn ∧ W = Wr + Bn * (u2 + 4294967296 * (u1 + 4294967296 * un)) := by
    refine ⟨seg os0 j (n - 2), by rw [hBn]; exact seg_lt hlb _ _, ?_⟩
    have e1 : seg os0 j (n + 1) = seg os0 j (n - 2) + Bs ^ (n - 2) * seg os0 (j + (n - 2)) 3 := by rw [← seg_split]; congr 1; omega
    have e2 : seg os0 (j + (n - 2)) 3 = u2 + 4294967296 * (u1 + 4294967296 * un) := by
      rw [show 3 = 0 + 1 + 1 + 1 by rfl, seg_succ, seg_succ, seg_succ, seg_zero, hu2, hu1, hun, show j + (n - 2) + 0 = j + (n - 2) by omega, show j + (n - 2) + (0 + 1) = j + (n - 1) by omega, show j + (n - 2) + (0 + 1 + 1) = j + n by omega]
      simp [Bs]; omega
    rw [hWW, e1, e2, hBn]
  obtain ⟨Vr, hVr, hVe⟩ : ∃ Vr, Vr < Bn ∧ V = Vr + Bn * (x2 + 4294967296 * top) := by
    have hl : (lim V).length = n := hB.len
    refine ⟨seg (lim V) 0 (n - 2), by rw [hBn]; exact seg_lt (lb_lim V) _ _, ?_⟩
    have e0 : V = seg (lim V) 0 n := by rw [seg_val _ hl, val_lim]
    have e1 : seg (lim V) 0 n = seg (lim V) 0 (n - 2) + Bs ^ (n - 2) * seg (lim V) (0 + (n - 2)) 2 := by rw [← seg_split]; congr 1; omega
    have e2 : seg (lim V) (0 + (n - 2)) 2 = x2 + 4294967296 * top := by
      rw [show 2 = 0 + 1 + 1 by rfl, seg_succ, seg_succ, seg_zero, show 0 + (n - 2) + 0 = n - 2 by omega, show 0 + (n - 2) + (0 + 1) = n - 1 by omega, hx2.out, ht.out]
      simp [Bs]
    rw [hBn, ← e2, ← e1, ← e0]
  have hV0 : 0 < V := by
    have : Bn * 1 ≤ Bn * (x2 + 4294967296 * top) := Nat.mul_le_mul_left _ (by omega)
    omega
  -- the quotient is a word
  obtain ⟨q, hq⟩ : ∃ q, q = W / V := ⟨_, rfl⟩
  have hqB : q < 4294967296 := by rw [hq, Nat.div_lt_iff_lt_mul hV0]; exact hW
  have hunt : un ≤ top := by
    rcases Nat.lt_or_ge top un with h | h
    · exfalso
      have h1 : Bn * (4294967296 * (4294967296 * un)) ≤ W := by rw [hWe]; have := Nat.mul_le_mul_left Bn (show 4294967296 * (4294967296 * un) ≤ u2 + 4294967296 * (u1 + 4294967296 * un) by omega); omega
      have h2 : V < Bn * (4294967296 * (top + 1)) := by
        have h3 := Nat.mul_le_mul_left Bn (show x2 + 4294967296 * top + 1 ≤ 4294967296 * (top + 1) by omega)
        rw [Nat.mul_succ] at h3; omega
      have h4 : Bn * (4294967296 * (top + 1)) ≤ Bn * (4294967296 * un) := Nat.mul_le_mul_left _ (by omega)
      have h5 : Bn * (4294967296 * (4294967296 * un)) = 4294967296 * (Bn * (4294967296 * un)) := by rw [← Nat.mul_assoc, Nat.mul_comm Bn, Nat.mul_assoc]
      have h6 : Bs * V = 4294967296 * V := rfl
      omega
    · exact h
  obtain ⟨num, hnum⟩ : ∃ num, num = un * 4294967296 + u1 := ⟨_, rfl⟩
  have hor : Hid (bits BinOp.or IntKind.u64 ((un : Int) * 4294967296) (u1 : Int) = (num : Int)) := by rw [hnum]; exact or_shift un u1 hunb hu1b
  have hnb : num < 18446744073709551616 := by omega
  have htop0 : ((top : Int) == 0) = false := by rw [beq_eq_false_iff_ne]; omega
  -- what a guess means
  have hlow : ∀ gu rest, num = gu * top + rest → rest * 4294967296 + u2 < gu * x2 → q < gu := fun gu rest h1 h2 => by
    rw [hq]
    refine knuth_lt (V' := top * 4294967296 + x2) (W' := num * 4294967296 + u2) (B := Bn) ?_ ?_ ((guess_iff h1).2 h2) hV0
    · rw [hVe, Nat.mul_comm _ Bn, show top * 4294967296 + x2 = x2 + 4294967296 * top by omega]; omega
    · rw [hWe, Nat.mul_comm _ Bn, hnum, Nat.mul_add Bn (_ + u2) 1, show (un * 4294967296 + u1) * 4294967296 + u2 = u2 + 4294967296 * (u1 + 4294967296 * un) by omega]; omega
  have hhigh : ∀ gu rest, num = gu * top + rest → gu < 4294967296 → gu * x2 ≤ rest * 4294967296 + u2 → gu ≤ q + 1 := fun gu rest h1 h2 h3 => by
    rw [hq]
    refine knuth_ge (V' := top * 4294967296 + x2) (W' := num * 4294967296 + u2) (B := Bn) ?_ ?_ (Nat.le_of_not_lt fun h4 => ?_) (by omega) hV0
    · rw [hVe, Nat.add_mul, Nat.one_mul, Nat.mul_comm _ Bn, show top * 4294967296 + x2 = x2 + 4294967296 * top by omega]; omega
    · rw [hWe, Nat.mul_comm _ Bn, hnum, show (un * 4294967296 + u1) * 4294967296 + u2 = u2 + 4294967296 * (u1 + 4294967296 * un) by omega]; omega
    · have := (guess_iff h1).1 h4; omega
  have HLOW := Lib.hid hlow
  have HHIGH := Lib.hid hhigh
  have HQ := Lib.hid (show q = W / V ∧ q < 4294967296 from ⟨hq, hqB⟩)
  have HWW := Lib.hid hWW
  have HUN := Lib.hid hun
  have HNB := Lib.hid (show num < 18446744073709551616 ∧ num < top * 4294967296 + 4294967296 from ⟨hnb, by omega⟩)
  have HV0 := Lib.hid hV0
  have HVT := Lib.hid (show V < Bs ^ n from by have := lim_lt V; rwa [hly.out] at this)
  have hgd : Hid (num = num / top * top + num % top) := by show _ = _; have := Nat.div_add_mod num top; rw [Nat.mul_comm] at this; exact this.symm
  have hgq : Hid (q ≤ num / top) := by
    show _ ≤ _
    refine Nat.le_of_lt_add_one ?_
    rw [hq, Nat.div_lt_iff_lt_mul hV0, hWe, hVe]
    have h1 : Bn * (u2 + 4294967296 * (u1 + 4294967296 * un)) + Bn ≤ (num / top + 1) * (Bn * (4294967296 * top)) := by
      have h2 : num < (num / top + 1) * top := by have := Nat.lt_div_mul_add (a := num) (b := top) (by omega); rw [Nat.add_mul, Nat.one_mul]; exact this
      have h3 : u2 + 4294967296 * (u1 + 4294967296 * un) + 1 ≤ 4294967296 * ((num / top + 1) * top) := by omega
      have h4 := Nat.mul_le_mul_left Bn h3
      rw [Nat.mul_succ] at h4
      have h5 : Bn * (4294967296 * ((num / top + 1) * top)) = (num / top + 1) * (Bn * (4294967296 * top)) := by
        rw [Nat.mul_left_comm (num / top + 1), Nat.mul_left_comm (num / top + 1)]
      omega
    have h6 : (num / top + 1) * (Bn * (4294967296 * top)) ≤ (num / top + 1) * (Vr + Bn * (x2 + 4294967296 * top)) := Nat.mul_le_mul_left _ (by rw [Nat.mul_add]; omega)
    omega
  have hdi : ((num : Int) / (top : Int)) = ((num / top : Nat) : Int) := by simp
  have hmi : ((num : Int) % (top : Int)) = ((num % top : Nat) : Int) := by simp
  have hd64 : num / top < 18446744073709551616 := Nat.lt_of_le_of_lt (Nat.div_le_self _ _) hnb
  have hm64 : num % top < 4294967296 := Nat.lt_of_lt_of_le (Nat.mod_lt _ (by omega)) (by omega)
  obtain ⟨G0, hG0⟩ : ∃ G0, G0 = num / top := ⟨_, rfl⟩
  obtain ⟨R0, hR0⟩ : ∃ R0, R0 = num % top := ⟨_, rfl⟩
  rw [← hG0] at hdi hd64 hgd hgq
  rw [← hR0] at hmi hm64 hgd
  have hor' := hor.out
  clear hlow hhigh hq hqB hWW hun hu1 hu2 hnb hV0 hWe hVe hWr hVr hBn hBp hnum hG0 hR0 hW hor hB hap hol hlb
  have HU2 := Lib.hid hu2b
  go_enter Tryz.func186, Tryz.ntmps186
  have hbvl : bv < w.heap.size := (HB.out.cells bv ov rfl 0 (by rw [hly.out]; omega)).1
  go_wp2
  go_quiet (fail)
  have hNQ := Lib.hid (show Ext w (w.drewN nq) from ext_drewN (ext_refl _) _)
  go_upto_region 5 with (fail)
  go_cut [8, 9] (fun vg vr wx => vg = .int .u64 (G0 : Int) ∧ vr = .int .u64 (R0 : Int) ∧ Hid (Ext w wx))
  case first =>
    go_wp2
    go_meet
    case rel => exact ⟨by first | rfl | rw [hdi], by first | rfl | rw [hmi], hNQ⟩
  case rest =>
    obtain ⟨rfl, rfl, hNQ⟩ := hcut
    rename ∀ (a : Act) (w : World), Code.wp _ _ _ a w → _ => hK5
    refine hK5 _ _ ?_
    clear hK5 hdi hmi hor' htop0
    refine wp_seq_k (fun K10 hK10 => ?_)
    go_cut [8] (fun vg wx => ∃ gu : Nat, vg = .int .u64 (gu : Int) ∧ gu < 4294967296 ∧ Hid (gu = q ∨ gu = q + 1) ∧ Hid (Ext w wx))
    case first =>
      go_wp2
      go_loopg [8, 9] G0 (fun gk vg vr wr => ∃ gu rest : Nat, gk = gu ∧ vg = .int .u64 (gu : Int) ∧ vr = .int .u64 (rest : Int) ∧ Hid (rest < 4294967296 ∧ gu < 18446744073709551616) ∧ Hid (num = gu * top + rest) ∧ Hid (q ≤ gu) ∧ Hid (Ext w wr))
      case atStart => exact ⟨G0, R0, rfl, rfl, rfl, ⟨hm64, hd64⟩, hgd, hgq, hNQ⟩
      case round =>
        obtain ⟨gu, rest, hgk, rfl, rfl, hbd, hnum, hqg, hext⟩ := hrel
        have HGK := Lib.hid hgk
        clear hgk
        obtain ⟨hr, hg64⟩ := hbd.out
        obtain ⟨xc, xf, -, -⟩ := ext_use hext.out
        have k2 := (xc g (j + (n - 2)) hgl).trans c2
        have kx := (xc bv (ov + (n - 2)) hbvl).trans hcx2
        clear xc xf
        have hdec : q < gu → Hid (num = (gu - 1) * top + (rest + top)) ∧ Hid (q ≤ gu - 1) := fun h => by
          refine ⟨?_, ?_⟩
          · show _ = _
            obtain ⟨g', rfl⟩ : ∃ g', gu = g' + 1 := ⟨gu - 1, by omega⟩
            have := hnum.out
            rw [Nat.add_mul, Nat.one_mul] at this
            simp; omega
          · show _ ≤ _; omega
        have hbrk : ∀ gu' rest', num = gu' * top + rest' → q ≤ gu' → 4294967296 ≤ rest' → gu' < 4294967296 ∧ Hid (gu' = q ∨ gu' = q + 1) := fun gu' rest' e1 e2 e3 => by
          have e4 : gu' < 4294967296 := by
            refine Nat.lt_of_not_le fun h => ?_
            have e5 : 4294967296 * top ≤ gu' * top := Nat.mul_le_mul_right _ h
            have := HNB.out.2
            omega
          refine ⟨e4, ?_⟩
          have e6 : gu' * x2 ≤ 4294967295 * 4294967295 := Nat.mul_le_mul (by omega) (by omega)
          have := HHIGH.out gu' rest' e1 e4 (by omega)
          show _ ∨ _
          omega
        have HBRK := Lib.hid hbrk
        have HDEC := Lib.hid hdec
        clear hbrk hdec
        by_cases h1 : 4294967296 ≤ gu
        · have hgt : q < gu := by have := HQ.out.2; omega
          obtain ⟨hd1, hd2⟩ := HDEC.out hgt
          have hg1 : 1 ≤ gu := by omega
          have h1' : (4294967296 : Int) ≤ gu := by omega
          clear hgt h1
          go_wp2
          go_quiet (fail)
          have hE := hext.out
          go_upto_region 9 with (fail)
          obtain ⟨gu2, hgu2⟩ : ∃ gu2, gu2 = gu - 1 := ⟨_, rfl⟩
          obtain ⟨r2, hr2⟩ : ∃ r2, r2 = rest + top := ⟨_, rfl⟩
          have e9 : (gu : Int) - 1 = (gu2 : Int) := by omega
          have e10 : (rest : Int) + top = (r2 : Int) := by omega
          rw [← hgu2, ← hr2] at hd1
          rw [← hgu2] at hd2
          have hg2 : gu2 < 18446744073709551616 ∧ gu2 < gu := by omega
          have hr2b : r2 < 8589934592 := by omega
          simp only [e9, e10]
          have HG2 := Lib.hid hg2
          clear e9 e10 hgu2 hr2 hg2 hg1 h1'
          by_cases h3 : 4294967296 ≤ r2
          · have h3' : (4294967296 : Int) ≤ (r2 : Int) := by omega
            obtain ⟨b1, b2⟩ := HBRK.out gu2 r2 hd1.out hd2.out h3
            clear h3
            go_wp2
            go_meet
            case rel => exact ⟨gu2, rfl, b1, b2, ext_drewN hE _⟩
          · have h3' : decide ((4294967296 : Int) ≤ (r2 : Int)) = false := decide_eq_false (by omega)
            have H4 := Lib.hid (show r2 < 4294967296 by omega)
            clear h3 hr2b HBRK HDEC
            go_wp2
            go_roundg gu2
            case measure => rw [HGK.out]; exact HG2.out.2
            case rel => exact ⟨gu2, r2, rfl, rfl, rfl, ⟨H4.out, HG2.out.1⟩, hd1, hd2, ext_drewN hE _⟩
        · obtain ⟨p, hp⟩ : ∃ p, p = gu * x2 := ⟨_, rfl⟩
          have hpb : p ≤ 18446744065119617025 := by rw [hp]; exact Nat.mul_le_mul (show gu ≤ 4294967295 by omega) (show x2 ≤ 4294967295 by omega)
          have hpi : (gu : Int) * (x2 : Int) = (p : Int) := by rw [hp]; exact (Int.natCast_mul _ _).symm
          have h1b : decide ((4294967296 : Int) ≤ (gu : Int)) = false := decide_eq_false (by omega)
          have H1 := Lib.hid (show gu < 4294967296 by omega)
          have hor2 := or_shift rest u2 hr hu2b
          obtain ⟨y, hy⟩ : ∃ y, y = rest * 4294967296 + u2 := ⟨_, rfl⟩
          rw [← hy] at hor2
          have HP := Lib.hid hp
          have HY := Lib.hid hy
          have HR := Lib.hid hr
          clear h1 hp hy
          by_cases h2 : y < p
          · have h2' : (y : Int) < (p : Int) := by omega
            have hgt : q < gu := HLOW.out gu rest hnum.out (by rw [← HY.out, ← HP.out]; exact h2)
            obtain ⟨hd1, hd2⟩ := HDEC.out hgt
            have hg1 : 1 ≤ gu := by omega
            have HG1 := Lib.hid hgt
            clear hgt h2
            go_wp2
            go_quiet (fail)
            have hE := hext.out
            go_upto_region 9 with (fail)
            obtain ⟨gu2, hgu2⟩ : ∃ gu2, gu2 = gu - 1 := ⟨_, rfl⟩
            obtain ⟨r2, hr2⟩ : ∃ r2, r2 = rest + top := ⟨_, rfl⟩
            have e9 : (gu : Int) - 1 = (gu2 : Int) := by omega
            have e10 : (rest : Int) + top = (r2 : Int) := by omega
            rw [← hgu2, ← hr2] at hd1
            rw [← hgu2] at hd2
            have hg2 : gu2 < 18446744073709551616 ∧ gu2 < gu := by omega
            have hr2b : r2 < 8589934592 := by omega
            simp only [e9, e10]
            have HG2 := Lib.hid hg2
            clear e9 e10 hgu2 hr2 hg2 hg1
            by_cases h3 : 4294967296 ≤ r2
            · have h3' : (4294967296 : Int) ≤ (r2 : Int) := by omega
              obtain ⟨b1, b2⟩ := HBRK.out gu2 r2 hd1.out hd2.out h3
              clear h3
              go_wp2
              go_meet
              case rel => exact ⟨gu2, rfl, b1, b2, ext_drewN hE _⟩
            · have h3' : decide ((4294967296 : Int) ≤ (r2 : Int)) = false := decide_eq_false (by omega)
              have H4 := Lib.hid (show r2 < 4294967296 by omega)
              clear h3 hr2b HBRK HDEC
              go_wp2
              go_roundg gu2
              case measure => rw [HGK.out]; exact HG2.out.2
              case rel => exact ⟨gu2, r2, rfl, rfl, rfl, ⟨H4.out, HG2.out.1⟩, hd1, hd2, ext_drewN hE _⟩
          · have h2' : (p : Int) ≤ (y : Int) := by omega
            have hle := HHIGH.out gu rest hnum.out H1.out (by rw [← HY.out, ← HP.out]; omega)
            have hfin : Hid (gu = q ∨ gu = q + 1) := by show _ ∨ _; have := hqg.out; omega
            have hE := hext.out
            clear h2 hle
            go_wp2
            go_quiet (fail)
            go_wp2
            go_meet
            case rel => exact ⟨gu, rfl, H1.out, hfin, ext_drewN hE _⟩
    case rest =>
      obtain ⟨gu, rfl, hgb, hgu, hext0⟩ := hcut
      have HGB := Lib.hid hgb
      have hown0 := Lib.hid (own_ext hown.out hext0.out)
      have hcE := hext0.out
      clear c1 f1 c2 f2 hct hcx2
      go_wp2
      go_loopw [10, 11, 12] (fun vc vb vi wr => ∃ (i cy bo : Nat) (os : List Nat), i ≤ n ∧ Hid (cy < 4294967296 ∧ bo ≤ 1) ∧ vi = .int .i64 (i : Int) ∧ vc = .int .u64 (cy : Int) ∧ vb = .int .u64 (bo : Int) ∧
          Hid (os.length = N ∧ Lb os ∧ seg os j i + gu * val ((lim V).take i) = seg os0 j i + Bs ^ i * (cy + bo) ∧ ∀ p, p < j ∨ j + i ≤ p → os.getD p 0 = os0.getD p 0) ∧
          Hid (wr.ownsRow base 38 1 (.slice (some ⟨g, 0, none⟩) N N) N (os.map u32V)) ∧ Hid (wc.grownBy wr (some g)))
        (fun _ _ vi _ => n - (intOf vi).toNat)
      case atStart => exact ⟨0, 0, 0, os0, Nat.zero_le _, ⟨by omega, by omega⟩, rfl, rfl, rfl, ⟨HOL.out.1, HOL.out.2, by simp [seg_zero, val], fun _ _ => rfl⟩, hown0.out, only_refl _ _⟩
      case round =>
        obtain ⟨i, cy, bo, os, hi, hcb, rfl, rfl, rfl, hos, hown1, hgr⟩ := hrel
        have hRB := rd_only (HB.out.ext hext0.out) hgr hap'.out
        by_cases h0 : i < n
        · obtain ⟨v, hv, hvb, hcv⟩ := hRB.get i h0
          obtain ⟨hcx, hfx⟩ := own_seg hown1 j i (by omega)
          obtain ⟨x, hx⟩ : ∃ x, x = os.getD (j + i) 0 := ⟨_, rfl⟩
          rw [← hx] at hcx
          have hxb : x < 4294967296 := by rw [hx]; exact lb_getD hos.out.2.1 _
          obtain ⟨hcb1, hcb2⟩ := hcb.out
          obtain ⟨pr, hpr⟩ : ∃ pr, pr = gu * v := ⟨_, rfl⟩
          have hprb : pr ≤ 18446744065119617025 := by rw [hpr]; exact Nat.mul_le_mul (show gu ≤ 4294967295 by omega) (show v ≤ 4294967295 by omega)
          have hpri : (gu : Int) * (v : Int) = (pr : Int) := by rw [hpr]; exact (Int.natCast_mul _ _).symm
          have HPR := Lib.hid hpr
          have HX := Lib.hid hx
          have hlow := and_low (pr + cy) (by omega)
          have hbu := borrow_u64 (l := (pr + cy) % 4294967296) hxb (Nat.mod_lt _ (by decide)) hcb2
          have hst := mulsub_step (os := os) (os0 := os0) (vs := lim V) (j := j) (g := gu) (by rw [hos.out.1]; omega) hgb hvb hcb1 hcb2 hxb hos.out.2.2.1 (by rw [hx]; exact (hos.out.2.2.2 _ (by omega)).symm) hv.out
          rw [← hpr] at hst
          have hc' : (pr + cy) / 4294967296 < 4294967296 := by omega
          have HLOW2 := Lib.hid hlow
          have HBU := Lib.hid hbu
          have HST := Lib.hid hst
          have HC' := Lib.hid hc'
          clear hpr hx hRB hlow hbu hst hc'
          go_wp2
          case roundEnd =>
            have e0 : (pr : Int) + cy = ((pr + cy : Nat) : Int) := by omega
            rw [e0, HLOW2.out, HBU.out.1, HBU.out.2]
            refine ⟨⟨i + 1, (pr + cy) / 4294967296, if x < (pr + cy) % 4294967296 + bo then 1 else 0, os.set (j + i) ((x + 8589934592 - (pr + cy) % 4294967296 - bo) % 4294967296), by omega, ⟨HC'.out, by split <;> omega⟩, by simp, by simp, rfl, ⟨by simp [hos.out.1], lb_set hos.out.2.1 _ (Nat.mod_lt _ (by decide)), HST.out, fun p hp => ?_⟩, own_set hown1.out _ _, hgr.out.trans (only_set _ _ _ _)⟩, ?_⟩
            · rw [getD_set_ne (by omega)]; exact hos.out.2.2.2 p (by omega)
            · simp [intOf]; omega
        · obtain rfl : i = n := by omega
          have hP : Hid ((gu = q → cy + bo = un ∧ seg os j i = W % V) ∧ (gu = q + 1 → cy + bo = un + 1 ∧ seg os j i + V = Bs ^ i + W % V)) := by
            have hT : W = seg os0 j i + Bs ^ i * un := by rw [HWW.out, HUN.out, seg_succ]
            have h3 := hos.out.2.2.1
            rw [take_ge (l := lim V) (by rw [hly.out]; exact Nat.le_refl _), val_lim] at h3
            exact figure_end HQ.out.1 HV0.out HVT.out hgu.out (seg_lt hos.out.2.1 _ _) hT h3
          obtain ⟨hcx, hfx⟩ := own_seg hown1 j i (by omega)
          have hun' : os.getD (j + i) 0 = un := by rw [HUN.out]; exact hos.out.2.2.2 _ (by omega)
          rw [hun'] at hcx
          obtain ⟨hcb1, hcb2⟩ := hcb.out
          have hE := hext0.out
          have HUN' := Lib.hid hun'
          clear hun' hRB h0
          rcases hgu.out with hg | hg
          · obtain ⟨k1, k2⟩ := hP.out.1 hg
            have e1 : IntKind.u64.wrap (IntKind.u64.wrap ((un : Int) - cy) - bo) = 0 := by simp only [IntKind.wrap_u64]; omega
            have K2 := Lib.hid k2
            have HG := Lib.hid hg
            clear k1 k2 hg
            go_wp2
            refine bodyPost_ret (v := .int .u32 ↑gu) ?h rfl ⟨os.set (j + i) 0, by rw [HG.out, HQ.out.1], own_set hown1.out _ _, ⟨lb_set hos.out.2.1 _ (by decide), ?_, fun p hp => ?_⟩, ((ext_only hE _).trans hgr.out).trans (only_set _ _ _ _)⟩
            case h => simp [results, Tryz.results186, go_sem]
            · rw [seg_set (by rw [hos.out.1]; omega), K2.out, Nat.mul_zero, Nat.add_zero]
            · rw [getD_set_ne (by omega)]; exact hos.out.2.2.2 p (by omega)
          · obtain ⟨k1, k2⟩ := hP.out.2 hg
            have e1 : IntKind.u64.wrap (IntKind.u64.wrap ((un : Int) - cy) - bo) = 18446744073709551615 := by simp only [IntKind.wrap_u64]; omega
            have K2 := Lib.hid k2
            have HG := Lib.hid hg
            clear k1 k2 hg
            go_wp2
            have hown2 := Lib.hid (own_set hown1.out (j + i) 4294967295)
            have hos1 := Lib.hid (show (os.set (j + i) 4294967295).length = N ∧ Lb (os.set (j + i) 4294967295) ∧ seg (os.set (j + i) 4294967295) j i + V = Bs ^ i + W % V ∧ (os.set (j + i) 4294967295).getD (j + i) 0 = 4294967295 ∧ ∀ p, p < j ∨ j + i + 1 ≤ p → (os.set (j + i) 4294967295).getD p 0 = os0.getD p 0 from
              ⟨by simp [hos.out.1], lb_set hos.out.2.1 _ (by decide), by rw [seg_congr (r := os) i (fun p hp => getD_set_ne (by omega))]; exact K2.out, by rw [List.getD_eq_getElem?_getD, List.getElem?_set_self (by rw [hos.out.1]; omega)]; rfl, fun p hp => by rw [getD_set_ne (by omega)]; exact hos.out.2.2.2 p (by omega)⟩)
            have hgr2 := Lib.hid (hgr.out.trans (only_set wr g (j + i) (.int .u32 4294967295)))
            generalize os.set (j + i) 4294967295 = os1 at hown2 hos1
            clear hos hown1 hcx hfx HUN' K2
            go_loopw [16, 17] (fun vc vi wr2 => ∃ (i2 c : Nat) (os2 : List Nat), i2 ≤ i ∧ Hid (c ≤ 1) ∧ vi = .int .i64 (i2 : Int) ∧ vc = .int .u64 (c : Int) ∧
                Hid (os2.length = N ∧ Lb os2 ∧ seg os2 j i2 + Bs ^ i2 * c = seg os1 j i2 + val ((lim V).take i2) ∧ ∀ p, p < j ∨ j + i2 ≤ p → os2.getD p 0 = os1.getD p 0) ∧
                Hid (wr2.ownsRow base 38 1 (.slice (some ⟨g, 0, none⟩) N N) N (os2.map u32V)) ∧ Hid (wc.grownBy wr2 (some g)))
              (fun _ vi _ => i - (intOf vi).toNat)
            case atStart => exact ⟨0, 0, os1, Nat.zero_le _, by show (0 : Nat) ≤ 1; omega, rfl, rfl, ⟨hos1.out.1, hos1.out.2.1, by simp [seg_zero, val], fun _ _ => rfl⟩, hown2.out, hgr2.out⟩
            case round =>
              clear hown2 hgr2
              obtain ⟨i2, c, os2, hi2, hc1, rfl, rfl, hos2, hown3, hgr3⟩ := hrel
              have hRB := rd_only (HB.out.ext hext0.out) hgr3 hap'.out
              have hc1' := hc1.out
              by_cases h0 : i2 < i
              · obtain ⟨v, hv, hvb, hcv⟩ := hRB.get i2 h0
                obtain ⟨hcx, hfx⟩ := own_seg hown3 j i2 (by omega)
                obtain ⟨x, hx⟩ : ∃ x, x = os2.getD (j + i2) 0 := ⟨_, rfl⟩
                rw [← hx] at hcx
                have hxb : x < 4294967296 := by rw [hx]; exact lb_getD hos2.out.2.1 _
                have hst := addback_step (os := os2) (os1 := os1) (vs := lim V) (j := j) (x := x) (v := v) (by rw [hos2.out.1]; omega) hos2.out.2.2.1 (by rw [hx]; exact (hos2.out.2.2.2 _ (by omega)).symm) hv.out
                have HST := Lib.hid hst
                clear hx hRB hst
                go_wp2
                go_quiet (fail)
                go_wp2
                case roundEnd =>
                  have e0 : (x : Int) + v + c = ((x + v + c : Nat) : Int) := by omega
                  rw [e0]
                  refine ⟨⟨i2 + 1, (x + v + c) / 4294967296, os2.set (j + i2) ((x + v + c) % 4294967296), by omega, (by show _ ≤ 1; omega), by simp, by simp, ⟨by simp [hos2.out.1], lb_set hos2.out.2.1 _ (Nat.mod_lt _ (by decide)), HST.out, fun p hp => by rw [getD_set_ne (by omega)]; exact hos2.out.2.2.2 p (by omega)⟩, ?_, (hgr3.out.trans (ext_only (ext_drewN (ext_refl _) _) _)).trans (only_set _ _ _ _)⟩, ?_⟩
                  · have := own_set (own_ext hown3.out (ext_drewN (ext_refl _) nq)) (j + i2) ((x + v + c) % 4294967296)
                    show World.ownsRow _ _ _ _ _ _ _
                    simpa using this
                  · simp [intOf]; omega
              · obtain rfl : i2 = i := by omega
                have h3 := hos2.out.2.2.1
                rw [take_ge (l := lim V) (by rw [hly.out]; exact Nat.le_refl _), val_lim, hos1.out.2.2.1] at h3
                have hsl := seg_lt hos2.out.2.1 j i2
                have hc1 : c = 1 := by
                  rcases Nat.eq_zero_or_pos c with h | h
                  · subst h; omega
                  · omega
                subst hc1
                have K3 := Lib.hid (show seg os2 j i2 = W % V by omega)
                obtain ⟨hcx, hfx⟩ := own_seg hown3 j i2 (by omega)
                have htp : os2.getD (j + i2) 0 = 4294967295 := (hos2.out.2.2.2 _ (by omega)).trans hos1.out.2.2.2.1
                rw [htp] at hcx
                have e2 : IntKind.u64.wrap ((gu : Int) - 1) % 4294967296 = ((W / V : Nat) : Int) := by
                  have a1 := HG.out
                  have a2 := HQ.out
                  rw [← a2.1]
                  simp only [IntKind.wrap_u64]
                  omega
                have E2 := Lib.hid e2
                clear h3 hsl htp hRB h0 e2
                go_wp2
                rw [E2.out]
                refine bodyPost_ret (v := .int .u32 ↑(W / V)) ?h rfl ⟨os2.set (j + i2) 0, rfl, own_set hown3.out _ _, ⟨lb_set hos2.out.2.1 _ (by decide), ?_, fun p hp => ?_⟩, ((ext_only hE _).trans hgr3.out).trans (only_set _ _ _ _)⟩
                case h => simp [results, Tryz.results186, go_sem]
                · rw [seg_set (by rw [hos2.out.1]; omega), K3.out, Nat.mul_zero, Nat.add_zero]
                · rw [getD_set_ne (by omega), hos2.out.2.2.2 p (by omega)]; exact hos1.out.2.2.2.2 p (by omega)
end Go.Proofs.YtchchnohmmncfaaGreatDoor
end
section
/- (The document's library.) Words of the library's: shifts. -/

namespace Go.Proofs.YtchchnohmmncfaaGreatDoor.NB
open Go.RowKit
attribute [local go_sem] sz2 sz3 sz4 sz5 sz6 sz7 sz8
set_option maxHeartbeats 4000000
set_option maxRecDepth 100000
attribute [local irreducible] Calls
theorem bw_one (A : Option Addr) (n c a : Nat) (w : World) (hA : Rd w A n c (lim a)) : Calls Tryz.prog 155 #[.slice A n c] w fun e w' => e = .returned (.bool (decide (a = 1))) ∧ w = w' := by
  have hlen := hA.len
  have hmx := hA.mx
  have hcap := hA.cap
  by_cases hn : n = 1
  · subst hn
    rcases hA.shape with ⟨_, h, _⟩ | ⟨b, off, rfl⟩
    · cases h
    obtain ⟨x, hx, hxb, hcx⟩ := hA.get 0 (by omega)
    rw [Nat.add_zero] at hcx
    have hax : a = x := by
      have hv := val_lim a
      match hq : lim a, hlen with
      | [z], _ =>
        rw [hq] at hv
        have h1 := hx.out
        rw [hq] at h1
        simp [val] at hv h1
        omega
    subst hax
    clear hA hlen hx
    by_cases h1 : a = 1
    · subst h1
      go_enter Tryz.func155, Tryz.ntmps155
      go_wp2
      go_ret
      exact ⟨rfl, rfl⟩
    · have hne : ((a : Int) == 1) = false := by rw [beq_eq_false_iff_ne]; omega
      have hd : decide (a = 1) = false := by simp [h1]
      rw [hd]
      go_enter Tryz.func155, Tryz.ntmps155
      go_wp2
      go_ret
      exact ⟨rfl, rfl⟩
  · have hd : decide (a = 1) = false := by
      simp
      rintro rfl
      have : lim 1 = [1] := by rw [lim_pos (by decide)]; simp [lim_zero, Bs]
      rw [this] at hlen
      simp at hlen; omega
    have hne : ((n : Int) == 1) = false := by rw [beq_eq_false_iff_ne]; omega
    rw [hd]
    clear hA hlen hd
    go_enter Tryz.func155, Tryz.ntmps155
    go_wp2
    go_ret
    exact ⟨rfl, rfl⟩
theorem bw_up (A : Option Addr) (n c a : Nat) (z : Nat) (hn : n ≤ 500000) (hz : z ≤ 16000000) (w : World) (hA : Rd w A n c (lim a)) :
    Calls Tryz.prog 133 #[.slice A n c, .int .i64 (z : Int)] w (WPost w (a * 2 ^ z)) := by
  have hmx := hA.mx
  have hcx := hA.cap
  have HA := Lib.hid hA
  have hlx := Lib.hid hA.len
  have hlen := hA.len
  clear hA
  by_cases h0 : n = 0
  · subst h0
    have ha : a = 0 := lim_nil.1 (List.eq_nil_of_length_eq_zero hlen)
    subst ha
    clear hlen
    go_enter Tryz.func133, Tryz.ntmps133
    go_wp2
    refine bodyPost_ret (v := .slice none 0 0) ?h rfl ⟨none, 0, 0, rfl, ⟨by rw [Nat.zero_mul, lim_zero]; exact Rd.nil _, fun a h => by cases h⟩, ext_refl _⟩
    case h => simp [results, Tryz.results133, go_sem]
  · obtain ⟨bx, ox, hXe⟩ : ∃ b off, A = some ⟨b, off, none⟩ := by
      rcases HA.out.shape with ⟨_, h, _⟩ | h
      · omega
      · exact h
    subst hXe
    obtain ⟨k, hk⟩ : ∃ k, k = z / 32 := ⟨_, rfl⟩
    obtain ⟨s, hs⟩ : ∃ s, s = z % 32 := ⟨_, rfl⟩
    have hs32 : s < 32 := by omega
    have hk5 : k ≤ 500000 := by omega
    have hkz : z = 32 * k + s := by omega
    have e1 : (z : Int) / 32 = (k : Int) := by omega
    have e2 : (z : Int) % 32 = (s : Int) := by omega
    have HKZ := Lib.hid hkz
    clear hlen hk hs hkz
    go_enter Tryz.func133, Tryz.ntmps133
    go_wp2_with (first
      | (at_make; refine make_u32 rfl _ _ rfl _ _ _ _ (n + k + 1) rfl rfl (by simp) (by simp) (by omega) ?_; intro w1 hx1 ho1; have hext1 := Lib.hid hx1; clear hx1)
     )
    have hGl : w.heap.size < w1.heap.size := (ho1.out.lt w.heap.size rfl).2
    go_loopw [8] (fun vi wr => ∃ (i cy : Nat) (os : List Nat), i ≤ n ∧ vi = .int .i64 (i : Int) ∧ Hid (os.length = n + k + 1 ∧ Lb os ∧ val os = Bs ^ k * (2 ^ s * val ((lim a).take i)) ∧ (os.getD (i + k) 0 = cy ∧ cy < 2 ^ s) ∧ ∀ p, i + k < p → os.getD p 0 = 0) ∧
        Hid (wr.ownsRow w.heap.size 38 1 (.slice (some ⟨w.heap.size, 0, none⟩) (n + k + 1) (n + k + 1)) (n + k + 1) (os.map u32V)) ∧ Hid (Ext w wr))
      (fun vi _ => n - (intOf vi).toNat)
    case atStart => exact ⟨0, 0, List.replicate (n + k + 1) 0, Nat.zero_le _, rfl, ⟨by simp, lb_replicate _, by rw [val_replicate]; simp [val], ⟨getD_replicate0 _ _, Nat.two_pow_pos s⟩, fun p _ => getD_replicate0 _ _⟩, ho1.out, hext1.out⟩
    case round =>
      clear ho1 hext1
      obtain ⟨i, cy, os, hi, rfl, hos, hown, hext⟩ := hrel
      by_cases h1 : i < n
      · obtain ⟨x, hx, hxb, hcx1⟩ := (HA.out.ext hext.out).get i h1
        obtain ⟨hc1, hf1⟩ := own_at hown.out (i + k) (by omega)
        obtain ⟨hc2, hf2⟩ := own_at hown.out (i + k + 1) (by omega)
        rw [hos.out.2.2.2.1.1] at hc1
        rw [hos.out.2.2.2.2 (i + k + 1) (by omega)] at hc2
        obtain ⟨w1', w2', w3'⟩ := shl_wrap hxb hs32
        obtain ⟨o1, o2⟩ := or_low (x := x) hs32 hos.out.2.2.2.1.2
        have hu := up_step (V := val ((lim a).take i)) hs32 hos.out.1 (by omega) hos.out.2.1 hos.out.2.2.2.1.1 hos.out.2.2.2.1.2 hos.out.2.2.2.2 hxb hos.out.2.2.1
        have O1 := Lib.hid o1
        have O2 := Lib.hid w1'
        have O3 := Lib.hid (show 2 ^ s * x / 4294967296 < 4294967296 ∧ 2 ^ s * x / 4294967296 < 2 ^ s from ⟨by omega, w3'⟩)
        have HU := Lib.hid hu
        clear o1 o2 w1' w2' w3' hu
        go_wp2
        case roundEnd =>
          refine ⟨⟨i + 1, 2 ^ s * x / 4294967296, (os.set (i + k) (2 ^ s * x % 4294967296 + cy)).set (i + k + 1) (2 ^ s * x / 4294967296), by omega, by simp, ⟨by simp [hos.out.1], HU.out.1, ?_, ⟨?_, O3.out.2⟩, fun p hp => ?_⟩, ?_, ?_⟩, ?_⟩
          · rw [HU.out.2, val_take_succ, hx.out]
          · rw [show i + 1 + k = i + k + 1 by omega, List.getD_eq_getElem?_getD, List.getElem?_set_self (by rw [List.length_set, hos.out.1]; omega)]; rfl
          · rw [getD_set_ne (by omega), getD_set_ne (by omega)]; exact hos.out.2.2.2.2 p (by omega)
          · show World.ownsRow _ _ _ _ _ _ _
            rw [O2.out, O1.out, show ((2 ^ s * x : Nat) : Int) / 4294967296 % 4294967296 = ((2 ^ s * x / 4294967296 : Nat) : Int) by have := O3.out.1; omega]
            exact own_set (own_set hown.out _ _) _ _
          · exact ext_setCell (ext_setCell hext.out (Nat.le_refl _) _) (Nat.le_refl _) _
          · simp [intOf]; omega
      · obtain rfl : i = n := by omega
        have hv : val os = a * 2 ^ z := by
          rw [hos.out.2.2.1, take_ge (by rw [hlx.out]; exact Nat.le_refl _), val_lim, HKZ.out, Nat.pow_add, Nat.mul_comm a, Nat.pow_mul, ← Nat.mul_assoc]
        have hT := bw_trim_own hown.out hos.out.2.1 hv
        have hE := hext.out
        clear hv
        go_wp2_with (first
          | (go_at_call 105; (with_reducible refine hT.mono ?_); rintro e w' ⟨⟨j, rfl, hR⟩, rfl⟩)
         )
        refine bodyPost_ret (v := .slice (some ⟨w.heap.size, 0, none⟩) j (i + k + 1)) ?h rfl ⟨_, j, i + k + 1, rfl, ⟨hR.out, fun q hq => ?_⟩, hE⟩
        case h => simp [results, Tryz.results133, go_sem]
        cases hq; exact Nat.le_refl _
theorem bw_down_core (A : Option Addr) (n c a : Nat) (z : Nat) (hn : n ≤ 500000) (hz : z ≤ 16000000) (w : World) (hA : Rd w A n c (lim a)) :
    Calls Tryz.prog 166 #[.slice A n c, .int .i64 (z : Int)] w fun e w' => ∃ (A : Option Addr) (k c : Nat), e = .returned (.slice A k c) ∧ Hid (Rd w' A k c (lim (a / 2 ^ z)) ∧ Fr w A ∧ ∀ q, A = some q → q.block < w'.heap.size) ∧ Ext w w' := by
  have hmx := hA.mx
  have hcx := hA.cap
  have HA := Lib.hid hA
  have hlx := Lib.hid hA.len
  clear hA
  obtain ⟨k, hk⟩ : ∃ k, k = z / 32 := ⟨_, rfl⟩
  obtain ⟨s, hs⟩ : ∃ s, s = z % 32 := ⟨_, rfl⟩
  have hs32 : s < 32 := by omega
  have hk5 : k ≤ 500000 := by omega
  have hkz : z = 32 * k + s := by omega
  have e1 : (z : Int) / 32 = (k : Int) := by omega
  have e2 : (z : Int) % 32 = (s : Int) := by omega
  have HKZ := Lib.hid hkz
  clear hk hs hkz
  have hpz : Hid (a / 2 ^ z = (a / Bs ^ k) / 2 ^ s) := by
    show _ = _
    rw [HKZ.out, Nat.pow_add, Nat.pow_mul, Nat.div_div_eq_div_mul]
  by_cases h0 : n ≤ k
  · have hv : Hid (a / 2 ^ z = 0) := by
      show _ = _
      rw [hpz.out, Nat.div_eq_of_lt (Nat.lt_of_lt_of_le (lim_lt a) (Nat.pow_le_pow_right (by decide) (by rw [hlx.out]; exact h0))), Nat.zero_div]
    go_enter Tryz.func166, Tryz.ntmps166
    go_wp2
    refine bodyPost_ret (v := .slice none 0 0) ?h rfl ⟨none, 0, 0, rfl, ⟨by rw [hv.out, lim_zero]; exact Rd.nil _, (fun a h => by cases h), (fun a h => by cases h)⟩, ext_refl _⟩
    case h => simp [results, Tryz.results166, go_sem]
  · obtain ⟨bx, ox, hXe⟩ : ∃ b off, A = some ⟨b, off, none⟩ := by
      rcases HA.out.shape with ⟨_, h, _⟩ | h
      · omega
      · exact h
    subst hXe
    obtain ⟨q, hq⟩ : ∃ q, n = k + q := ⟨n - k, by omega⟩
    subst hq
    have hq0 : 0 < q := by omega
    go_enter Tryz.func166, Tryz.ntmps166
    go_wp2_with (first
      | (at_make; refine make_u32 rfl _ _ rfl _ _ _ _ q rfl rfl (by omega) (by omega) (by omega) ?_; intro w1 hx1 ho1; have hext1 := Lib.hid hx1; clear hx1)
     )
    have hGl : w.heap.size < w1.heap.size := (ho1.out.lt w.heap.size rfl).2
    go_loopw [8] (fun vi wr => ∃ (i : Nat) (os : List Nat), i ≤ q ∧ vi = .int .i64 (i : Int) ∧ Hid (os.length = q ∧ Lb os ∧ val (os.take i) = (a / Bs ^ k / 2 ^ s) % Bs ^ i ∧ ∀ p, i ≤ p → os.getD p 0 = 0) ∧
        Hid (wr.ownsRow w.heap.size 38 1 (.slice (some ⟨w.heap.size, 0, none⟩) q q) q (os.map u32V)) ∧ Hid (Ext w wr))
      (fun vi _ => q - (intOf vi).toNat)
    case atStart => exact ⟨0, List.replicate q 0, Nat.zero_le _, rfl, ⟨by simp, lb_replicate _, by simp [val, Nat.mod_one], fun p _ => getD_replicate0 _ _⟩, ho1.out, hext1.out⟩
    case round =>
      clear ho1 hext1
      obtain ⟨i, os, hi, rfl, hos, hown, hext⟩ := hrel
      by_cases h1 : i < q
      · obtain ⟨x, hx, hxb, hcx1⟩ := (HA.out.ext hext.out).get (i + k) (by omega)
        obtain ⟨hc1, hf1⟩ := own_at hown.out i (by omega)
        have fin : ∀ (y : Nat) (v : Int), (lim a).getD (i + k + 1) 0 = y → v = (((y * 4294967296 + x) / 2 ^ s % 4294967296 : Nat) : Int) → ∃ (i' : Nat) (os' : List Nat), i' ≤ q ∧ Value.int IntKind.i64 ((i : Int) + 1) = .int .i64 (i' : Int) ∧ Hid (os'.length = q ∧ Lb os' ∧ val (os'.take i') = (a / Bs ^ k / 2 ^ s) % Bs ^ i' ∧ ∀ p, i' ≤ p → os'.getD p 0 = 0) ∧
            Hid ((wr.setCell ⟨w.heap.size, i, none⟩ (.int .u32 v)).ownsRow w.heap.size 38 1 (.slice (some ⟨w.heap.size, 0, none⟩) q q) q (os'.map u32V)) ∧ Hid (Ext w (wr.setCell ⟨w.heap.size, i, none⟩ (.int .u32 v))) := by
          rintro y v hy rfl
          refine ⟨i + 1, os.set i ((y * 4294967296 + x) / 2 ^ s % 4294967296), by omega, by simp, ⟨by simp [hos.out.1], lb_set hos.out.2.1 _ (Nat.mod_lt _ (by decide)), ?_, fun p hp => by rw [getD_set_ne (by omega)]; exact hos.out.2.2.2 p (by omega)⟩, own_set hown.out _ _, ext_setCell hext.out (Nat.le_refl _) _⟩
          have e1 : x = a / Bs ^ (i + k) % Bs := by rw [← hx.out]; exact limb_at _ _
          have e2 : y = a / Bs ^ (i + k) / Bs % Bs := by rw [← hy, limb_at, Nat.pow_succ, Nat.div_div_eq_div_mul]
          have e3 : a / Bs ^ k / 2 ^ s / Bs ^ i = a / Bs ^ (i + k) / 2 ^ s := by rw [Nat.div_div_eq_div_mul, Nat.div_div_eq_div_mul, Nat.div_div_eq_div_mul, Nat.pow_add, Nat.mul_comm (2 ^ s), ← Nat.mul_assoc, Nat.mul_comm (Bs ^ k)]
          have e4 := div_limb (D := a / Bs ^ (i + k)) (T := y * 4294967296 + x) hs32 (by rw [← e1, ← e2])
          have e5 : (os.set i ((y * 4294967296 + x) / 2 ^ s % 4294967296)).getD i 0 = (y * 4294967296 + x) / 2 ^ s % 4294967296 := by
            rw [List.getD_eq_getElem?_getD, List.getElem?_set_self (by rw [hos.out.1]; omega), Option.getD_some]
          rw [val_take_succ, take_set_self, hos.out.2.2.1, Nat.mod_pow_succ, e5, e4, e3]
        have HF := Lib.hid fin
        clear fin
        by_cases h2 : i + k + 1 < k + q
        · obtain ⟨y, hy, hyb, hcy1⟩ := (HA.out.ext hext.out).get (i + k + 1) (by omega)
          have O1 := Lib.hid (or_shift' y x hyb hxb)
          go_wp2
          case roundEnd =>
            refine ⟨HF.out y _ hy.out (by rw [O1.out]; simp), ?_⟩
            simp [intOf]; omega
        · have hy0 : (lim a).getD (i + k + 1) 0 = 0 := getD_ge (by rw [hlx.out]; omega)
          have HY := Lib.hid hy0
          clear hy0
          go_wp2
          case roundEnd =>
            refine ⟨HF.out 0 _ HY.out (by simp), ?_⟩
            simp [intOf]; omega
      · obtain rfl : i = q := by omega
        have hv : val os = a / 2 ^ z := by
          have h3 := hos.out.2.2.1
          rw [take_ge (by rw [hos.out.1]; exact Nat.le_refl _)] at h3
          rw [h3, hpz.out]
          refine Nat.mod_eq_of_lt (Nat.lt_of_le_of_lt (Nat.div_le_self _ _) ?_)
          rw [Nat.div_lt_iff_lt_mul (Nat.pow_pos (by decide)), ← Nat.pow_add]
          have := lim_lt a
          rw [hlx.out] at this
          rwa [Nat.add_comm i k]
        have hT := bw_trim_own hown.out hos.out.2.1 hv
        have hE := hext.out
        have hlt := (hown.out.lt w.heap.size rfl).2
        clear hv
        go_wp2_with (first
          | (go_at_call 105; (with_reducible refine hT.mono ?_); rintro e w' ⟨⟨j, rfl, hR⟩, rfl⟩)
         )
        refine bodyPost_ret (v := .slice (some ⟨w.heap.size, 0, none⟩) j i) ?h rfl ⟨_, j, i, rfl, ⟨hR.out, fun q hq => ?_, fun q hq => ?_⟩, hE⟩
        case h => simp [results, Tryz.results166, go_sem]
        · cases hq; exact Nat.le_refl _
        · cases hq; exact hlt
end Go.Proofs.YtchchnohmmncfaaGreatDoor.NB
end
section
/- (The document's library.) Words of the library's: one figure of a quotient. -/

namespace Go.Proofs.YtchchnohmmncfaaGreatDoor.NB
open Go.RowKit
attribute [local go_sem] sz2 sz3 sz4 sz5 sz6 sz7 sz8
set_option maxHeartbeats 4000000
set_option maxRecDepth 100000
attribute [local irreducible] Calls
theorem bw_figure (base g N j n cu : Nat) (os0 : List Nat) (B : Option Addr) (d V : Nat) (w : World) (hown : Hid (w.ownsRow base 38 1 (.slice (some ⟨g, 0, none⟩) N N) N (os0.map u32V))) (hlb : Lb os0) (hB : Rd w B n d (lim V)) (hap : ∀ a, B = some a → a.block ≠ g)
    (hn2 : 2 ≤ n) (hjn : j + n + 1 ≤ N) (hN : N ≤ 1000000) (hcu : n + 1 ≤ cu) (hcu2 : cu ≤ 9223372036854775807) (htop : 2147483648 ≤ (lim V).getD (n - 1) 0) (hW : seg os0 j (n + 1) < Bs * V) :
    Calls Tryz.prog 165 #[.slice (some ⟨g, j, none⟩) (n + 1) cu, .slice B n d] w fun e w' => ∃ os' : List Nat, e = .returned (.int .u32 ((seg os0 j (n + 1) / V : Nat) : Int)) ∧ Hid (w'.ownsRow base 38 1 (.slice (some ⟨g, 0, none⟩) N N) N (os'.map u32V)) ∧
      Hid (Lb os' ∧ seg os' j (n + 1) = seg os0 j (n + 1) % V ∧ ∀ p, p < j ∨ j + n + 1 ≤ p → os'.getD p 0 = os0.getD p 0) ∧ Hid (w.grownBy w' (some g)) := by
  have hmy := hB.mx
  have hcy := hB.cap
  have hgl : g < w.heap.size := (hown.out.lt g rfl).2
  have hol : os0.length = N := by have := hown.out.1; simpa using this
  obtain ⟨bv, ov, hBe⟩ : ∃ b off, B = some ⟨b, off, none⟩ := by
    rcases hB.shape with ⟨_, h, _⟩ | h
    · omega
    · exact h
  subst hBe
  have hbg : bv ≠ g := hap _ rfl
  have HB := Lib.hid hB
  have hly := Lib.hid hB.len
  have hap' : Hid (∀ a, some (⟨bv, ov, none⟩ : Addr) = some a → a.block ≠ g) := hap
  have HOL := Lib.hid (show os0.length = N ∧ Lb os0 from ⟨hol, hlb⟩)
  -- the highest words
  obtain ⟨top, ht, htb, hct⟩ := HB.out.get (n - 1) (by omega)
  obtain ⟨x2, hx2, hx2b, hcx2⟩ := HB.out.get (n - 2) (by omega)
  obtain ⟨un, hun⟩ : ∃ un, un = os0.getD (j + n) 0 := ⟨_, rfl⟩
  obtain ⟨u1, hu1⟩ : ∃ u1, u1 = os0.getD (j + (n - 1)) 0 := ⟨_, rfl⟩
  obtain ⟨u2, hu2⟩ : ∃ u2, u2 = os0.getD (j + (n - 2)) 0 := ⟨_, rfl⟩
  have hunb : un < 4294967296 := by rw [hun]; exact lb_getD hlb _
  have hu1b : u1 < 4294967296 := by rw [hu1]; exact lb_getD hlb _
  have hu2b : u2 < 4294967296 := by rw [hu2]; exact lb_getD hlb _
  obtain ⟨cn, fn⟩ := own_seg hown j n (by omega)
  obtain ⟨c1, f1⟩ := own_seg hown j (n - 1) (by omega)
  obtain ⟨c2, f2⟩ := own_seg hown j (n - 2) (by omega)
  rw [← hun] at cn
  rw [← hu1] at c1
  rw [← hu2] at c2
  rw [ht.out] at htop
  obtain ⟨W, hWW⟩ : ∃ W, W = seg os0 j (n + 1) := ⟨_, rfl⟩
  rw [← hWW] at hW ⊢
  -- the three highest of the one, the two highest of the other
  obtain ⟨Bn, hBn⟩ : ∃ Bn, Bn = Bs ^ (n - 2) := ⟨_, rfl⟩
  have hBp : 0 < Bn := by rw [hBn]; exact Nat.pow_pos (by decide)
  obtain ⟨Wr, hWr, hWe⟩ : ∃ Wr, Wr < Bn ∧ W = Wr + Bn * (u2 + 4294967296 * (u1 + 4294967296 * un)) := by
    refine ⟨seg os0 j (n - 2), by rw [hBn]; exact seg_lt hlb _ _, ?_⟩
    have e1 : seg os0 j (n + 1) = seg os0 j (n - 2) + Bs ^ (n - 2) * seg os0 (j + (n - 2)) 3 := by rw [← seg_split]; congr 1; omega
    have e2 : seg os0 (j + (n - 2)) 3 = u2 + 4294967296 * (u1 + 4294967296 * un) := by
      rw [show 3 = 0 + 1 + 1 + 1 by rfl, seg_succ, seg_succ, seg_succ, seg_zero, hu2, hu1, hun, show j + (n - 2) + 0 = j + (n - 2) by omega, show j + (n - 2) + (0 + 1) = j + (n - 1) by omega, show j + (n - 2) + (0 + 1 + 1) = j + n by omega]
      simp [Bs]; omega
    rw [hWW, e1, e2, hBn]
  obtain ⟨Vr, hVr, hVe⟩ : ∃ Vr, Vr < Bn ∧ V = Vr + Bn * (x2 + 4294967296 * top) := by
    have hl : (lim V).length = n := hB.len
    refine ⟨seg (lim V) 0 (n - 2), by rw [hBn]; exact seg_lt (lb_lim V) _ _, ?_⟩
    have e0 : V = seg (lim V) 0 n := by rw [seg_val _ hl, val_lim]
    have e1 : seg (lim V) 0 n = seg (lim V) 0 (n - 2) + Bs ^ (n - 2) * seg (lim V) (0 + (n - 2)) 2 := by rw [← seg_split]; congr 1; omega
    have e2 : seg (lim V) (0 + (n - 2)) 2 = x2 + 4294967296 * top := by
      rw [show 2 = 0 + 1 + 1 by rfl, seg_succ, seg_succ, seg_zero, show 0 + (n - 2) + 0 = n - 2 by omega, show 0 + (n - 2) + (0 + 1) = n - 1 by omega, hx2.out, ht.out]
      simp [Bs]
    rw [hBn, ← e2, ← e1, ← e0]
  have hV0 : 0 < V := by
    have : Bn * 1 ≤ Bn * (x2 + 4294967296 * top) := Nat.mul_le_mul_left _ (by omega)
    omega
  -- the quotient is a word
  obtain ⟨q, hq⟩ : ∃ q, q = W / V := ⟨_, rfl⟩
  have hqB : q < 4294967296 := by rw [hq, Nat.div_lt_iff_lt_mul hV0]; exact hW
  have hunt : un ≤ top := by
    rcases Nat.lt_or_ge top un with h | h
    · exfalso
      have h1 : Bn * (4294967296 * (4294967296 * un)) ≤ W := by rw [hWe]; have := Nat.mul_le_mul_left Bn (show 4294967296 * (4294967296 * un) ≤ u2 + 4294967296 * (u1 + 4294967296 * un) by omega); omega
      have h2 : V < Bn * (4294967296 * (top + 1)) := by
        have h3 := Nat.mul_le_mul_left Bn (show x2 + 4294967296 * top + 1 ≤ 4294967296 * (top + 1) by omega)
        rw [Nat.mul_succ] at h3; omega
      have h4 : Bn * (4294967296 * (top + 1)) ≤ Bn * (4294967296 * un) := Nat.mul_le_mul_left _ (by omega)
      have h5 : Bn * (4294967296 * (4294967296 * un)) = 4294967296 * (Bn * (4294967296 * un)) := by rw [← Nat.mul_assoc, Nat.mul_comm Bn, Nat.mul_assoc]
      have h6 : Bs * V = 4294967296 * V := rfl
      omega
    · exact h
  obtain ⟨num, hnum⟩ : ∃ num, num = un * 4294967296 + u1 := ⟨_, rfl⟩
  have hor : Hid (bits BinOp.or IntKind.u64 ((un : Int) * 4294967296) (u1 : Int) = (num : Int)) := by rw [hnum]; exact or_shift un u1 hunb hu1b
  have hnb : num < 18446744073709551616 := by omega
  have htop0 : ((top : Int) == 0) = false := by rw [beq_eq_false_iff_ne]; omega
  -- what a guess means
  have hlow : ∀ gu rest, num = gu * top + rest → rest * 4294967296 + u2 < gu * x2 → q < gu := fun gu rest h1 h2 => by
    rw [hq]
    refine knuth_lt (V' := top * 4294967296 + x2) (W' := num * 4294967296 + u2) (B := Bn) ?_ ?_ ((guess_iff h1).2 h2) hV0
    · rw [hVe, Nat.mul_comm _ Bn, show top * 4294967296 + x2 = x2 + 4294967296 * top by omega]; omega
    · rw [hWe, Nat.mul_comm _ Bn, hnum, Nat.mul_add Bn (_ + u2) 1, show (un * 4294967296 + u1) * 4294967296 + u2 = u2 + 4294967296 * (u1 + 4294967296 * un) by omega]; omega
  have hhigh : ∀ gu rest, num = gu * top + rest → gu < 4294967296 → gu * x2 ≤ rest * 4294967296 + u2 → gu ≤ q + 1 := fun gu rest h1 h2 h3 => by
    rw [hq]
    refine knuth_ge (V' := top * 4294967296 + x2) (W' := num * 4294967296 + u2) (B := Bn) ?_ ?_ (Nat.le_of_not_lt fun h4 => ?_) (by omega) hV0
    · rw [hVe, Nat.add_mul, Nat.one_mul, Nat.mul_comm _ Bn, show top * 4294967296 + x2 = x2 + 4294967296 * top by omega]; omega
    · rw [hWe, Nat.mul_comm _ Bn, hnum, show (un * 4294967296 + u1) * 4294967296 + u2 = u2 + 4294967296 * (u1 + 4294967296 * un) by omega]; omega
    · have := (guess_iff h1).1 h4; omega
  have HLOW := Lib.hid hlow
  have HHIGH := Lib.hid hhigh
  have HQ := Lib.hid (show q = W / V ∧ q < 4294967296 from ⟨hq, hqB⟩)
  have HWW := Lib.hid hWW
  have HUN := Lib.hid hun
  have HNB := Lib.hid (show num < 18446744073709551616 ∧ num < top * 4294967296 + 4294967296 from ⟨hnb, by omega⟩)
  have HV0 := Lib.hid hV0
  have HVT := Lib.hid (show V < Bs ^ n from by have := lim_lt V; rwa [hly.out] at this)
  have hgd : Hid (num = num / top * top + num % top) := by show _ = _; have := Nat.div_add_mod num top; rw [Nat.mul_comm] at this; exact this.symm
  have hgq : Hid (q ≤ num / top) := by
    show _ ≤ _
    refine Nat.le_of_lt_add_one ?_
    rw [hq, Nat.div_lt_iff_lt_mul hV0, hWe, hVe]
    have h1 : Bn * (u2 + 4294967296 * (u1 + 4294967296 * un)) + Bn ≤ (num / top + 1) * (Bn * (4294967296 * top)) := by
      have h2 : num < (num / top + 1) * top := by have := Nat.lt_div_mul_add (a := num) (b := top) (by omega); rw [Nat.add_mul, Nat.one_mul]; exact this
      have h3 : u2 + 4294967296 * (u1 + 4294967296 * un) + 1 ≤ 4294967296 * ((num / top + 1) * top) := by omega
      have h4 := Nat.mul_le_mul_left Bn h3
      rw [Nat.mul_succ] at h4
      have h5 : Bn * (4294967296 * ((num / top + 1) * top)) = (num / top + 1) * (Bn * (4294967296 * top)) := by
        rw [Nat.mul_left_comm (num / top + 1), Nat.mul_left_comm (num / top + 1)]
      omega
    have h6 : (num / top + 1) * (Bn * (4294967296 * top)) ≤ (num / top + 1) * (Vr + Bn * (x2 + 4294967296 * top)) := Nat.mul_le_mul_left _ (by rw [Nat.mul_add]; omega)
    omega
  have hdi : ((num : Int) / (top : Int)) = ((num / top : Nat) : Int) := by simp
  have hmi : ((num : Int) % (top : Int)) = ((num % top : Nat) : Int) := by simp
  have hd64 : num / top < 18446744073709551616 := Nat.lt_of_le_of_lt (Nat.div_le_self _ _) hnb
  have hm64 : num % top < 4294967296 := Nat.lt_of_lt_of_le (Nat.mod_lt _ (by omega)) (by omega)
  obtain ⟨G0, hG0⟩ : ∃ G0, G0 = num / top := ⟨_, rfl⟩
  obtain ⟨R0, hR0⟩ : ∃ R0, R0 = num % top := ⟨_, rfl⟩
  rw [← hG0] at hdi hd64 hgd hgq
  rw [← hR0] at hmi hm64 hgd
  have hor' := hor.out
  clear hlow hhigh hq hqB hWW hun hu1 hu2 hnb hV0 hWe hVe hWr hVr hBn hBp hnum hG0 hR0 hW hor hB hap hol hlb
  have HU2 := Lib.hid hu2b
  go_enter Tryz.func165, Tryz.ntmps165
  have hbvl : bv < w.heap.size := (HB.out.cells bv ov rfl 0 (by rw [hly.out]; omega)).1
  go_wp2
  go_quiet (fail)
  have hNQ := Lib.hid (show Ext w (w.drewN nq) from ext_drewN (ext_refl _) _)
  go_upto_region 5 with (fail)
  go_cut [8, 9] (fun vg vr wx => vg = .int .u64 (G0 : Int) ∧ vr = .int .u64 (R0 : Int) ∧ Hid (Ext w wx))
  case first =>
    go_wp2
    go_meet
    case rel => exact ⟨by first | rfl | rw [hdi], by first | rfl | rw [hmi], hNQ⟩
  case rest =>
    obtain ⟨rfl, rfl, hNQ⟩ := hcut
    rename ∀ (a : Act) (w : World), Code.wp _ _ _ a w → _ => hK5
    refine hK5 _ _ ?_
    clear hK5 hdi hmi hor' htop0
    refine wp_seq_k (fun K10 hK10 => ?_)
    go_cut [8] (fun vg wx => ∃ gu : Nat, vg = .int .u64 (gu : Int) ∧ gu < 4294967296 ∧ Hid (gu = q ∨ gu = q + 1) ∧ Hid (Ext w wx))
    case first =>
      go_wp2
      go_loopg [8, 9] G0 (fun gk vg vr wr => ∃ gu rest : Nat, gk = gu ∧ vg = .int .u64 (gu : Int) ∧ vr = .int .u64 (rest : Int) ∧ Hid (rest < 4294967296 ∧ gu < 18446744073709551616) ∧ Hid (num = gu * top + rest) ∧ Hid (q ≤ gu) ∧ Hid (Ext w wr))
      case atStart => exact ⟨G0, R0, rfl, rfl, rfl, ⟨hm64, hd64⟩, hgd, hgq, hNQ⟩
      case round =>
        obtain ⟨gu, rest, hgk, rfl, rfl, hbd, hnum, hqg, hext⟩ := hrel
        have HGK := Lib.hid hgk
        clear hgk
        obtain ⟨hr, hg64⟩ := hbd.out
        obtain ⟨xc, xf, -, -⟩ := ext_use hext.out
        have k2 := (xc g (j + (n - 2)) hgl).trans c2
        have kx := (xc bv (ov + (n - 2)) hbvl).trans hcx2
        clear xc xf
        have hdec : q < gu → Hid (num = (gu - 1) * top + (rest + top)) ∧ Hid (q ≤ gu - 1) := fun h => by
          refine ⟨?_, ?_⟩
          · show _ = _
            obtain ⟨g', rfl⟩ : ∃ g', gu = g' + 1 := ⟨gu - 1, by omega⟩
            have := hnum.out
            rw [Nat.add_mul, Nat.one_mul] at this
            simp; omega
          · show _ ≤ _; omega
        have hbrk : ∀ gu' rest', num = gu' * top + rest' → q ≤ gu' → 4294967296 ≤ rest' → gu' < 4294967296 ∧ Hid (gu' = q ∨ gu' = q + 1) := fun gu' rest' e1 e2 e3 => by
          have e4 : gu' < 4294967296 := by
            refine Nat.lt_of_not_le fun h => ?_
            have e5 : 4294967296 * top ≤ gu' * top := Nat.mul_le_mul_right _ h
            have := HNB.out.2
            omega
          refine ⟨e4, ?_⟩
          have e6 : gu' * x2 ≤ 4294967295 * 4294967295 := Nat.mul_le_mul (by omega) (by omega)
          have := HHIGH.out gu' rest' e1 e4 (by omega)
          show _ ∨ _
          omega
        have HBRK := Lib.hid hbrk
        have HDEC := Lib.hid hdec
        clear hbrk hdec
        by_cases h1 : 4294967296 ≤ gu
        · have hgt : q < gu := by have := HQ.out.2; omega
          obtain ⟨hd1, hd2⟩ := HDEC.out hgt
          have hg1 : 1 ≤ gu := by omega
          have h1' : (4294967296 : Int) ≤ gu := by omega
          clear hgt h1
          go_wp2
          go_quiet (fail)
          have hE := hext.out
          go_upto_region 9 with (fail)
          obtain ⟨gu2, hgu2⟩ : ∃ gu2, gu2 = gu - 1 := ⟨_, rfl⟩
          obtain ⟨r2, hr2⟩ : ∃ r2, r2 = rest + top := ⟨_, rfl⟩
          have e9 : (gu : Int) - 1 = (gu2 : Int) := by omega
          have e10 : (rest : Int) + top = (r2 : Int) := by omega
          rw [← hgu2, ← hr2] at hd1
          rw [← hgu2] at hd2
          have hg2 : gu2 < 18446744073709551616 ∧ gu2 < gu := by omega
          have hr2b : r2 < 8589934592 := by omega
          simp only [e9, e10]
          have HG2 := Lib.hid hg2
          clear e9 e10 hgu2 hr2 hg2 hg1 h1'
          by_cases h3 : 4294967296 ≤ r2
          · have h3' : (4294967296 : Int) ≤ (r2 : Int) := by omega
            obtain ⟨b1, b2⟩ := HBRK.out gu2 r2 hd1.out hd2.out h3
            clear h3
            go_wp2
            go_meet
            case rel => exact ⟨gu2, rfl, b1, b2, ext_drewN hE _⟩
          · have h3' : decide ((4294967296 : Int) ≤ (r2 : Int)) = false := decide_eq_false (by omega)
            have H4 := Lib.hid (show r2 < 4294967296 by omega)
            clear h3 hr2b HBRK HDEC
            go_wp2
            go_roundg gu2
            case measure => rw [HGK.out]; exact HG2.out.2
            case rel => exact ⟨gu2, r2, rfl, rfl, rfl, ⟨H4.out, HG2.out.1⟩, hd1, hd2, ext_drewN hE _⟩
        · obtain ⟨p, hp⟩ : ∃ p, p = gu * x2 := ⟨_, rfl⟩
          have hpb : p ≤ 18446744065119617025 := by rw [hp]; exact Nat.mul_le_mul (show gu ≤ 4294967295 by omega) (show x2 ≤ 4294967295 by omega)
          have hpi : (gu : Int) * (x2 : Int) = (p : Int) := by rw [hp]; exact (Int.natCast_mul _ _).symm
          have h1b : decide ((4294967296 : Int) ≤ (gu : Int)) = false := decide_eq_false (by omega)
          have H1 := Lib.hid (show gu < 4294967296 by omega)
          have hor2 := or_shift rest u2 hr hu2b
          obtain ⟨y, hy⟩ : ∃ y, y = rest * 4294967296 + u2 := ⟨_, rfl⟩
          rw [← hy] at hor2
          have HP := Lib.hid hp
          have HY := Lib.hid hy
          have HR := Lib.hid hr
          clear h1 hp hy
          by_cases h2 : y < p
          · have h2' : (y : Int) < (p : Int) := by omega
            have hgt : q < gu := HLOW.out gu rest hnum.out (by rw [← HY.out, ← HP.out]; exact h2)
            obtain ⟨hd1, hd2⟩ := HDEC.out hgt
            have hg1 : 1 ≤ gu := by omega
            have HG1 := Lib.hid hgt
            clear hgt h2
            go_wp2
            go_quiet (fail)
            have hE := hext.out
            go_upto_region 9 with (fail)
            obtain ⟨gu2, hgu2⟩ : ∃ gu2, gu2 = gu - 1 := ⟨_, rfl⟩
            obtain ⟨r2, hr2⟩ : ∃ r2, r2 = rest + top := ⟨_, rfl⟩
            have e9 : (gu : Int) - 1 = (gu2 : Int) := by omega
            have e10 : (rest : Int) + top = (r2 : Int) := by omega
            rw [← hgu2, ← hr2] at hd1
            rw [← hgu2] at hd2
            have hg2 : gu2 < 18446744073709551616 ∧ gu2 < gu := by omega
            have hr2b : r2 < 8589934592 := by omega
            simp only [e9, e10]
            have HG2 := Lib.hid hg2
            clear e9 e10 hgu2 hr2 hg2 hg1
            by_cases h3 : 4294967296 ≤ r2
            · have h3' : (4294967296 : Int) ≤ (r2 : Int) := by omega
              obtain ⟨b1, b2⟩ := HBRK.out gu2 r2 hd1.out hd2.out h3
              clear h3
              go_wp2
              go_meet
              case rel => exact ⟨gu2, rfl, b1, b2, ext_drewN hE _⟩
            · have h3' : decide ((4294967296 : Int) ≤ (r2 : Int)) = false := decide_eq_false (by omega)
              have H4 := Lib.hid (show r2 < 4294967296 by omega)
              clear h3 hr2b HBRK HDEC
              go_wp2
              go_roundg gu2
              case measure => rw [HGK.out]; exact HG2.out.2
              case rel => exact ⟨gu2, r2, rfl, rfl, rfl, ⟨H4.out, HG2.out.1⟩, hd1, hd2, ext_drewN hE _⟩
          · have h2' : (p : Int) ≤ (y : Int) := by omega
            have hle := HHIGH.out gu rest hnum.out H1.out (by rw [← HY.out, ← HP.out]; omega)
            have hfin : Hid (gu = q ∨ gu = q + 1) := by show _ ∨ _; have := hqg.out; omega
            have hE := hext.out
            clear h2 hle
            go_wp2
            go_quiet (fail)
            go_wp2
            go_meet
            case rel => exact ⟨gu, rfl, H1.out, hfin, ext_drewN hE _⟩
    case rest =>
      obtain ⟨gu, rfl, hgb, hgu, hext0⟩ := hcut
      have HGB := Lib.hid hgb
      have hown0 := Lib.hid (own_ext hown.out hext0.out)
      have hcE := hext0.out
      clear c1 f1 c2 f2 hct hcx2
      go_wp2
      go_loopw [10, 11, 12] (fun vc vb vi wr => ∃ (i cy bo : Nat) (os : List Nat), i ≤ n ∧ Hid (cy < 4294967296 ∧ bo ≤ 1) ∧ vi = .int .i64 (i : Int) ∧ vc = .int .u64 (cy : Int) ∧ vb = .int .u64 (bo : Int) ∧
          Hid (os.length = N ∧ Lb os ∧ seg os j i + gu * val ((lim V).take i) = seg os0 j i + Bs ^ i * (cy + bo) ∧ ∀ p, p < j ∨ j + i ≤ p → os.getD p 0 = os0.getD p 0) ∧
          Hid (wr.ownsRow base 38 1 (.slice (some ⟨g, 0, none⟩) N N) N (os.map u32V)) ∧ Hid (wc.grownBy wr (some g)))
        (fun _ _ vi _ => n - (intOf vi).toNat)
      case atStart => exact ⟨0, 0, 0, os0, Nat.zero_le _, ⟨by omega, by omega⟩, rfl, rfl, rfl, ⟨HOL.out.1, HOL.out.2, by simp [seg_zero, val], fun _ _ => rfl⟩, hown0.out, only_refl _ _⟩
      case round =>
        obtain ⟨i, cy, bo, os, hi, hcb, rfl, rfl, rfl, hos, hown1, hgr⟩ := hrel
        have hRB := rd_only (HB.out.ext hext0.out) hgr hap'.out
        by_cases h0 : i < n
        · obtain ⟨v, hv, hvb, hcv⟩ := hRB.get i h0
          obtain ⟨hcx, hfx⟩ := own_seg hown1 j i (by omega)
          obtain ⟨x, hx⟩ : ∃ x, x = os.getD (j + i) 0 := ⟨_, rfl⟩
          rw [← hx] at hcx
          have hxb : x < 4294967296 := by rw [hx]; exact lb_getD hos.out.2.1 _
          obtain ⟨hcb1, hcb2⟩ := hcb.out
          obtain ⟨pr, hpr⟩ : ∃ pr, pr = gu * v := ⟨_, rfl⟩
          have hprb : pr ≤ 18446744065119617025 := by rw [hpr]; exact Nat.mul_le_mul (show gu ≤ 4294967295 by omega) (show v ≤ 4294967295 by omega)
          have hpri : (gu : Int) * (v : Int) = (pr : Int) := by rw [hpr]; exact (Int.natCast_mul _ _).symm
          have HPR := Lib.hid hpr
          have HX := Lib.hid hx
          have hlow := and_low (pr + cy) (by omega)
          have hbu := borrow_u64 (l := (pr + cy) % 4294967296) hxb (Nat.mod_lt _ (by decide)) hcb2
          have hst := mulsub_step (os := os) (os0 := os0) (vs := lim V) (j := j) (g := gu) (by rw [hos.out.1]; omega) hgb hvb hcb1 hcb2 hxb hos.out.2.2.1 (by rw [hx]; exact (hos.out.2.2.2 _ (by omega)).symm) hv.out
          rw [← hpr] at hst
          have hc' : (pr + cy) / 4294967296 < 4294967296 := by omega
          have HLOW2 := Lib.hid hlow
          have HBU := Lib.hid hbu
          have HST := Lib.hid hst
          have HC' := Lib.hid hc'
          clear hpr hx hRB hlow hbu hst hc'
          go_wp2
          case roundEnd =>
            have e0 : (pr : Int) + cy = ((pr + cy : Nat) : Int) := by omega
            rw [e0, HLOW2.out, HBU.out.1, HBU.out.2]
            refine ⟨⟨i + 1, (pr + cy) / 4294967296, if x < (pr + cy) % 4294967296 + bo then 1 else 0, os.set (j + i) ((x + 8589934592 - (pr + cy) % 4294967296 - bo) % 4294967296), by omega, ⟨HC'.out, by split <;> omega⟩, by simp, by simp, rfl, ⟨by simp [hos.out.1], lb_set hos.out.2.1 _ (Nat.mod_lt _ (by decide)), HST.out, fun p hp => ?_⟩, own_set hown1.out _ _, hgr.out.trans (only_set _ _ _ _)⟩, ?_⟩
            · rw [getD_set_ne (by omega)]; exact hos.out.2.2.2 p (by omega)
            · simp [intOf]; omega
        · obtain rfl : i = n := by omega
          have hP : Hid ((gu = q → cy + bo = un ∧ seg os j i = W % V) ∧ (gu = q + 1 → cy + bo = un + 1 ∧ seg os j i + V = Bs ^ i + W % V)) := by
            have hT : W = seg os0 j i + Bs ^ i * un := by rw [HWW.out, HUN.out, seg_succ]
            have h3 := hos.out.2.2.1
            rw [take_ge (l := lim V) (by rw [hly.out]; exact Nat.le_refl _), val_lim] at h3
            exact figure_end HQ.out.1 HV0.out HVT.out hgu.out (seg_lt hos.out.2.1 _ _) hT h3
          obtain ⟨hcx, hfx⟩ := own_seg hown1 j i (by omega)
          have hun' : os.getD (j + i) 0 = un := by rw [HUN.out]; exact hos.out.2.2.2 _ (by omega)
          rw [hun'] at hcx
          obtain ⟨hcb1, hcb2⟩ := hcb.out
          have hE := hext0.out
          have HUN' := Lib.hid hun'
          clear hun' hRB h0
          rcases hgu.out with hg | hg
          · obtain ⟨k1, k2⟩ := hP.out.1 hg
            have e1 : IntKind.u64.wrap (IntKind.u64.wrap ((un : Int) - cy) - bo) = 0 := by simp only [IntKind.wrap_u64]; omega
            have K2 := Lib.hid k2
            have HG := Lib.hid hg
            clear k1 k2 hg
            go_wp2
            refine bodyPost_ret (v := .int .u32 ↑gu) ?h rfl ⟨os.set (j + i) 0, by rw [HG.out, HQ.out.1], own_set hown1.out _ _, ⟨lb_set hos.out.2.1 _ (by decide), ?_, fun p hp => ?_⟩, ((ext_only hE _).trans hgr.out).trans (only_set _ _ _ _)⟩
            case h => simp [results, Tryz.results165, go_sem]
            · rw [seg_set (by rw [hos.out.1]; omega), K2.out, Nat.mul_zero, Nat.add_zero]
            · rw [getD_set_ne (by omega)]; exact hos.out.2.2.2 p (by omega)
          · obtain ⟨k1, k2⟩ := hP.out.2 hg
            have e1 : IntKind.u64.wrap (IntKind.u64.wrap ((un : Int) - cy) - bo) = 18446744073709551615 := by simp only [IntKind.wrap_u64]; omega
            have K2 := Lib.hid k2
            have HG := Lib.hid hg
            clear k1 k2 hg
            go_wp2
            have hown2 := Lib.hid (own_set hown1.out (j + i) 4294967295)
            have hos1 := Lib.hid (show (os.set (j + i) 4294967295).length = N ∧ Lb (os.set (j + i) 4294967295) ∧ seg (os.set (j + i) 4294967295) j i + V = Bs ^ i + W % V ∧ (os.set (j + i) 4294967295).getD (j + i) 0 = 4294967295 ∧ ∀ p, p < j ∨ j + i + 1 ≤ p → (os.set (j + i) 4294967295).getD p 0 = os0.getD p 0 from
              ⟨by simp [hos.out.1], lb_set hos.out.2.1 _ (by decide), by rw [seg_congr (r := os) i (fun p hp => getD_set_ne (by omega))]; exact K2.out, by rw [List.getD_eq_getElem?_getD, List.getElem?_set_self (by rw [hos.out.1]; omega)]; rfl, fun p hp => by rw [getD_set_ne (by omega)]; exact hos.out.2.2.2 p (by omega)⟩)
            have hgr2 := Lib.hid (hgr.out.trans (only_set wr g (j + i) (.int .u32 4294967295)))
            generalize os.set (j + i) 4294967295 = os1 at hown2 hos1
            clear hos hown1 hcx hfx HUN' K2
            go_loopw [16, 17] (fun vc vi wr2 => ∃ (i2 c : Nat) (os2 : List Nat), i2 ≤ i ∧ Hid (c ≤ 1) ∧ vi = .int .i64 (i2 : Int) ∧ vc = .int .u64 (c : Int) ∧
                Hid (os2.length = N ∧ Lb os2 ∧ seg os2 j i2 + Bs ^ i2 * c = seg os1 j i2 + val ((lim V).take i2) ∧ ∀ p, p < j ∨ j + i2 ≤ p → os2.getD p 0 = os1.getD p 0) ∧
                Hid (wr2.ownsRow base 38 1 (.slice (some ⟨g, 0, none⟩) N N) N (os2.map u32V)) ∧ Hid (wc.grownBy wr2 (some g)))
              (fun _ vi _ => i - (intOf vi).toNat)
            case atStart => exact ⟨0, 0, os1, Nat.zero_le _, by show (0 : Nat) ≤ 1; omega, rfl, rfl, ⟨hos1.out.1, hos1.out.2.1, by simp [seg_zero, val], fun _ _ => rfl⟩, hown2.out, hgr2.out⟩
            case round =>
              clear hown2 hgr2
              obtain ⟨i2, c, os2, hi2, hc1, rfl, rfl, hos2, hown3, hgr3⟩ := hrel
              have hRB := rd_only (HB.out.ext hext0.out) hgr3 hap'.out
              have hc1' := hc1.out
              by_cases h0 : i2 < i
              · obtain ⟨v, hv, hvb, hcv⟩ := hRB.get i2 h0
                obtain ⟨hcx, hfx⟩ := own_seg hown3 j i2 (by omega)
                obtain ⟨x, hx⟩ : ∃ x, x = os2.getD (j + i2) 0 := ⟨_, rfl⟩
                rw [← hx] at hcx
                have hxb : x < 4294967296 := by rw [hx]; exact lb_getD hos2.out.2.1 _
                have hst := addback_step (os := os2) (os1 := os1) (vs := lim V) (j := j) (x := x) (v := v) (by rw [hos2.out.1]; omega) hos2.out.2.2.1 (by rw [hx]; exact (hos2.out.2.2.2 _ (by omega)).symm) hv.out
                have HST := Lib.hid hst
                clear hx hRB hst
                go_wp2
                go_quiet (fail)
                go_wp2
                case roundEnd =>
                  have e0 : (x : Int) + v + c = ((x + v + c : Nat) : Int) := by omega
                  rw [e0]
                  refine ⟨⟨i2 + 1, (x + v + c) / 4294967296, os2.set (j + i2) ((x + v + c) % 4294967296), by omega, (by show _ ≤ 1; omega), by simp, by simp, ⟨by simp [hos2.out.1], lb_set hos2.out.2.1 _ (Nat.mod_lt _ (by decide)), HST.out, fun p hp => by rw [getD_set_ne (by omega)]; exact hos2.out.2.2.2 p (by omega)⟩, ?_, (hgr3.out.trans (ext_only (ext_drewN (ext_refl _) _) _)).trans (only_set _ _ _ _)⟩, ?_⟩
                  · have := own_set (own_ext hown3.out (ext_drewN (ext_refl _) nq)) (j + i2) ((x + v + c) % 4294967296)
                    show World.ownsRow _ _ _ _ _ _ _
                    simpa using this
                  · simp [intOf]; omega
              · obtain rfl : i2 = i := by omega
                have h3 := hos2.out.2.2.1
                rw [take_ge (l := lim V) (by rw [hly.out]; exact Nat.le_refl _), val_lim, hos1.out.2.2.1] at h3
                have hsl := seg_lt hos2.out.2.1 j i2
                have hc1 : c = 1 := by
                  rcases Nat.eq_zero_or_pos c with h | h
                  · subst h; omega
                  · omega
                subst hc1
                have K3 := Lib.hid (show seg os2 j i2 = W % V by omega)
                obtain ⟨hcx, hfx⟩ := own_seg hown3 j i2 (by omega)
                have htp : os2.getD (j + i2) 0 = 4294967295 := (hos2.out.2.2.2 _ (by omega)).trans hos1.out.2.2.2.1
                rw [htp] at hcx
                have e2 : IntKind.u64.wrap ((gu : Int) - 1) % 4294967296 = ((W / V : Nat) : Int) := by
                  have a1 := HG.out
                  have a2 := HQ.out
                  rw [← a2.1]
                  simp only [IntKind.wrap_u64]
                  omega
                have E2 := Lib.hid e2
                clear h3 hsl htp hRB h0 e2
                go_wp2
                rw [E2.out]
                refine bodyPost_ret (v := .int .u32 ↑(W / V)) ?h rfl ⟨os2.set (j + i2) 0, rfl, own_set hown3.out _ _, ⟨lb_set hos2.out.2.1 _ (by decide), ?_, fun p hp => ?_⟩, ((ext_only hE _).trans hgr3.out).trans (only_set _ _ _ _)⟩
                case h => simp [results, Tryz.results165, go_sem]
                · rw [seg_set (by rw [hos2.out.1]; omega), K3.out, Nat.mul_zero, Nat.add_zero]
                · rw [getD_set_ne (by omega), hos2.out.2.2.2 p (by omega)]; exact hos1.out.2.2.2.2 p (by omega)
end Go.Proofs.YtchchnohmmncfaaGreatDoor.NB
end
