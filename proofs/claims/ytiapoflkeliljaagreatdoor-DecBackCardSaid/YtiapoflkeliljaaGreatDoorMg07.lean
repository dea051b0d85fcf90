/- Lemmas of this proof, laid together: NatR, NatS, NatT, NatU, NatW, NatX, NtA, NtB, NtC, NtD, NtE, NatOf. -/
import Derived.Test.YtiapoflkeliljaaGreatDoorRows
import Derived.Test.YtiapoflkeliljaaGreatDoorMg06
import Derived.Test.YtiapoflkeliljaaGreatDoorMg04
import Derived.Laws.Bits64b
import Derived.Laws.Bits64
import Derived.Test.YtiapoflkeliljaaGreatDoorMg05
import Derived.Test.YtiapoflkeliljaaGreatDoorMg01
set_option linter.unusedSimpArgs false
set_option linter.unusedVariables false
section
namespace Go.Proofs.YtiapoflkeliljaaGreatDoor
open Go.RowKit
attribute [local go_sem] sz2 sz3 sz4 sz5 sz6 sz7 sz8
end Go.Proofs.YtiapoflkeliljaaGreatDoor
end
section
/- The document's sums of limbs. -/
namespace Go.Proofs.YtiapoflkeliljaaGreatDoor
open Go.RowKit
attribute [local go_sem] sz2 sz3 sz4 sz5 sz6 sz7 sz8
set_option maxHeartbeats 4000000
set_option maxRecDepth 100000
attribute [local irreducible] Calls
theorem lim_le {v k : Nat} (h : v < Bs ^ k) : (lim v).length ≤ k := by
  by_cases h0 : v = 0
  · subst h0; rw [lim_zero]; simp
  · have h1 := (lim_len h0).1
    rcases Nat.lt_or_ge k (lim v).length with h2 | h2
    · have : Bs ^ k ≤ Bs ^ ((lim v).length - 1) := Nat.pow_le_pow_right (by decide) (by omega)
      omega
    · exact h2
end Go.Proofs.YtiapoflkeliljaaGreatDoor
end
section
/- The document's numbers: Check, Of, Add. -/
namespace Go.Proofs.YtiapoflkeliljaaGreatDoor
open Go.RowKit
attribute [local go_sem] sz2 sz3 sz4 sz5 sz6 sz7 sz8
set_option maxHeartbeats 4000000
set_option maxRecDepth 100000
attribute [local irreducible] Calls
abbrev natV (A : Option Addr) (n c : Nat) : Value := .agg #[.slice A n c]
end Go.Proofs.YtiapoflkeliljaaGreatDoor
end
section
/- The document's quotient by a small number. -/
namespace Go.Proofs.YtiapoflkeliljaaGreatDoor
open Go.RowKit
attribute [local go_sem] sz2 sz3 sz4 sz5 sz6 sz7 sz8
set_option maxHeartbeats 4000000
set_option maxRecDepth 100000
attribute [local irreducible] Calls
theorem or_shift (r x : Nat) (hr : r < 4294967296) (hx : x < 4294967296) : bits BinOp.or IntKind.u64 ((r : Int) * 4294967296) (x : Int) = ((r * 4294967296 + x : Nat) : Int) := by
  have h := bits_or_u64_nat (r * 4294967296) x (by omega) (by omega)
  have h2 : r * 4294967296 ||| x = r * 4294967296 + x := by
    have := Nat.shiftLeft_add_eq_or_of_lt (i := 32) (b := x) (by omega) r
    rw [Nat.shiftLeft_eq] at this
    exact this.symm
  rw [h2] at h
  rw [← h]; rfl
end Go.Proofs.YtiapoflkeliljaaGreatDoor
end
section
/- The document's product. -/
namespace Go.Proofs.YtiapoflkeliljaaGreatDoor
open Go.RowKit
attribute [local go_sem] sz2 sz3 sz4 sz5 sz6 sz7 sz8
set_option maxHeartbeats 4000000
set_option maxRecDepth 100000
attribute [local irreducible] Calls
end Go.Proofs.YtiapoflkeliljaaGreatDoor
end
section
/- The document reads digits. -/
namespace Go.Proofs.YtiapoflkeliljaaGreatDoor
open Go.RowKit
attribute [local go_sem] bs_size bs_extract bs_get bs_append bs_toList const_get
attribute [local go_sem] sz2 sz3 sz4 sz5 sz6 sz7 sz8
set_option maxHeartbeats 4000000
set_option maxRecDepth 100000
attribute [local irreducible] Calls
theorem lim_one {T : Nat} (h0 : 0 < T) (h : T < Bs) : lim T = [T] := by
  rw [lim_pos (by omega), Nat.mod_eq_of_lt h, Nat.div_eq_of_lt h, lim_zero]
end Go.Proofs.YtiapoflkeliljaaGreatDoor
end
section
/- The program's natural numbers: the small ones. -/
namespace Go.Proofs.YtiapoflkeliljaaGreatDoor
open Go.RowKit
attribute [local go_sem] sz2 sz3 sz4 sz5 sz6 sz7 sz8
set_option maxHeartbeats 4000000
set_option maxRecDepth 100000
attribute [local irreducible] Calls
theorem Rd.full {w : World} {A : Option Addr} {n c : Nat} {xs : List Nat} (h : Rd w A n c xs) {k : Nat} (hk : k ≤ n) (h0 : 0 < k) : Rd w A k k (xs.take k) :=
  have h1 := h.take hk
  ⟨h1.len, Nat.le_refl _, Nat.le_trans (Nat.le_trans hk h.cap) h.mx, h1.lb, (fun e => by have := h.none_ e; have := h.cap; omega), h1.at_, h1.cells⟩
theorem trimmed_any (A : Option Addr) (n c : Nat) (xs : List Nat) (w : World) (hR : Rd w A n c xs) :
    Calls Tryz.prog 205 #[.slice A n c] w fun e w' => ∃ (A' : Option Addr) (k : Nat), e = .returned (natV A' k k) ∧ Hid ((∀ w0, Rd w0 A n c xs → Rd w0 A' k k (lim (val xs))) ∧ ∀ a, A' = some a → A = some a) ∧ Ext w w' := by
  have hmx := hR.mx
  have hcap := hR.cap
  have hlb := Lib.hid hR.lb
  rcases hR.shape with ⟨rfl, rfl, rfl, rfl⟩ | ⟨b, off, rfl⟩
  · clear hR
    go_enter Tryz.func205, Tryz.ntmps205
    go_wp2
    go_loop [3] (fun v => v = .int .i64 0) (fun v => (intOf v).toNat)
    case atStart => rfl
    case round =>
      subst hrel
      go_wp2
      refine bodyPost_ret (v := natV none 0 0) ?h rfl ⟨none, 0, rfl, ⟨fun w0 _ => ?_, fun a h => by cases h⟩, ?_⟩
      case h => simp [results, Tryz.results205, go_sem]
      · rw [show val [] = 0 from rfl, lim_zero]; exact Rd.nil _
      · (repeat (first | exact ext_refl _ | assumption | refine ext_setCell ?_ (by simp; try omega) _ | refine ext_alloc ?_ _ | refine ext_drew ?_ | refine ext_drewN ?_ _ | refine ext_trans ?_ (Aft.use _) | refine ext_trans ?_ (by assumption)))
  · have HR := Lib.hid hR
    have hlen := Lib.hid hR.len
    clear hR
    have hblt : 0 < n → b < w.heap.size := fun h => (HR.out.cells b off rfl 0 (by rw [hlen.out]; exact h)).1
    go_enter Tryz.func205, Tryz.ntmps205
    go_wp2
    go_loop [3] (fun v => ∃ k : Nat, k ≤ n ∧ v = .int .i64 k ∧ Hid (trimZ (xs.take k) = trimZ xs)) (fun v => (intOf v).toNat)
    case atStart => exact ⟨n, Nat.le_refl _, rfl, by show trimZ (xs.take n) = trimZ xs; rw [← hlen.out, List.take_length]⟩
    case round =>
      obtain ⟨k, hk, rfl, hT⟩ := hrel
      by_cases h0 : 0 < k
      · obtain ⟨x, hx, hb, hc⟩ := HR.out.get (k - 1) (by omega)
        have hbl := hblt (by omega)
        have hcell : w.cell? ⟨b, off + (k - 1), none⟩ = some (.int .u32 (x : Int)) := hc
        have hsnoc : Hid (xs.take k = xs.take (k - 1) ++ [x]) := by
          have hl : k - 1 < xs.length := by rw [hlen.out]; omega
          have := List.take_succ_eq_append_getElem hl
          rw [show k - 1 + 1 = k by omega] at this
          show xs.take k = xs.take (k - 1) ++ [x]
          rw [this, ← hx.out, List.getD_eq_getElem?_getD, List.getElem?_eq_getElem hl]; rfl
        clear hblt
        by_cases hz : x = 0
        · subst hz
          go_wp2
          go_round
          case rel => exact ⟨k - 1, by omega, by go_num, by show trimZ _ = _; rw [← hT.out, hsnoc.out, trimZ_snoc, if_pos rfl]⟩
          case measure => simp [intOf]; omega
        · have hne : ((x : Int) == 0) = false := by rw [beq_eq_false_iff_ne]; omega
          have hk0 : ((k : Int) == 0) = false := by rw [beq_eq_false_iff_ne]; omega
          have HZ := Lib.hid hz
          clear hz
          go_wp2
          have e : lim (val xs) = xs.take k := by rw [← trimZ_lim xs hlb.out, ← hT.out, hsnoc.out, trimZ_snoc, if_neg HZ.out]
          refine bodyPost_ret (v := natV (some ⟨b, off, none⟩) k k) ?h rfl ⟨_, k, rfl, ⟨fun w0 h00 => ?_, fun a h => by simpa using h⟩, ?_⟩
          case h => simp [results, Tryz.results205, go_sem]
          · rw [e]
            exact h00.full hk h0
          · (repeat (first | exact ext_refl _ | assumption | refine ext_setCell ?_ (by simp; try omega) _ | refine ext_alloc ?_ _ | refine ext_drew ?_ | refine ext_drewN ?_ _ | refine ext_trans ?_ (Aft.use _) | refine ext_trans ?_ (by assumption)))
      · have : k = 0 := by omega
        subst this
        have e : lim (val xs) = [] := by rw [← trimZ_lim xs hlb.out, ← hT.out]; rfl
        have HE := Lib.hid e
        clear e h0 hblt
        go_wp2
        refine bodyPost_ret (v := natV none 0 0) ?h rfl ⟨none, 0, rfl, ⟨fun w0 _ => ?_, fun a h => by cases h⟩, ?_⟩
        case h => simp [results, Tryz.results205, go_sem]
        · rw [HE.out]; exact Rd.nil _
        · (repeat (first | exact ext_refl _ | assumption | refine ext_setCell ?_ (by simp; try omega) _ | refine ext_alloc ?_ _ | refine ext_drew ?_ | refine ext_drewN ?_ _ | refine ext_trans ?_ (Aft.use _) | refine ext_trans ?_ (by assumption)))
theorem nfits_any (A : Option Addr) (n c : Nat) (xs : List Nat) (w : World) (hR : Rd w A n c xs) (hs : (lim (val xs)).length ≤ 16384) :
    Calls Tryz.prog 204 #[.slice A n c] w fun e w' => ∃ (A' : Option Addr) (k : Nat), e = .returned (.tuple #[natV A' k k, .int .i64 0]) ∧ Hid ((∀ w0, Rd w0 A n c xs → Rd w0 A' k k (lim (val xs))) ∧ ∀ a, A' = some a → A = some a) ∧ Ext w w' := by
  have ht : ∀ w', Hid (Ext w w') → Calls Tryz.prog 205 #[.slice A n c] w' fun e w'' => ∃ (A' : Option Addr) (k : Nat), (e = .returned (natV A' k k) ∧ k ≤ 16384) ∧ Hid ((∀ w0, Rd w0 A n c xs → Rd w0 A' k k (lim (val xs))) ∧ ∀ a, A' = some a → A = some a) ∧ Ext w' w'' := fun w' he => by
    refine (trimmed_any A n c xs w' (hR.ext he.out)).mono ?_
    rintro e w'' ⟨A', k, he2, h1, h2⟩
    exact ⟨A', k, ⟨he2, by have := (h1.out.1 _ (hR.ext he.out)).len; omega⟩, h1, h2⟩
  clear hR hs
  go_enter Tryz.func204, Tryz.ntmps204
  go_wp2_with (first
    | (go_at_call 205; (with_reducible refine (ht _ (Lib.hid (by (repeat (first | exact ext_refl _ | assumption | refine ext_setCell ?_ (by simp; try omega) _ | refine ext_alloc ?_ _ | refine ext_drew ?_ | refine ext_drewN ?_ _ | refine ext_trans ?_ (Aft.use _) | refine ext_trans ?_ (by assumption)))))).mono ?_); rintro e w1 ⟨A', k, ⟨rfl, hk⟩, hR, xb1⟩; obtain ⟨xc1, xf1, xl1, xz1⟩ := ext_use xb1; (try simp at xz1); obtain ⟨l1_0, gc, gf⟩ := kp xb1 (w.heap.size) (by first | omega | (simp; try omega)); have r1_0 := gc 0; have f1_0 := gf 0; clear gc gf)
   )
  refine bodyPost_ret (v := .tuple #[natV A' k k, .int .i64 0]) ?h rfl ⟨A', k, rfl, hR, ?_⟩
  case h => simp [results, Tryz.results204, go_sem, *]
  repeat (first | exact ext_refl _ | assumption | refine ext_setCell ?_ (by simp; try omega) _ | refine ext_alloc ?_ _ | refine ext_drew ?_ | refine ext_drewN ?_ _ | refine ext_trans ?_ (Aft.use _) | refine ext_trans ?_ (by assumption))
theorem ncheck_any (A : Option Addr) (n c : Nat) (xs : List Nat) (w : World) (hR : Rd w A n c xs) :
    Calls Tryz.prog 98 #[natV A n c] w fun e w' => e = .returned (.int .i64 (chk xs : Nat)) ∧ Ext w w' := by
  have hmx := hR.mx
  have hcx := hR.cap
  have hlen := Lib.hid hR.len
  by_cases h1 : 16384 < n
  · have e : chk xs = 4 := by unfold chk; rw [if_pos (by rw [hlen.out]; omega)]
    rw [e]
    clear e hR
    go_enter Tryz.func98, Tryz.ntmps98
    go_wp2
    refine bodyPost_ret (v := _) ?h rfl ⟨rfl, ?_⟩
    case h => simp [results, Tryz.results98, go_sem]
    repeat (first | exact ext_refl _ | assumption | refine ext_setCell ?_ (by simp; try omega) _ | refine ext_alloc ?_ _ | refine ext_drew ?_ | refine ext_drewN ?_ _ | refine ext_trans ?_ (Aft.use _) | refine ext_trans ?_ (by assumption))
  rcases hR.shape with ⟨rfl, rfl, rfl, rfl⟩ | ⟨b, off, rfl⟩
  · clear hR
    have e : chk [] = 0 := rfl
    rw [e]
    clear e
    go_enter Tryz.func98, Tryz.ntmps98
    go_wp2
    refine bodyPost_ret (v := _) ?h rfl ⟨rfl, ?_⟩
    case h => simp [results, Tryz.results98, go_sem]
    repeat (first | exact ext_refl _ | assumption | refine ext_setCell ?_ (by simp; try omega) _ | refine ext_alloc ?_ _ | refine ext_drew ?_ | refine ext_drewN ?_ _ | refine ext_trans ?_ (Aft.use _) | refine ext_trans ?_ (by assumption))
  by_cases h0 : n = 0
  · have e : chk xs = 0 := by unfold chk; rw [if_neg (by rw [hlen.out]; omega), if_neg (by rw [hlen.out]; omega)]
    rw [e]
    clear e hR
    subst h0
    go_enter Tryz.func98, Tryz.ntmps98
    go_wp2
    refine bodyPost_ret (v := _) ?h rfl ⟨rfl, ?_⟩
    case h => simp [results, Tryz.results98, go_sem]
    repeat (first | exact ext_refl _ | assumption | refine ext_setCell ?_ (by simp; try omega) _ | refine ext_alloc ?_ _ | refine ext_drew ?_ | refine ext_drewN ?_ _ | refine ext_trans ?_ (Aft.use _) | refine ext_trans ?_ (by assumption))
  obtain ⟨x, hx, hxb, hc⟩ := hR.get (n - 1) (by omega)
  have hb : b < w.heap.size := World.block_lt_of_cell? w _ hc
  have e : chk xs = if x = 0 then 10 else 0 := by
    unfold chk
    rw [if_neg (by rw [hlen.out]; omega), hlen.out, hx.out]
    by_cases h : x = 0
    · rw [if_pos ⟨by omega, h⟩, if_pos h]
    · rw [if_neg (fun h' => h h'.2), if_neg h]
  rw [e]
  clear e hR
  by_cases hz : x = 0
  · subst hz
    rw [if_pos rfl]
    go_enter Tryz.func98, Tryz.ntmps98
    go_wp2
    refine bodyPost_ret (v := _) ?h rfl ⟨rfl, ?_⟩
    case h => simp [results, Tryz.results98, go_sem]
    repeat (first | exact ext_refl _ | assumption | refine ext_setCell ?_ (by simp; try omega) _ | refine ext_alloc ?_ _ | refine ext_drew ?_ | refine ext_drewN ?_ _ | refine ext_trans ?_ (Aft.use _) | refine ext_trans ?_ (by assumption))
  · rw [if_neg hz]
    have hne : ((x : Int) == 0) = false := by simp; omega
    clear hz
    go_enter Tryz.func98, Tryz.ntmps98
    go_wp2
    refine bodyPost_ret (v := _) ?h rfl ⟨rfl, ?_⟩
    case h => simp [results, Tryz.results98, go_sem]
    repeat (first | exact ext_refl _ | assumption | refine ext_setCell ?_ (by simp; try omega) _ | refine ext_alloc ?_ _ | refine ext_drew ?_ | refine ext_drewN ?_ _ | refine ext_trans ?_ (Aft.use _) | refine ext_trans ?_ (by assumption))
theorem bits_and32 (a b : Nat) (ha : a < 4294967296) (hb : b < 4294967296) : bits .and .u32 (a : Int) (b : Int) = ((a &&& b : Nat) : Int) := by
  have hx : a &&& b < 2 ^ 32 := Nat.and_lt_two_pow _ (by omega)
  have h1 : (BitVec.ofInt 32 (a : Int)).toNat = a := by
    rw [BitVec.ofInt_natCast, BitVec.toNat_ofNat]; exact Nat.mod_eq_of_lt (by omega)
  have h2 : (BitVec.ofInt 32 (b : Int)).toNat = b := by
    rw [BitVec.ofInt_natCast, BitVec.toNat_ofNat]; exact Nat.mod_eq_of_lt (by omega)
  show IntKind.u32.wrap ((BitVec.ofInt 32 (a : Int) &&& BitVec.ofInt 32 (b : Int)).toNat : Int) = _
  rw [BitVec.toNat_and, h1, h2, IntKind.wrap_u32]
  omega
theorem bits_or32 (a b : Nat) (ha : a < 4294967296) (hb : b < 4294967296) : bits .or .u32 (a : Int) (b : Int) = ((a ||| b : Nat) : Int) := by
  have hx : a ||| b < 2 ^ 32 := Nat.or_lt_two_pow (by omega) (by omega)
  have h1 : (BitVec.ofInt 32 (a : Int)).toNat = a := by
    rw [BitVec.ofInt_natCast, BitVec.toNat_ofNat]; exact Nat.mod_eq_of_lt (by omega)
  have h2 : (BitVec.ofInt 32 (b : Int)).toNat = b := by
    rw [BitVec.ofInt_natCast, BitVec.toNat_ofNat]; exact Nat.mod_eq_of_lt (by omega)
  show IntKind.u32.wrap ((BitVec.ofInt 32 (a : Int) ||| BitVec.ofInt 32 (b : Int)).toNat : Int) = _
  rw [BitVec.toNat_or, h1, h2, IntKind.wrap_u32]
  omega
theorem bits_xor32 (a b : Nat) (ha : a < 4294967296) (hb : b < 4294967296) : bits .xor .u32 (a : Int) (b : Int) = ((a ^^^ b : Nat) : Int) := by
  have hx : a ^^^ b < 2 ^ 32 := Nat.xor_lt_two_pow (by omega) (by omega)
  have h1 : (BitVec.ofInt 32 (a : Int)).toNat = a := by
    rw [BitVec.ofInt_natCast, BitVec.toNat_ofNat]; exact Nat.mod_eq_of_lt (by omega)
  have h2 : (BitVec.ofInt 32 (b : Int)).toNat = b := by
    rw [BitVec.ofInt_natCast, BitVec.toNat_ofNat]; exact Nat.mod_eq_of_lt (by omega)
  show IntKind.u32.wrap ((BitVec.ofInt 32 (a : Int) ^^^ BitVec.ofInt 32 (b : Int)).toNat : Int) = _
  rw [BitVec.toNat_xor, h1, h2, IntKind.wrap_u32]
  omega
theorem xor_ones (x : Nat) (h : x < 4294967296) : 4294967295 ^^^ x = 4294967295 - x := by
  apply Nat.eq_of_testBit_eq
  intro i
  have e := Nat.testBit_two_pow_sub_succ (x := x) (n := 32) (by omega) i
  rw [show 2 ^ 32 - (x + 1) = 4294967295 - x by omega] at e
  have e1 := Nat.testBit_two_pow_sub_one 32 i
  rw [show 2 ^ 32 - 1 = 4294967295 by decide] at e1
  rw [Nat.testBit_xor, e, e1]
  by_cases hi : i < 32
  · simp [hi]
  · have : x.testBit i = false := Nat.testBit_lt_two_pow (Nat.lt_of_lt_of_le h (by
      have := Nat.pow_le_pow_right (n := 2) (by decide) (show 32 ≤ i by omega)
      omega))
    simp [hi, this]
theorem bits_not32 (x : Nat) (h : x < 4294967296) : bits .xor .u32 IntKind.u32.max (x : Int) = ((4294967295 - x : Nat) : Int) := by
  have e : IntKind.u32.max = ((4294967295 : Nat) : Int) := by decide
  rw [e, bits_xor32 _ _ (by decide) h, xor_ones x h]
theorem sub32_bits (x y c d : Nat) (hx : x < 4294967296) (hy : y < 4294967296) (hc : c ≤ 1) (hd : d = (x + 8589934592 - y - c) % 4294967296) :
    bits .or .u32 (bits .and .u32 (bits .xor .u32 IntKind.u32.max (x : Int)) (y : Int)) (bits .and .u32 (bits .xor .u32 IntKind.u32.max (bits .xor .u32 (x : Int) (y : Int))) (d : Int)) / 2147483648 = ((if x < y + c then 1 else 0 : Nat) : Int) := by
  have hd2 : d < 4294967296 := by rw [hd]; exact Nat.mod_lt _ (by decide)
  have hxy : x ^^^ y < 4294967296 := Nat.xor_lt_two_pow (n := 32) hx hy
  rw [bits_not32 x hx, bits_xor32 x y hx hy, bits_not32 _ hxy, bits_and32 _ _ (by omega) hy, bits_and32 _ _ (by omega) hd2, bits_or32 _ _ (Nat.lt_of_le_of_lt Nat.and_le_right hy) (Nat.lt_of_le_of_lt Nat.and_le_right hd2), ← borrow_law x y c d hx hy hc hd]
  rfl
theorem add32_any (x y c : Nat) (hx : x < 4294967296) (hy : y < 4294967296) (hc : c ≤ 1) (w : World) : Calls Tryz.prog 256 #[.int .u32 (x : Int), .int .u32 (y : Int), .int .u32 (c : Int)] w fun e w' =>
    e = .returned (.tuple #[.int .u32 (((x + y + c) % 4294967296 : Nat) : Int), .int .u32 (((x + y + c) / 4294967296 : Nat) : Int)]) ∧ w = w' := by
  go_enter Tryz.func256, Tryz.ntmps256
  go_wp2
  refine bodyPost_ret (v := .tuple #[.int .u32 (((x + y + c) % 4294967296 : Nat) : Int), .int .u32 (((x + y + c) / 4294967296 : Nat) : Int)]) ?h rfl ⟨rfl, rfl⟩
  case h => simp [results, Tryz.results256, go_sem]
theorem sub32_any (x y c : Nat) (hx : x < 4294967296) (hy : y < 4294967296) (hc : c ≤ 1) (w : World) : Calls Tryz.prog 257 #[.int .u32 (x : Int), .int .u32 (y : Int), .int .u32 (c : Int)] w fun e w' =>
    e = .returned (.tuple #[.int .u32 (((x + 8589934592 - y - c) % 4294967296 : Nat) : Int), .int .u32 ((if x < y + c then 1 else 0 : Nat) : Int)]) ∧ w = w' := by
  obtain ⟨d, hd⟩ : ∃ d, d = (x + 8589934592 - y - c) % 4294967296 := ⟨_, rfl⟩
  have hb := sub32_bits x y c d hx hy hc hd
  rw [← hd]
  generalize (if x < y + c then 1 else 0) = lt at hb
  have hdi : ((x : Int) - (y : Int) - (c : Int)) % 4294967296 = (d : Int) := by omega
  clear hd
  go_enter Tryz.func257, Tryz.ntmps257
  go_wp2
  refine bodyPost_ret (v := .tuple #[.int .u32 (d : Int), .int .u32 (lt : Int)]) ?h rfl ⟨rfl, rfl⟩
  case h => simp [results, Tryz.results257, go_sem, hb]
end Go.Proofs.YtiapoflkeliljaaGreatDoor
end
section
/- The program's sums and differences. -/
namespace Go.Proofs.YtiapoflkeliljaaGreatDoor
open Go.RowKit
attribute [local go_sem] sz2 sz3 sz4 sz5 sz6 sz7 sz8
set_option maxHeartbeats 4000000
set_option maxRecDepth 100000
attribute [local irreducible] Calls
theorem checks_any (B : Nat) (A1 A2 : Option Addr) (n1 c1 n2 c2 : Nat) (xs ys : List Nat) (w : World) (h1 : Rd w A1 n1 c1 xs) (h2 : Rd w A2 n2 c2 ys) (hx : chk xs = 0) (hy : chk ys = 0)
    (hc0 : w.cell? ⟨B, 0, none⟩ = some (.slice A1 n1 c1)) (hc1 : w.cell? ⟨B, 1, none⟩ = some (.slice A2 n2 c2)) :
    Calls Tryz.prog 203 #[.slice (some ⟨B, 0, none⟩) 2 2] w fun e w' => e = .returned (.int .i64 0) ∧ Ext w w' := by
  have k1 : ∀ w', Hid (Ext w w') → Calls Tryz.prog 98 #[natV A1 n1 c1] w' fun e w'' => e = .returned (.int .i64 0) ∧ Ext w' w'' := fun w' he => by
    have := ncheck_any A1 n1 c1 xs w' (h1.ext he.out)
    rwa [hx] at this
  have k2 : ∀ w', Hid (Ext w w') → Calls Tryz.prog 98 #[natV A2 n2 c2] w' fun e w'' => e = .returned (.int .i64 0) ∧ Ext w' w'' := fun w' he => by
    have := ncheck_any A2 n2 c2 ys w' (h2.ext he.out)
    rwa [hy] at this
  have hBl : B < w.heap.size := World.block_lt_of_cell? w _ hc0
  clear h1 h2 hx hy
  go_enter Tryz.func203, Tryz.ntmps203
  go_wp2
  go_loopw [8] (fun vi wr => ∃ i : Nat, i ≤ 2 ∧ vi = .int .i64 (i : Int) ∧ Hid (Ext w wr)) (fun vi _ => 2 - (intOf vi).toNat)
  case atStart => exact ⟨0, by omega, rfl, ext_refl _⟩
  case round =>
    obtain ⟨i, hi, rfl, hext⟩ := hrel
    obtain ⟨xc, xf, xl, xz⟩ := ext_use hext.out
    have g0 := (xc B 0 hBl).trans hc0
    have g1 := (xc B 1 hBl).trans hc1
    have gl := xl B hBl
    clear xc xf xl xz
    rcases (show i = 0 ∨ i = 1 ∨ i = 2 by omega) with rfl | rfl | rfl
    · have hext' := hext.out
      go_wp2_with (first
        | (go_at_call 98; (with_reducible refine (k1 _ (Lib.hid (by (repeat (first | exact ext_refl _ | assumption | refine ext_setCell ?_ (by simp; try omega) _ | refine ext_alloc ?_ _ | refine ext_drew ?_ | refine ext_drewN ?_ _ | refine ext_trans ?_ (Aft.use _) | refine ext_trans ?_ (by assumption)))))).mono ?_); rintro e w1 ⟨rfl, xb1⟩; obtain ⟨xc1, xf1, xl1, xz1⟩ := ext_use xb1; (try simp at xz1))
       )
      go_roundw
      case rel => exact ⟨1, by omega, by go_num, (show Ext _ _ by (repeat (first | exact ext_refl _ | assumption | refine ext_setCell ?_ (by simp; try omega) _ | refine ext_alloc ?_ _ | refine ext_drew ?_ | refine ext_drewN ?_ _ | refine ext_trans ?_ (Aft.use _) | refine ext_trans ?_ (by assumption))))⟩
      case measure => simp [intOf]
    · have hext' := hext.out
      go_wp2_with (first
        | (go_at_call 98; (with_reducible refine (k2 _ (Lib.hid (by (repeat (first | exact ext_refl _ | assumption | refine ext_setCell ?_ (by simp; try omega) _ | refine ext_alloc ?_ _ | refine ext_drew ?_ | refine ext_drewN ?_ _ | refine ext_trans ?_ (Aft.use _) | refine ext_trans ?_ (by assumption)))))).mono ?_); rintro e w1 ⟨rfl, xb1⟩; obtain ⟨xc1, xf1, xl1, xz1⟩ := ext_use xb1; (try simp at xz1))
       )
      go_roundw
      case rel => exact ⟨2, by omega, by go_num, (show Ext _ _ by (repeat (first | exact ext_refl _ | assumption | refine ext_setCell ?_ (by simp; try omega) _ | refine ext_alloc ?_ _ | refine ext_drew ?_ | refine ext_drewN ?_ _ | refine ext_trans ?_ (Aft.use _) | refine ext_trans ?_ (by assumption))))⟩
      case measure => simp [intOf]
    · have hext' := hext.out
      go_wp2
      go_ret
      exact ⟨rfl, hext'⟩
theorem pcmp_any (A B : Option Addr) (n c m d a b : Nat) (w : World) (hA : Rd w A n c (lim a)) (hB : Rd w B m d (lim b)) :
    Calls Tryz.prog 209 #[.slice A n c, .slice B m d] w fun e w' => e = .returned (.int .i64 (cmpN a b)) ∧ Ext w w' := by
  have hmx := hA.mx
  have hmy := hB.mx
  have hcx := hA.cap
  have hcy := hB.cap
  have HA := Lib.hid hA
  have HB := Lib.hid hB
  have hlx := Lib.hid hA.len
  have hly := Lib.hid hB.len
  clear hA hB
  by_cases h1 : n < m
  · have e : cmpN a b = -1 := by
      unfold cmpN
      rw [if_pos (val_lt_len (by rw [hlx.out, hly.out]; exact h1))]
    rw [e]
    clear e
    go_enter Tryz.func209, Tryz.ntmps209
    go_wp2
    go_ret
    exact ⟨rfl, ext_refl _⟩
  by_cases h2 : m < n
  · have e : cmpN a b = 1 := by
      have := val_lt_len (a := b) (b := a) (by rw [hlx.out, hly.out]; exact h2)
      unfold cmpN
      rw [if_neg (by omega), if_pos this]
    rw [e]
    clear e
    go_enter Tryz.func209, Tryz.ntmps209
    go_wp2
    go_ret
    exact ⟨rfl, ext_refl _⟩
  obtain rfl : m = n := by omega
  clear h1 h2
  go_enter Tryz.func209, Tryz.ntmps209
  go_wp2
  go_loopw [5] (fun vi wr => ∃ k : Nat, k ≤ m ∧ vi = .int .i64 ((k : Int) - 1) ∧ Hid ((lim a).drop k = (lim b).drop k) ∧ Hid (Ext w wr)) (fun vi _ => (intOf vi + 1).toNat)
  case atStart => exact ⟨m, Nat.le_refl _, by go_num, by show List.drop m (lim a) = List.drop m (lim b); rw [List.drop_eq_nil_of_le (by rw [hlx.out]; exact Nat.le_refl _), List.drop_eq_nil_of_le (by rw [hly.out]; exact Nat.le_refl _)], ext_refl _⟩
  case round =>
    obtain ⟨k, hk, rfl, hd, hext⟩ := hrel
    by_cases h0 : 0 < k
    · obtain ⟨ba, oa, hAe⟩ : ∃ b off, A = some ⟨b, off, none⟩ := by
        rcases HA.out.shape with ⟨_, h, _⟩ | h
        · omega
        · exact h
      obtain ⟨bb, ob, hBe⟩ : ∃ b off, B = some ⟨b, off, none⟩ := by
        rcases HB.out.shape with ⟨_, h, _⟩ | h
        · omega
        · exact h
      subst hAe hBe
      obtain ⟨x, hx, hxb, hcx1⟩ := (HA.out.ext hext.out).get (k - 1) (by omega)
      obtain ⟨y, hy, hyb, hcy1⟩ := (HB.out.ext hext.out).get (k - 1) (by omega)
      have hsp : Hid (∀ l : List Nat, l.length = m → l.drop (k - 1) = l.getD (k - 1) 0 :: l.drop k) := fun l hl => by
        rw [List.drop_eq_getElem_cons (by omega), show k - 1 + 1 = k by omega, List.getD_eq_getElem?_getD, List.getElem?_eq_getElem (by omega)]; rfl
      have hd' : Hid ((lim a).drop (k - 1 + 1) = (lim b).drop (k - 1 + 1)) := by
        show _ = _
        rw [show k - 1 + 1 = k by omega]; exact hd.out
      have hext' := hext.out
      rcases Nat.lt_trichotomy x y with hlt | heq | hgt
      · have e : cmpN a b = -1 := by
          have := val_cmp (lb_lim a) (lb_lim b) (k := k - 1) (by rw [hlx.out]; omega) (by rw [hlx.out, hly.out]) hx.out hy.out hd'.out hlt
          rw [val_lim, val_lim] at this
          unfold cmpN; rw [if_pos this]
        have E := Lib.hid e
        clear e
        go_wp2
        go_quiet (fail)
        go_wp2
        go_ret
        exact ⟨ret_int E.out.symm, (show Ext _ _ by (repeat (first | exact ext_refl _ | assumption | refine ext_setCell ?_ (by simp; try omega) _ | refine ext_alloc ?_ _ | refine ext_drew ?_ | refine ext_drewN ?_ _ | refine ext_trans ?_ (Aft.use _) | refine ext_trans ?_ (by assumption))))⟩
      · subst heq
        go_wp2
        go_quiet (fail)
        go_wp2
        go_quiet (fail)
        go_wp2
        go_roundw
        case rel => exact ⟨k - 1, by omega, by go_num, by show _ = _; rw [hsp.out _ hlx.out, hsp.out _ hly.out, hx.out, hy.out, hd.out], (show Ext _ _ by (repeat (first | exact ext_refl _ | assumption | refine ext_setCell ?_ (by simp; try omega) _ | refine ext_alloc ?_ _ | refine ext_drew ?_ | refine ext_drewN ?_ _ | refine ext_trans ?_ (Aft.use _) | refine ext_trans ?_ (by assumption))))⟩
        case measure => simp [intOf]; omega
      · have e : cmpN a b = 1 := by
          have := val_cmp (lb_lim b) (lb_lim a) (k := k - 1) (by rw [hly.out]; omega) (by rw [hlx.out, hly.out]) hy.out hx.out hd'.out.symm hgt
          rw [val_lim, val_lim] at this
          unfold cmpN; rw [if_neg (by omega), if_pos this]
        have E := Lib.hid e
        clear e
        go_wp2
        go_quiet (fail)
        go_wp2
        go_quiet (fail)
        go_wp2
        go_ret
        exact ⟨ret_int E.out.symm, (show Ext _ _ by (repeat (first | exact ext_refl _ | assumption | refine ext_setCell ?_ (by simp; try omega) _ | refine ext_alloc ?_ _ | refine ext_drew ?_ | refine ext_drewN ?_ _ | refine ext_trans ?_ (Aft.use _) | refine ext_trans ?_ (by assumption))))⟩
    · obtain rfl : k = 0 := by omega
      have e : cmpN a b = 0 := by
        have := hd.out
        rw [List.drop_zero, List.drop_zero] at this
        have h := congrArg val this
        rw [val_lim, val_lim] at h
        unfold cmpN; rw [if_neg (by omega), if_neg (by omega)]
      have E := Lib.hid e
      clear e
      have hext' := hext.out
      go_wp2
      go_ret
      exact ⟨ret_int E.out.symm, hext'⟩
end Go.Proofs.YtiapoflkeliljaaGreatDoor
end
section
/- The program's sums. -/
namespace Go.Proofs.YtiapoflkeliljaaGreatDoor
open Go.RowKit
attribute [local go_sem] sz2 sz3 sz4 sz5 sz6 sz7 sz8
set_option maxHeartbeats 4000000
set_option maxRecDepth 100000
attribute [local irreducible] Calls
theorem add32_zero (x c : Nat) (hx : x < 4294967296) (hc : c ≤ 1) (w : World) : Calls Tryz.prog 256 #[.int .u32 (x : Int), .int .u32 0, .int .u32 (c : Int)] w fun e w' =>
    e = .returned (.tuple #[.int .u32 (((x + c) % 4294967296 : Nat) : Int), .int .u32 (((x + c) / 4294967296 : Nat) : Int)]) ∧ w = w' := add32_any x 0 c hx (by decide) hc w
theorem slice_at0 (w : World) (u v : Value) (t : TypeId) : (w.alloc (Obj.cells #[u, v] t)).cell? ⟨w.heap.size, 0, none⟩ = some u := by rw [World.cell?_alloc_at _ _ _ _ rfl]; rfl
theorem slice_at1 (w : World) (u v : Value) (t : TypeId) : (w.alloc (Obj.cells #[u, v] t)).cell? ⟨w.heap.size, 1, none⟩ = some v := by rw [World.cell?_alloc_at _ _ _ _ rfl]; rfl
theorem checks_new (A1 A2 : Option Addr) (n1 c1 n2 c2 : Nat) (xs ys : List Nat) (w w' : World) (h1 : Rd w A1 n1 c1 xs) (h2 : Rd w A2 n2 c2 ys) (hx : chk xs = 0) (hy : chk ys = 0) (he : Hid (Ext w w')) (t : TypeId) (B : Nat) (hB : B = w'.heap.size) :
    Calls Tryz.prog 203 #[.slice (some ⟨B, 0, none⟩) 2 2] (w'.alloc (Obj.cells #[.slice A1 n1 c1, .slice A2 n2 c2] t)) fun e w'' => e = .returned (.int .i64 0) ∧ Ext (w'.alloc (Obj.cells #[.slice A1 n1 c1, .slice A2 n2 c2] t)) w'' := by
  subst hB
  exact checks_any w'.heap.size A1 A2 n1 c1 n2 c2 xs ys _ (h1.ext (ext_trans he.out (ext_alloc (ext_refl _) _))) (h2.ext (ext_trans he.out (ext_alloc (ext_refl _) _))) hx hy (slice_at0 _ _ _ _) (slice_at1 _ _ _ _)
theorem padd_ge (A B : Option Addr) (n c m d : Nat) (a b : Nat) (hnm : m ≤ n) (w : World) (hA : Rd w A n c (lim a)) (hB : Rd w B m d (lim b)) (ha : (lim a).length ≤ 16384) (hb : (lim b).length ≤ 16384) (hs : (lim (a + b)).length ≤ 16384) :
    Calls Tryz.prog 195 #[natV A n c, natV B m d] w fun e w' => ∃ (A' : Option Addr) (k : Nat), e = .returned (.tuple #[natV A' k k, .int .i64 0]) ∧ Hid (Rd w' A' k k (lim (a + b)) ∧ Fr w A') ∧ Ext w w' := by
  have hck : ∀ w' t G, Hid (Ext w w') → G = w'.heap.size → Calls Tryz.prog 203 #[.slice (some ⟨G, 0, none⟩) 2 2] (w'.alloc (Obj.cells #[.slice A n c, .slice B m d] t)) fun e w'' => e = .returned (.int .i64 0) ∧ Ext (w'.alloc (Obj.cells #[.slice A n c, .slice B m d] t)) w'' := fun w' t G he hG => checks_new A B n c m d _ _ w w' hA hB (chk_lim ha) (chk_lim hb) he t G hG
  have hmx := hA.mx
  have hmy := hB.mx
  have hcx := hA.cap
  have hcy := hB.cap
  have HA := Lib.hid hA
  have HB := Lib.hid hB
  have hlx := Lib.hid hA.len
  have hly := Lib.hid hB.len
  have hn : n ≤ 16384 := by have := hA.len; omega
  have hm : m ≤ 16384 := by have := hB.len; omega
  have HS := Lib.hid hs
  clear hA hB ha hb hs
  go_enter Tryz.func195, Tryz.ntmps195
  go_wp2_with (first
    | (go_at_call 203; (with_reducible refine (hck _ _ _ (Lib.hid (by (repeat (first | exact ext_refl _ | assumption | refine ext_setCell ?_ (by simp; try omega) _ | refine ext_alloc ?_ _ | refine ext_drew ?_ | refine ext_drewN ?_ _ | refine ext_trans ?_ (Aft.use _) | refine ext_trans ?_ (by assumption))))) (by simp)).mono ?_); rintro e w1 ⟨rfl, xb1⟩; obtain ⟨xc1, xf1, xl1, xz1⟩ := ext_use xb1; (try simp at xz1); obtain ⟨l1_0, gc, gf⟩ := kp xb1 (w.heap.size) (by first | omega | (simp; try omega)); have r1_0 := gc 0; have f1_0 := gf 0; clear gc gf; obtain ⟨l1_1, gc, gf⟩ := kp xb1 (w.heap.size + 1) (by first | omega | (simp; try omega)); have r1_1 := gc 0; have f1_1 := gf 0; clear gc gf; obtain ⟨l1_2, gc, gf⟩ := kp xb1 (w.heap.size + 1 + 1) (by first | omega | (simp; try omega)); have r1_2 := gc 0; have f1_2 := gf 0; clear gc gf)
   )
  go_quiet (fail)
  go_wp2_with (first
    | (at_make; refine make_u32 rfl _ _ rfl _ _ _ _ (n + 1) rfl rfl (by simp) (by simp) (by omega) ?_; intro w2 hx2 ho2; have hext2 := Lib.hid hx2; clear hx2)
    | go_in)
  have hw1 : Hid (Ext w w1) := Lib.hid (by (repeat (first | exact ext_refl _ | assumption | refine ext_setCell ?_ (by simp; try omega) _ | refine ext_alloc ?_ _ | refine ext_drew ?_ | refine ext_drewN ?_ _ | refine ext_trans ?_ (Aft.use _) | refine ext_trans ?_ (by assumption))))
  have hE2 : Hid (Ext w1 w2) := Lib.hid (ext_trans (ext_drewN (ext_refl w1) nq) hext2.out)
  have hGl : w1.heap.size < w2.heap.size := (ho2.out.lt w1.heap.size rfl).2
  have hG2 : w.heap.size + 1 + 1 < w1.heap.size := l1_2
  go_loopw [10, 39] (fun vc vi wr => ∃ (i cy : Nat) (os : List Nat), i ≤ n ∧ cy ≤ 1 ∧ vi = .int .i64 (i : Int) ∧ vc = .int .u32 (cy : Int) ∧ Hid (os.length = n + 1 ∧ Lb os ∧ val os + Bs ^ i * cy = val ((lim a).take i) + val ((lim b).take i) ∧ ∀ p, i ≤ p → os.getD p 0 = 0) ∧
      Hid (wr.ownsRow w1.heap.size 54 1 (.slice (some ⟨w1.heap.size, 0, none⟩) (n + 1) (n + 1)) (n + 1) (os.map u32V)) ∧ Hid (Ext w1 wr))
    (fun _ vi _ => n - (intOf vi).toNat)
  case atStart => exact ⟨0, 0, List.replicate (n + 1) 0, Nat.zero_le _, by omega, rfl, rfl, ⟨by simp, lb_replicate _, by rw [val_replicate]; simp [val], fun p _ => getD_replicate0 _ _⟩, ho2.out, hE2.out⟩
  case round =>
    clear ho2 hext2 hE2
    obtain ⟨i, cy, os, hi, hcy1, rfl, rfl, hos, hown, hext⟩ := hrel
    by_cases h0 : i < n
    · obtain ⟨bx, ox, hXe⟩ : ∃ b off, A = some ⟨b, off, none⟩ := by
        rcases HA.out.shape with ⟨_, h, _⟩ | h
        · omega
        · exact h
      subst hXe
      obtain ⟨x, hx, hxb, hcx1⟩ := ((HA.out.ext hw1.out).ext hext.out).get i h0
      obtain ⟨hc1, hf1⟩ := own_at hown.out i (by omega)
      rw [hos.out.2.2.2 i (Nat.le_refl _)] at hc1
      by_cases hm0 : i < m
      · obtain ⟨by', oy, hYe⟩ : ∃ b off, B = some ⟨b, off, none⟩ := by
          rcases HB.out.shape with ⟨_, h, _⟩ | h
          · omega
          · exact h
        subst hYe
        obtain ⟨y, hy, hyb, hcy2⟩ := ((HB.out.ext hw1.out).ext hext.out).get i hm0
        go_wp2_with (first
          | (go_at_call 256; (with_reducible refine (add32_any x y cy hxb hyb hcy1 _).mono ?_); rintro e w' ⟨rfl, rfl⟩)
         )
        case roundEnd =>
          refine ⟨⟨i + 1, (x + y + cy) / 4294967296, os.set i ((x + y + cy) % 4294967296), by omega, by omega, by simp, by simp, ⟨by rw [List.length_set]; exact hos.out.1, lb_set hos.out.2.1 _ (Nat.mod_lt _ (by decide)), sum_step (by rw [hos.out.1]; omega) hos.out.2.2.1 (hos.out.2.2.2 i (Nat.le_refl _)) hx.out hy.out, fun p hp => by rw [getD_set_ne (by omega)]; exact hos.out.2.2.2 p (by omega)⟩, own_set hown.out i _, ext_setCell hext.out (Nat.le_refl _) _⟩, ?_⟩
          simp [intOf]; omega
      · have hy0 : (lim b).getD i 0 = 0 := getD_ge (by rw [hly.out]; omega)
        have HY := Lib.hid hy0
        clear hy0
        go_wp2_with (first
          | (go_at_call 256; (with_reducible refine (add32_zero x cy hxb hcy1 _).mono ?_); rintro e w' ⟨rfl, rfl⟩)
         )
        case roundEnd =>
          refine ⟨⟨i + 1, (x + cy) / 4294967296, os.set i ((x + cy) % 4294967296), by omega, by omega, by simp, by simp, ⟨by rw [List.length_set]; exact hos.out.1, lb_set hos.out.2.1 _ (Nat.mod_lt _ (by decide)), sum_step (y := 0) (by rw [hos.out.1]; omega) hos.out.2.2.1 (hos.out.2.2.2 i (Nat.le_refl _)) hx.out HY.out, fun p hp => by rw [getD_set_ne (by omega)]; exact hos.out.2.2.2 p (by omega)⟩, own_set hown.out i _, ext_setCell hext.out (Nat.le_refl _) _⟩, ?_⟩
          simp [intOf]; omega
    · obtain rfl : i = n := by omega
      obtain ⟨hc1, hf1⟩ := own_at hown.out i (by omega)
      rw [hos.out.2.2.2 i (Nat.le_refl _)] at hc1
      have hrow : Hid ((wr.setCell ⟨w1.heap.size, i, none⟩ (.int .u32 (cy : Int))).ownsRow w1.heap.size 54 1 (.slice (some ⟨w1.heap.size, 0, none⟩) (i + 1) (i + 1)) (i + 1) ((os.set i cy).map u32V)) := Lib.hid (own_set hown.out i cy)
      have hval : val (os.set i cy) = a + b := by
        have h1 := val_set os i cy (by rw [hos.out.1]; omega)
        rw [hos.out.2.2.2 i (Nat.le_refl _), Nat.mul_zero, Nat.add_zero] at h1
        rw [h1, hos.out.2.2.1, take_ge (by rw [hlx.out]; exact Nat.le_refl _), take_ge (by rw [hly.out]; omega), val_lim, val_lim]
        all_goals omega
      obtain ⟨G', c', he, hRR⟩ := Rd.own hrow.out (lb_set hos.out.2.1 i (show cy < 4294967296 by omega))
      cases he
      have HR := Lib.hid hRR
      have HV := Lib.hid hval
      have hE3 : Hid (Ext w1 (wr.setCell ⟨w1.heap.size, i, none⟩ (.int .u32 (cy : Int)))) := Lib.hid (ext_setCell hext.out (Nat.le_refl _) _)
      clear hRR hval hrow hck
      have hgl : w1.heap.size < wr.heap.size := (hown.out.lt w1.heap.size rfl).2
      obtain ⟨xc7, xf7, xl7, xz7⟩ := ext_use (hext.out)
      obtain ⟨l7_0, gc, gf⟩ := kp (hext.out) (w.heap.size + 1 + 1) (by first | omega | (simp; try omega))
      have r7_0 := gc 0
      have f7_0 := gf 0
      clear gc gf
      go_wp2_with (first
        | (go_at_call 204; (with_reducible refine (nfits_any _ _ _ _ _ HR.out (by rw [HV.out]; exact HS.out)).mono ?_); rintro e w8 ⟨A', k, rfl, hF, xb8⟩; obtain ⟨xc8, xf8, xl8, xz8⟩ := ext_use xb8; (try simp at xz8); obtain ⟨l8_0, gc, gf⟩ := kp xb8 (w.heap.size + 1 + 1) (by first | omega | (simp; try omega)); have r8_0 := gc 0; have f8_0 := gf 0; clear gc gf)
       )
      have hw1' := hw1.out
      have hE3' := hE3.out
      refine bodyPost_ret (v := .tuple #[natV A' k k, .int .i64 0]) ?h rfl ⟨A', k, rfl, ⟨?_, ?_⟩, ?_⟩
      case h => simp [results, Tryz.results195, go_sem, *]
      · have h1 := (hF.out.1 _ HR.out).ext xb8
        rw [HV.out] at h1
        refine h1.set _ (fun q hq => ?_)
        have := hF.out.2 q hq
        cases this
        simp; omega
      · intro q hq
        have := hF.out.2 q hq
        cases this
        simp; omega
      · exact ext_setCell (ext_trans hw1' (ext_trans hE3' xb8)) (show w.heap.size ≤ w.heap.size + 1 + 1 by omega) _
theorem padd_lt (A B : Option Addr) (n c m d : Nat) (a b : Nat) (hnm : n < m) (w : World) (hA : Rd w A n c (lim a)) (hB : Rd w B m d (lim b)) (ha : (lim a).length ≤ 16384) (hb : (lim b).length ≤ 16384) (hs : (lim (a + b)).length ≤ 16384) :
    Calls Tryz.prog 195 #[natV A n c, natV B m d] w fun e w' => ∃ (A' : Option Addr) (k : Nat), e = .returned (.tuple #[natV A' k k, .int .i64 0]) ∧ Hid (Rd w' A' k k (lim (a + b)) ∧ Fr w A') ∧ Ext w w' := by
  have hck : ∀ w' t G, Hid (Ext w w') → G = w'.heap.size → Calls Tryz.prog 203 #[.slice (some ⟨G, 0, none⟩) 2 2] (w'.alloc (Obj.cells #[.slice A n c, .slice B m d] t)) fun e w'' => e = .returned (.int .i64 0) ∧ Ext (w'.alloc (Obj.cells #[.slice A n c, .slice B m d] t)) w'' := fun w' t G he hG => checks_new A B n c m d _ _ w w' hA hB (chk_lim ha) (chk_lim hb) he t G hG
  have hmx := hA.mx
  have hmy := hB.mx
  have hcx := hA.cap
  have hcy := hB.cap
  have HA := Lib.hid hA
  have HB := Lib.hid hB
  have hlx := Lib.hid hA.len
  have hly := Lib.hid hB.len
  have hn : n ≤ 16384 := by have := hA.len; omega
  have hm : m ≤ 16384 := by have := hB.len; omega
  have HS := Lib.hid hs
  clear hA hB ha hb hs
  go_enter Tryz.func195, Tryz.ntmps195
  go_wp2_with (first
    | (go_at_call 203; (with_reducible refine (hck _ _ _ (Lib.hid (by (repeat (first | exact ext_refl _ | assumption | refine ext_setCell ?_ (by simp; try omega) _ | refine ext_alloc ?_ _ | refine ext_drew ?_ | refine ext_drewN ?_ _ | refine ext_trans ?_ (Aft.use _) | refine ext_trans ?_ (by assumption))))) (by simp)).mono ?_); rintro e w1 ⟨rfl, xb1⟩; obtain ⟨xc1, xf1, xl1, xz1⟩ := ext_use xb1; (try simp at xz1); obtain ⟨l1_0, gc, gf⟩ := kp xb1 (w.heap.size) (by first | omega | (simp; try omega)); have r1_0 := gc 0; have f1_0 := gf 0; clear gc gf; obtain ⟨l1_1, gc, gf⟩ := kp xb1 (w.heap.size + 1) (by first | omega | (simp; try omega)); have r1_1 := gc 0; have f1_1 := gf 0; clear gc gf; obtain ⟨l1_2, gc, gf⟩ := kp xb1 (w.heap.size + 1 + 1) (by first | omega | (simp; try omega)); have r1_2 := gc 0; have f1_2 := gf 0; clear gc gf)
   )
  go_quiet (fail)
  go_wp2_with (first
    | (at_make; refine make_u32 rfl _ _ rfl _ _ _ _ (m + 1) rfl rfl (by simp) (by simp) (by omega) ?_; intro w2 hx2 ho2; have hext2 := Lib.hid hx2; clear hx2)
    | go_in)
  have hw1 : Hid (Ext w w1) := Lib.hid (by (repeat (first | exact ext_refl _ | assumption | refine ext_setCell ?_ (by simp; try omega) _ | refine ext_alloc ?_ _ | refine ext_drew ?_ | refine ext_drewN ?_ _ | refine ext_trans ?_ (Aft.use _) | refine ext_trans ?_ (by assumption))))
  have hE2 : Hid (Ext w1 w2) := Lib.hid (ext_trans (ext_drewN (ext_refl w1) nq) hext2.out)
  have hGl : w1.heap.size < w2.heap.size := (ho2.out.lt w1.heap.size rfl).2
  have hG2 : w.heap.size + 1 + 1 < w1.heap.size := l1_2
  go_loopw [10, 39] (fun vc vi wr => ∃ (i cy : Nat) (os : List Nat), i ≤ m ∧ cy ≤ 1 ∧ vi = .int .i64 (i : Int) ∧ vc = .int .u32 (cy : Int) ∧ Hid (os.length = m + 1 ∧ Lb os ∧ val os + Bs ^ i * cy = val ((lim b).take i) + val ((lim a).take i) ∧ ∀ p, i ≤ p → os.getD p 0 = 0) ∧
      Hid (wr.ownsRow w1.heap.size 54 1 (.slice (some ⟨w1.heap.size, 0, none⟩) (m + 1) (m + 1)) (m + 1) (os.map u32V)) ∧ Hid (Ext w1 wr))
    (fun _ vi _ => m - (intOf vi).toNat)
  case atStart => exact ⟨0, 0, List.replicate (m + 1) 0, Nat.zero_le _, by omega, rfl, rfl, ⟨by simp, lb_replicate _, by rw [val_replicate]; simp [val], fun p _ => getD_replicate0 _ _⟩, ho2.out, hE2.out⟩
  case round =>
    clear ho2 hext2 hE2
    obtain ⟨i, cy, os, hi, hcy1, rfl, rfl, hos, hown, hext⟩ := hrel
    by_cases h0 : i < m
    · obtain ⟨bx, ox, hXe⟩ : ∃ b off, B = some ⟨b, off, none⟩ := by
        rcases HB.out.shape with ⟨_, h, _⟩ | h
        · omega
        · exact h
      subst hXe
      obtain ⟨x, hx, hxb, hcx1⟩ := ((HB.out.ext hw1.out).ext hext.out).get i h0
      obtain ⟨hc1, hf1⟩ := own_at hown.out i (by omega)
      rw [hos.out.2.2.2 i (Nat.le_refl _)] at hc1
      by_cases hm0 : i < n
      · obtain ⟨by', oy, hYe⟩ : ∃ b off, A = some ⟨b, off, none⟩ := by
          rcases HA.out.shape with ⟨_, h, _⟩ | h
          · omega
          · exact h
        subst hYe
        obtain ⟨y, hy, hyb, hcy2⟩ := ((HA.out.ext hw1.out).ext hext.out).get i hm0
        go_wp2_with (first
          | (go_at_call 256; (with_reducible refine (add32_any x y cy hxb hyb hcy1 _).mono ?_); rintro e w' ⟨rfl, rfl⟩)
         )
        case roundEnd =>
          refine ⟨⟨i + 1, (x + y + cy) / 4294967296, os.set i ((x + y + cy) % 4294967296), by omega, by omega, by simp, by simp, ⟨by rw [List.length_set]; exact hos.out.1, lb_set hos.out.2.1 _ (Nat.mod_lt _ (by decide)), sum_step (by rw [hos.out.1]; omega) hos.out.2.2.1 (hos.out.2.2.2 i (Nat.le_refl _)) hx.out hy.out, fun p hp => by rw [getD_set_ne (by omega)]; exact hos.out.2.2.2 p (by omega)⟩, own_set hown.out i _, ext_setCell hext.out (Nat.le_refl _) _⟩, ?_⟩
          simp [intOf]; omega
      · have hy0 : (lim a).getD i 0 = 0 := getD_ge (by rw [hlx.out]; omega)
        have HY := Lib.hid hy0
        clear hy0
        go_wp2_with (first
          | (go_at_call 256; (with_reducible refine (add32_zero x cy hxb hcy1 _).mono ?_); rintro e w' ⟨rfl, rfl⟩)
         )
        case roundEnd =>
          refine ⟨⟨i + 1, (x + cy) / 4294967296, os.set i ((x + cy) % 4294967296), by omega, by omega, by simp, by simp, ⟨by rw [List.length_set]; exact hos.out.1, lb_set hos.out.2.1 _ (Nat.mod_lt _ (by decide)), sum_step (y := 0) (by rw [hos.out.1]; omega) hos.out.2.2.1 (hos.out.2.2.2 i (Nat.le_refl _)) hx.out HY.out, fun p hp => by rw [getD_set_ne (by omega)]; exact hos.out.2.2.2 p (by omega)⟩, own_set hown.out i _, ext_setCell hext.out (Nat.le_refl _) _⟩, ?_⟩
          simp [intOf]; omega
    · obtain rfl : i = m := by omega
      obtain ⟨hc1, hf1⟩ := own_at hown.out i (by omega)
      rw [hos.out.2.2.2 i (Nat.le_refl _)] at hc1
      have hrow : Hid ((wr.setCell ⟨w1.heap.size, i, none⟩ (.int .u32 (cy : Int))).ownsRow w1.heap.size 54 1 (.slice (some ⟨w1.heap.size, 0, none⟩) (i + 1) (i + 1)) (i + 1) ((os.set i cy).map u32V)) := Lib.hid (own_set hown.out i cy)
      have hval : val (os.set i cy) = a + b := by
        have h1 := val_set os i cy (by rw [hos.out.1]; omega)
        rw [hos.out.2.2.2 i (Nat.le_refl _), Nat.mul_zero, Nat.add_zero] at h1
        rw [h1, hos.out.2.2.1, take_ge (by rw [hly.out]; exact Nat.le_refl _), take_ge (by rw [hlx.out]; omega), val_lim, val_lim]
        all_goals omega
      obtain ⟨G', c', he, hRR⟩ := Rd.own hrow.out (lb_set hos.out.2.1 i (show cy < 4294967296 by omega))
      cases he
      have HR := Lib.hid hRR
      have HV := Lib.hid hval
      have hE3 : Hid (Ext w1 (wr.setCell ⟨w1.heap.size, i, none⟩ (.int .u32 (cy : Int)))) := Lib.hid (ext_setCell hext.out (Nat.le_refl _) _)
      clear hRR hval hrow hck
      have hgl : w1.heap.size < wr.heap.size := (hown.out.lt w1.heap.size rfl).2
      obtain ⟨xc7, xf7, xl7, xz7⟩ := ext_use (hext.out)
      obtain ⟨l7_0, gc, gf⟩ := kp (hext.out) (w.heap.size + 1 + 1) (by first | omega | (simp; try omega))
      have r7_0 := gc 0
      have f7_0 := gf 0
      clear gc gf
      go_wp2_with (first
        | (go_at_call 204; (with_reducible refine (nfits_any _ _ _ _ _ HR.out (by rw [HV.out]; exact HS.out)).mono ?_); rintro e w8 ⟨A', k, rfl, hF, xb8⟩; obtain ⟨xc8, xf8, xl8, xz8⟩ := ext_use xb8; (try simp at xz8); obtain ⟨l8_0, gc, gf⟩ := kp xb8 (w.heap.size + 1 + 1) (by first | omega | (simp; try omega)); have r8_0 := gc 0; have f8_0 := gf 0; clear gc gf)
       )
      have hw1' := hw1.out
      have hE3' := hE3.out
      refine bodyPost_ret (v := .tuple #[natV A' k k, .int .i64 0]) ?h rfl ⟨A', k, rfl, ⟨?_, ?_⟩, ?_⟩
      case h => simp [results, Tryz.results195, go_sem, *]
      · have h1 := (hF.out.1 _ HR.out).ext xb8
        rw [HV.out] at h1
        refine h1.set _ (fun q hq => ?_)
        have := hF.out.2 q hq
        cases this
        simp; omega
      · intro q hq
        have := hF.out.2 q hq
        cases this
        simp; omega
      · exact ext_setCell (ext_trans hw1' (ext_trans hE3' xb8)) (show w.heap.size ≤ w.heap.size + 1 + 1 by omega) _
theorem padd_any (A B : Option Addr) (n c m d : Nat) (a b : Nat) (w : World) (hA : Rd w A n c (lim a)) (hB : Rd w B m d (lim b)) (ha : (lim a).length ≤ 16384) (hb : (lim b).length ≤ 16384) (hs : (lim (a + b)).length ≤ 16384) :
    Calls Tryz.prog 195 #[natV A n c, natV B m d] w fun e w' => ∃ (A' : Option Addr) (k : Nat), e = .returned (.tuple #[natV A' k k, .int .i64 0]) ∧ Hid (Rd w' A' k k (lim (a + b)) ∧ Fr w A') ∧ Ext w w' := by
  rcases Nat.lt_or_ge n m with h | h
  · exact padd_lt A B n c m d a b h w hA hB ha hb hs
  · exact padd_ge A B n c m d a b h w hA hB ha hb hs
end Go.Proofs.YtiapoflkeliljaaGreatDoor
end
section
/- The program's differences. -/
namespace Go.Proofs.YtiapoflkeliljaaGreatDoor
open Go.RowKit
attribute [local go_sem] sz2 sz3 sz4 sz5 sz6 sz7 sz8
set_option maxHeartbeats 4000000
set_option maxRecDepth 100000
attribute [local irreducible] Calls
theorem sub32_zero (x c : Nat) (hx : x < 4294967296) (hc : c ≤ 1) (w : World) : Calls Tryz.prog 257 #[.int .u32 (x : Int), .int .u32 0, .int .u32 (c : Int)] w fun e w' =>
    e = .returned (.tuple #[.int .u32 (((x + 8589934592 - 0 - c) % 4294967296 : Nat) : Int), .int .u32 ((if x < 0 + c then 1 else 0 : Nat) : Int)]) ∧ w = w' := sub32_any x 0 c hx (by decide) hc w
theorem psub_lt (A B : Option Addr) (n c m d : Nat) (a b : Nat) (hab : a < b) (w : World) (hA : Rd w A n c (lim a)) (hB : Rd w B m d (lim b)) (ha : (lim a).length ≤ 16384) (hb : (lim b).length ≤ 16384) :
    Calls Tryz.prog 196 #[natV A n c, natV B m d] w fun e w' => e = .returned (.tuple #[natV none 0 0, .bool false, .int .i64 0]) ∧ Ext w w' := by
  have hck : ∀ w' t G, Hid (Ext w w') → G = w'.heap.size → Calls Tryz.prog 203 #[.slice (some ⟨G, 0, none⟩) 2 2] (w'.alloc (Obj.cells #[.slice A n c, .slice B m d] t)) fun e w'' => e = .returned (.int .i64 0) ∧ Ext (w'.alloc (Obj.cells #[.slice A n c, .slice B m d] t)) w'' := fun w' t G he hG => checks_new A B n c m d _ _ w w' hA hB (chk_lim ha) (chk_lim hb) he t G hG
  have hcm : ∀ w', Hid (Ext w w') → Calls Tryz.prog 209 #[.slice A n c, .slice B m d] w' fun e w'' => e = .returned (.int .i64 (-1)) ∧ Ext w' w'' := fun w' he => by
    have := pcmp_any A B n c m d a b w' (hA.ext he.out) (hB.ext he.out)
    rwa [show cmpN a b = -1 by unfold cmpN; rw [if_pos hab]] at this
  clear hA hB ha hb hab
  go_enter Tryz.func196, Tryz.ntmps196
  go_wp2_with (first
    | (go_at_call 203; (with_reducible refine (hck _ _ _ (Lib.hid (by (repeat (first | exact ext_refl _ | assumption | refine ext_setCell ?_ (by simp; try omega) _ | refine ext_alloc ?_ _ | refine ext_drew ?_ | refine ext_drewN ?_ _ | refine ext_trans ?_ (Aft.use _) | refine ext_trans ?_ (by assumption))))) (by simp)).mono ?_); rintro e w1 ⟨rfl, xb1⟩; obtain ⟨xc1, xf1, xl1, xz1⟩ := ext_use xb1; (try simp at xz1); obtain ⟨l1_0, gc, gf⟩ := kp xb1 (w.heap.size) (by first | omega | (simp; try omega)); have r1_0 := gc 0; have f1_0 := gf 0; clear gc gf; obtain ⟨l1_1, gc, gf⟩ := kp xb1 (w.heap.size + 1) (by first | omega | (simp; try omega)); have r1_1 := gc 0; have f1_1 := gf 0; clear gc gf; obtain ⟨l1_2, gc, gf⟩ := kp xb1 (w.heap.size + 1 + 1) (by first | omega | (simp; try omega)); have r1_2 := gc 0; have f1_2 := gf 0; clear gc gf)
    | (go_at_call 209; (with_reducible refine (hcm _ (Lib.hid (by (repeat (first | exact ext_refl _ | assumption | refine ext_setCell ?_ (by simp; try omega) _ | refine ext_alloc ?_ _ | refine ext_drew ?_ | refine ext_drewN ?_ _ | refine ext_trans ?_ (Aft.use _) | refine ext_trans ?_ (by assumption)))))).mono ?_); rintro e w2 ⟨rfl, xb2⟩; obtain ⟨xc2, xf2, xl2, xz2⟩ := ext_use xb2; (try simp at xz2); obtain ⟨l2_0, gc, gf⟩ := kp xb2 (w.heap.size + 1 + 1) (by first | omega | (simp; try omega)); have r2_0 := gc 0; have f2_0 := gf 0; clear gc gf)
   )
  refine bodyPost_ret (v := .tuple #[natV none 0 0, .bool false, .int .i64 0]) ?h rfl ⟨rfl, ?_⟩
  case h => simp [results, Tryz.results196, go_sem, *]
  repeat (first | exact ext_refl _ | assumption | refine ext_setCell ?_ (by simp; try omega) _ | refine ext_alloc ?_ _ | refine ext_drew ?_ | refine ext_drewN ?_ _ | refine ext_trans ?_ (Aft.use _) | refine ext_trans ?_ (by assumption))
theorem psub_ge (A B : Option Addr) (n c m d : Nat) (a b : Nat) (hab : b ≤ a) (w : World) (hA : Rd w A n c (lim a)) (hB : Rd w B m d (lim b)) (ha : (lim a).length ≤ 16384) (hb : (lim b).length ≤ 16384) :
    Calls Tryz.prog 196 #[natV A n c, natV B m d] w fun e w' => ∃ (A' : Option Addr) (k : Nat), e = .returned (.tuple #[natV A' k k, .bool true, .int .i64 0]) ∧ Hid (Rd w' A' k k (lim (a - b)) ∧ Fr w A') ∧ Ext w w' := by
  have hck : ∀ w' t G, Hid (Ext w w') → G = w'.heap.size → Calls Tryz.prog 203 #[.slice (some ⟨G, 0, none⟩) 2 2] (w'.alloc (Obj.cells #[.slice A n c, .slice B m d] t)) fun e w'' => e = .returned (.int .i64 0) ∧ Ext (w'.alloc (Obj.cells #[.slice A n c, .slice B m d] t)) w'' := fun w' t G he hG => checks_new A B n c m d _ _ w w' hA hB (chk_lim ha) (chk_lim hb) he t G hG
  have hcm : ∀ w', Hid (Ext w w') → Calls Tryz.prog 209 #[.slice A n c, .slice B m d] w' fun e w'' => ∃ v : Int, (e = .returned (.int .i64 v) ∧ 0 ≤ v) ∧ Ext w' w'' := fun w' he => by
    refine (pcmp_any A B n c m d a b w' (hA.ext he.out) (hB.ext he.out)).mono ?_
    rintro e w'' ⟨h1, h2⟩
    refine ⟨_, ⟨h1, ?_⟩, h2⟩
    unfold cmpN
    rw [if_neg (by omega)]
    split <;> omega
  have hmx := hA.mx
  have hmy := hB.mx
  have hcx := hA.cap
  have hcy := hB.cap
  have HA := Lib.hid hA
  have HB := Lib.hid hB
  have hlx := Lib.hid hA.len
  have hly := Lib.hid hB.len
  have hn : n ≤ 16384 := by have := hA.len; omega
  have hm : m ≤ n := by
    have h1 := hA.len
    have h2 := hB.len
    have h3 : (lim b).length ≤ (lim a).length := lim_mono hab
    omega
  clear hA hB ha hb
  go_enter Tryz.func196, Tryz.ntmps196
  go_wp2_with (first
    | (go_at_call 203; (with_reducible refine (hck _ _ _ (Lib.hid (by (repeat (first | exact ext_refl _ | assumption | refine ext_setCell ?_ (by simp; try omega) _ | refine ext_alloc ?_ _ | refine ext_drew ?_ | refine ext_drewN ?_ _ | refine ext_trans ?_ (Aft.use _) | refine ext_trans ?_ (by assumption))))) (by simp)).mono ?_); rintro e w1 ⟨rfl, xb1⟩; obtain ⟨xc1, xf1, xl1, xz1⟩ := ext_use xb1; (try simp at xz1); obtain ⟨l1_0, gc, gf⟩ := kp xb1 (w.heap.size) (by first | omega | (simp; try omega)); have r1_0 := gc 0; have f1_0 := gf 0; clear gc gf; obtain ⟨l1_1, gc, gf⟩ := kp xb1 (w.heap.size + 1) (by first | omega | (simp; try omega)); have r1_1 := gc 0; have f1_1 := gf 0; clear gc gf; obtain ⟨l1_2, gc, gf⟩ := kp xb1 (w.heap.size + 1 + 1) (by first | omega | (simp; try omega)); have r1_2 := gc 0; have f1_2 := gf 0; clear gc gf)
    | (go_at_call 209; (with_reducible refine (hcm _ (Lib.hid (by (repeat (first | exact ext_refl _ | assumption | refine ext_setCell ?_ (by simp; try omega) _ | refine ext_alloc ?_ _ | refine ext_drew ?_ | refine ext_drewN ?_ _ | refine ext_trans ?_ (Aft.use _) | refine ext_trans ?_ (by assumption)))))).mono ?_); rintro e w2 ⟨v, ⟨rfl, hv⟩, xb2⟩; obtain ⟨xc2, xf2, xl2, xz2⟩ := ext_use xb2; (try simp at xz2); obtain ⟨l2_0, gc, gf⟩ := kp xb2 (w.heap.size) (by first | omega | (simp; try omega)); have r2_0 := gc 0; have f2_0 := gf 0; clear gc gf; obtain ⟨l2_1, gc, gf⟩ := kp xb2 (w.heap.size + 1) (by first | omega | (simp; try omega)); have r2_1 := gc 0; have f2_1 := gf 0; clear gc gf; obtain ⟨l2_2, gc, gf⟩ := kp xb2 (w.heap.size + 1 + 1) (by first | omega | (simp; try omega)); have r2_2 := gc 0; have f2_2 := gf 0; clear gc gf)
    | (at_make; refine make_u32 rfl _ _ rfl _ _ _ _ n rfl rfl (by simp) (by simp) (by omega) ?_; intro w3 hx3 ho3; have hext3 := Lib.hid hx3; clear hx3; have hp3 := ext_use hext3.out; have r3_0 := hp3.1 w.heap.size 0 (by first | omega | (simp; try omega)); have f3_0 := hp3.2.1 w.heap.size 0 (by first | omega | (simp; try omega)); have l3_0 := hp3.2.2.1 w.heap.size (by first | omega | (simp; try omega)); clear hp3)
   )
  have hw2 : Hid (Ext w w2) := Lib.hid (by (repeat (first | exact ext_refl _ | assumption | refine ext_setCell ?_ (by simp; try omega) _ | refine ext_alloc ?_ _ | refine ext_drew ?_ | refine ext_drewN ?_ _ | refine ext_trans ?_ (Aft.use _) | refine ext_trans ?_ (by assumption))))
  have hGl : w2.heap.size < w3.heap.size := (ho3.out.lt w2.heap.size rfl).2
  have hG2 : w.heap.size + 1 + 1 < w2.heap.size := l2_2
  go_loopw [9, 35] (fun vl vi wr => ∃ (i lt : Nat) (os : List Nat), i ≤ n ∧ lt ≤ 1 ∧ vi = .int .i64 (i : Int) ∧ vl = .int .u32 (lt : Int) ∧ Hid (os.length = n ∧ Lb os ∧ val os + val ((lim b).take i) = val ((lim a).take i) + Bs ^ i * lt ∧ ∀ p, i ≤ p → os.getD p 0 = 0) ∧
      Hid (wr.ownsRow w2.heap.size 54 1 (.slice (some ⟨w2.heap.size, 0, none⟩) n n) n (os.map u32V)) ∧ Hid (Ext w2 wr))
    (fun _ vi _ => n - (intOf vi).toNat)
  case atStart => exact ⟨0, 0, List.replicate n 0, Nat.zero_le _, by omega, rfl, rfl, ⟨by simp, lb_replicate _, by rw [val_replicate]; simp [val], fun p _ => getD_replicate0 _ _⟩, ho3.out, hext3.out⟩
  case round =>
    clear ho3 hext3 r3_0 f3_0 l3_0
    obtain ⟨i, lt, os, hi, hlt1, rfl, rfl, hos, hown, hext⟩ := hrel
    obtain ⟨xc7, xf7, xl7, xz7⟩ := ext_use (hext.out)
    obtain ⟨l7_0, gc, gf⟩ := kp (hext.out) (w.heap.size) (by first | omega | (simp; try omega))
    have r7_0 := gc 0
    have f7_0 := gf 0
    clear gc gf
    obtain ⟨l7_1, gc, gf⟩ := kp (hext.out) (w.heap.size + 1) (by first | omega | (simp; try omega))
    have r7_1 := gc 0
    have f7_1 := gf 0
    clear gc gf
    obtain ⟨l7_2, gc, gf⟩ := kp (hext.out) (w.heap.size + 1 + 1) (by first | omega | (simp; try omega))
    have r7_2 := gc 0
    have f7_2 := gf 0
    clear gc gf
    by_cases h0 : i < n
    · obtain ⟨bx, ox, hXe⟩ : ∃ b off, A = some ⟨b, off, none⟩ := by
        rcases HA.out.shape with ⟨_, h, _⟩ | h
        · omega
        · exact h
      subst hXe
      obtain ⟨x, hx, hxb, hcx1⟩ := ((HA.out.ext hw2.out).ext hext.out).get i h0
      obtain ⟨hc1, hf1⟩ := own_at hown.out i (by omega)
      rw [hos.out.2.2.2 i (Nat.le_refl _)] at hc1
      by_cases hm0 : i < m
      · obtain ⟨by', oy, hYe⟩ : ∃ b off, B = some ⟨b, off, none⟩ := by
          rcases HB.out.shape with ⟨_, h, _⟩ | h
          · omega
          · exact h
        subst hYe
        obtain ⟨y, hy, hyb, hcy2⟩ := ((HB.out.ext hw2.out).ext hext.out).get i hm0
        go_wp2_with (first
          | (go_at_call 257; (with_reducible refine (sub32_any x y lt hxb hyb hlt1 _).mono ?_); rintro e w' ⟨rfl, rfl⟩)
         )
        case roundEnd =>
          refine ⟨⟨i + 1, _, os.set i ((x + 8589934592 - y - lt) % 4294967296), by omega, ?_, by simp, rfl, ⟨by rw [List.length_set]; exact hos.out.1, lb_set hos.out.2.1 _ (Nat.mod_lt _ (by decide)), dif_step (y := y) (by rw [hos.out.1]; omega) hlt1 hxb hyb hos.out.2.2.1 (hos.out.2.2.2 i (Nat.le_refl _)) hx.out hy.out, fun p hp => by rw [getD_set_ne (by omega)]; exact hos.out.2.2.2 p (by omega)⟩, own_set hown.out i _, ext_setCell hext.out (Nat.le_refl _) _⟩, ?_⟩
          · split <;> omega
          · simp [intOf]; omega
      · have hy0 : (lim b).getD i 0 = 0 := getD_ge (by rw [hly.out]; omega)
        have HY := Lib.hid hy0
        clear hy0
        go_wp2_with (first
          | (go_at_call 257; (with_reducible refine (sub32_zero x lt hxb hlt1 _).mono ?_); rintro e w' ⟨rfl, rfl⟩)
         )
        case roundEnd =>
          refine ⟨⟨i + 1, _, os.set i ((x + 8589934592 - 0 - lt) % 4294967296), by omega, ?_, by simp, rfl, ⟨by rw [List.length_set]; exact hos.out.1, lb_set hos.out.2.1 _ (Nat.mod_lt _ (by decide)), (by have hz := dif_step (y := 0) (by rw [hos.out.1]; omega) hlt1 hxb (by decide) hos.out.2.2.1 (hos.out.2.2.2 i (Nat.le_refl _)) hx.out HY.out; rwa [Nat.zero_add] at hz), fun p hp => by rw [getD_set_ne (by omega)]; exact hos.out.2.2.2 p (by omega)⟩, own_set hown.out i _, ext_setCell hext.out (Nat.le_refl _) _⟩, ?_⟩
          · split <;> omega
          · simp [intOf]; omega
    · obtain rfl : i = n := by omega
      have hval : val os = a - b := by
        have h1 := hos.out.2.2.1
        rw [take_ge (by rw [hly.out]; exact hm), take_ge (by rw [hlx.out]; exact Nat.le_refl _), val_lim, val_lim] at h1
        have h2 := val_lt os hos.out.2.1
        rw [hos.out.1] at h2
        rcases (show lt = 0 ∨ lt = 1 by omega) with h3 | h3
        · rw [h3] at h1; omega
        · rw [h3] at h1; omega
      obtain ⟨G', c', he, hRR⟩ := Rd.own hown.out hos.out.2.1
      cases he
      have HR := Lib.hid hRR
      have HV := Lib.hid hval
      have hgl : w2.heap.size < wr.heap.size := (hown.out.lt w2.heap.size rfl).2
      clear hRR hval hck hcm h0
      go_wp2_with (first
        | (go_at_call 205; (with_reducible refine (trimmed_any _ _ _ _ _ HR.out).mono ?_); rintro e w8 ⟨A', k, rfl, hF, xb8⟩; obtain ⟨xc8, xf8, xl8, xz8⟩ := ext_use xb8; (try simp at xz8); obtain ⟨l8_0, gc, gf⟩ := kp xb8 (w.heap.size + 1 + 1) (by first | omega | (simp; try omega)); have r8_0 := gc 0; have f8_0 := gf 0; clear gc gf)
       )
      have hw2' := hw2.out
      have hext' := hext.out
      refine bodyPost_ret (v := .tuple #[natV A' k k, .bool true, .int .i64 0]) ?h rfl ⟨A', k, rfl, ⟨?_, ?_⟩, ?_⟩
      case h => simp [results, Tryz.results196, go_sem, *]
      · have h1 := (hF.out.1 _ HR.out).ext xb8
        rw [HV.out] at h1
        refine h1.set _ (fun q hq => ?_)
        have := hF.out.2 q hq
        cases this
        simp; omega
      · intro q hq
        have := hF.out.2 q hq
        cases this
        simp; omega
      · exact ext_setCell (ext_trans hw2' (ext_trans hext' xb8)) (show w.heap.size ≤ w.heap.size + 1 + 1 by omega) _
end Go.Proofs.YtiapoflkeliljaaGreatDoor
end
section
/- The program's product. -/
namespace Go.Proofs.YtiapoflkeliljaaGreatDoor
open Go.RowKit
attribute [local go_sem] sz2 sz3 sz4 sz5 sz6 sz7 sz8
set_option maxHeartbeats 4000000
set_option maxRecDepth 100000
attribute [local irreducible] Calls
theorem pmul_any (A B : Option Addr) (n c m d : Nat) (a b : Nat) (w : World) (hA : Rd w A n c (lim a)) (hB : Rd w B m d (lim b)) (ha : (lim a).length ≤ 16384) (hb : (lim b).length ≤ 16384) (hsum : n + m ≤ 16385) (hs : (lim (a * b)).length ≤ 16384) :
    Calls Tryz.prog 135 #[natV A n c, natV B m d] w fun e w' => ∃ (A' : Option Addr) (k : Nat), e = .returned (.tuple #[natV A' k k, .int .i64 0]) ∧ Hid (Rd w' A' k k (lim (a * b)) ∧ Fr w A') ∧ Ext w w' := by
  have hck : ∀ w' t G, Hid (Ext w w') → G = w'.heap.size → Calls Tryz.prog 203 #[.slice (some ⟨G, 0, none⟩) 2 2] (w'.alloc (Obj.cells #[.slice A n c, .slice B m d] t)) fun e w'' => e = .returned (.int .i64 0) ∧ Ext (w'.alloc (Obj.cells #[.slice A n c, .slice B m d] t)) w'' := fun w' t G he hG => checks_new A B n c m d _ _ w w' hA hB (chk_lim ha) (chk_lim hb) he t G hG
  have hmx := hA.mx
  have hmy := hB.mx
  have hcx := hA.cap
  have hcy := hB.cap
  have HA := Lib.hid hA
  have HB := Lib.hid hB
  have hlx := Lib.hid hA.len
  have hly := Lib.hid hB.len
  have HS := Lib.hid hs
  clear hA hB ha hb hs
  go_enter Tryz.func135, Tryz.ntmps135
  go_wp2_with (first
    | (go_at_call 203; (with_reducible refine (hck _ _ _ (Lib.hid (by (repeat (first | exact ext_refl _ | assumption | refine ext_setCell ?_ (by simp; try omega) _ | refine ext_alloc ?_ _ | refine ext_drew ?_ | refine ext_drewN ?_ _ | refine ext_trans ?_ (Aft.use _) | refine ext_trans ?_ (by assumption))))) (by simp)).mono ?_); rintro e w1 ⟨rfl, xb1⟩; obtain ⟨xc1, xf1, xl1, xz1⟩ := ext_use xb1; (try simp at xz1); obtain ⟨l1_0, gc, gf⟩ := kp xb1 (w.heap.size) (by first | omega | (simp; try omega)); have r1_0 := gc 0; have f1_0 := gf 0; clear gc gf; obtain ⟨l1_1, gc, gf⟩ := kp xb1 (w.heap.size + 1) (by first | omega | (simp; try omega)); have r1_1 := gc 0; have f1_1 := gf 0; clear gc gf; obtain ⟨l1_2, gc, gf⟩ := kp xb1 (w.heap.size + 1 + 1) (by first | omega | (simp; try omega)); have r1_2 := gc 0; have f1_2 := gf 0; clear gc gf)
   )
  go_quiet (fail)
  go_wp2_with (first
    | (at_make; refine make_u32 rfl _ _ rfl _ _ _ _ (n + m) rfl rfl (by simp) (by simp) (by omega) ?_; intro w2 hx2 ho2; have hext2 := Lib.hid hx2; clear hx2)
    | go_in)
  have hw1 : Hid (Ext w w1) := Lib.hid (by (repeat (first | exact ext_refl _ | assumption | refine ext_setCell ?_ (by simp; try omega) _ | refine ext_alloc ?_ _ | refine ext_drew ?_ | refine ext_drewN ?_ _ | refine ext_trans ?_ (Aft.use _) | refine ext_trans ?_ (by assumption))))
  have hE2 : Hid (Ext w1 w2) := Lib.hid (ext_trans (ext_drewN (ext_refl w1) nq) hext2.out)
  have hGl : w1.heap.size < w2.heap.size := (ho2.out.lt w1.heap.size rfl).2
  have hG2 : w.heap.size + 1 + 1 < w1.heap.size := l1_2
  go_loopw [43] (fun vi wr => ∃ (i : Nat) (os : List Nat), i ≤ n ∧ vi = .int .i64 (i : Int) ∧ Hid (os.length = n + m ∧ Lb os ∧ val os = val ((lim a).take i) * b ∧ ∀ p, i + m ≤ p → os.getD p 0 = 0) ∧
      Hid (wr.ownsRow w1.heap.size 54 1 (.slice (some ⟨w1.heap.size, 0, none⟩) (n + m) (n + m)) (n + m) (os.map u32V)) ∧ Hid (Ext w1 wr))
    (fun vi _ => n - (intOf vi).toNat)
  case atStart => exact ⟨0, List.replicate (n + m) 0, Nat.zero_le _, rfl, ⟨by simp, lb_replicate _, by rw [val_replicate]; simp [val], fun p _ => getD_replicate0 _ _⟩, ho2.out, hE2.out⟩
  case round =>
    clear ho2 hext2 hE2
    obtain ⟨i, os, hi, rfl, hos, hown, hext⟩ := hrel
    have hgl : w1.heap.size < wr.heap.size := (hown.out.lt w1.heap.size (by simp [Value.ownBlock])).2
    by_cases h0 : i < n
    · obtain ⟨bx, ox, hXe⟩ : ∃ b off, A = some ⟨b, off, none⟩ := by
        rcases HA.out.shape with ⟨_, h, _⟩ | h
        · omega
        · exact h
      subst hXe
      obtain ⟨x, hx, hxb, hcx1⟩ := ((HA.out.ext hw1.out).ext hext.out).get i h0
      go_wp2
      go_loopw [12, 63] (fun vc vk wr2 => ∃ (k cy : Nat) (os : List Nat), k ≤ m ∧ cy < 4294967296 ∧ vk = .int .i64 (k : Int) ∧ vc = .int .u64 (cy : Int) ∧
          Hid (os.length = n + m ∧ Lb os ∧ val os + Bs ^ (i + k) * cy = val ((lim a).take i) * b + Bs ^ i * (x * val ((lim b).take k)) ∧ ∀ p, i + m ≤ p → os.getD p 0 = 0) ∧
          Hid (wr2.ownsRow w1.heap.size 54 1 (.slice (some ⟨w1.heap.size, 0, none⟩) (n + m) (n + m)) (n + m) (os.map u32V)) ∧ Hid (Ext w1 wr2))
        (fun _ vk _ => m - (intOf vk).toNat)
      case atStart => exact ⟨0, 0, os, Nat.zero_le _, by omega, rfl, rfl, ⟨hos.out.1, hos.out.2.1, by rw [hos.out.2.2.1]; simp [val], hos.out.2.2.2⟩, hown.out, hext.out⟩
      case round =>
        clear hos hown hext os hcx1 hgl
        obtain ⟨k, cy, os, hk, hcyb, rfl, rfl, hos, hown, hext⟩ := hrel
        have hgl : w1.heap.size < wr.heap.size := (hown.out.lt w1.heap.size (by simp [Value.ownBlock])).2
        by_cases hkm : k < m
        · obtain ⟨by', oy, hYe⟩ : ∃ b off, B = some ⟨b, off, none⟩ := by
            rcases HB.out.shape with ⟨_, h, _⟩ | h
            · omega
            · exact h
          subst hYe
          obtain ⟨y, hy, hyb, hcy2⟩ := ((HB.out.ext hw1.out).ext hext.out).get k hkm
          obtain ⟨o, ho, hob⟩ : ∃ o : Nat, Hid (os.getD (i + k) 0 = o) ∧ o < 4294967296 := ⟨_, rfl, lb_getD hos.out.2.1 _⟩
          obtain ⟨hc1, hf1⟩ := own_at hown.out (i + k) (by omega)
          rw [ho.out] at hc1
          obtain ⟨p, hp⟩ : ∃ p, p = x * y := ⟨_, rfl⟩
          have hpb : p ≤ 18446744065119617025 := by
            rw [hp]
            exact Nat.mul_le_mul (show x ≤ 4294967295 by omega) (show y ≤ 4294967295 by omega)
          have hpi : (x : Int) * (y : Int) = (p : Int) := by rw [hp]; exact (Int.natCast_mul _ _).symm
          have HP := Lib.hid hp
          clear hp
          go_wp2
          case roundEnd =>
            have hP := HP.out
            refine ⟨⟨k + 1, (p + o + cy) / 4294967296, os.set (i + k) ((p + o + cy) % 4294967296), by omega, by omega, by simp, ?_, ⟨?_, ?_, ?_, ?_⟩, ?_, ?_⟩, ?_⟩
            · simp; omega
            · simp [hos.out.1]
            · exact lb_set hos.out.2.1 _ (Nat.mod_lt _ (by decide))
            · rw [hP]
              exact times_step (by rw [hos.out.1]; omega) hos.out.2.2.1 ho.out hy.out
            · intro q hq
              rw [getD_set_ne (by omega)]
              exact hos.out.2.2.2 q hq
            · show World.ownsRow _ _ _ _ _ _ _
              have := own_set hown.out (i + k) ((p + o + cy) % 4294967296)
              have e : ((cy : Int) + ((p : Int) + (o : Int))) % 4294967296 = (((p + o + cy) % 4294967296 : Nat) : Int) := by omega
              rw [e]
              exact this
            · exact ext_setCell hext.out (Nat.le_refl _) _
            · simp [intOf]; omega
        · obtain rfl : k = m := by omega
          obtain ⟨hc1, hf1⟩ := own_at hown.out (i + k) (by omega)
          rw [hos.out.2.2.2 _ (Nat.le_refl _)] at hc1
          clear hkm
          go_wp2
          case roundEnd =>
            refine ⟨⟨i + 1, os.set (i + k) cy, by omega, by simp, ⟨?_, ?_, ?_, ?_⟩, ?_, ?_⟩, ?_⟩
            · simp [hos.out.1]
            · exact lb_set hos.out.2.1 _ hcyb
            · have h := hos.out.2.2.1
              rw [take_ge (l := lim b) (by rw [hly.out]; exact Nat.le_refl _), val_lim] at h
              have h2 := times_last (ys := lim b) (by rw [hos.out.1]; omega) (by rw [val_lim]; exact h) (hos.out.2.2.2 _ (Nat.le_refl _)) hx.out
              rwa [val_lim] at h2
            · intro q hq
              rw [getD_set_ne (by omega)]
              exact hos.out.2.2.2 q (by omega)
            · exact own_set hown.out _ _
            · exact ext_setCell hext.out (Nat.le_refl _) _
            · simp [intOf]; omega
    · obtain rfl : i = n := by omega
      have hval : val os = a * b := by
        have h1 := hos.out.2.2.1
        rwa [take_ge (by rw [hlx.out]; exact Nat.le_refl _), val_lim] at h1
      obtain ⟨G', c', he, hRR⟩ := Rd.own hown.out hos.out.2.1
      cases he
      have HR := Lib.hid hRR
      have HV := Lib.hid hval
      clear hRR hval hck h0
      obtain ⟨xc7, xf7, xl7, xz7⟩ := ext_use (hext.out)
      obtain ⟨l7_0, gc, gf⟩ := kp (hext.out) (w.heap.size + 1 + 1) (by first | omega | (simp; try omega))
      have r7_0 := gc 0
      have f7_0 := gf 0
      clear gc gf
      go_wp2_with (first
        | (go_at_call 204; (with_reducible refine (nfits_any _ _ _ _ _ HR.out (by rw [HV.out]; exact HS.out)).mono ?_); rintro e w8 ⟨A', k, rfl, hF, xb8⟩; obtain ⟨xc8, xf8, xl8, xz8⟩ := ext_use xb8; (try simp at xz8); obtain ⟨l8_0, gc, gf⟩ := kp xb8 (w.heap.size + 1 + 1) (by first | omega | (simp; try omega)); have r8_0 := gc 0; have f8_0 := gf 0; clear gc gf)
       )
      have hw1' := hw1.out
      have hext' := hext.out
      refine bodyPost_ret (v := .tuple #[natV A' k k, .int .i64 0]) ?h rfl ⟨A', k, rfl, ⟨?_, ?_⟩, ?_⟩
      case h => simp [results, Tryz.results135, go_sem, *]
      · have h1 := (hF.out.1 _ HR.out).ext xb8
        rw [HV.out] at h1
        refine h1.set _ (fun q hq => ?_)
        have := hF.out.2 q hq
        cases this
        simp; omega
      · intro q hq
        have := hF.out.2 q hq
        cases this
        simp; omega
      · exact ext_setCell (ext_trans hw1' (ext_trans hext' xb8)) (show w.heap.size ≤ w.heap.size + 1 + 1 by omega) _
end Go.Proofs.YtiapoflkeliljaaGreatDoor
end
section
/- The document's numbers of 64 bits. -/
namespace Go.Proofs.YtiapoflkeliljaaGreatDoor
open Go.RowKit
attribute [local go_sem] sz2 sz3 sz4 sz5 sz6 sz7 sz8
set_option maxHeartbeats 4000000
set_option maxRecDepth 100000
attribute [local irreducible] Calls
end Go.Proofs.YtiapoflkeliljaaGreatDoor
end
