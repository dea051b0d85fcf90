/- Lemmas of this proof, laid together: NatX, NtA, NtB, NtC, NtE, NtD. -/
import Derived.Test.YtchchnohmmncfaaGreatDoorRows
import Derived.Test.YtchchnohmmncfaaGreatDoorMg04
import Derived.Test.YtchchnohmmncfaaGreatDoorMg05
import Derived.Test.YtchchnohmmncfaaGreatDoorMg06
import Derived.Test.YtchchnohmmncfaaGreatDoorMg08
import Derived.Test.YtchchnohmmncfaaGreatDoorMg01
import Derived.Laws.Bits64b
import Derived.Laws.Bits64
set_option linter.unusedSimpArgs false
set_option linter.unusedVariables false
section
/- The document reads digits. -/
namespace Go.Proofs.YtchchnohmmncfaaGreatDoor
open Go.RowKit
attribute [local go_sem] bs_size bs_extract bs_get bs_append bs_toList const_get
attribute [local go_sem] sz2 sz3 sz4 sz5 sz6 sz7 sz8
set_option maxHeartbeats 4000000
set_option maxRecDepth 100000
theorem dval_len (l : List UInt8) (h : digsB l = true) : (lim (dval l)).length ≤ l.length := by
  refine lim_le (Nat.lt_of_lt_of_le (dval_lt l h) ?_)
  exact Nat.pow_le_pow_left (by decide) _
attribute [local irreducible] Calls
theorem lim_one {T : Nat} (h0 : 0 < T) (h : T < Bs) : lim T = [T] := by
  rw [lim_pos (by omega), Nat.mod_eq_of_lt h, Nat.div_eq_of_lt h, lim_zero]
end Go.Proofs.YtchchnohmmncfaaGreatDoor
end
section
/- The program's natural numbers: the small ones. -/
namespace Go.Proofs.YtchchnohmmncfaaGreatDoor
open Go.RowKit
attribute [local go_sem] sz2 sz3 sz4 sz5 sz6 sz7 sz8
set_option maxHeartbeats 4000000
set_option maxRecDepth 100000
attribute [local irreducible] Calls
theorem Rd.full {w : World} {A : Option Addr} {n c : Nat} {xs : List Nat} (h : Rd w A n c xs) {k : Nat} (hk : k ≤ n) (h0 : 0 < k) : Rd w A k k (xs.take k) :=
  have h1 := h.take hk
  ⟨h1.len, Nat.le_refl _, Nat.le_trans (Nat.le_trans hk h.cap) h.mx, h1.lb, (fun e => by have := h.none_ e; have := h.cap; omega), h1.at_, h1.cells⟩
theorem trimmed_any (A : Option Addr) (n c : Nat) (xs : List Nat) (w : World) (hR : Rd w A n c xs) :
    Calls Tryz.prog 96 #[.slice A n c] w fun e w' => ∃ (A' : Option Addr) (k : Nat), e = .returned (natV A' k k) ∧ Hid ((∀ w0, Rd w0 A n c xs → Rd w0 A' k k (lim (val xs))) ∧ ∀ a, A' = some a → A = some a) ∧ Ext w w' := by
  have hmx := hR.mx
  have hcap := hR.cap
  have hlb := Lib.hid hR.lb
  rcases hR.shape with ⟨rfl, rfl, rfl, rfl⟩ | ⟨b, off, rfl⟩
  · clear hR
    go_enter Tryz.func96, Tryz.ntmps96
    go_wp2
    go_loop [3] (fun v => v = .int .i64 0) (fun v => (intOf v).toNat)
    case atStart => rfl
    case round =>
      subst hrel
      go_wp2
      refine bodyPost_ret (v := natV none 0 0) ?h rfl ⟨none, 0, rfl, ⟨fun w0 _ => ?_, fun a h => by cases h⟩, ?_⟩
      case h => simp [results, Tryz.results96, go_sem]
      · rw [show val [] = 0 from rfl, lim_zero]; exact Rd.nil _
      · (repeat (first | exact ext_refl _ | assumption | refine ext_setCell ?_ (by simp; try omega) _ | refine ext_alloc ?_ _ | refine ext_drew ?_ | refine ext_drewN ?_ _ | refine ext_trans ?_ (Aft.use _) | refine ext_trans ?_ (by assumption)))
  · have HR := Lib.hid hR
    have hlen := Lib.hid hR.len
    clear hR
    have hblt : 0 < n → b < w.heap.size := fun h => (HR.out.cells b off rfl 0 (by rw [hlen.out]; exact h)).1
    go_enter Tryz.func96, Tryz.ntmps96
    go_wp2
    go_loop [3] (fun v => ∃ k : Nat, k ≤ n ∧ v = .int .i64 k ∧ Hid (trimZ (xs.take k) = trimZ xs)) (fun v => (intOf v).toNat)
    case atStart => exact ⟨n, Nat.le_refl _, rfl, by show trimZ (xs.take n) = trimZ xs; rw [← hlen.out, List.take_length]⟩
    case round =>
      obtain ⟨k, hk, rfl, hT⟩ := hrel
      by_cases h0 : 0 < k
      · obtain ⟨x, hx, hb, hc⟩ := HR.out.get (k - 1) (by omega)
        have hbl := hblt (by omega)
        have hcell : w.cell? ⟨b, off + (k - 1), none⟩ = some (.int .u32 (x : Int)) := hc
        have hsnoc : Hid (xs.take k = xs.take (k - 1) ++ [x]) := by
          have hl : k - 1 < xs.length := by rw [hlen.out]; omega
          have := List.take_succ_eq_append_getElem hl
          rw [show k - 1 + 1 = k by omega] at this
          show xs.take k = xs.take (k - 1) ++ [x]
          rw [this, ← hx.out, List.getD_eq_getElem?_getD, List.getElem?_eq_getElem hl]; rfl
        clear hblt
        by_cases hz : x = 0
        · subst hz
          go_wp2
          go_round
          case rel => exact ⟨k - 1, by omega, by go_num, by show trimZ _ = _; rw [← hT.out, hsnoc.out, trimZ_snoc, if_pos rfl]⟩
          case measure => simp [intOf]; omega
        · have hne : ((x : Int) == 0) = false := by rw [beq_eq_false_iff_ne]; omega
          have hk0 : ((k : Int) == 0) = false := by rw [beq_eq_false_iff_ne]; omega
          have HZ := Lib.hid hz
          clear hz
          go_wp2
          have e : lim (val xs) = xs.take k := by rw [← trimZ_lim xs hlb.out, ← hT.out, hsnoc.out, trimZ_snoc, if_neg HZ.out]
          refine bodyPost_ret (v := natV (some ⟨b, off, none⟩) k k) ?h rfl ⟨_, k, rfl, ⟨fun w0 h00 => ?_, fun a h => by simpa using h⟩, ?_⟩
          case h => simp [results, Tryz.results96, go_sem]
          · rw [e]
            exact h00.full hk h0
          · (repeat (first | exact ext_refl _ | assumption | refine ext_setCell ?_ (by simp; try omega) _ | refine ext_alloc ?_ _ | refine ext_drew ?_ | refine ext_drewN ?_ _ | refine ext_trans ?_ (Aft.use _) | refine ext_trans ?_ (by assumption)))
      · have : k = 0 := by omega
        subst this
        have e : lim (val xs) = [] := by rw [← trimZ_lim xs hlb.out, ← hT.out]; rfl
        have HE := Lib.hid e
        clear e h0 hblt
        go_wp2
        refine bodyPost_ret (v := natV none 0 0) ?h rfl ⟨none, 0, rfl, ⟨fun w0 _ => ?_, fun a h => by cases h⟩, ?_⟩
        case h => simp [results, Tryz.results96, go_sem]
        · rw [HE.out]; exact Rd.nil _
        · (repeat (first | exact ext_refl _ | assumption | refine ext_setCell ?_ (by simp; try omega) _ | refine ext_alloc ?_ _ | refine ext_drew ?_ | refine ext_drewN ?_ _ | refine ext_trans ?_ (Aft.use _) | refine ext_trans ?_ (by assumption)))
theorem ncheck_any (A : Option Addr) (n c : Nat) (xs : List Nat) (w : World) (hR : Rd w A n c xs) :
    Calls Tryz.prog 91 #[natV A n c] w fun e w' => e = .returned (.int .i64 (chk xs : Nat)) ∧ Ext w w' := by
  have hmx := hR.mx
  have hcx := hR.cap
  have hlen := Lib.hid hR.len
  by_cases h1 : 16384 < n
  · have e : chk xs = 4 := by unfold chk; rw [if_pos (by rw [hlen.out]; omega)]
    rw [e]
    clear e hR
    go_enter Tryz.func91, Tryz.ntmps91
    go_wp2
    refine bodyPost_ret (v := _) ?h rfl ⟨rfl, ?_⟩
    case h => simp [results, Tryz.results91, go_sem]
    repeat (first | exact ext_refl _ | assumption | refine ext_setCell ?_ (by simp; try omega) _ | refine ext_alloc ?_ _ | refine ext_drew ?_ | refine ext_drewN ?_ _ | refine ext_trans ?_ (Aft.use _) | refine ext_trans ?_ (by assumption))
  rcases hR.shape with ⟨rfl, rfl, rfl, rfl⟩ | ⟨b, off, rfl⟩
  · clear hR
    have e : chk [] = 0 := rfl
    rw [e]
    clear e
    go_enter Tryz.func91, Tryz.ntmps91
    go_wp2
    refine bodyPost_ret (v := _) ?h rfl ⟨rfl, ?_⟩
    case h => simp [results, Tryz.results91, go_sem]
    repeat (first | exact ext_refl _ | assumption | refine ext_setCell ?_ (by simp; try omega) _ | refine ext_alloc ?_ _ | refine ext_drew ?_ | refine ext_drewN ?_ _ | refine ext_trans ?_ (Aft.use _) | refine ext_trans ?_ (by assumption))
  by_cases h0 : n = 0
  · have e : chk xs = 0 := by unfold chk; rw [if_neg (by rw [hlen.out]; omega), if_neg (by rw [hlen.out]; omega)]
    rw [e]
    clear e hR
    subst h0
    go_enter Tryz.func91, Tryz.ntmps91
    go_wp2
    refine bodyPost_ret (v := _) ?h rfl ⟨rfl, ?_⟩
    case h => simp [results, Tryz.results91, go_sem]
    repeat (first | exact ext_refl _ | assumption | refine ext_setCell ?_ (by simp; try omega) _ | refine ext_alloc ?_ _ | refine ext_drew ?_ | refine ext_drewN ?_ _ | refine ext_trans ?_ (Aft.use _) | refine ext_trans ?_ (by assumption))
  obtain ⟨x, hx, hxb, hc⟩ := hR.get (n - 1) (by omega)
  have hb : b < w.heap.size := World.block_lt_of_cell? w _ hc
  have e : chk xs = if x = 0 then 10 else 0 := by
    unfold chk
    rw [if_neg (by rw [hlen.out]; omega), hlen.out, hx.out]
    by_cases h : x = 0
    · rw [if_pos ⟨by omega, h⟩, if_pos h]
    · rw [if_neg (fun h' => h h'.2), if_neg h]
  rw [e]
  clear e hR
  by_cases hz : x = 0
  · subst hz
    rw [if_pos rfl]
    go_enter Tryz.func91, Tryz.ntmps91
    go_wp2
    refine bodyPost_ret (v := _) ?h rfl ⟨rfl, ?_⟩
    case h => simp [results, Tryz.results91, go_sem]
    repeat (first | exact ext_refl _ | assumption | refine ext_setCell ?_ (by simp; try omega) _ | refine ext_alloc ?_ _ | refine ext_drew ?_ | refine ext_drewN ?_ _ | refine ext_trans ?_ (Aft.use _) | refine ext_trans ?_ (by assumption))
  · rw [if_neg hz]
    have hne : ((x : Int) == 0) = false := by simp; omega
    clear hz
    go_enter Tryz.func91, Tryz.ntmps91
    go_wp2
    refine bodyPost_ret (v := _) ?h rfl ⟨rfl, ?_⟩
    case h => simp [results, Tryz.results91, go_sem]
    repeat (first | exact ext_refl _ | assumption | refine ext_setCell ?_ (by simp; try omega) _ | refine ext_alloc ?_ _ | refine ext_drew ?_ | refine ext_drewN ?_ _ | refine ext_trans ?_ (Aft.use _) | refine ext_trans ?_ (by assumption))
theorem bits_and32 (a b : Nat) (ha : a < 4294967296) (hb : b < 4294967296) : bits .and .u32 (a : Int) (b : Int) = ((a &&& b : Nat) : Int) := by
  have hx : a &&& b < 2 ^ 32 := Nat.and_lt_two_pow _ (by omega)
  have h1 : (BitVec.ofInt 32 (a : Int)).toNat = a := by
    rw [BitVec.ofInt_natCast, BitVec.toNat_ofNat]; exact Nat.mod_eq_of_lt (by omega)
  have h2 : (BitVec.ofInt 32 (b : Int)).toNat = b := by
    rw [BitVec.ofInt_natCast, BitVec.toNat_ofNat]; exact Nat.mod_eq_of_lt (by omega)
  show IntKind.u32.wrap ((BitVec.ofInt 32 (a : Int) &&& BitVec.ofInt 32 (b : Int)).toNat : Int) = _
  rw [BitVec.toNat_and, h1, h2, IntKind.wrap_u32]
  omega
theorem bits_or32 (a b : Nat) (ha : a < 4294967296) (hb : b < 4294967296) : bits .or .u32 (a : Int) (b : Int) = ((a ||| b : Nat) : Int) := by
  have hx : a ||| b < 2 ^ 32 := Nat.or_lt_two_pow (by omega) (by omega)
  have h1 : (BitVec.ofInt 32 (a : Int)).toNat = a := by
    rw [BitVec.ofInt_natCast, BitVec.toNat_ofNat]; exact Nat.mod_eq_of_lt (by omega)
  have h2 : (BitVec.ofInt 32 (b : Int)).toNat = b := by
    rw [BitVec.ofInt_natCast, BitVec.toNat_ofNat]; exact Nat.mod_eq_of_lt (by omega)
  show IntKind.u32.wrap ((BitVec.ofInt 32 (a : Int) ||| BitVec.ofInt 32 (b : Int)).toNat : Int) = _
  rw [BitVec.toNat_or, h1, h2, IntKind.wrap_u32]
  omega
end Go.Proofs.YtchchnohmmncfaaGreatDoor
end
