/- Lemmas of this proof, laid together: NatX, NtA, NtB, NtC, NtE, NtD. -/
import Derived.Test.YtnkajjealkggdaaGreatDoorRows
import Derived.Test.YtnkajjealkggdaaGreatDoorMg06
import Derived.Test.YtnkajjealkggdaaGreatDoorMg07
import Derived.Test.YtnkajjealkggdaaGreatDoorMg08
import Derived.Test.YtnkajjealkggdaaGreatDoorMg09
import Derived.Test.YtnkajjealkggdaaGreatDoorMg01
import Derived.Laws.Bits64b
import Derived.Laws.Bits64
set_option linter.unusedSimpArgs false
set_option linter.unusedVariables false
section
/- The program's natural numbers: the small ones. -/
namespace Go.Proofs.YtnkajjealkggdaaGreatDoor
open Go.RowKit
attribute [local go_sem] sz2 sz3 sz4 sz5 sz6 sz7 sz8
set_option maxHeartbeats 4000000
set_option maxRecDepth 100000
attribute [local irreducible] Calls
theorem Rd.full {w : World} {A : Option Addr} {n c : Nat} {xs : List Nat} (h : Rd w A n c xs) {k : Nat} (hk : k ≤ n) (h0 : 0 < k) : Rd w A k k (xs.take k) :=
  have h1 := h.take hk
  ⟨h1.len, Nat.le_refl _, Nat.le_trans (Nat.le_trans hk h.cap) h.mx, h1.lb, (fun e => by have := h.none_ e; have := h.cap; omega), h1.at_, h1.cells⟩
theorem ncheck_any (A : Option Addr) (n c : Nat) (xs : List Nat) (w : World) (hR : Rd w A n c xs) :
    Calls Tryz.prog 83 #[natV A n c] w fun e w' => e = .returned (.int .i64 (chk xs : Nat)) ∧ Ext w w' := by
  have hmx := hR.mx
  have hcx := hR.cap
  have hlen := Lib.hid hR.len
  by_cases h1 : 16384 < n
  · have e : chk xs = 4 := by unfold chk; rw [if_pos (by rw [hlen.out]; omega)]
    rw [e]
    clear e hR
    go_enter Tryz.func83, Tryz.ntmps83
    go_wp2
    refine bodyPost_ret (v := _) ?h rfl ⟨rfl, ?_⟩
    case h => simp [results, Tryz.results83, go_sem]
    repeat (first | exact ext_refl _ | assumption | refine ext_setCell ?_ (by simp; try omega) _ | refine ext_alloc ?_ _ | refine ext_drew ?_ | refine ext_drewN ?_ _ | refine ext_trans ?_ (Aft.use _) | refine ext_trans ?_ (by assumption))
  rcases hR.shape with ⟨rfl, rfl, rfl, rfl⟩ | ⟨b, off, rfl⟩
  · clear hR
    have e : chk [] = 0 := rfl
    rw [e]
    clear e
    go_enter Tryz.func83, Tryz.ntmps83
    go_wp2
    refine bodyPost_ret (v := _) ?h rfl ⟨rfl, ?_⟩
    case h => simp [results, Tryz.results83, go_sem]
    repeat (first | exact ext_refl _ | assumption | refine ext_setCell ?_ (by simp; try omega) _ | refine ext_alloc ?_ _ | refine ext_drew ?_ | refine ext_drewN ?_ _ | refine ext_trans ?_ (Aft.use _) | refine ext_trans ?_ (by assumption))
  by_cases h0 : n = 0
  · have e : chk xs = 0 := by unfold chk; rw [if_neg (by rw [hlen.out]; omega), if_neg (by rw [hlen.out]; omega)]
    rw [e]
    clear e hR
    subst h0
    go_enter Tryz.func83, Tryz.ntmps83
    go_wp2
    refine bodyPost_ret (v := _) ?h rfl ⟨rfl, ?_⟩
    case h => simp [results, Tryz.results83, go_sem]
    repeat (first | exact ext_refl _ | assumption | refine ext_setCell ?_ (by simp; try omega) _ | refine ext_alloc ?_ _ | refine ext_drew ?_ | refine ext_drewN ?_ _ | refine ext_trans ?_ (Aft.use _) | refine ext_trans ?_ (by assumption))
  obtain ⟨x, hx, hxb, hc⟩ := hR.get (n - 1) (by omega)
  have hb : b < w.heap.size := World.block_lt_of_cell? w _ hc
  have e : chk xs = if x = 0 then 10 else 0 := by
    unfold chk
    rw [if_neg (by rw [hlen.out]; omega), hlen.out, hx.out]
    by_cases h : x = 0
    · rw [if_pos ⟨by omega, h⟩, if_pos h]
    · rw [if_neg (fun h' => h h'.2), if_neg h]
  rw [e]
  clear e hR
  by_cases hz : x = 0
  · subst hz
    rw [if_pos rfl]
    go_enter Tryz.func83, Tryz.ntmps83
    go_wp2
    refine bodyPost_ret (v := _) ?h rfl ⟨rfl, ?_⟩
    case h => simp [results, Tryz.results83, go_sem]
    repeat (first | exact ext_refl _ | assumption | refine ext_setCell ?_ (by simp; try omega) _ | refine ext_alloc ?_ _ | refine ext_drew ?_ | refine ext_drewN ?_ _ | refine ext_trans ?_ (Aft.use _) | refine ext_trans ?_ (by assumption))
  · rw [if_neg hz]
    have hne : ((x : Int) == 0) = false := by simp; omega
    clear hz
    go_enter Tryz.func83, Tryz.ntmps83
    go_wp2
    refine bodyPost_ret (v := _) ?h rfl ⟨rfl, ?_⟩
    case h => simp [results, Tryz.results83, go_sem]
    repeat (first | exact ext_refl _ | assumption | refine ext_setCell ?_ (by simp; try omega) _ | refine ext_alloc ?_ _ | refine ext_drew ?_ | refine ext_drewN ?_ _ | refine ext_trans ?_ (Aft.use _) | refine ext_trans ?_ (by assumption))
theorem bits_or32 (a b : Nat) (ha : a < 4294967296) (hb : b < 4294967296) : bits .or .u32 (a : Int) (b : Int) = ((a ||| b : Nat) : Int) := by
  have hx : a ||| b < 2 ^ 32 := Nat.or_lt_two_pow (by omega) (by omega)
  have h1 : (BitVec.ofInt 32 (a : Int)).toNat = a := by
    rw [BitVec.ofInt_natCast, BitVec.toNat_ofNat]; exact Nat.mod_eq_of_lt (by omega)
  have h2 : (BitVec.ofInt 32 (b : Int)).toNat = b := by
    rw [BitVec.ofInt_natCast, BitVec.toNat_ofNat]; exact Nat.mod_eq_of_lt (by omega)
  show IntKind.u32.wrap ((BitVec.ofInt 32 (a : Int) ||| BitVec.ofInt 32 (b : Int)).toNat : Int) = _
  rw [BitVec.toNat_or, h1, h2, IntKind.wrap_u32]
  omega
end Go.Proofs.YtnkajjealkggdaaGreatDoor
end
