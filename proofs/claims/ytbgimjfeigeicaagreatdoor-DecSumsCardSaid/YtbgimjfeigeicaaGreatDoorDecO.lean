/- Small pieces: nought; sizes. -/
import Derived.Test.YtbgimjfeigeicaaGreatDoorDecD
import Derived.Test.YtbgimjfeigeicaaGreatDoorNatX
import Derived.Test.YtbgimjfeigeicaaGreatDoorNatY
namespace Go.Proofs.YtbgimjfeigeicaaGreatDoor
open Go.RowKit
attribute [local go_sem] bs_size bs_extract bs_get bs_append bs_toList const_get
attribute [local go_sem] sz2 sz3 sz4 sz5 sz6 sz7 sz8
set_option maxHeartbeats 4000000
set_option maxRecDepth 100000
attribute [local irreducible] Calls
theorem none_any (neg : Bool) (l : List UInt8) (exp : Int) (w : World) : Calls Tryz.prog 42 #[.agg #[.bool neg, .string (bs l), .int .i64 exp]] w fun e w' => e = .returned (.bool l.isEmpty) ∧ Ext w w' := by
  rcases hl : l with _ | ⟨a, t⟩
  all_goals
    go_enter Tryz.func42, Tryz.ntmps42
    go_wp2
    refine bodyPost_ret (v := _) ?h rfl ⟨rfl, ?_⟩
    case h => simp [results, Tryz.results42, go_sem]
    repeat (first | exact ext_refl _ | assumption | refine ext_setCell ?_ (by simp; try omega) _ | refine ext_alloc ?_ _ | refine ext_drew ?_ | refine ext_drewN ?_ _ | refine ext_trans ?_ (Aft.use _) | refine ext_trans ?_ (by assumption))
theorem rnone_any (neg : Bool) (l : List UInt8) (exp : Int) (w : World) : Calls Tryz.prog 48 #[.agg #[.bool neg, .string (bs l), .int .i64 exp]] w fun e w' => e = .returned (.bool (decide (l.length = 0))) ∧ Ext w w' := by
  by_cases h : l.length = 0
  · rw [decide_eq_true h]
    have h1 : ((l.length : Int) == 0) = true := by rw [beq_iff_eq]; omega
    go_enter Tryz.func48, Tryz.ntmps48
    go_wp2
    refine bodyPost_ret (v := _) ?h rfl ⟨rfl, ?_⟩
    case h => simp [results, Tryz.results48, go_sem]
    repeat (first | exact ext_refl _ | assumption | refine ext_setCell ?_ (by simp; try omega) _ | refine ext_alloc ?_ _ | refine ext_drew ?_ | refine ext_drewN ?_ _ | refine ext_trans ?_ (Aft.use _) | refine ext_trans ?_ (by assumption))
  · rw [decide_eq_false h]
    have h1 : ((l.length : Int) == 0) = false := by rw [beq_eq_false_iff_ne]; omega
    clear h
    go_enter Tryz.func48, Tryz.ntmps48
    go_wp2
    refine bodyPost_ret (v := _) ?h rfl ⟨rfl, ?_⟩
    case h => simp [results, Tryz.results48, go_sem]
    repeat (first | exact ext_refl _ | assumption | refine ext_setCell ?_ (by simp; try omega) _ | refine ext_alloc ?_ _ | refine ext_drew ?_ | refine ext_drewN ?_ _ | refine ext_trans ?_ (Aft.use _) | refine ext_trans ?_ (by assumption))
theorem big_pow {n k : Nat} (h : n ≤ 4 * k) (hk : k ≠ 0) : 10 ^ n < Bs ^ k := by
  have h1 : 10 ^ n ≤ 10 ^ (4 * k) := Nat.pow_le_pow_right (by decide) h
  have h2 : (10 ^ 4) ^ k < Bs ^ k := Nat.pow_lt_pow_left (by decide) hk
  rw [← Nat.pow_mul] at h2
  exact Nat.lt_of_le_of_lt h1 h2
theorem lim_fits {v n k : Nat} (hv : v ≤ 10 ^ n) (h : n ≤ 4 * k) (hk : k ≠ 0) : (lim v).length ≤ k := lim_le (Nat.lt_of_le_of_lt hv (big_pow h hk))
theorem dval_fits {l : List UInt8} (hd : digsB l = true) (hl : l.length ≤ 65536) : (lim (dval l)).length ≤ 16384 ∧ (lim (dval l + 1)).length ≤ 16384 := by
  have h1 := dval_lt l hd
  exact ⟨lim_fits (n := l.length) (Nat.le_of_lt h1) (by omega) (by decide), lim_fits (n := l.length) h1 (by omega) (by decide)⟩
end Go.Proofs.YtbgimjfeigeicaaGreatDoor
