/- Lemmas of this proof, laid together: DecA, DecB, DecC, DecTw. -/
import Derived.Test.YtchchnohmmncfaaGreatDoorRows
import Derived.Test.YtchchnohmmncfaaGreatDoorMg03
import Derived.Test.YtchchnohmmncfaaGreatDoorMg05
import Derived.Test.YtchchnohmmncfaaGreatDoorMg01
set_option linter.unusedSimpArgs false
set_option linter.unusedVariables false
section
namespace Go.Proofs.YtchchnohmmncfaaGreatDoor
open Go.RowKit
attribute [local go_sem] bs_size bs_extract bs_get bs_append bs_toList const_get
attribute [local go_sem] sz2 sz3 sz4 sz5 sz6 sz7 sz8
abbrev dcV (d : Dc) : Value := .agg #[.bool d.neg, .string (bs d.dig), .int .i64 d.exp]
theorem isD_iff (c : UInt8) : (9 < ((c.toNat : Int) - 48) % 256) ↔ isD c = false := by
  have := c.toNat_lt
  unfold isD
  simp
  omega
theorem digs_step (l : List UInt8) (k : Nat) (h : k < l.length) (h0 : digsB (l.take k) = true) : digsB (l.take (k + 1)) = isD l[k] := by
  rw [List.take_succ_eq_append_getElem h]
  unfold digsB at *
  rw [List.all_append, h0]
  simp
theorem digs_no (l : List UInt8) (k : Nat) (h : k < l.length) (h0 : isD l[k] = false) : digsB l = false := by
  unfold digsB
  rw [List.all_eq_false]
  exact ⟨l[k], List.getElem_mem h, by simp [h0]⟩
theorem digits_any (l : List UInt8) (hl : l.length ≤ 9223372036854775807) (w : World) : Calls Tryz.prog 79 #[.string (bs l)] w fun e w' => e = .returned (.bool (digsB l)) ∧ w = w' := by
  go_enter Tryz.func79, Tryz.ntmps79
  go_wp2
  go_loop [6] (fun v => ∃ k : Nat, k ≤ l.length ∧ v = .int .i64 k ∧ digsB (l.take k) = true) (fun v => l.length - (intOf v).toNat)
  case atStart => exact ⟨0, Nat.zero_le _, rfl, rfl⟩
  case round =>
    obtain ⟨k, hk, rfl, hd⟩ := hrel
    have HD := Lib.hid hd
    clear hd
    go_wp2
    · have hn : isD l[k] = false := (isD_iff _).1 (by assumption)
      go_ret
      exact ⟨ret_bool (digs_no l k (by assumption) hn).symm, rfl⟩
    · have hy : isD l[k] = true := by
        rcases hh : isD l[k] with _ | _
        · have := (isD_iff _).2 hh; omega
        · rfl
      go_round
      case rel => exact ⟨k + 1, by omega, by go_num, by rw [digs_step l k (by assumption) HD.out]; exact hy⟩
      case measure => simp [intOf]; omega
    · have : k = l.length := by omega
      subst this
      have hz := HD.out
      rw [List.take_length] at hz
      go_ret
      exact ⟨ret_bool hz.symm, rfl⟩
end Go.Proofs.YtchchnohmmncfaaGreatDoor
end
section
namespace Go.Proofs.YtchchnohmmncfaaGreatDoor
open Go.RowKit
attribute [local go_sem] bs_size bs_extract bs_get bs_append bs_toList const_get
attribute [local go_sem] sz2 sz3 sz4 sz5 sz6 sz7 sz8
theorem far_any (n : Int) (w : World) : Calls Tryz.prog 80 #[.int .i64 n] w fun e w' => e = .returned (.bool (far n)) ∧ w = w' := by
  unfold far
  go_enter Tryz.func80, Tryz.ntmps80
  go_wp2
  all_goals
    go_ret
    simp_all
end Go.Proofs.YtchchnohmmncfaaGreatDoor
end
