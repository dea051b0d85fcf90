/- Lemmas of this proof, laid together: DecA, DecB, DecC, DecTw. -/
import Derived.Test.YtnkajjealkggdaaGreatDoorRows
import Derived.Test.YtnkajjealkggdaaGreatDoorMg04
import Derived.Test.YtnkajjealkggdaaGreatDoorMg07
import Derived.Test.YtnkajjealkggdaaGreatDoorMg01
set_option linter.unusedSimpArgs false
set_option linter.unusedVariables false
section
namespace Go.Proofs.YtnkajjealkggdaaGreatDoor
open Go.RowKit
attribute [local go_sem] bs_size bs_extract bs_get bs_append bs_toList const_get
attribute [local go_sem] sz2 sz3 sz4 sz5 sz6 sz7 sz8
abbrev dcV (d : Dc) : Value := .agg #[.bool d.neg, .string (bs d.dig), .int .i64 d.exp]
theorem isD_iff (c : UInt8) : (9 < ((c.toNat : Int) - 48) % 256) ↔ isD c = false := by
  have := c.toNat_lt
  unfold isD
  simp
  omega
theorem digs_step (l : List UInt8) (k : Nat) (h : k < l.length) (h0 : digsB (l.take k) = true) : digsB (l.take (k + 1)) = isD l[k] := by
  rw [List.take_succ_eq_append_getElem h]
  unfold digsB at *
  rw [List.all_append, h0]
  simp
theorem digs_no (l : List UInt8) (k : Nat) (h : k < l.length) (h0 : isD l[k] = false) : digsB l = false := by
  unfold digsB
  rw [List.all_eq_false]
  exact ⟨l[k], List.getElem_mem h, by simp [h0]⟩
theorem digits_any (l : List UInt8) (hl : l.length ≤ 9223372036854775807) (w : World) : Calls Tryz.prog 81 #[.string (bs l)] w fun e w' => e = .returned (.bool (digsB l)) ∧ w = w' := by
  go_enter Tryz.func81, Tryz.ntmps81
  go_wp2
  go_loop [6] (fun v => ∃ k : Nat, k ≤ l.length ∧ v = .int .i64 k ∧ digsB (l.take k) = true) (fun v => l.length - (intOf v).toNat)
  case atStart => exact ⟨0, Nat.zero_le _, rfl, rfl⟩
  case round =>
    obtain ⟨k, hk, rfl, hd⟩ := hrel
    have HD := Lib.hid hd
    clear hd
    go_wp2
    · have hn : isD l[k] = false := (isD_iff _).1 (by assumption)
      go_ret
      exact ⟨ret_bool (digs_no l k (by assumption) hn).symm, rfl⟩
    · have hy : isD l[k] = true := by
        rcases hh : isD l[k] with _ | _
        · have := (isD_iff _).2 hh; omega
        · rfl
      go_round
      case rel => exact ⟨k + 1, by omega, by go_num, by rw [digs_step l k (by assumption) HD.out]; exact hy⟩
      case measure => simp [intOf]; omega
    · have : k = l.length := by omega
      subst this
      have hz := HD.out
      rw [List.take_length] at hz
      go_ret
      exact ⟨ret_bool hz.symm, rfl⟩
theorem trimLB (l : List UInt8) (c : UInt8) (hl : l.length ≤ 9223372036854775807) (w : World) : Calls Tryz.prog 138 #[.string (bs l), .int .u8 c.toNat] w fun e w' => e = .returned (.string (bs (trimL c l))) ∧ w = w' := by
  go_enter Tryz.func138, Tryz.ntmps138
  go_wp2
  go_loop [0] (fun v => ∃ m, v = .string (bs m) ∧ m.length ≤ l.length ∧ trimL c m = trimL c l) (fun v => strLen v)
  case atStart => exact ⟨l, rfl, Nat.le_refl _, rfl⟩
  case round =>
    obtain ⟨m, rfl, hm, hd⟩ := hrel
    have HD := Lib.hid hd
    clear hd
    go_wp2
    · have h0 : 0 < m.length := by assumption
      have hc : m[0] = c := (byte_eq _ _).1 (by assumption)
      go_round
      case rel => exact ⟨m.tail, rfl, by simp; omega, by rw [trimL_yes c m h0 hc]; exact HD.out⟩
      case measure => simp [strLen, bs_size]; omega
    · have h0 : 0 < m.length := by assumption
      have hc : m[0] ≠ c := (byte_ne _ _).1 (by assumption)
      go_ret
      exact ⟨ret_str (by rw [← HD.out, trimL_no c m h0 hc]), rfl⟩
    · have h0 : m = [] := List.eq_nil_of_length_eq_zero (by omega)
      go_ret
      exact ⟨ret_str (by rw [← HD.out, h0]; rfl), rfl⟩
theorem trimRB (l : List UInt8) (c : UInt8) (hl : l.length ≤ 9223372036854775807) (w : World) : Calls Tryz.prog 142 #[.string (bs l), .int .u8 c.toNat] w fun e w' => e = .returned (.string (bs (trimR c l))) ∧ w = w' := by
  go_enter Tryz.func142, Tryz.ntmps142
  go_wp2
  go_loop [0] (fun v => ∃ m, v = .string (bs m) ∧ m.length ≤ l.length ∧ trimR c m = trimR c l) (fun v => strLen v)
  case atStart => exact ⟨l, rfl, Nat.le_refl _, rfl⟩
  case round =>
    obtain ⟨m, rfl, hm, hd⟩ := hrel
    have HD := Lib.hid hd
    clear hd
    go_wp2
    · have h0 : 0 < m.length := by assumption
      have hc : m[m.length - 1] = c := (byte_eq _ _).1 (by assumption)
      go_round
      case rel => exact ⟨m.take (m.length - 1), rfl, by simp; omega, by rw [trimR_yes c m h0 hc]; exact HD.out⟩
      case measure => simp [strLen, bs_size]; omega
    · have h0 : 0 < m.length := by assumption
      have hc : m[m.length - 1] ≠ c := (byte_ne _ _).1 (by assumption)
      go_ret
      exact ⟨ret_str (by rw [← HD.out, trimR_no c m h0 hc]), rfl⟩
    · have h0 : m = [] := List.eq_nil_of_length_eq_zero (by omega)
      go_ret
      exact ⟨ret_str (by rw [← HD.out, h0]; rfl), rfl⟩
theorem trimLB0 (l : List UInt8) (hl : l.length ≤ 9223372036854775807) (w : World) : Calls Tryz.prog 138 #[.string (bs l), .int .u8 48] w fun e w' => e = .returned (.string (bs (trimL 48 l))) ∧ w = w' := trimLB l 48 hl w
theorem trimRB0 (l : List UInt8) (hl : l.length ≤ 9223372036854775807) (w : World) : Calls Tryz.prog 142 #[.string (bs l), .int .u8 48] w fun e w' => e = .returned (.string (bs (trimR 48 l))) ∧ w = w' := trimRB l 48 hl w
set_option maxRecDepth 100000 in
theorem trimLeft (l : List UInt8) (hl : l.length ≤ 9223372036854775807) (w : World) : Calls Tryz.prog 102 #[.string (bs l), .string ⟨#[48]⟩] w fun e w' => e = .returned (.string (bs (trimL 48 l))) ∧ w = w' := by
  by_cases h0 : l = []
  · subst h0
    go_enter Tryz.func102, Tryz.ntmps102
    go_wp2
    go_ret
    exact ⟨ret_str rfl, rfl⟩
  · have h1 : l.isEmpty = false := by simp [h0]
    clear h0
    go_enter Tryz.func102, Tryz.ntmps102
    go_wp2_with (first
      | (go_at_call 138; (with_reducible refine (trimLB0 _ hl _).mono ?_); rintro e w' ⟨rfl, rfl⟩)
     )
    go_ret
    exact ⟨rfl, rfl⟩
set_option maxRecDepth 100000 in
theorem trimRight (l : List UInt8) (hl : l.length ≤ 9223372036854775807) (w : World) : Calls Tryz.prog 103 #[.string (bs l), .string ⟨#[48]⟩] w fun e w' => e = .returned (.string (bs (trimR 48 l))) ∧ w = w' := by
  by_cases h0 : l = []
  · subst h0
    go_enter Tryz.func103, Tryz.ntmps103
    go_wp2
    go_ret
    exact ⟨ret_str rfl, rfl⟩
  · have h1 : l.isEmpty = false := by simp [h0]
    clear h0
    go_enter Tryz.func103, Tryz.ntmps103
    go_wp2_with (first
      | (go_at_call 142; (with_reducible refine (trimRB0 _ hl _).mono ?_); rintro e w' ⟨rfl, rfl⟩)
     )
    go_ret
    exact ⟨rfl, rfl⟩
end Go.Proofs.YtnkajjealkggdaaGreatDoor
end
section
namespace Go.Proofs.YtnkajjealkggdaaGreatDoor
open Go.RowKit
attribute [local go_sem] bs_size bs_extract bs_get bs_append bs_toList const_get
attribute [local go_sem] sz2 sz3 sz4 sz5 sz6 sz7 sz8
theorem far_any (n : Int) (w : World) : Calls Tryz.prog 82 #[.int .i64 n] w fun e w' => e = .returned (.bool (far n)) ∧ w = w' := by
  unfold far
  go_enter Tryz.func82, Tryz.ntmps82
  go_wp2
  all_goals
    go_ret
    simp_all
end Go.Proofs.YtnkajjealkggdaaGreatDoor
end
