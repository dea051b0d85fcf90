/- Lemmas of this proof, laid together: DecA, DecB, DecC, DecTw. -/
import Derived.Test.YtkhkoeibpkglkaaGreatDoorRows
import Derived.Test.YtkhkoeibpkglkaaGreatDoorMg03
import Derived.Test.YtkhkoeibpkglkaaGreatDoorMg05
import Derived.Test.YtkhkoeibpkglkaaGreatDoorMg01
set_option linter.unusedSimpArgs false
set_option linter.unusedVariables false
section
namespace Go.Proofs.YtkhkoeibpkglkaaGreatDoor
open Go.RowKit
attribute [local go_sem] bs_size bs_extract bs_get bs_append bs_toList const_get
attribute [local go_sem] sz2 sz3 sz4 sz5 sz6 sz7 sz8
abbrev dcV (d : Dc) : Value := .agg #[.bool d.neg, .string (bs d.dig), .int .i64 d.exp]
theorem isD_iff (c : UInt8) : (9 < ((c.toNat : Int) - 48) % 256) ↔ isD c = false := by
  have := c.toNat_lt
  unfold isD
  simp
  omega
theorem digs_step (l : List UInt8) (k : Nat) (h : k < l.length) (h0 : digsB (l.take k) = true) : digsB (l.take (k + 1)) = isD l[k] := by
  rw [List.take_succ_eq_append_getElem h]
  unfold digsB at *
  rw [List.all_append, h0]
  simp
theorem digs_no (l : List UInt8) (k : Nat) (h : k < l.length) (h0 : isD l[k] = false) : digsB l = false := by
  unfold digsB
  rw [List.all_eq_false]
  exact ⟨l[k], List.getElem_mem h, by simp [h0]⟩
theorem digits_any (l : List UInt8) (hl : l.length ≤ 9223372036854775807) (w : World) : Calls Tryz.prog 45 #[.string (bs l)] w fun e w' => e = .returned (.bool (digsB l)) ∧ w = w' := by
  go_enter Tryz.func45, Tryz.ntmps45
  go_wp2
  go_loop [6] (fun v => ∃ k : Nat, k ≤ l.length ∧ v = .int .i64 k ∧ digsB (l.take k) = true) (fun v => l.length - (intOf v).toNat)
  case atStart => exact ⟨0, Nat.zero_le _, rfl, rfl⟩
  case round =>
    obtain ⟨k, hk, rfl, hd⟩ := hrel
    have HD := Lib.hid hd
    clear hd
    go_wp2
    · have hn : isD l[k] = false := (isD_iff _).1 (by assumption)
      go_ret
      exact ⟨ret_bool (digs_no l k (by assumption) hn).symm, rfl⟩
    · have hy : isD l[k] = true := by
        rcases hh : isD l[k] with _ | _
        · have := (isD_iff _).2 hh; omega
        · rfl
      go_round
      case rel => exact ⟨k + 1, by omega, by go_num, by rw [digs_step l k (by assumption) HD.out]; exact hy⟩
      case measure => simp [intOf]; omega
    · have : k = l.length := by omega
      subst this
      have hz := HD.out
      rw [List.take_length] at hz
      go_ret
      exact ⟨ret_bool hz.symm, rfl⟩
theorem trimLB (l : List UInt8) (c : UInt8) (hl : l.length ≤ 9223372036854775807) (w : World) : Calls Tryz.prog 97 #[.string (bs l), .int .u8 c.toNat] w fun e w' => e = .returned (.string (bs (trimL c l))) ∧ w = w' := by
  go_enter Tryz.func97, Tryz.ntmps97
  go_wp2
  go_loop [0] (fun v => ∃ m, v = .string (bs m) ∧ m.length ≤ l.length ∧ trimL c m = trimL c l) (fun v => strLen v)
  case atStart => exact ⟨l, rfl, Nat.le_refl _, rfl⟩
  case round =>
    obtain ⟨m, rfl, hm, hd⟩ := hrel
    have HD := Lib.hid hd
    clear hd
    go_wp2
    · have h0 : 0 < m.length := by assumption
      have hc : m[0] = c := (byte_eq _ _).1 (by assumption)
      go_round
      case rel => exact ⟨m.tail, rfl, by simp; omega, by rw [trimL_yes c m h0 hc]; exact HD.out⟩
      case measure => simp [strLen, bs_size]; omega
    · have h0 : 0 < m.length := by assumption
      have hc : m[0] ≠ c := (byte_ne _ _).1 (by assumption)
      go_ret
      exact ⟨ret_str (by rw [← HD.out, trimL_no c m h0 hc]), rfl⟩
    · have h0 : m = [] := List.eq_nil_of_length_eq_zero (by omega)
      go_ret
      exact ⟨ret_str (by rw [← HD.out, h0]; rfl), rfl⟩
theorem trimRB (l : List UInt8) (c : UInt8) (hl : l.length ≤ 9223372036854775807) (w : World) : Calls Tryz.prog 93 #[.string (bs l), .int .u8 c.toNat] w fun e w' => e = .returned (.string (bs (trimR c l))) ∧ w = w' := by
  go_enter Tryz.func93, Tryz.ntmps93
  go_wp2
  go_loop [0] (fun v => ∃ m, v = .string (bs m) ∧ m.length ≤ l.length ∧ trimR c m = trimR c l) (fun v => strLen v)
  case atStart => exact ⟨l, rfl, Nat.le_refl _, rfl⟩
  case round =>
    obtain ⟨m, rfl, hm, hd⟩ := hrel
    have HD := Lib.hid hd
    clear hd
    go_wp2
    · have h0 : 0 < m.length := by assumption
      have hc : m[m.length - 1] = c := (byte_eq _ _).1 (by assumption)
      go_round
      case rel => exact ⟨m.take (m.length - 1), rfl, by simp; omega, by rw [trimR_yes c m h0 hc]; exact HD.out⟩
      case measure => simp [strLen, bs_size]; omega
    · have h0 : 0 < m.length := by assumption
      have hc : m[m.length - 1] ≠ c := (byte_ne _ _).1 (by assumption)
      go_ret
      exact ⟨ret_str (by rw [← HD.out, trimR_no c m h0 hc]), rfl⟩
    · have h0 : m = [] := List.eq_nil_of_length_eq_zero (by omega)
      go_ret
      exact ⟨ret_str (by rw [← HD.out, h0]; rfl), rfl⟩
theorem trimLB0 (l : List UInt8) (hl : l.length ≤ 9223372036854775807) (w : World) : Calls Tryz.prog 97 #[.string (bs l), .int .u8 48] w fun e w' => e = .returned (.string (bs (trimL 48 l))) ∧ w = w' := trimLB l 48 hl w
theorem trimRB0 (l : List UInt8) (hl : l.length ≤ 9223372036854775807) (w : World) : Calls Tryz.prog 93 #[.string (bs l), .int .u8 48] w fun e w' => e = .returned (.string (bs (trimR 48 l))) ∧ w = w' := trimRB l 48 hl w
set_option maxRecDepth 100000 in
theorem trimLeft (l : List UInt8) (hl : l.length ≤ 9223372036854775807) (w : World) : Calls Tryz.prog 47 #[.string (bs l), .string ⟨#[48]⟩] w fun e w' => e = .returned (.string (bs (trimL 48 l))) ∧ w = w' := by
  by_cases h0 : l = []
  · subst h0
    go_enter Tryz.func47, Tryz.ntmps47
    go_wp2
    go_ret
    exact ⟨ret_str rfl, rfl⟩
  · have h1 : l.isEmpty = false := by simp [h0]
    clear h0
    go_enter Tryz.func47, Tryz.ntmps47
    go_wp2_with (first
      | (go_at_call 97; (with_reducible refine (trimLB0 _ hl _).mono ?_); rintro e w' ⟨rfl, rfl⟩)
     )
    go_ret
    exact ⟨rfl, rfl⟩
set_option maxRecDepth 100000 in
theorem trimRight (l : List UInt8) (hl : l.length ≤ 9223372036854775807) (w : World) : Calls Tryz.prog 46 #[.string (bs l), .string ⟨#[48]⟩] w fun e w' => e = .returned (.string (bs (trimR 48 l))) ∧ w = w' := by
  by_cases h0 : l = []
  · subst h0
    go_enter Tryz.func46, Tryz.ntmps46
    go_wp2
    go_ret
    exact ⟨ret_str rfl, rfl⟩
  · have h1 : l.isEmpty = false := by simp [h0]
    clear h0
    go_enter Tryz.func46, Tryz.ntmps46
    go_wp2_with (first
      | (go_at_call 93; (with_reducible refine (trimRB0 _ hl _).mono ?_); rintro e w' ⟨rfl, rfl⟩)
     )
    go_ret
    exact ⟨rfl, rfl⟩
end Go.Proofs.YtkhkoeibpkglkaaGreatDoor
end
section
namespace Go.Proofs.YtkhkoeibpkglkaaGreatDoor
open Go.RowKit
attribute [local go_sem] bs_size bs_extract bs_get bs_append bs_toList const_get
attribute [local go_sem] sz2 sz3 sz4 sz5 sz6 sz7 sz8
theorem far_any (n : Int) (w : World) : Calls Tryz.prog 48 #[.int .i64 n] w fun e w' => e = .returned (.bool (far n)) ∧ w = w' := by
  unfold far
  go_enter Tryz.func48, Tryz.ntmps48
  go_wp2
  all_goals
    go_ret
    simp_all
theorem mkDig_empty (l : List UInt8) : (trimL 48 (trimR 48 l)).isEmpty = decide (mkDig l = []) := by
  unfold mkDig
  cases trimL 48 (trimR 48 l) <;> simp
theorem make_any (neg : Bool) (l : List UInt8) (exp : Int) (hl : l.length ≤ 9223372036854775807) (w : World) :
    Calls Tryz.prog 26 #[.bool neg, .string (bs l), .int .i64 exp] w fun e w' => e = .returned (.tuple #[dcV (mkD neg l exp), .int .i64 (mkE l exp)]) ∧ Ext w w' := by
  by_cases h1 : 65536 < l.length
  · have E : mkE l exp = 4 := by unfold mkE; rw [if_pos h1]
    have D : mkD neg l exp = Dc.zero := by unfold mkD; rw [E]; rfl
    rw [E, D]
    clear E D
    go_enter Tryz.func26, Tryz.ntmps26
    go_wp2
    refine bodyPost_ret (v := _) ?h rfl ⟨rfl, ?_⟩
    case h => simp [results, Tryz.results26, go_sem, dcV, Dc.zero, bs_nil]
    repeat (first | exact ext_refl _ | assumption | refine ext_setCell ?_ (by simp; try omega) _ | refine ext_alloc ?_ _ | refine ext_drew ?_ | refine ext_drewN ?_ _ | refine ext_trans ?_ (Aft.use _) | refine ext_trans ?_ (by assumption))
  have hl2 : l.length ≤ 65536 := by omega
  cases h2 : digsB l
  · have E : mkE l exp = 100 := by unfold mkE; rw [if_neg h1, if_pos h2]
    have D : mkD neg l exp = Dc.zero := by unfold mkD; rw [E]; rfl
    rw [E, D]
    clear E D
    go_enter Tryz.func26, Tryz.ntmps26
    go_wp2_with (first
      | (go_at_call 45; (with_reducible refine (digits_any _ hl _).mono ?_); rintro e w' ⟨rfl, rfl⟩)
     )
    refine bodyPost_ret (v := _) ?h rfl ⟨rfl, ?_⟩
    case h => simp [results, Tryz.results26, go_sem, dcV, Dc.zero, bs_nil]
    repeat (first | exact ext_refl _ | assumption | refine ext_setCell ?_ (by simp; try omega) _ | refine ext_alloc ?_ _ | refine ext_drew ?_ | refine ext_drewN ?_ _ | refine ext_trans ?_ (Aft.use _) | refine ext_trans ?_ (by assumption))
  have e3 := mkDig_empty l
  have hlR := trimR_le 48 l
  have hlL := trimL_le 48 (trimR 48 l)
  by_cases h3 : mkDig l = []
  · have E : mkE l exp = 0 := by unfold mkE; rw [if_neg h1, if_neg (by simp [h2]), if_pos h3]
    have D : mkD neg l exp = ⟨neg, [], 0⟩ := by unfold mkD; rw [if_pos E, if_pos h3]
    rw [E, D]
    clear E D
    simp only [h3] at e3
    simp only [decide_true] at e3
    clear h3
    go_enter Tryz.func26, Tryz.ntmps26
    go_wp2_with (first
      | (go_at_call 45; (with_reducible refine (digits_any _ hl _).mono ?_); rintro e w' ⟨rfl, rfl⟩)
      | (go_at_call 46; (with_reducible refine (trimRight _ hl _).mono ?_); rintro e w' ⟨rfl, rfl⟩)
      | (go_at_call 47; (with_reducible refine (trimLeft _ (by omega) _).mono ?_); rintro e w' ⟨rfl, rfl⟩)
     )
    refine bodyPost_ret (v := _) ?h rfl ⟨rfl, ?_⟩
    case h => simp [results, Tryz.results26, go_sem, dcV, bs_nil]
    repeat (first | exact ext_refl _ | assumption | refine ext_setCell ?_ (by simp; try omega) _ | refine ext_alloc ?_ _ | refine ext_drew ?_ | refine ext_drewN ?_ _ | refine ext_trans ?_ (Aft.use _) | refine ext_trans ?_ (by assumption))
  have e3' : (trimL 48 (trimR 48 l)).isEmpty = false := by rw [e3]; simp [h3]
  clear e3
  by_cases h4 : 1073741824 < exp ∨ exp < -2147483648 ∨ far (exp + mkN l) = true
  · have E : mkE l exp = 4 := by unfold mkE; rw [if_neg h1, if_neg (by simp [h2]), if_neg h3, if_pos h4]
    have D : mkD neg l exp = Dc.zero := by unfold mkD; rw [E]; rfl
    rw [E, D]
    clear E D h3
    by_cases h5 : 1073741824 < exp
    · clear h4
      go_enter Tryz.func26, Tryz.ntmps26
      go_wp2_with (first
        | (go_at_call 45; (with_reducible refine (digits_any _ hl _).mono ?_); rintro e w' ⟨rfl, rfl⟩)
        | (go_at_call 46; (with_reducible refine (trimRight _ hl _).mono ?_); rintro e w' ⟨rfl, rfl⟩)
        | (go_at_call 47; (with_reducible refine (trimLeft _ (by omega) _).mono ?_); rintro e w' ⟨rfl, rfl⟩)
       )
      refine bodyPost_ret (v := _) ?h rfl ⟨rfl, ?_⟩
      case h => simp [results, Tryz.results26, go_sem, dcV, Dc.zero, bs_nil]
      repeat (first | exact ext_refl _ | assumption | refine ext_setCell ?_ (by simp; try omega) _ | refine ext_alloc ?_ _ | refine ext_drew ?_ | refine ext_drewN ?_ _ | refine ext_trans ?_ (Aft.use _) | refine ext_trans ?_ (by assumption))
    by_cases h6 : exp < -2147483648
    · clear h4
      go_enter Tryz.func26, Tryz.ntmps26
      go_wp2_with (first
        | (go_at_call 45; (with_reducible refine (digits_any _ hl _).mono ?_); rintro e w' ⟨rfl, rfl⟩)
        | (go_at_call 46; (with_reducible refine (trimRight _ hl _).mono ?_); rintro e w' ⟨rfl, rfl⟩)
        | (go_at_call 47; (with_reducible refine (trimLeft _ (by omega) _).mono ?_); rintro e w' ⟨rfl, rfl⟩)
       )
      refine bodyPost_ret (v := _) ?h rfl ⟨rfl, ?_⟩
      case h => simp [results, Tryz.results26, go_sem, dcV, Dc.zero, bs_nil]
      repeat (first | exact ext_refl _ | assumption | refine ext_setCell ?_ (by simp; try omega) _ | refine ext_alloc ?_ _ | refine ext_drew ?_ | refine ext_drewN ?_ _ | refine ext_trans ?_ (Aft.use _) | refine ext_trans ?_ (by assumption))
    have h7 : far (exp + ((l.length : Int) - (trimR 48 l).length)) = true := by
      rcases h4 with h | h | h
      · exact absurd h h5
      · exact absurd h h6
      · exact h
    clear h4
    go_enter Tryz.func26, Tryz.ntmps26
    go_wp2_with (first
      | (go_at_call 45; (with_reducible refine (digits_any _ hl _).mono ?_); rintro e w' ⟨rfl, rfl⟩)
      | (go_at_call 46; (with_reducible refine (trimRight _ hl _).mono ?_); rintro e w' ⟨rfl, rfl⟩)
      | (go_at_call 47; (with_reducible refine (trimLeft _ (by omega) _).mono ?_); rintro e w' ⟨rfl, rfl⟩)
      | (go_at_call 48; (with_reducible refine (far_any _ _).mono ?_); rintro e w' ⟨rfl, rfl⟩)
     )
    refine bodyPost_ret (v := _) ?h rfl ⟨rfl, ?_⟩
    case h => simp [results, Tryz.results26, go_sem, dcV, Dc.zero, bs_nil]
    repeat (first | exact ext_refl _ | assumption | refine ext_setCell ?_ (by simp; try omega) _ | refine ext_alloc ?_ _ | refine ext_drew ?_ | refine ext_drewN ?_ _ | refine ext_trans ?_ (Aft.use _) | refine ext_trans ?_ (by assumption))
  · have E : mkE l exp = 0 := by unfold mkE; rw [if_neg h1, if_neg (by simp [h2]), if_neg h3, if_neg h4]
    have D : mkD neg l exp = ⟨neg, mkDig l, exp + mkN l⟩ := by unfold mkD; rw [if_pos E, if_neg h3]
    rw [E, D]
    clear E D h3
    have h5 : ¬ 1073741824 < exp := fun h => h4 (.inl h)
    have h6 : ¬ exp < -2147483648 := fun h => h4 (.inr (.inl h))
    have h7 : far (exp + ((l.length : Int) - (trimR 48 l).length)) = false := by
      cases hf : far (exp + ((l.length : Int) - (trimR 48 l).length))
      · rfl
      · exact absurd (.inr (.inr hf)) h4
    clear h4
    go_enter Tryz.func26, Tryz.ntmps26
    go_wp2_with (first
      | (go_at_call 45; (with_reducible refine (digits_any _ hl _).mono ?_); rintro e w' ⟨rfl, rfl⟩)
      | (go_at_call 46; (with_reducible refine (trimRight _ hl _).mono ?_); rintro e w' ⟨rfl, rfl⟩)
      | (go_at_call 47; (with_reducible refine (trimLeft _ (by omega) _).mono ?_); rintro e w' ⟨rfl, rfl⟩)
      | (go_at_call 48; (with_reducible refine (far_any _ _).mono ?_); rintro e w' ⟨rfl, rfl⟩)
     )
    refine bodyPost_ret (v := _) ?h rfl ⟨rfl, ?_⟩
    case h => simp [results, Tryz.results26, go_sem, dcV, mkDig, mkN]
    repeat (first | exact ext_refl _ | assumption | refine ext_setCell ?_ (by simp; try omega) _ | refine ext_alloc ?_ _ | refine ext_drew ?_ | refine ext_drewN ?_ _ | refine ext_trans ?_ (Aft.use _) | refine ext_trans ?_ (by assumption))
end Go.Proofs.YtkhkoeibpkglkaaGreatDoor
end
