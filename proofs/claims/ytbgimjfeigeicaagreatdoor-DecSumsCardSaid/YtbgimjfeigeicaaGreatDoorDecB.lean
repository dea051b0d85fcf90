import Derived.Test.YtbgimjfeigeicaaGreatDoorDecA
namespace Go.Proofs.YtbgimjfeigeicaaGreatDoor
open Go.RowKit
attribute [local go_sem] bs_size bs_extract bs_get bs_append bs_toList const_get
attribute [local go_sem] sz2 sz3 sz4 sz5 sz6 sz7 sz8
theorem far_any (n : Int) (w : World) : Calls Tryz.prog 60 #[.int .i64 n] w fun e w' => e = .returned (.bool (far n)) ∧ w = w' := by
  unfold far
  go_enter Tryz.func60, Tryz.ntmps60
  go_wp2
  all_goals
    go_ret
    simp_all
theorem rfar_any (n : Int) (w : World) : Calls Tryz.prog 62 #[.int .i64 n] w fun e w' => e = .returned (.bool (far n)) ∧ w = w' := by
  unfold far
  go_enter Tryz.func62, Tryz.ntmps62
  go_wp2
  all_goals
    go_ret
    simp_all
theorem rdigits_any (l : List UInt8) (hl : l.length ≤ 9223372036854775807) (w : World) : Calls Tryz.prog 61 #[.string (bs l)] w fun e w' => e = .returned (.bool (digsB l)) ∧ w = w' := by
  go_enter Tryz.func61, Tryz.ntmps61
  go_wp2
  go_loop [3] (fun v => ∃ k : Nat, k ≤ l.length ∧ v = .int .i64 k ∧ digsB (l.take k) = true) (fun v => l.length - (intOf v).toNat)
  case atStart => exact ⟨0, Nat.zero_le _, rfl, rfl⟩
  case round =>
    obtain ⟨k, hk, rfl, hd⟩ := hrel
    have HD := Lib.hid hd
    clear hd
    by_cases hlt : k < l.length
    · cases hD : isD l[k]
      · have hb := isD_cases l[k] hD
        rcases hb with hb | hb
        all_goals
          have HN := Lib.hid hD
          clear hD
          go_wp2
          go_ret
          exact ⟨ret_bool (digs_no l k (by assumption) HN.out).symm, rfl⟩
      · have hb := isD_yes l[k] hD
        have HN := Lib.hid hD
        clear hD
        obtain ⟨hb1, hb2⟩ := hb
        go_wp2
        go_round
        case rel => exact ⟨k + 1, by omega, by go_num, by rw [digs_step l k (by assumption) HD.out]; exact HN.out⟩
        case measure => simp [intOf]; omega
    · have : k = l.length := by omega
      subst this
      have hz := HD.out
      rw [List.take_length] at hz
      have HZ := Lib.hid hz
      clear hz
      go_wp2
      go_ret
      exact ⟨ret_bool HZ.out.symm, rfl⟩
theorem mkDig_empty (l : List UInt8) : (trimL 48 (trimR 48 l)).isEmpty = decide (mkDig l = []) := by
  unfold mkDig
  cases trimL 48 (trimR 48 l) <;> simp
theorem make_any (neg : Bool) (l : List UInt8) (exp : Int) (hl : l.length ≤ 9223372036854775807) (w : World) :
    Calls Tryz.prog 20 #[.bool neg, .string (bs l), .int .i64 exp] w fun e w' => e = .returned (.tuple #[dcV (mkD neg l exp), .int .i64 (mkE l exp)]) ∧ Ext w w' := by
  by_cases h1 : 65536 < l.length
  · have E : mkE l exp = 4 := by unfold mkE; rw [if_pos h1]
    have D : mkD neg l exp = Dc.zero := by unfold mkD; rw [E]; rfl
    rw [E, D]
    clear E D
    go_enter Tryz.func20, Tryz.ntmps20
    go_wp2
    refine bodyPost_ret (v := _) ?h rfl ⟨rfl, ?_⟩
    case h => simp [results, Tryz.results20, go_sem, dcV, Dc.zero, bs_nil]
    repeat (first | exact ext_refl _ | assumption | refine ext_setCell ?_ (by simp; try omega) _ | refine ext_alloc ?_ _ | refine ext_drew ?_ | refine ext_drewN ?_ _ | refine ext_trans ?_ (Aft.use _) | refine ext_trans ?_ (by assumption))
  have hl2 : l.length ≤ 65536 := by omega
  cases h2 : digsB l
  · have E : mkE l exp = 100 := by unfold mkE; rw [if_neg h1, if_pos h2]
    have D : mkD neg l exp = Dc.zero := by unfold mkD; rw [E]; rfl
    rw [E, D]
    clear E D
    go_enter Tryz.func20, Tryz.ntmps20
    go_wp2_with (first
      | (go_at_call 59; (with_reducible refine (digits_any _ hl _).mono ?_); rintro e w' ⟨rfl, rfl⟩)
     )
    refine bodyPost_ret (v := _) ?h rfl ⟨rfl, ?_⟩
    case h => simp [results, Tryz.results20, go_sem, dcV, Dc.zero, bs_nil]
    repeat (first | exact ext_refl _ | assumption | refine ext_setCell ?_ (by simp; try omega) _ | refine ext_alloc ?_ _ | refine ext_drew ?_ | refine ext_drewN ?_ _ | refine ext_trans ?_ (Aft.use _) | refine ext_trans ?_ (by assumption))
  have e3 := mkDig_empty l
  have hlR := trimR_le 48 l
  have hlL := trimL_le 48 (trimR 48 l)
  by_cases h3 : mkDig l = []
  · have E : mkE l exp = 0 := by unfold mkE; rw [if_neg h1, if_neg (by simp [h2]), if_pos h3]
    have D : mkD neg l exp = ⟨neg, [], 0⟩ := by unfold mkD; rw [if_pos E, if_pos h3]
    rw [E, D]
    clear E D
    simp only [h3] at e3
    simp only [decide_true] at e3
    clear h3
    go_enter Tryz.func20, Tryz.ntmps20
    go_wp2_with (first
      | (go_at_call 59; (with_reducible refine (digits_any _ hl _).mono ?_); rintro e w' ⟨rfl, rfl⟩)
      | (go_at_call 57; (with_reducible refine (trimRight _ hl _).mono ?_); rintro e w' ⟨rfl, rfl⟩)
      | (go_at_call 63; (with_reducible refine (trimLeft _ (by omega) _).mono ?_); rintro e w' ⟨rfl, rfl⟩)
     )
    refine bodyPost_ret (v := _) ?h rfl ⟨rfl, ?_⟩
    case h => simp [results, Tryz.results20, go_sem, dcV, bs_nil]
    repeat (first | exact ext_refl _ | assumption | refine ext_setCell ?_ (by simp; try omega) _ | refine ext_alloc ?_ _ | refine ext_drew ?_ | refine ext_drewN ?_ _ | refine ext_trans ?_ (Aft.use _) | refine ext_trans ?_ (by assumption))
  have e3' : (trimL 48 (trimR 48 l)).isEmpty = false := by rw [e3]; simp [h3]
  clear e3
  by_cases h4 : 1073741824 < exp ∨ exp < -2147483648 ∨ far (exp + mkN l) = true
  · have E : mkE l exp = 4 := by unfold mkE; rw [if_neg h1, if_neg (by simp [h2]), if_neg h3, if_pos h4]
    have D : mkD neg l exp = Dc.zero := by unfold mkD; rw [E]; rfl
    rw [E, D]
    clear E D h3
    by_cases h5 : 1073741824 < exp
    · clear h4
      go_enter Tryz.func20, Tryz.ntmps20
      go_wp2_with (first
        | (go_at_call 59; (with_reducible refine (digits_any _ hl _).mono ?_); rintro e w' ⟨rfl, rfl⟩)
        | (go_at_call 57; (with_reducible refine (trimRight _ hl _).mono ?_); rintro e w' ⟨rfl, rfl⟩)
        | (go_at_call 63; (with_reducible refine (trimLeft _ (by omega) _).mono ?_); rintro e w' ⟨rfl, rfl⟩)
       )
      refine bodyPost_ret (v := _) ?h rfl ⟨rfl, ?_⟩
      case h => simp [results, Tryz.results20, go_sem, dcV, Dc.zero, bs_nil]
      repeat (first | exact ext_refl _ | assumption | refine ext_setCell ?_ (by simp; try omega) _ | refine ext_alloc ?_ _ | refine ext_drew ?_ | refine ext_drewN ?_ _ | refine ext_trans ?_ (Aft.use _) | refine ext_trans ?_ (by assumption))
    by_cases h6 : exp < -2147483648
    · clear h4
      go_enter Tryz.func20, Tryz.ntmps20
      go_wp2_with (first
        | (go_at_call 59; (with_reducible refine (digits_any _ hl _).mono ?_); rintro e w' ⟨rfl, rfl⟩)
        | (go_at_call 57; (with_reducible refine (trimRight _ hl _).mono ?_); rintro e w' ⟨rfl, rfl⟩)
        | (go_at_call 63; (with_reducible refine (trimLeft _ (by omega) _).mono ?_); rintro e w' ⟨rfl, rfl⟩)
       )
      refine bodyPost_ret (v := _) ?h rfl ⟨rfl, ?_⟩
      case h => simp [results, Tryz.results20, go_sem, dcV, Dc.zero, bs_nil]
      repeat (first | exact ext_refl _ | assumption | refine ext_setCell ?_ (by simp; try omega) _ | refine ext_alloc ?_ _ | refine ext_drew ?_ | refine ext_drewN ?_ _ | refine ext_trans ?_ (Aft.use _) | refine ext_trans ?_ (by assumption))
    have h7 : far (exp + ((l.length : Int) - (trimR 48 l).length)) = true := by
      rcases h4 with h | h | h
      · exact absurd h h5
      · exact absurd h h6
      · exact h
    clear h4
    go_enter Tryz.func20, Tryz.ntmps20
    go_wp2_with (first
      | (go_at_call 59; (with_reducible refine (digits_any _ hl _).mono ?_); rintro e w' ⟨rfl, rfl⟩)
      | (go_at_call 57; (with_reducible refine (trimRight _ hl _).mono ?_); rintro e w' ⟨rfl, rfl⟩)
      | (go_at_call 63; (with_reducible refine (trimLeft _ (by omega) _).mono ?_); rintro e w' ⟨rfl, rfl⟩)
      | (go_at_call 60; (with_reducible refine (far_any _ _).mono ?_); rintro e w' ⟨rfl, rfl⟩)
     )
    refine bodyPost_ret (v := _) ?h rfl ⟨rfl, ?_⟩
    case h => simp [results, Tryz.results20, go_sem, dcV, Dc.zero, bs_nil]
    repeat (first | exact ext_refl _ | assumption | refine ext_setCell ?_ (by simp; try omega) _ | refine ext_alloc ?_ _ | refine ext_drew ?_ | refine ext_drewN ?_ _ | refine ext_trans ?_ (Aft.use _) | refine ext_trans ?_ (by assumption))
  · have E : mkE l exp = 0 := by unfold mkE; rw [if_neg h1, if_neg (by simp [h2]), if_neg h3, if_neg h4]
    have D : mkD neg l exp = ⟨neg, mkDig l, exp + mkN l⟩ := by unfold mkD; rw [if_pos E, if_neg h3]
    rw [E, D]
    clear E D h3
    have h5 : ¬ 1073741824 < exp := fun h => h4 (.inl h)
    have h6 : ¬ exp < -2147483648 := fun h => h4 (.inr (.inl h))
    have h7 : far (exp + ((l.length : Int) - (trimR 48 l).length)) = false := by
      cases hf : far (exp + ((l.length : Int) - (trimR 48 l).length))
      · rfl
      · exact absurd (.inr (.inr hf)) h4
    clear h4
    go_enter Tryz.func20, Tryz.ntmps20
    go_wp2_with (first
      | (go_at_call 59; (with_reducible refine (digits_any _ hl _).mono ?_); rintro e w' ⟨rfl, rfl⟩)
      | (go_at_call 57; (with_reducible refine (trimRight _ hl _).mono ?_); rintro e w' ⟨rfl, rfl⟩)
      | (go_at_call 63; (with_reducible refine (trimLeft _ (by omega) _).mono ?_); rintro e w' ⟨rfl, rfl⟩)
      | (go_at_call 60; (with_reducible refine (far_any _ _).mono ?_); rintro e w' ⟨rfl, rfl⟩)
     )
    refine bodyPost_ret (v := _) ?h rfl ⟨rfl, ?_⟩
    case h => simp [results, Tryz.results20, go_sem, dcV, mkDig, mkN]
    repeat (first | exact ext_refl _ | assumption | refine ext_setCell ?_ (by simp; try omega) _ | refine ext_alloc ?_ _ | refine ext_drew ?_ | refine ext_drewN ?_ _ | refine ext_trans ?_ (Aft.use _) | refine ext_trans ?_ (by assumption))
end Go.Proofs.YtbgimjfeigeicaaGreatDoor
