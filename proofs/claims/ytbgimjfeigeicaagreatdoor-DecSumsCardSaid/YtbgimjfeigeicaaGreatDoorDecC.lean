import Derived.Test.YtbgimjfeigeicaaGreatDoorDecB
namespace Go.Proofs.YtbgimjfeigeicaaGreatDoor
open Go.RowKit
attribute [local go_sem] bs_size bs_extract bs_get bs_append bs_toList const_get
attribute [local go_sem] sz2 sz3 sz4 sz5 sz6 sz7 sz8
set_option maxHeartbeats 4000000 in
theorem rmake_any (neg : Bool) (l : List UInt8) (exp : Int) (hl : l.length ≤ 9223372036854775807) (w : World) :
    Calls Tryz.prog 55 #[.bool neg, .string (bs l), .int .i64 exp] w fun e w' => e = .returned (.tuple #[dcV (mkD neg l exp), .int .i64 (mkE l exp)]) ∧ Ext w w' := by
  by_cases h1 : 65536 < l.length
  · have E : mkE l exp = 4 := by unfold mkE; rw [if_pos h1]
    have D : mkD neg l exp = Dc.zero := by unfold mkD; rw [E]; rfl
    rw [E, D]
    clear E D
    go_enter Tryz.func55, Tryz.ntmps55
    go_wp2
    refine bodyPost_ret (v := _) ?h rfl ⟨rfl, ?_⟩
    case h => simp [results, Tryz.results55, go_sem, dcV, Dc.zero, bs_nil]
    repeat (first | exact ext_refl _ | assumption | refine ext_setCell ?_ (by simp; try omega) _ | refine ext_alloc ?_ _ | refine ext_drew ?_ | refine ext_drewN ?_ _ | refine ext_trans ?_ (Aft.use _) | refine ext_trans ?_ (by assumption))
  have hl2 : l.length ≤ 65536 := by omega
  cases h2 : digsB l
  · have E : mkE l exp = 100 := by unfold mkE; rw [if_neg h1, if_pos h2]
    have D : mkD neg l exp = Dc.zero := by unfold mkD; rw [E]; rfl
    rw [E, D]
    clear E D
    go_enter Tryz.func55, Tryz.ntmps55
    go_wp2_with (first
      | (go_at_call 61; (with_reducible refine (rdigits_any _ hl _).mono ?_); rintro e w' ⟨rfl, rfl⟩)
     )
    refine bodyPost_ret (v := _) ?h rfl ⟨rfl, ?_⟩
    case h => simp [results, Tryz.results55, go_sem, dcV, Dc.zero, bs_nil]
    repeat (first | exact ext_refl _ | assumption | refine ext_setCell ?_ (by simp; try omega) _ | refine ext_alloc ?_ _ | refine ext_drew ?_ | refine ext_drewN ?_ _ | refine ext_trans ?_ (Aft.use _) | refine ext_trans ?_ (by assumption))
  have H2 := Lib.hid h2
  go_enter Tryz.func55, Tryz.ntmps55
  go_wp2_with (first
    | (go_at_call 61; (with_reducible refine (rdigits_any _ hl _).mono ?_); rintro e w' ⟨rfl, rfl⟩)
   )
  go_loop [8] (fun v => ∃ k : Nat, k ≤ l.length ∧ v = .int .i64 k ∧ Hid (∀ i (h : i < l.length), i < k → l[i] = 48)) (fun v => l.length - (intOf v).toNat)
  case atStart => exact ⟨0, Nat.zero_le _, rfl, fun i h hi => by omega⟩
  case round =>
    obtain ⟨k, hk, rfl, hz⟩ := hrel
    by_cases hc : ∃ h : k < l.length, l[k] = 48
    · obtain ⟨hlt, hc⟩ := hc
      have hb := (byte_48 _).2 hc
      have HC := Lib.hid hc
      clear hc
      go_wp2
      go_round
      case rel =>
        refine ⟨k + 1, by omega, by go_num, fun i h hi => ?_⟩
        by_cases e : i = k
        · subst e; exact HC.out
        · exact hz.out i h (by omega)
      case measure => simp [intOf]; omega
    · have HK : Hid (∀ h : k < l.length, l[k] ≠ 48) := fun h e => hc ⟨h, e⟩
      clear hc
      by_cases hlt : k < l.length
      · have hb := (byte_48n _).2 (HK.out hlt)
        go_wp2
        go_loop [9] (fun v => ∃ t : Nat, k ≤ t ∧ t ≤ l.length ∧ v = .int .i64 t ∧ Hid (∀ i (h : i < l.length), t ≤ i → l[i] = 48)) (fun v => (intOf v).toNat)
        case atStart => exact ⟨l.length, hk, Nat.le_refl _, rfl, fun i h hi => by omega⟩
        case round =>
          obtain ⟨t, hkt, htl, rfl, hy⟩ := hrel
          by_cases hc : ∃ h : k < t, l[t - 1] = 48
          · obtain ⟨hlt2, hc⟩ := hc
            have hb2 := (byte_48 _).2 hc
            have HC := Lib.hid hc
            clear hc
            go_wp2
            go_round
            case rel =>
              refine ⟨t - 1, by omega, by omega, by go_num, fun i h hi => ?_⟩
              by_cases e : i = t - 1
              · subst e; exact HC.out
              · exact hy.out i h (by omega)
            case measure => simp [intOf]; omega
          · have HT : Hid (∀ h : k < t, l[t - 1] ≠ 48) := fun h e => hc ⟨h, e⟩
            clear hc
            by_cases hkt2 : k < t
            · have hb2 := (byte_48n _).2 (HT.out hkt2)
              have hM := mk_between l k t hkt2 htl hz.out hy.out (HK.out (by omega)) (HT.out hkt2)
              have hne : ((k : Int) == (t : Int)) = false := by simp; omega
              have h3 : mkDig l ≠ [] := by
                rw [hM.1]
                intro h0
                have := congrArg List.length h0
                simp at this
                omega
              have hf : exp + mkN l = exp + (l.length : Int) - (t : Int) := by rw [hM.2]; omega
              by_cases h4 : 1073741824 < exp ∨ exp < -2147483648 ∨ far (exp + mkN l) = true
              · have E : mkE l exp = 4 := by unfold mkE; rw [if_neg h1, if_neg (by simp [H2.out]), if_neg h3, if_pos h4]
                have D : mkD neg l exp = Dc.zero := by unfold mkD; rw [E]; rfl
                rw [hf] at h4
                have HE := Lib.hid E
                have HD := Lib.hid D
                clear E D h3 hM hf
                by_cases h5 : 1073741824 < exp
                · clear h4
                  go_wp2
                  rw [HE.out, HD.out]
                  refine bodyPost_ret (v := _) ?h rfl ⟨rfl, ?_⟩
                  case h => simp [results, Tryz.results55, go_sem, dcV, Dc.zero, bs_nil]
                  repeat (first | exact ext_refl _ | assumption | refine ext_setCell ?_ (by simp; try omega) _ | refine ext_alloc ?_ _ | refine ext_drew ?_ | refine ext_drewN ?_ _ | refine ext_trans ?_ (Aft.use _) | refine ext_trans ?_ (by assumption))
                by_cases h6 : exp < -2147483648
                · clear h4
                  go_wp2
                  rw [HE.out, HD.out]
                  refine bodyPost_ret (v := _) ?h rfl ⟨rfl, ?_⟩
                  case h => simp [results, Tryz.results55, go_sem, dcV, Dc.zero, bs_nil]
                  repeat (first | exact ext_refl _ | assumption | refine ext_setCell ?_ (by simp; try omega) _ | refine ext_alloc ?_ _ | refine ext_drew ?_ | refine ext_drewN ?_ _ | refine ext_trans ?_ (Aft.use _) | refine ext_trans ?_ (by assumption))
                have h7 : far (exp + (l.length : Int) - (t : Int)) = true := by
                  rcases h4 with h | h | h
                  · exact absurd h h5
                  · exact absurd h h6
                  · exact h
                clear h4
                go_wp2_with (first
                  | (go_at_call 62; (with_reducible refine (rfar_any _ _).mono ?_); rintro e w' ⟨rfl, rfl⟩)
                 )
                rw [HE.out, HD.out]
                refine bodyPost_ret (v := _) ?h rfl ⟨rfl, ?_⟩
                case h => simp [results, Tryz.results55, go_sem, dcV, Dc.zero, bs_nil]
                repeat (first | exact ext_refl _ | assumption | refine ext_setCell ?_ (by simp; try omega) _ | refine ext_alloc ?_ _ | refine ext_drew ?_ | refine ext_drewN ?_ _ | refine ext_trans ?_ (Aft.use _) | refine ext_trans ?_ (by assumption))
              · have E : mkE l exp = 0 := by unfold mkE; rw [if_neg h1, if_neg (by simp [H2.out]), if_neg h3, if_neg h4]
                have D : mkD neg l exp = ⟨neg, (l.take t).drop k, exp + (l.length : Int) - (t : Int)⟩ := by unfold mkD; rw [if_pos E, if_neg h3, hM.1, hf]
                rw [hf] at h4
                have HE := Lib.hid E
                have HD := Lib.hid D
                clear E D h3 hM hf
                have h5 : ¬ 1073741824 < exp := fun h => h4 (.inl h)
                have h6 : ¬ exp < -2147483648 := fun h => h4 (.inr (.inl h))
                have h7 : far (exp + (l.length : Int) - (t : Int)) = false := by
                  cases hf : far (exp + (l.length : Int) - (t : Int))
                  · rfl
                  · exact absurd (.inr (.inr hf)) h4
                clear h4
                go_wp2_with (first
                  | (go_at_call 62; (with_reducible refine (rfar_any _ _).mono ?_); rintro e w' ⟨rfl, rfl⟩)
                 )
                rw [HE.out, HD.out]
                refine bodyPost_ret (v := _) ?h rfl ⟨rfl, ?_⟩
                case h => simp [results, Tryz.results55, go_sem, dcV]
                repeat (first | exact ext_refl _ | assumption | refine ext_setCell ?_ (by simp; try omega) _ | refine ext_alloc ?_ _ | refine ext_drew ?_ | refine ext_drewN ?_ _ | refine ext_trans ?_ (Aft.use _) | refine ext_trans ?_ (by assumption))
            · have e : k = t := by omega
              subst e
              have h3 : mkDig l = [] := mk_none l k hz.out hy.out
              have E : mkE l exp = 0 := by unfold mkE; rw [if_neg h1, if_neg (by simp [H2.out]), if_pos h3]
              have D : mkD neg l exp = ⟨neg, [], 0⟩ := by unfold mkD; rw [if_pos E, if_pos h3]
              have HE := Lib.hid E
              have HD := Lib.hid D
              clear E D h3
              go_wp2
              rw [HE.out, HD.out]
              refine bodyPost_ret (v := _) ?h rfl ⟨rfl, ?_⟩
              case h => simp [results, Tryz.results55, go_sem, dcV, bs_nil]
              repeat (first | exact ext_refl _ | assumption | refine ext_setCell ?_ (by simp; try omega) _ | refine ext_alloc ?_ _ | refine ext_drew ?_ | refine ext_drewN ?_ _ | refine ext_trans ?_ (Aft.use _) | refine ext_trans ?_ (by assumption))
      · skip
        have e : k = l.length := by omega
        subst e
        have h3 : mkDig l = [] := mk_none l l.length hz.out (fun i h hi => by omega)
        have E : mkE l exp = 0 := by unfold mkE; rw [if_neg h1, if_neg (by simp [H2.out]), if_pos h3]
        have D : mkD neg l exp = ⟨neg, [], 0⟩ := by unfold mkD; rw [if_pos E, if_pos h3]
        have HE := Lib.hid E
        have HD := Lib.hid D
        clear E D h3
        go_wp2
        go_loop [9] (fun v => v = .int .i64 l.length) (fun v => (intOf v).toNat)
        case atStart => rfl
        case round =>
          subst hrel
          go_wp2
          rw [HE.out, HD.out]
          refine bodyPost_ret (v := _) ?h rfl ⟨rfl, ?_⟩
          case h => simp [results, Tryz.results55, go_sem, dcV, bs_nil]
          repeat (first | exact ext_refl _ | assumption | refine ext_setCell ?_ (by simp; try omega) _ | refine ext_alloc ?_ _ | refine ext_drew ?_ | refine ext_drewN ?_ _ | refine ext_trans ?_ (Aft.use _) | refine ext_trans ?_ (by assumption))
end Go.Proofs.YtbgimjfeigeicaaGreatDoor
