/- Lemmas of this proof, laid together: QuickThereW. -/
import Derived.Test.YtkhkoeibpkglkaaGreatDoorMg30
import Derived.Test.YtkhkoeibpkglkaaGreatDoorMg31
import Derived.Test.YtkhkoeibpkglkaaGreatDoorMg32
import Derived.Test.YtkhkoeibpkglkaaGreatDoorMg36
import Derived.Test.YtkhkoeibpkglkaaGreatDoorMg37
import Derived.Deep.DeepCutAuto
import Derived.Deep.RegionWith
set_option linter.unusedSimpArgs false
set_option linter.unusedVariables false
section
/- QuickThere: the walk. -/
namespace Go.Proofs.YtkhkoeibpkglkaaGreatDoor
open Go.RowKit
attribute [local go_sem] bs_size bs_extract bs_get bs_append bs_toList const_get
attribute [local go_sem] sz2 sz3 sz4 sz5 sz6 sz7 sz8
attribute [local go_sem] fbits
set_option maxHeartbeats 8000000
set_option maxRecDepth 100000
theorem qw_there (w : World) (h : laidMetH Tryz.prog Rows.quickThereRow.laid w) : Qw w := by
  rw [MakeChecks.laidMetH_plain _ _ _ (by kernel_rfl)] at h
  exact qw_long _ (by kernel_rfl) w h
theorem there_digs (m : Nat) (hm : m < 10 ^ 19) : digsB (dtext m) = true ∧ 0 < (dtext m).length ∧ (dtext m).length ≤ 19 ∧ dval (dtext m) = m := by
  unfold dtext
  split
  · rename_i h; subst h; exact ⟨rfl, by decide, by decide, rfl⟩
  · rename_i h
    refine ⟨digs_digs m, ?_, digs_len hm, dval_digs m⟩
    rw [digs_pos h]; simp
theorem unm_digs {l : List UInt8} (hd : digsB l = true) : unm l = l := by
  unfold unm
  rw [if_neg]
  intro h
  cases l with
  | nil => cases h
  | cons c r =>
    have h2 : isD c = true ∧ digsB r = true := by simpa [digsB] using hd
    have h3 := isD_yes c h2.1
    simp at h
    subst h
    simp at h3
theorem while_digs {l : List UInt8} (hd : digsB l = true) : l.takeWhile isD = l := by
  induction l with
  | nil => rfl
  | cons c r ih =>
    have h2 : isD c = true ∧ digsB r = true := by simpa [digsB] using hd
    rw [List.takeWhile_cons, if_pos h2.1, ih h2.2]
theorem there_parse (m : Nat) (hm : m < 10 ^ 19) (w : World) (hT : Tz w) : Calls Tryz.prog 35 #[.string (bs (dtext m))] w (PrPost w (m : Int) 1) := by
  obtain ⟨h1, h2, h3, h4⟩ := there_digs m hm
  have h := ra_Parse_whole false (dtext m) (dtext m) (dtext m) 0 (dtext m).length (by omega) (unm_digs h1) rfl List.drop_zero (while_digs h1) h2 (by omega) (by rw [List.take_length]; rfl) rfl w hT
  rw [h4] at h
  exact h
attribute [local irreducible] Calls
theorem walk_QuickThere (x0 : Nat) (w : World) (hx0 : x0 < 2 ^ 64) (hL : laidMetH Tryz.prog Rows.quickThereRow.laid w) :
    Calls Tryz.prog 7 #[.int .u64 x0] w fun e w' => e = .returned (.bool true) ∧ Ext w w' := by
  have hQ := qw_there w hL
  obtain ⟨m, hm⟩ : ∃ m, x0 % 10000000000000000000 = m := ⟨_, rfl⟩
  have hmI : (x0 : Int) % 10000000000000000000 = (m : Int) := by omega
  have hm2 : m < 10000000000000000000 := by omega
  obtain ⟨h1, h2, h3, h4⟩ := there_digs m hm2
  have kA := Lib.hid (fun w' (he : Ext w w') => alive14_any w' (hQ.tz.ext he) (hQ.er.ext he))
  have kF := Lib.hid (fun w' (he : Ext w w') => fu_any m (by omega) w' (pw_ext hQ.pw he))
  have kW := Lib.hid (fun w' (he : Ext w w') => show Calls Tryz.prog 34 #[.string (bs (dtext m))] w' fun e w'' => e = .returned (.tuple #[.float .f64 (nearB m), .bool true]) ∧ Ext w' w'' by
    have := qk_Whole (dtext m) h1 h2 h3 w' (hQ.tz.ext he); rwa [h4] at this)
  obtain ⟨X, hX⟩ : ∃ X, nearB m = X := ⟨_, rfl⟩
  obtain ⟨Y, hY⟩ : ∃ Y, flagS 11 52 0 false m 1 = Y := ⟨_, rfl⟩
  have hmd : decide ((m : Int) < 0) = false := decide_eq_false (by omega)
  have kP := Lib.hid (fun w' (he : Ext w w') => show Calls Tryz.prog 35 #[.string (bs (dtext m))] w' fun e w'' => ∃ (A : Option Addr) (n c : Nat) (D : Option Addr) (i k : Nat), e = .returned (.tuple #[ratV false A n c D i k, .int .i64 0, .int .i64 0]) ∧ Hid (Rd w'' A n c (lim m) ∧ Rd w'' D i k (lim 1)) ∧ Ext w' w'' by
    refine (there_parse m hm2 w' (hQ.tz.ext he)).mono ?_
    rintro e w'' ⟨A, n, c, D, i, k, rfl, h1, h2⟩
    rw [hmd]
    exact ⟨A, n, c, D, i, k, rfl, ⟨h1.out.1.toRd, h1.out.2.2.1.toRd⟩, h2⟩)
  have kR := Lib.hid (fun A n c D i k w' (he : Ext w w') (hA : Rd w' A n c (lim m)) (hD : Rd w' D i k (lim 1)) => show Calls Tryz.prog 13 #[.agg #[.int .i64 11, .int .i64 52], ratV false A n c D i k, .bool false, .int .u8 0] w' fun e w'' => e = .returned (.tuple #[.int .u64 (X : Int), .int .u8 (Y : Int), .int .i64 0]) ∧ Ext w' w'' by
    have l1 := hA.len
    have l2 := hD.len
    have b1 : (lim m).length ≤ 2 := lim_bits (by have := bits_lt (show m < 2 ^ 64 by omega); omega)
    have b2 : (lim 1).length = 1 := by kernel_rfl
    have := ro_ratio 11 52 0 false false A n c m D i k 1 (by decide) (by decide) (by decide) (by decide) (by omega) (by omega) (Nat.gcd_one_right _) (by intro h; cases h) w' (hQ.tz.ext he) hA hD
    rw [← hX, ← hY]
    exact this)
  rw [hX] at kW
  generalize dtext m = T at *
  clear hX hY hL hQ hx0 hm h1 h2 h3 h4 hmd
  go_enter Tryz.func7, Tryz.ntmps7
  go_wp2_with (first
    | (go_at_call 8; (with_reducible refine (kA.out _ (by (repeat (first | exact ext_refl _ | assumption | refine ext_setCell ?_ (by simp; try omega) _ | refine ext_alloc ?_ _ | refine ext_drew ?_ | refine ext_drewN ?_ _ | refine ext_trans ?_ (Aft.use _) | refine ext_trans ?_ (by assumption))))).mono ?_); rintro e w1 ⟨rfl, xb1⟩; obtain ⟨xc1, xf1, xl1, xz1⟩ := ext_use xb1; (try simp at xz1))
    | (go_at_call 27; (with_reducible refine (kF.out _ (by (repeat (first | exact ext_refl _ | assumption | refine ext_setCell ?_ (by simp; try omega) _ | refine ext_alloc ?_ _ | refine ext_drew ?_ | refine ext_drewN ?_ _ | refine ext_trans ?_ (Aft.use _) | refine ext_trans ?_ (by assumption))))).mono ?_); rintro e w2 ⟨rfl, xb2⟩; obtain ⟨xc2, xf2, xl2, xz2⟩ := ext_use xb2; (try simp at xz2))
    | (go_at_call 34; (with_reducible refine (kW.out _ (by (repeat (first | exact ext_refl _ | assumption | refine ext_setCell ?_ (by simp; try omega) _ | refine ext_alloc ?_ _ | refine ext_drew ?_ | refine ext_drewN ?_ _ | refine ext_trans ?_ (Aft.use _) | refine ext_trans ?_ (by assumption))))).mono ?_); rintro e w3 ⟨rfl, xb3⟩; obtain ⟨xc3, xf3, xl3, xz3⟩ := ext_use xb3; (try simp at xz3))
    | (go_at_call 35; (with_reducible refine (kP.out _ (by (repeat (first | exact ext_refl _ | assumption | refine ext_setCell ?_ (by simp; try omega) _ | refine ext_alloc ?_ _ | refine ext_drew ?_ | refine ext_drewN ?_ _ | refine ext_trans ?_ (Aft.use _) | refine ext_trans ?_ (by assumption))))).mono ?_); rintro e w4 ⟨A, n, c, D, i, k, rfl, hR, xb4⟩; obtain ⟨xc4, xf4, xl4, xz4⟩ := ext_use xb4; (try simp at xz4))
    | (go_at_call 13; (with_reducible refine (kR.out _ _ _ _ _ _ _ (by (repeat (first | exact ext_refl _ | assumption | refine ext_setCell ?_ (by simp; try omega) _ | refine ext_alloc ?_ _ | refine ext_drew ?_ | refine ext_drewN ?_ _ | refine ext_trans ?_ (Aft.use _) | refine ext_trans ?_ (by assumption)))) (hR.out.1.ext (ext_alloc (ext_refl _) _)) (hR.out.2.ext (ext_alloc (ext_refl _) _))).mono ?_); rintro e w5 ⟨rfl, xb5⟩; obtain ⟨xc5, xf5, xl5, xz5⟩ := ext_use xb5; (try simp at xz5))
   )
  refine bodyPost_ret (v := .bool true) ?h rfl ⟨rfl, ?_⟩
  case h => simp [results, Tryz.results7, go_sem]
  repeat (first | exact ext_refl _ | assumption | refine ext_setCell ?_ (by simp; try omega) _ | refine ext_alloc ?_ _ | refine ext_drew ?_ | refine ext_drewN ?_ _ | refine ext_trans ?_ (Aft.use _) | refine ext_trans ?_ (by assumption))
end Go.Proofs.YtkhkoeibpkglkaaGreatDoor
end
