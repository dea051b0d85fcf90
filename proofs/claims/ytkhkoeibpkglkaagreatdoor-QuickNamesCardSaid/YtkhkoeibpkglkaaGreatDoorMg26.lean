/- Lemmas of this proof, laid together: QuickNamesW. -/
import Derived.Test.YtkhkoeibpkglkaaGreatDoorMg24
import Derived.Test.YtkhkoeibpkglkaaGreatDoorMg25
import Derived.Deep.DeepCutAuto
import Derived.Deep.RegionWith
import Derived.Deep.LoopGhost
set_option linter.unusedSimpArgs false
set_option linter.unusedVariables false
section
/- QuickNames: the walk. -/
namespace Go.Proofs.YtkhkoeibpkglkaaGreatDoor
open Go.RowKit
attribute [local go_sem] bs_size bs_extract bs_get bs_append bs_toList const_get
attribute [local go_sem] sz2 sz3 sz4 sz5 sz6 sz7 sz8
set_option maxHeartbeats 8000000
set_option maxRecDepth 100000
theorem qw_names (w : World) (h : laidMetH Tryz.prog Rows.quickNamesRow.laid w) : Qw w := by
  rw [MakeChecks.laidMetH_plain _ _ _ (by kernel_rfl)] at h
  exact qw_short _ (by kernel_rfl) w h
attribute [local irreducible] Calls
theorem qn_0 (w : World) (hE : Er w) : Calls Tryz.prog 9 #[.agg #[.bool false, .string { data := #[57, 48, 48, 55, 49, 57, 57, 50, 53, 52, 55, 52, 48, 57, 57, 50] }, .int .i64 22]] w fun e w' => e = .returned (.bool true) ∧ Ext w w' := by
  have := qk_Fits ⟨false, [57, 48, 48, 55, 49, 57, 57, 50, 53, 52, 55, 52, 48, 57, 57, 50], 22⟩ (show ([57, 48, 48, 55, 49, 57, 57, 50, 53, 52, 55, 52, 48, 57, 57, 50] : List UInt8).length ≤ _ by decide) w hE
  rwa [show askB ⟨false, [57, 48, 48, 55, 49, 57, 57, 50, 53, 52, 55, 52, 48, 57, 57, 50], 22⟩ 9007199254740992 22 37 = true by kernel_rfl] at this
theorem qn_1 (w : World) (hE : Er w) : Calls Tryz.prog 9 #[.agg #[.bool false, .string { data := #[57, 48, 48, 55, 49, 57, 57, 50, 53, 52, 55, 52, 48, 57, 57, 50] }, .int .i64 (-22)]] w fun e w' => e = .returned (.bool true) ∧ Ext w w' := by
  have := qk_Fits ⟨false, [57, 48, 48, 55, 49, 57, 57, 50, 53, 52, 55, 52, 48, 57, 57, 50], (-22)⟩ (show ([57, 48, 48, 55, 49, 57, 57, 50, 53, 52, 55, 52, 48, 57, 57, 50] : List UInt8).length ≤ _ by decide) w hE
  rwa [show askB ⟨false, [57, 48, 48, 55, 49, 57, 57, 50, 53, 52, 55, 52, 48, 57, 57, 50], (-22)⟩ 9007199254740992 22 37 = true by kernel_rfl] at this
theorem qn_2 (w : World) (hE : Er w) : Calls Tryz.prog 9 #[.agg #[.bool false, .string { data := #[57] }, .int .i64 37]] w fun e w' => e = .returned (.bool true) ∧ Ext w w' := by
  have := qk_Fits ⟨false, [57], 37⟩ (show ([57] : List UInt8).length ≤ _ by decide) w hE
  rwa [show askB ⟨false, [57], 37⟩ 9007199254740992 22 37 = true by kernel_rfl] at this
theorem qn_3 (w : World) (hE : Er w) : Calls Tryz.prog 9 #[.agg #[.bool false, .string { data := #[57, 48, 48, 55, 49, 57, 57, 50, 53, 52, 55, 52, 48, 57, 57, 49] }, .int .i64 (-22)]] w fun e w' => e = .returned (.bool true) ∧ Ext w w' := by
  have := qk_Fits ⟨false, [57, 48, 48, 55, 49, 57, 57, 50, 53, 52, 55, 52, 48, 57, 57, 49], (-22)⟩ (show ([57, 48, 48, 55, 49, 57, 57, 50, 53, 52, 55, 52, 48, 57, 57, 49] : List UInt8).length ≤ _ by decide) w hE
  rwa [show askB ⟨false, [57, 48, 48, 55, 49, 57, 57, 50, 53, 52, 55, 52, 48, 57, 57, 49], (-22)⟩ 9007199254740992 22 37 = true by kernel_rfl] at this
theorem qn_4 (w : World) (hE : Er w) : Calls Tryz.prog 9 #[.agg #[.bool true, .string { data := #[] }, .int .i64 0]] w fun e w' => e = .returned (.bool true) ∧ Ext w w' := by
  have := qk_Fits ⟨true, [], 0⟩ (show ([] : List UInt8).length ≤ _ by decide) w hE
  rwa [show askB ⟨true, [], 0⟩ 9007199254740992 22 37 = true by kernel_rfl] at this
theorem qn_5 (w : World) (hE : Er w) : Calls Tryz.prog 9 #[.agg #[.bool false, .string { data := #[] }, .int .i64 0]] w fun e w' => e = .returned (.bool true) ∧ Ext w w' := by
  have := qk_Fits ⟨false, [], 0⟩ (show ([] : List UInt8).length ≤ _ by decide) w hE
  rwa [show askB ⟨false, [], 0⟩ 9007199254740992 22 37 = true by kernel_rfl] at this
theorem qn_6 (w : World) (hE : Er w) : Calls Tryz.prog 9 #[.agg #[.bool false, .string { data := #[57, 48, 48, 55, 49, 57, 57, 50, 53, 52, 55, 52, 48, 57, 57, 51] }, .int .i64 0]] w fun e w' => e = .returned (.bool false) ∧ Ext w w' := by
  have := qk_Fits ⟨false, [57, 48, 48, 55, 49, 57, 57, 50, 53, 52, 55, 52, 48, 57, 57, 51], 0⟩ (show ([57, 48, 48, 55, 49, 57, 57, 50, 53, 52, 55, 52, 48, 57, 57, 51] : List UInt8).length ≤ _ by decide) w hE
  rwa [show askB ⟨false, [57, 48, 48, 55, 49, 57, 57, 50, 53, 52, 55, 52, 48, 57, 57, 51], 0⟩ 9007199254740992 22 37 = false by kernel_rfl] at this
theorem qn_7 (w : World) (hE : Er w) : Calls Tryz.prog 9 #[.agg #[.bool false, .string { data := #[57, 48, 48, 55, 49, 57, 57, 50, 53, 52, 55, 52, 48, 57, 57, 50] }, .int .i64 23]] w fun e w' => e = .returned (.bool false) ∧ Ext w w' := by
  have := qk_Fits ⟨false, [57, 48, 48, 55, 49, 57, 57, 50, 53, 52, 55, 52, 48, 57, 57, 50], 23⟩ (show ([57, 48, 48, 55, 49, 57, 57, 50, 53, 52, 55, 52, 48, 57, 57, 50] : List UInt8).length ≤ _ by decide) w hE
  rwa [show askB ⟨false, [57, 48, 48, 55, 49, 57, 57, 50, 53, 52, 55, 52, 48, 57, 57, 50], 23⟩ 9007199254740992 22 37 = false by kernel_rfl] at this
theorem qn_8 (w : World) (hE : Er w) : Calls Tryz.prog 9 #[.agg #[.bool false, .string { data := #[57, 48, 48, 55, 49, 57, 57, 50, 53, 52, 55, 52, 48, 57, 57, 50] }, .int .i64 (-23)]] w fun e w' => e = .returned (.bool false) ∧ Ext w w' := by
  have := qk_Fits ⟨false, [57, 48, 48, 55, 49, 57, 57, 50, 53, 52, 55, 52, 48, 57, 57, 50], (-23)⟩ (show ([57, 48, 48, 55, 49, 57, 57, 50, 53, 52, 55, 52, 48, 57, 57, 50] : List UInt8).length ≤ _ by decide) w hE
  rwa [show askB ⟨false, [57, 48, 48, 55, 49, 57, 57, 50, 53, 52, 55, 52, 48, 57, 57, 50], (-23)⟩ 9007199254740992 22 37 = false by kernel_rfl] at this
theorem qn_9 (w : World) (hE : Er w) : Calls Tryz.prog 9 #[.agg #[.bool false, .string { data := #[49] }, .int .i64 38]] w fun e w' => e = .returned (.bool false) ∧ Ext w w' := by
  have := qk_Fits ⟨false, [49], 38⟩ (show ([49] : List UInt8).length ≤ _ by decide) w hE
  rwa [show askB ⟨false, [49], 38⟩ 9007199254740992 22 37 = false by kernel_rfl] at this
theorem qn_10 (w : World) (hE : Er w) : Calls Tryz.prog 9 #[.agg #[.bool false, .string { data := #[57, 49] }, .int .i64 36]] w fun e w' => e = .returned (.bool false) ∧ Ext w w' := by
  have := qk_Fits ⟨false, [57, 49], 36⟩ (show ([57, 49] : List UInt8).length ≤ _ by decide) w hE
  rwa [show askB ⟨false, [57, 49], 36⟩ 9007199254740992 22 37 = false by kernel_rfl] at this
theorem qn_11 (w : World) (hE : Er w) : Calls Tryz.prog 9 #[.agg #[.bool false, .string { data := #[49, 48] }, .int .i64 0]] w fun e w' => e = .returned (.bool false) ∧ Ext w w' := by
  have := qk_Fits ⟨false, [49, 48], 0⟩ (show ([49, 48] : List UInt8).length ≤ _ by decide) w hE
  rwa [show askB ⟨false, [49, 48], 0⟩ 9007199254740992 22 37 = false by kernel_rfl] at this
theorem qn_12 (w : World) (hE : Er w) : Calls Tryz.prog 9 #[.agg #[.bool false, .string { data := #[48, 49] }, .int .i64 0]] w fun e w' => e = .returned (.bool false) ∧ Ext w w' := by
  have := qk_Fits ⟨false, [48, 49], 0⟩ (show ([48, 49] : List UInt8).length ≤ _ by decide) w hE
  rwa [show askB ⟨false, [48, 49], 0⟩ 9007199254740992 22 37 = false by kernel_rfl] at this
theorem qn_13 (w : World) (hE : Er w) : Calls Tryz.prog 9 #[.agg #[.bool false, .string { data := #[] }, .int .i64 1]] w fun e w' => e = .returned (.bool false) ∧ Ext w w' := by
  have := qk_Fits ⟨false, [], 1⟩ (show ([] : List UInt8).length ≤ _ by decide) w hE
  rwa [show askB ⟨false, [], 1⟩ 9007199254740992 22 37 = false by kernel_rfl] at this
theorem qn_14 (w : World) (hE : Er w) : Calls Tryz.prog 9 #[.agg #[.bool false, .string { data := #[49, 56, 52, 52, 54, 55, 52, 52, 48, 55, 51, 55, 48, 57, 53, 53, 49, 54, 49, 55] }, .int .i64 0]] w fun e w' => e = .returned (.bool false) ∧ Ext w w' := by
  have := qk_Fits ⟨false, [49, 56, 52, 52, 54, 55, 52, 52, 48, 55, 51, 55, 48, 57, 53, 53, 49, 54, 49, 55], 0⟩ (show ([49, 56, 52, 52, 54, 55, 52, 52, 48, 55, 51, 55, 48, 57, 53, 53, 49, 54, 49, 55] : List UInt8).length ≤ _ by decide) w hE
  rwa [show askB ⟨false, [49, 56, 52, 52, 54, 55, 52, 52, 48, 55, 51, 55, 48, 57, 53, 53, 49, 54, 49, 55], 0⟩ 9007199254740992 22 37 = false by kernel_rfl] at this
theorem qn_15 (w : World) (hE : Er w) : Calls Tryz.prog 9 #[.agg #[.bool false, .string { data := #[49] }, .int .i64 1073741825]] w fun e w' => e = .returned (.bool false) ∧ Ext w w' := by
  have := qk_Fits ⟨false, [49], 1073741825⟩ (show ([49] : List UInt8).length ≤ _ by decide) w hE
  rwa [show askB ⟨false, [49], 1073741825⟩ 9007199254740992 22 37 = false by kernel_rfl] at this
theorem walk_QuickNames (w : World) (hL : laidMetH Tryz.prog Rows.quickNamesRow.laid w) :
    Calls Tryz.prog 3 #[] w fun e w' => e = .returned (.bool true) ∧ Ext w w' := by
  have hQ := qw_names w hL
  have kA := Lib.hid (fun w' (he : Ext w w') => alive14_any w' (hQ.tz.ext he) (hQ.er.ext he))
  have hE := Lib.hid (fun w' (he : Ext w w') => hQ.er.ext he)
  clear hL hQ
  go_enter Tryz.func3, Tryz.ntmps3
  go_wp2_with (first
    | (go_at_call 8; (with_reducible refine (kA.out _ (by (repeat (first | exact ext_refl _ | assumption | refine ext_setCell ?_ (by simp; try omega) _ | refine ext_alloc ?_ _ | refine ext_drew ?_ | refine ext_drewN ?_ _ | refine ext_trans ?_ (Aft.use _) | refine ext_trans ?_ (by assumption))))).mono ?_); rintro e w1 ⟨rfl, xb1⟩))
  obtain ⟨W, hW⟩ : ∃ u, u = w1.alloc (.cells #[.bool false, .string { data := #[57, 48, 48, 55, 49, 57, 57, 50, 53, 52, 55, 52, 48, 57, 57, 50] }, .int .i64 22, .bool false, .string { data := #[57, 48, 48, 55, 49, 57, 57, 50, 53, 52, 55, 52, 48, 57, 57, 50] }, .int .i64 (-22), .bool false, .string { data := #[57] }, .int .i64 37, .bool false, .string { data := #[57, 48, 48, 55, 49, 57, 57, 50, 53, 52, 55, 52, 48, 57, 57, 49] }, .int .i64 (-22), .bool true, .string { data := #[] }, .int .i64 0, .bool false, .string { data := #[] }, .int .i64 0] 24) := ⟨_, rfl⟩
  obtain ⟨BW, hBW⟩ : ∃ b, w1.heap.size = b := ⟨_, rfl⟩
  have xW : Hid (Ext w W) := by show Ext w W; rw [hW]; refine ext_alloc ?_ _; (repeat (first | exact ext_refl _ | assumption | refine ext_setCell ?_ (by simp; try omega) _ | refine ext_alloc ?_ _ | refine ext_drew ?_ | refine ext_drewN ?_ _ | refine ext_trans ?_ (Aft.use _) | refine ext_trans ?_ (by assumption)))
  have lW : BW < W.heap.size := by rw [hW, ← hBW]; simp
  have bW : Hid (∀ (i : Nat) (v : Value), (#[.bool false, .string { data := #[57, 48, 48, 55, 49, 57, 57, 50, 53, 52, 55, 52, 48, 57, 57, 50] }, .int .i64 22, .bool false, .string { data := #[57, 48, 48, 55, 49, 57, 57, 50, 53, 52, 55, 52, 48, 57, 57, 50] }, .int .i64 (-22), .bool false, .string { data := #[57] }, .int .i64 37, .bool false, .string { data := #[57, 48, 48, 55, 49, 57, 57, 50, 53, 52, 55, 52, 48, 57, 57, 49] }, .int .i64 (-22), .bool true, .string { data := #[] }, .int .i64 0, .bool false, .string { data := #[] }, .int .i64 0] : Array Value)[i]? = some v → ∀ u, Ext W u → u.cell? ⟨BW, i, none⟩ = some v) := Lib.hid fun i v h u hu => by
    rw [Below.cell (p := ⟨BW, i, none⟩) hu lW, hW, ← hBW, World.cell?_alloc_new]
    exact h
  rw [← hW, hBW]
  clear hW hBW
  go_loopw [15] (fun vi wr => ∃ i : Nat, i ≤ 6 ∧ vi = .int .i64 (i : Int) ∧ Hid (Ext W wr)) (fun vi _ => 6 - (intOf vi).toNat)
  case atStart => exact ⟨0, Nat.zero_le _, rfl, ext_refl _⟩
  case round =>
    obtain ⟨i, hi, rfl, hX⟩ := hrel
    have lr := ext_lt hX.out _ lW
    have hXw := Lib.hid (ext_trans xW.out hX.out)
    rcases (by omega : i = 0 ∨ i = 1 ∨ i = 2 ∨ i = 3 ∨ i = 4 ∨ i = 5 ∨ i = 6) with rfl | rfl | rfl | rfl | rfl | rfl | rfl
    · have c0 := bW.out 0 _ rfl wr hX.out
      have c1 := bW.out 1 _ rfl wr hX.out
      have c2 := bW.out 2 _ rfl wr hX.out
      go_wp2_with (first
        | (go_at_call 9; (with_reducible refine (qn_0 _ (hE.out _ (by refine ext_trans hXw.out ?_; (repeat (first | exact ext_refl _ | assumption | refine ext_setCell ?_ (by simp; try omega) _ | refine ext_alloc ?_ _ | refine ext_drew ?_ | refine ext_drewN ?_ _ | refine ext_trans ?_ (Aft.use _) | refine ext_trans ?_ (by assumption)))))).mono ?_); rintro e w2 ⟨rfl, xb2⟩))
      case roundEnd => exact ⟨⟨1, by omega, rfl, by show Ext W _; refine ext_trans hX.out ?_; (repeat (first | exact ext_refl _ | assumption | refine ext_setCell ?_ (by simp; try omega) _ | refine ext_alloc ?_ _ | refine ext_drew ?_ | refine ext_drewN ?_ _ | refine ext_trans ?_ (Aft.use _) | refine ext_trans ?_ (by assumption)))⟩, by simp [intOf]⟩
    · have c0 := bW.out 3 _ rfl wr hX.out
      have c1 := bW.out 4 _ rfl wr hX.out
      have c2 := bW.out 5 _ rfl wr hX.out
      go_wp2_with (first
        | (go_at_call 9; (with_reducible refine (qn_1 _ (hE.out _ (by refine ext_trans hXw.out ?_; (repeat (first | exact ext_refl _ | assumption | refine ext_setCell ?_ (by simp; try omega) _ | refine ext_alloc ?_ _ | refine ext_drew ?_ | refine ext_drewN ?_ _ | refine ext_trans ?_ (Aft.use _) | refine ext_trans ?_ (by assumption)))))).mono ?_); rintro e w2 ⟨rfl, xb2⟩))
      case roundEnd => exact ⟨⟨2, by omega, rfl, by show Ext W _; refine ext_trans hX.out ?_; (repeat (first | exact ext_refl _ | assumption | refine ext_setCell ?_ (by simp; try omega) _ | refine ext_alloc ?_ _ | refine ext_drew ?_ | refine ext_drewN ?_ _ | refine ext_trans ?_ (Aft.use _) | refine ext_trans ?_ (by assumption)))⟩, by simp [intOf]⟩
    · have c0 := bW.out 6 _ rfl wr hX.out
      have c1 := bW.out 7 _ rfl wr hX.out
      have c2 := bW.out 8 _ rfl wr hX.out
      go_wp2_with (first
        | (go_at_call 9; (with_reducible refine (qn_2 _ (hE.out _ (by refine ext_trans hXw.out ?_; (repeat (first | exact ext_refl _ | assumption | refine ext_setCell ?_ (by simp; try omega) _ | refine ext_alloc ?_ _ | refine ext_drew ?_ | refine ext_drewN ?_ _ | refine ext_trans ?_ (Aft.use _) | refine ext_trans ?_ (by assumption)))))).mono ?_); rintro e w2 ⟨rfl, xb2⟩))
      case roundEnd => exact ⟨⟨3, by omega, rfl, by show Ext W _; refine ext_trans hX.out ?_; (repeat (first | exact ext_refl _ | assumption | refine ext_setCell ?_ (by simp; try omega) _ | refine ext_alloc ?_ _ | refine ext_drew ?_ | refine ext_drewN ?_ _ | refine ext_trans ?_ (Aft.use _) | refine ext_trans ?_ (by assumption)))⟩, by simp [intOf]⟩
    · have c0 := bW.out 9 _ rfl wr hX.out
      have c1 := bW.out 10 _ rfl wr hX.out
      have c2 := bW.out 11 _ rfl wr hX.out
      go_wp2_with (first
        | (go_at_call 9; (with_reducible refine (qn_3 _ (hE.out _ (by refine ext_trans hXw.out ?_; (repeat (first | exact ext_refl _ | assumption | refine ext_setCell ?_ (by simp; try omega) _ | refine ext_alloc ?_ _ | refine ext_drew ?_ | refine ext_drewN ?_ _ | refine ext_trans ?_ (Aft.use _) | refine ext_trans ?_ (by assumption)))))).mono ?_); rintro e w2 ⟨rfl, xb2⟩))
      case roundEnd => exact ⟨⟨4, by omega, rfl, by show Ext W _; refine ext_trans hX.out ?_; (repeat (first | exact ext_refl _ | assumption | refine ext_setCell ?_ (by simp; try omega) _ | refine ext_alloc ?_ _ | refine ext_drew ?_ | refine ext_drewN ?_ _ | refine ext_trans ?_ (Aft.use _) | refine ext_trans ?_ (by assumption)))⟩, by simp [intOf]⟩
    · have c0 := bW.out 12 _ rfl wr hX.out
      have c1 := bW.out 13 _ rfl wr hX.out
      have c2 := bW.out 14 _ rfl wr hX.out
      go_wp2_with (first
        | (go_at_call 9; (with_reducible refine (qn_4 _ (hE.out _ (by refine ext_trans hXw.out ?_; (repeat (first | exact ext_refl _ | assumption | refine ext_setCell ?_ (by simp; try omega) _ | refine ext_alloc ?_ _ | refine ext_drew ?_ | refine ext_drewN ?_ _ | refine ext_trans ?_ (Aft.use _) | refine ext_trans ?_ (by assumption)))))).mono ?_); rintro e w2 ⟨rfl, xb2⟩))
      case roundEnd => exact ⟨⟨5, by omega, rfl, by show Ext W _; refine ext_trans hX.out ?_; (repeat (first | exact ext_refl _ | assumption | refine ext_setCell ?_ (by simp; try omega) _ | refine ext_alloc ?_ _ | refine ext_drew ?_ | refine ext_drewN ?_ _ | refine ext_trans ?_ (Aft.use _) | refine ext_trans ?_ (by assumption)))⟩, by simp [intOf]⟩
    · have c0 := bW.out 15 _ rfl wr hX.out
      have c1 := bW.out 16 _ rfl wr hX.out
      have c2 := bW.out 17 _ rfl wr hX.out
      go_wp2_with (first
        | (go_at_call 9; (with_reducible refine (qn_5 _ (hE.out _ (by refine ext_trans hXw.out ?_; (repeat (first | exact ext_refl _ | assumption | refine ext_setCell ?_ (by simp; try omega) _ | refine ext_alloc ?_ _ | refine ext_drew ?_ | refine ext_drewN ?_ _ | refine ext_trans ?_ (Aft.use _) | refine ext_trans ?_ (by assumption)))))).mono ?_); rintro e w2 ⟨rfl, xb2⟩))
      case roundEnd => exact ⟨⟨6, by omega, rfl, by show Ext W _; refine ext_trans hX.out ?_; (repeat (first | exact ext_refl _ | assumption | refine ext_setCell ?_ (by simp; try omega) _ | refine ext_alloc ?_ _ | refine ext_drew ?_ | refine ext_drewN ?_ _ | refine ext_trans ?_ (Aft.use _) | refine ext_trans ?_ (by assumption)))⟩, by simp [intOf]⟩
    · rw [show ((6 : Nat) : Int) = 6 from rfl]
      go_wp2
      obtain ⟨wq, rfl⟩ : ∃ wq, wq = wr := ⟨wr, rfl⟩
      obtain ⟨V, hV⟩ : ∃ u, u = wq.alloc (.cells #[.bool false, .string { data := #[57, 48, 48, 55, 49, 57, 57, 50, 53, 52, 55, 52, 48, 57, 57, 51] }, .int .i64 0, .bool false, .string { data := #[57, 48, 48, 55, 49, 57, 57, 50, 53, 52, 55, 52, 48, 57, 57, 50] }, .int .i64 23, .bool false, .string { data := #[57, 48, 48, 55, 49, 57, 57, 50, 53, 52, 55, 52, 48, 57, 57, 50] }, .int .i64 (-23), .bool false, .string { data := #[49] }, .int .i64 38, .bool false, .string { data := #[57, 49] }, .int .i64 36, .bool false, .string { data := #[49, 48] }, .int .i64 0, .bool false, .string { data := #[48, 49] }, .int .i64 0, .bool false, .string { data := #[] }, .int .i64 1, .bool false, .string { data := #[49, 56, 52, 52, 54, 55, 52, 52, 48, 55, 51, 55, 48, 57, 53, 53, 49, 54, 49, 55] }, .int .i64 0, .bool false, .string { data := #[49] }, .int .i64 1073741825] 24) := ⟨_, rfl⟩
      obtain ⟨BV, hBV⟩ : ∃ b, wq.heap.size = b := ⟨_, rfl⟩
      have xV : Hid (Ext w V) := by show Ext w V; rw [hV]; refine ext_alloc ?_ _; exact hXw.out
      have lV : BV < V.heap.size := by rw [hV, ← hBV]; simp
      have bV : Hid (∀ (i : Nat) (v : Value), (#[.bool false, .string { data := #[57, 48, 48, 55, 49, 57, 57, 50, 53, 52, 55, 52, 48, 57, 57, 51] }, .int .i64 0, .bool false, .string { data := #[57, 48, 48, 55, 49, 57, 57, 50, 53, 52, 55, 52, 48, 57, 57, 50] }, .int .i64 23, .bool false, .string { data := #[57, 48, 48, 55, 49, 57, 57, 50, 53, 52, 55, 52, 48, 57, 57, 50] }, .int .i64 (-23), .bool false, .string { data := #[49] }, .int .i64 38, .bool false, .string { data := #[57, 49] }, .int .i64 36, .bool false, .string { data := #[49, 48] }, .int .i64 0, .bool false, .string { data := #[48, 49] }, .int .i64 0, .bool false, .string { data := #[] }, .int .i64 1, .bool false, .string { data := #[49, 56, 52, 52, 54, 55, 52, 52, 48, 55, 51, 55, 48, 57, 53, 53, 49, 54, 49, 55] }, .int .i64 0, .bool false, .string { data := #[49] }, .int .i64 1073741825] : Array Value)[i]? = some v → ∀ u, Ext V u → u.cell? ⟨BV, i, none⟩ = some v) := Lib.hid fun i v h u hu => by
        rw [Below.cell (p := ⟨BV, i, none⟩) hu lV, hV, ← hBV, World.cell?_alloc_new]
        exact h
      rw [← hV, hBV]
      clear hV hBV
      go_loopw [35] (fun vi wr => ∃ i : Nat, i ≤ 10 ∧ vi = .int .i64 (i : Int) ∧ Hid (Ext V wr)) (fun vi _ => 10 - (intOf vi).toNat)
      case atStart => exact ⟨0, Nat.zero_le _, rfl, ext_refl _⟩
      case round =>
        obtain ⟨i, hi, rfl, hX⟩ := hrel
        have lr := ext_lt hX.out _ lV
        have hXw := Lib.hid (ext_trans xV.out hX.out)
        rcases (by omega : i = 0 ∨ i = 1 ∨ i = 2 ∨ i = 3 ∨ i = 4 ∨ i = 5 ∨ i = 6 ∨ i = 7 ∨ i = 8 ∨ i = 9 ∨ i = 10) with rfl | rfl | rfl | rfl | rfl | rfl | rfl | rfl | rfl | rfl | rfl
        · have c0 := bV.out 0 _ rfl wr hX.out
          have c1 := bV.out 1 _ rfl wr hX.out
          have c2 := bV.out 2 _ rfl wr hX.out
          go_wp2_with (first
            | (go_at_call 9; (with_reducible refine (qn_6 _ (hE.out _ (by refine ext_trans hXw.out ?_; (repeat (first | exact ext_refl _ | assumption | refine ext_setCell ?_ (by simp; try omega) _ | refine ext_alloc ?_ _ | refine ext_drew ?_ | refine ext_drewN ?_ _ | refine ext_trans ?_ (Aft.use _) | refine ext_trans ?_ (by assumption)))))).mono ?_); rintro e w2 ⟨rfl, xb2⟩))
          exact ⟨⟨1, by omega, rfl, by show Ext V _; refine ext_trans hX.out ?_; (repeat (first | exact ext_refl _ | assumption | refine ext_setCell ?_ (by simp; try omega) _ | refine ext_alloc ?_ _ | refine ext_drew ?_ | refine ext_drewN ?_ _ | refine ext_trans ?_ (Aft.use _) | refine ext_trans ?_ (by assumption)))⟩, by simp [intOf]⟩
        · have c0 := bV.out 3 _ rfl wr hX.out
          have c1 := bV.out 4 _ rfl wr hX.out
          have c2 := bV.out 5 _ rfl wr hX.out
          go_wp2_with (first
            | (go_at_call 9; (with_reducible refine (qn_7 _ (hE.out _ (by refine ext_trans hXw.out ?_; (repeat (first | exact ext_refl _ | assumption | refine ext_setCell ?_ (by simp; try omega) _ | refine ext_alloc ?_ _ | refine ext_drew ?_ | refine ext_drewN ?_ _ | refine ext_trans ?_ (Aft.use _) | refine ext_trans ?_ (by assumption)))))).mono ?_); rintro e w2 ⟨rfl, xb2⟩))
          exact ⟨⟨2, by omega, rfl, by show Ext V _; refine ext_trans hX.out ?_; (repeat (first | exact ext_refl _ | assumption | refine ext_setCell ?_ (by simp; try omega) _ | refine ext_alloc ?_ _ | refine ext_drew ?_ | refine ext_drewN ?_ _ | refine ext_trans ?_ (Aft.use _) | refine ext_trans ?_ (by assumption)))⟩, by simp [intOf]⟩
        · have c0 := bV.out 6 _ rfl wr hX.out
          have c1 := bV.out 7 _ rfl wr hX.out
          have c2 := bV.out 8 _ rfl wr hX.out
          go_wp2_with (first
            | (go_at_call 9; (with_reducible refine (qn_8 _ (hE.out _ (by refine ext_trans hXw.out ?_; (repeat (first | exact ext_refl _ | assumption | refine ext_setCell ?_ (by simp; try omega) _ | refine ext_alloc ?_ _ | refine ext_drew ?_ | refine ext_drewN ?_ _ | refine ext_trans ?_ (Aft.use _) | refine ext_trans ?_ (by assumption)))))).mono ?_); rintro e w2 ⟨rfl, xb2⟩))
          exact ⟨⟨3, by omega, rfl, by show Ext V _; refine ext_trans hX.out ?_; (repeat (first | exact ext_refl _ | assumption | refine ext_setCell ?_ (by simp; try omega) _ | refine ext_alloc ?_ _ | refine ext_drew ?_ | refine ext_drewN ?_ _ | refine ext_trans ?_ (Aft.use _) | refine ext_trans ?_ (by assumption)))⟩, by simp [intOf]⟩
        · have c0 := bV.out 9 _ rfl wr hX.out
          have c1 := bV.out 10 _ rfl wr hX.out
          have c2 := bV.out 11 _ rfl wr hX.out
          go_wp2_with (first
            | (go_at_call 9; (with_reducible refine (qn_9 _ (hE.out _ (by refine ext_trans hXw.out ?_; (repeat (first | exact ext_refl _ | assumption | refine ext_setCell ?_ (by simp; try omega) _ | refine ext_alloc ?_ _ | refine ext_drew ?_ | refine ext_drewN ?_ _ | refine ext_trans ?_ (Aft.use _) | refine ext_trans ?_ (by assumption)))))).mono ?_); rintro e w2 ⟨rfl, xb2⟩))
          exact ⟨⟨4, by omega, rfl, by show Ext V _; refine ext_trans hX.out ?_; (repeat (first | exact ext_refl _ | assumption | refine ext_setCell ?_ (by simp; try omega) _ | refine ext_alloc ?_ _ | refine ext_drew ?_ | refine ext_drewN ?_ _ | refine ext_trans ?_ (Aft.use _) | refine ext_trans ?_ (by assumption)))⟩, by simp [intOf]⟩
        · have c0 := bV.out 12 _ rfl wr hX.out
          have c1 := bV.out 13 _ rfl wr hX.out
          have c2 := bV.out 14 _ rfl wr hX.out
          go_wp2_with (first
            | (go_at_call 9; (with_reducible refine (qn_10 _ (hE.out _ (by refine ext_trans hXw.out ?_; (repeat (first | exact ext_refl _ | assumption | refine ext_setCell ?_ (by simp; try omega) _ | refine ext_alloc ?_ _ | refine ext_drew ?_ | refine ext_drewN ?_ _ | refine ext_trans ?_ (Aft.use _) | refine ext_trans ?_ (by assumption)))))).mono ?_); rintro e w2 ⟨rfl, xb2⟩))
          exact ⟨⟨5, by omega, rfl, by show Ext V _; refine ext_trans hX.out ?_; (repeat (first | exact ext_refl _ | assumption | refine ext_setCell ?_ (by simp; try omega) _ | refine ext_alloc ?_ _ | refine ext_drew ?_ | refine ext_drewN ?_ _ | refine ext_trans ?_ (Aft.use _) | refine ext_trans ?_ (by assumption)))⟩, by simp [intOf]⟩
        · have c0 := bV.out 15 _ rfl wr hX.out
          have c1 := bV.out 16 _ rfl wr hX.out
          have c2 := bV.out 17 _ rfl wr hX.out
          go_wp2_with (first
            | (go_at_call 9; (with_reducible refine (qn_11 _ (hE.out _ (by refine ext_trans hXw.out ?_; (repeat (first | exact ext_refl _ | assumption | refine ext_setCell ?_ (by simp; try omega) _ | refine ext_alloc ?_ _ | refine ext_drew ?_ | refine ext_drewN ?_ _ | refine ext_trans ?_ (Aft.use _) | refine ext_trans ?_ (by assumption)))))).mono ?_); rintro e w2 ⟨rfl, xb2⟩))
          exact ⟨⟨6, by omega, rfl, by show Ext V _; refine ext_trans hX.out ?_; (repeat (first | exact ext_refl _ | assumption | refine ext_setCell ?_ (by simp; try omega) _ | refine ext_alloc ?_ _ | refine ext_drew ?_ | refine ext_drewN ?_ _ | refine ext_trans ?_ (Aft.use _) | refine ext_trans ?_ (by assumption)))⟩, by simp [intOf]⟩
        · have c0 := bV.out 18 _ rfl wr hX.out
          have c1 := bV.out 19 _ rfl wr hX.out
          have c2 := bV.out 20 _ rfl wr hX.out
          go_wp2_with (first
            | (go_at_call 9; (with_reducible refine (qn_12 _ (hE.out _ (by refine ext_trans hXw.out ?_; (repeat (first | exact ext_refl _ | assumption | refine ext_setCell ?_ (by simp; try omega) _ | refine ext_alloc ?_ _ | refine ext_drew ?_ | refine ext_drewN ?_ _ | refine ext_trans ?_ (Aft.use _) | refine ext_trans ?_ (by assumption)))))).mono ?_); rintro e w2 ⟨rfl, xb2⟩))
          exact ⟨⟨7, by omega, rfl, by show Ext V _; refine ext_trans hX.out ?_; (repeat (first | exact ext_refl _ | assumption | refine ext_setCell ?_ (by simp; try omega) _ | refine ext_alloc ?_ _ | refine ext_drew ?_ | refine ext_drewN ?_ _ | refine ext_trans ?_ (Aft.use _) | refine ext_trans ?_ (by assumption)))⟩, by simp [intOf]⟩
        · have c0 := bV.out 21 _ rfl wr hX.out
          have c1 := bV.out 22 _ rfl wr hX.out
          have c2 := bV.out 23 _ rfl wr hX.out
          go_wp2_with (first
            | (go_at_call 9; (with_reducible refine (qn_13 _ (hE.out _ (by refine ext_trans hXw.out ?_; (repeat (first | exact ext_refl _ | assumption | refine ext_setCell ?_ (by simp; try omega) _ | refine ext_alloc ?_ _ | refine ext_drew ?_ | refine ext_drewN ?_ _ | refine ext_trans ?_ (Aft.use _) | refine ext_trans ?_ (by assumption)))))).mono ?_); rintro e w2 ⟨rfl, xb2⟩))
          exact ⟨⟨8, by omega, rfl, by show Ext V _; refine ext_trans hX.out ?_; (repeat (first | exact ext_refl _ | assumption | refine ext_setCell ?_ (by simp; try omega) _ | refine ext_alloc ?_ _ | refine ext_drew ?_ | refine ext_drewN ?_ _ | refine ext_trans ?_ (Aft.use _) | refine ext_trans ?_ (by assumption)))⟩, by simp [intOf]⟩
        · have c0 := bV.out 24 _ rfl wr hX.out
          have c1 := bV.out 25 _ rfl wr hX.out
          have c2 := bV.out 26 _ rfl wr hX.out
          go_wp2_with (first
            | (go_at_call 9; (with_reducible refine (qn_14 _ (hE.out _ (by refine ext_trans hXw.out ?_; (repeat (first | exact ext_refl _ | assumption | refine ext_setCell ?_ (by simp; try omega) _ | refine ext_alloc ?_ _ | refine ext_drew ?_ | refine ext_drewN ?_ _ | refine ext_trans ?_ (Aft.use _) | refine ext_trans ?_ (by assumption)))))).mono ?_); rintro e w2 ⟨rfl, xb2⟩))
          exact ⟨⟨9, by omega, rfl, by show Ext V _; refine ext_trans hX.out ?_; (repeat (first | exact ext_refl _ | assumption | refine ext_setCell ?_ (by simp; try omega) _ | refine ext_alloc ?_ _ | refine ext_drew ?_ | refine ext_drewN ?_ _ | refine ext_trans ?_ (Aft.use _) | refine ext_trans ?_ (by assumption)))⟩, by simp [intOf]⟩
        · have c0 := bV.out 27 _ rfl wr hX.out
          have c1 := bV.out 28 _ rfl wr hX.out
          have c2 := bV.out 29 _ rfl wr hX.out
          go_wp2_with (first
            | (go_at_call 9; (with_reducible refine (qn_15 _ (hE.out _ (by refine ext_trans hXw.out ?_; (repeat (first | exact ext_refl _ | assumption | refine ext_setCell ?_ (by simp; try omega) _ | refine ext_alloc ?_ _ | refine ext_drew ?_ | refine ext_drewN ?_ _ | refine ext_trans ?_ (Aft.use _) | refine ext_trans ?_ (by assumption)))))).mono ?_); rintro e w2 ⟨rfl, xb2⟩))
          exact ⟨⟨10, by omega, rfl, by show Ext V _; refine ext_trans hX.out ?_; (repeat (first | exact ext_refl _ | assumption | refine ext_setCell ?_ (by simp; try omega) _ | refine ext_alloc ?_ _ | refine ext_drew ?_ | refine ext_drewN ?_ _ | refine ext_trans ?_ (Aft.use _) | refine ext_trans ?_ (by assumption)))⟩, by simp [intOf]⟩
        · rw [show ((10 : Nat) : Int) = 10 from rfl]
          go_wp2
          refine bodyPost_ret (v := .bool true) ?h rfl ⟨rfl, hXw.out⟩
          case h => simp [results, Tryz.results3, go_sem]
end Go.Proofs.YtkhkoeibpkglkaaGreatDoor
end
