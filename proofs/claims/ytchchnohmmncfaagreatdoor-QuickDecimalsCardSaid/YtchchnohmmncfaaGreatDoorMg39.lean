/- Lemmas of this proof, laid together: QuickDecimalsW. -/
import Derived.Test.YtchchnohmmncfaaGreatDoorMg34
import Derived.Test.YtchchnohmmncfaaGreatDoorMg35
import Derived.Test.YtchchnohmmncfaaGreatDoorMg19
import Derived.Test.YtchchnohmmncfaaGreatDoorMg38
import Derived.Deep.DeepCutAuto
import Derived.Deep.RegionWith
set_option linter.unusedSimpArgs false
set_option linter.unusedVariables false
section
/- QuickDecimals: the walk. -/
namespace Go.Proofs.YtchchnohmmncfaaGreatDoor
open Go.RowKit
attribute [local go_sem] bs_size bs_extract bs_get bs_append bs_toList const_get
attribute [local go_sem] sz2 sz3 sz4 sz5 sz6 sz7 sz8
set_option maxHeartbeats 8000000
set_option maxRecDepth 100000
theorem qw_decimals (w : World) (h : laidMetH Tryz.prog Rows.quickDecimalsRow.laid w) : Qw w := by
  rw [MakeChecks.laidMetH_plain _ _ _ (by kernel_rfl)] at h
  exact qw_short _ (by kernel_rfl) w h
theorem fbits32d (b : Nat) (w : World) : (callFunc 13 #[.float .f32 b]).run Tryz.prog w = .ok (.value (.int .u32 b)) w := by
  rw [run_callFunc_extern Tryz.func13 (by kernel_rfl) (by kernel_rfl) (by kernel_rfl) (e := Extern.MathFloatBits.float32bits) (by kernel_rfl)]; rfl
attribute [local go_sem] fbits fbits32d
attribute [local irreducible] Calls
theorem walk_QuickDecimals (x0 : Bool) (x1 : ByteArray) (x2 : Int) (w : World) (hx1 : x1.size ≤ maxLen) (hx2 : -9223372036854775808 ≤ x2 ∧ x2 ≤ 9223372036854775807) (hL : laidMetH Tryz.prog Rows.quickDecimalsRow.laid w) :
    Calls Tryz.prog 4 #[.agg #[.bool x0, .string x1, .int .i64 x2]] w fun e w' => e = .returned (.bool true) ∧ Ext w w' := by
  obtain ⟨l, rfl⟩ := bs_of x1
  have hQ := qw_decimals w hL
  have hlen : l.length ≤ 9223372036854775807 := by have h := hx1; rw [bs_size] at h; unfold maxLen at h; omega
  have kA := Lib.hid (fun w' (he : Ext w w') => alive14_any w' (hQ.tz.ext he) (hQ.er.ext he))
  have hlI : (l.length : Int) ≤ 9223372036854775807 := by omega
  by_cases c1 : (4000 : Int) < (l.length : Int)
  · have d1 : decide ((4000 : Int) < (l.length : Int)) = true := decide_eq_true c1
    clear hQ hL
    go_enter Tryz.func4, Tryz.ntmps4
    go_wp2_with (first
      | (go_at_call 5; (with_reducible refine (kA.out _ (by (repeat (first | exact ext_refl _ | assumption | refine ext_setCell ?_ (by simp; try omega) _ | refine ext_alloc ?_ _ | refine ext_drew ?_ | refine ext_drewN ?_ _ | refine ext_trans ?_ (Aft.use _) | refine ext_trans ?_ (by assumption))))).mono ?_); rintro e w1 ⟨rfl, xb1⟩; obtain ⟨xc1, xf1, xl1, xz1⟩ := ext_use xb1; (try simp at xz1); obtain ⟨l1_0, gc, gf⟩ := kp xb1 (w.heap.size) (by first | omega | (simp; try omega)); have r1_0 := gc 0; have f1_0 := gf 0; have r1_0_1 := gc 1; have f1_0_1 := gf 1; have r1_0_2 := gc 2; have f1_0_2 := gf 2; clear gc gf)
     )
    refine bodyPost_ret (v := .bool true) ?h rfl ⟨rfl, ?_⟩
    case h => simp [results, Tryz.results4, go_sem]
    repeat (first | exact ext_refl _ | assumption | refine ext_setCell ?_ (by simp; try omega) _ | refine ext_alloc ?_ _ | refine ext_drew ?_ | refine ext_drewN ?_ _ | refine ext_trans ?_ (Aft.use _) | refine ext_trans ?_ (by assumption))
  have D1 : decide ((4000 : Int) < (l.length : Int)) = false := decide_eq_false c1
  obtain ⟨a, ha⟩ : ∃ a, askB ⟨x0, l, x2⟩ 9007199254740992 22 37 = a := ⟨_, rfl⟩
  obtain ⟨b, hb⟩ : ∃ b, askB ⟨x0, l, x2⟩ 16777216 10 17 = b := ⟨_, rfl⟩
  obtain ⟨X, hX⟩ : ∃ X, rdB 11 52 x0 (askN ⟨x0, l, x2⟩ 22) (askX ⟨x0, l, x2⟩ 22) = X := ⟨_, rfl⟩
  obtain ⟨Y, hY⟩ : ∃ Y, rdB 8 23 x0 (askN ⟨x0, l, x2⟩ 10) (askX ⟨x0, l, x2⟩ 10) = Y := ⟨_, rfl⟩
  have kD := Lib.hid (fun w' (he : Ext w w') => show Calls Tryz.prog 9 #[.agg #[.bool x0, .string (bs l), .int .i64 x2]] w' fun e w'' => e = .returned (if a = true then .tuple #[.float .f64 X, .bool true] else .tuple #[.float .f64 0, .bool false]) ∧ Ext w' w'' by
    have := qk_Double ⟨x0, l, x2⟩ hlen w' (hQ.er.ext he); rw [← ha, ← hX]; exact this)
  have kS := Lib.hid (fun w' (he : Ext w w') => show Calls Tryz.prog 10 #[.agg #[.bool x0, .string (bs l), .int .i64 x2]] w' fun e w'' => e = .returned (if b = true then .tuple #[.float .f32 Y, .bool true] else .tuple #[.float .f32 0, .bool false]) ∧ Ext w' w'' by
    have := qk_Single ⟨x0, l, x2⟩ hlen w' (hQ.er.ext he); rw [← hb, ← hY]; exact this)
  have kF := Lib.hid (fun w' (he : Ext w w') => show Calls Tryz.prog 14 #[.agg #[.bool x0, .string (bs l), .int .i64 x2]] w' fun e w'' => e = .returned (.bool a) ∧ Ext w' w'' by
    have := qk_Fits ⟨x0, l, x2⟩ hlen w' (hQ.er.ext he); rw [← ha]; exact this)
  have kE := Lib.hid (fun w' (he : Ext w w') => show Calls Tryz.prog 11 #[.agg #[.bool x0, .string (bs l), .int .i64 x2]] w' fun e w'' => e = .returned (if a = true then .tuple #[.int .u64 (X : Int), .bool true] else .tuple #[.int .u64 0, .bool false]) ∧ Ext w' w'' by
    have := NB.r14_Double x0 l x2 hlen w' (hQ.tz.ext he); rw [← ha, ← hX]; exact this)
  have kG := Lib.hid (fun w' (he : Ext w w') => show Calls Tryz.prog 12 #[.agg #[.bool x0, .string (bs l), .int .i64 x2]] w' fun e w'' => e = .returned (if b = true then .tuple #[.int .u64 (Y : Int), .bool true] else .tuple #[.int .u64 0, .bool false]) ∧ Ext w' w'' by
    have := NB.r14_Single x0 l x2 hlen w' (hQ.tz.ext he); rw [← hb, ← hY]; exact this)
  have hY32 : Y < 2 ^ 32 := by rw [← hY]; exact rdB_lt3 8 23 x0 (askN ⟨x0, l, x2⟩ 10) (askX ⟨x0, l, x2⟩ 10)
  have e32 : (2 : Nat) ^ 32 = 4294967296 := by decide
  have hYw : IntKind.u64.wrap (Y : Int) = (Y : Int) := by rw [IntKind.wrap_u64]; omega
  clear hY32 e32
  clear hQ hL ha hb hX hY
  cases a <;> cases b
  all_goals
    go_enter Tryz.func4, Tryz.ntmps4
    go_wp2_with (first
      | (go_at_call 5; (with_reducible refine (kA.out _ (by (repeat (first | exact ext_refl _ | assumption | refine ext_setCell ?_ (by simp; try omega) _ | refine ext_alloc ?_ _ | refine ext_drew ?_ | refine ext_drewN ?_ _ | refine ext_trans ?_ (Aft.use _) | refine ext_trans ?_ (by assumption))))).mono ?_); rintro e w1 ⟨rfl, xb1⟩; obtain ⟨xc1, xf1, xl1, xz1⟩ := ext_use xb1; (try simp at xz1); obtain ⟨l1_0, gc, gf⟩ := kp xb1 (w.heap.size) (by first | omega | (simp; try omega)); have r1_0 := gc 0; have f1_0 := gf 0; have r1_0_1 := gc 1; have f1_0_1 := gf 1; have r1_0_2 := gc 2; have f1_0_2 := gf 2; clear gc gf)
      | (go_at_call 9; (with_reducible refine (kD.out _ (by (repeat (first | exact ext_refl _ | assumption | refine ext_setCell ?_ (by simp; try omega) _ | refine ext_alloc ?_ _ | refine ext_drew ?_ | refine ext_drewN ?_ _ | refine ext_trans ?_ (Aft.use _) | refine ext_trans ?_ (by assumption))))).mono ?_); rintro e w2 ⟨rfl, xb2⟩; obtain ⟨xc2, xf2, xl2, xz2⟩ := ext_use xb2; (try simp at xz2); obtain ⟨l2_0, gc, gf⟩ := kp xb2 (w.heap.size) (by first | omega | (simp; try omega)); have r2_0 := gc 0; have f2_0 := gf 0; have r2_0_1 := gc 1; have f2_0_1 := gf 1; have r2_0_2 := gc 2; have f2_0_2 := gf 2; clear gc gf)
      | (go_at_call 10; (with_reducible refine (kS.out _ (by (repeat (first | exact ext_refl _ | assumption | refine ext_setCell ?_ (by simp; try omega) _ | refine ext_alloc ?_ _ | refine ext_drew ?_ | refine ext_drewN ?_ _ | refine ext_trans ?_ (Aft.use _) | refine ext_trans ?_ (by assumption))))).mono ?_); rintro e w3 ⟨rfl, xb3⟩; obtain ⟨xc3, xf3, xl3, xz3⟩ := ext_use xb3; (try simp at xz3); obtain ⟨l3_0, gc, gf⟩ := kp xb3 (w.heap.size) (by first | omega | (simp; try omega)); have r3_0 := gc 0; have f3_0 := gf 0; have r3_0_1 := gc 1; have f3_0_1 := gf 1; have r3_0_2 := gc 2; have f3_0_2 := gf 2; clear gc gf)
      | (go_at_call 11; (with_reducible refine (kE.out _ (by (repeat (first | exact ext_refl _ | assumption | refine ext_setCell ?_ (by simp; try omega) _ | refine ext_alloc ?_ _ | refine ext_drew ?_ | refine ext_drewN ?_ _ | refine ext_trans ?_ (Aft.use _) | refine ext_trans ?_ (by assumption))))).mono ?_); rintro e w4 ⟨rfl, xb4⟩; obtain ⟨xc4, xf4, xl4, xz4⟩ := ext_use xb4; (try simp at xz4); obtain ⟨l4_0, gc, gf⟩ := kp xb4 (w.heap.size) (by first | omega | (simp; try omega)); have r4_0 := gc 0; have f4_0 := gf 0; have r4_0_1 := gc 1; have f4_0_1 := gf 1; have r4_0_2 := gc 2; have f4_0_2 := gf 2; clear gc gf)
      | (go_at_call 12; (with_reducible refine (kG.out _ (by (repeat (first | exact ext_refl _ | assumption | refine ext_setCell ?_ (by simp; try omega) _ | refine ext_alloc ?_ _ | refine ext_drew ?_ | refine ext_drewN ?_ _ | refine ext_trans ?_ (Aft.use _) | refine ext_trans ?_ (by assumption))))).mono ?_); rintro e w5 ⟨rfl, xb5⟩; obtain ⟨xc5, xf5, xl5, xz5⟩ := ext_use xb5; (try simp at xz5); obtain ⟨l5_0, gc, gf⟩ := kp xb5 (w.heap.size) (by first | omega | (simp; try omega)); have r5_0 := gc 0; have f5_0 := gf 0; have r5_0_1 := gc 1; have f5_0_1 := gf 1; have r5_0_2 := gc 2; have f5_0_2 := gf 2; clear gc gf)
      | (go_at_call 14; (with_reducible refine (kF.out _ (by (repeat (first | exact ext_refl _ | assumption | refine ext_setCell ?_ (by simp; try omega) _ | refine ext_alloc ?_ _ | refine ext_drew ?_ | refine ext_drewN ?_ _ | refine ext_trans ?_ (Aft.use _) | refine ext_trans ?_ (by assumption))))).mono ?_); rintro e w6 ⟨rfl, xb6⟩; obtain ⟨xc6, xf6, xl6, xz6⟩ := ext_use xb6; (try simp at xz6); obtain ⟨l6_0, gc, gf⟩ := kp xb6 (w.heap.size) (by first | omega | (simp; try omega)); have r6_0 := gc 0; have f6_0 := gf 0; have r6_0_1 := gc 1; have f6_0_1 := gf 1; have r6_0_2 := gc 2; have f6_0_2 := gf 2; clear gc gf)
     )
  all_goals
    refine bodyPost_ret (v := .bool true) ?h rfl ⟨rfl, ?_⟩
    case h => simp [results, Tryz.results4, go_sem]
    repeat (first | exact ext_refl _ | assumption | refine ext_setCell ?_ (by simp; try omega) _ | refine ext_alloc ?_ _ | refine ext_drew ?_ | refine ext_drewN ?_ _ | refine ext_trans ?_ (Aft.use _) | refine ext_trans ?_ (by assumption))
end Go.Proofs.YtchchnohmmncfaaGreatDoor
end
