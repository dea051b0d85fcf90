/- Lemmas of this proof, laid together: QkV0. -/
import Derived.Test.YtchchnohmmncfaaGreatDoorMg24
import Derived.Test.YtchchnohmmncfaaGreatDoorMg19
import Derived.Test.YtchchnohmmncfaaGreatDoorMg32
import Derived.Deep.DeepCutAuto
import Derived.Deep.RegionWith
set_option linter.unusedSimpArgs false
set_option linter.unusedVariables false
section
/- Native floats: which kind, their form, their bits. -/
namespace Go.Proofs.YtchchnohmmncfaaGreatDoor
open Go.RowKit
attribute [local go_sem high] run_feq run_fne
attribute [local go_sem] fbits fromb
attribute [local go_sem] bs_size bs_extract bs_get bs_append bs_toList const_get
attribute [local go_sem] sz2 sz3 sz4 sz5 sz6 sz7 sz8
set_option maxHeartbeats 8000000
set_option maxRecDepth 100000
attribute [local irreducible] Calls
theorem tu_narrow (w : World) : Calls Tryz.prog 58 #[] w fun e w' => e = .returned (.bool false) ∧ Ext w w' := by
  have h : feq (floatOfInt .f64 16777217) (floatOfInt .f64 16777216) = false := by kernel_rfl
  go_enter Tryz.func58, Tryz.ntmps58
  go_wp2
  refine bodyPost_ret (v := .bool false) ?h rfl ⟨rfl, ?_⟩
  case h => simp [results, Tryz.results58, go_sem]
  repeat (first | exact ext_refl _ | assumption | refine ext_setCell ?_ (by simp; try omega) _ | refine ext_alloc ?_ _ | refine ext_drew ?_ | refine ext_drewN ?_ _ | refine ext_trans ?_ (Aft.use _) | refine ext_trans ?_ (by assumption))
theorem tu_native (b : Nat) (w : World) : Calls Tryz.prog 31 #[.int .u64 (b : Int)] w fun e w' => e = .returned (.float .f64 b) ∧ Ext w w' := by
  have k := Lib.hid (fun w => tu_narrow w)
  go_enter Tryz.func31, Tryz.ntmps31
  go_wp2_with (first
    | (go_at_call 58; (with_reducible refine (k.out _).mono ?_); rintro e w1 ⟨rfl, xb1⟩))
  refine bodyPost_ret (v := .float .f64 b) ?h rfl ⟨rfl, ?_⟩
  case h => simp [results, Tryz.results31, go_sem]
  repeat (first | exact ext_refl _ | assumption | refine ext_setCell ?_ (by simp; try omega) _ | refine ext_alloc ?_ _ | refine ext_drew ?_ | refine ext_drewN ?_ _ | refine ext_trans ?_ (Aft.use _) | refine ext_trans ?_ (by assumption))
theorem tu_Form (x : Nat) (w : World) : Calls Tryz.prog 30 #[.float .f64 x] w fun e w' => e = .returned (fmV (11 : Nat) (52 : Nat)) ∧ Ext w w' := by
  have k := Lib.hid (fun w => tu_narrow w)
  have kd := Lib.hid (fun w => show Calls Tryz.prog 60 #[] w fun e w' => e = .returned (.agg #[.int .i64 11, .int .i64 52]) ∧ Ext w w' from fm_Double w)
  go_enter Tryz.func30, Tryz.ntmps30
  go_wp2_with (first
    | (go_at_call 58; (with_reducible refine (k.out _).mono ?_); rintro e w1 ⟨rfl, xb1⟩; obtain ⟨xc1, xf1, xl1, xz1⟩ := ext_use xb1; (try simp at xz1); obtain ⟨l1_0, gc, gf⟩ := kp xb1 (w.heap.size) (by first | omega | (simp; try omega)); have r1_0 := gc 0; have f1_0 := gf 0; have r1_0_1 := gc 1; have f1_0_1 := gf 1; clear gc gf)
    | (go_at_call 60; (with_reducible refine (kd.out _).mono ?_); rintro e w1 ⟨rfl, xb1⟩; obtain ⟨xc1, xf1, xl1, xz1⟩ := ext_use xb1; (try simp at xz1); obtain ⟨l1_0, gc, gf⟩ := kp xb1 (w.heap.size) (by first | omega | (simp; try omega)); have r1_0 := gc 0; have f1_0 := gf 0; have r1_0_1 := gc 1; have f1_0_1 := gf 1; clear gc gf)
   )
  refine bodyPost_ret (v := .agg #[.int .i64 11, .int .i64 52]) ?h rfl ⟨rfl, ?_⟩
  case h => simp [results, Tryz.results30, go_sem, *]
  repeat (first | exact ext_refl _ | assumption | refine ext_setCell ?_ (by simp; try omega) _ | refine ext_alloc ?_ _ | refine ext_drew ?_ | refine ext_drewN ?_ _ | refine ext_trans ?_ (Aft.use _) | refine ext_trans ?_ (by assumption))
end Go.Proofs.YtchchnohmmncfaaGreatDoor
end
