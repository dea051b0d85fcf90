/- Lemmas of this proof, laid together: AlX, AlY. -/
import Derived.Test.YtnkajjealkggdaaGreatDoorMg31
import Derived.Test.YtnkajjealkggdaaGreatDoorMg32
import Derived.Test.YtnkajjealkggdaaGreatDoorMg02
import Derived.Deep.DeepCutAuto
import Derived.Deep.RegionWith
set_option linter.unusedSimpArgs false
set_option linter.unusedVariables false
section
/- Lex: closed readings. -/
namespace Go.Proofs.YtnkajjealkggdaaGreatDoor
theorem al_r1 : readV false [45, 49, 50, 46, 53, 95, 48, 101, 51] = (⟨1, true, true, [49, 50, 53], 2, false, [], 0, 0⟩, 0, 0) := by kernel_rfl
theorem al_r2 : readV false [48, 120, 49, 46, 56, 112, 51] = (⟨2, false, false, [], 0, false, [3], 2, 0⟩, 0, 0) := by kernel_rfl
theorem al_r3 : readV false [49, 95, 46, 53] = (num0, 112, 1) := by kernel_rfl
theorem al_b : beginP [49, 101, 43, 120] = (⟨1, false, false, [49], 0, false, [], 0, 0⟩, 1) := by kernel_rfl
theorem al_t1 : textN ⟨1, true, true, [49, 50, 53], 2, false, [], 0, 0⟩ = [45, 49, 50, 53, 101, 50] := by kernel_rfl
theorem al_t2 : textN ⟨2, false, false, [], 0, false, [3], 2, 0⟩ = [48, 120, 49, 46, 56, 112, 51] := by kernel_rfl
theorem al_o1 : okN ⟨1, true, true, [49, 50, 53], 2, false, [], 0, 0⟩ = true := by kernel_rfl
theorem al_o2 : okN ⟨2, false, false, [], 0, false, [3], 2, 0⟩ = true := by kernel_rfl
theorem al_d : digV 0x1d7cf = (1, true) := by kernel_rfl
end Go.Proofs.YtnkajjealkggdaaGreatDoor
end
section
/- Lex: alive. -/
namespace Go.Proofs.YtnkajjealkggdaaGreatDoor
open Go.RowKit
attribute [local go_sem] bs_size bs_extract bs_get bs_append bs_toList const_get
attribute [local go_sem] sz2 sz3 sz4 sz5 sz6 sz7 sz8 sz9 sz10
attribute [local irreducible] Calls
set_option maxHeartbeats 4000000
set_option maxRecDepth 100000
theorem al_alive (w : World) (hL : LxT w) : Calls Tryz.prog 12 #[] w fun e w' => e = .returned (.bool true) ∧ Ext w w' := by
  have HL := Lib.hid hL
  have k1 : Hid (∀ w', Ext w w' → Calls Tryz.prog 13 #[.string ⟨#[45, 49, 50, 46, 53, 95, 48, 101, 51]⟩] w' fun e w'' => ∃ A n k, e = .returned (.tuple #[.agg #[.int .u8 1, .bool true, .bool true, .string ⟨#[49, 50, 53]⟩, .int .i64 2, .bool false, .slice A n k, .int .i64 0, .int .u64 0], .nilIface]) ∧ Hid (RdO w'' A n k [] none) ∧ Ext w' w'') := fun w' h => by
    have h9 := lx_Read [45, 49, 50, 46, 53, 95, 48, 101, 51] (by decide) w' (hL.ext h)
    rw [al_r1] at h9
    exact h9.mono fun e w'' ⟨A, n, k, v, e1, e2, e3, e4⟩ => ⟨A, n, k, by rw [e1, e3.out.nil]; rfl, e2.out.1, e4⟩
  have k2 : Hid (∀ A n k w', Ext w w' → RdO w' A n k [] none → Calls Tryz.prog 16 #[.agg #[.int .u8 1, .bool true, .bool true, .string ⟨#[49, 50, 53]⟩, .int .i64 2, .bool false, .slice A n k, .int .i64 0, .int .u64 0]] w' fun e w'' => e = .returned (.tuple #[.string ⟨#[45, 49, 50, 53, 101, 50]⟩, .int .i64 0]) ∧ Ext w' w'') := fun A n k w' h hA => by
    have h9 := lx_Text ⟨1, true, true, [49, 50, 53], 2, false, [], 0, 0⟩ (by decide) A n k w' hA.toRd (by decide) (hL.ext h)
    unfold chkN at h9
    rw [al_o1, if_pos rfl, if_pos rfl, al_t1] at h9
    exact h9
  have k3 : Hid (∀ w', Ext w w' → Calls Tryz.prog 13 #[.string ⟨#[48, 120, 49, 46, 56, 112, 51]⟩] w' fun e w'' => ∃ A n k, e = .returned (.tuple #[.agg #[.int .u8 2, .bool false, .bool false, .string ⟨#[]⟩, .int .i64 0, .bool false, .slice A n k, .int .i64 2, .int .u64 0], .nilIface]) ∧ Hid (RdO w'' A n k [3] none) ∧ Ext w' w'') := fun w' h => by
    have h9 := lx_Read [48, 120, 49, 46, 56, 112, 51] (by decide) w' (hL.ext h)
    rw [al_r2] at h9
    exact h9.mono fun e w'' ⟨A, n, k, v, e1, e2, e3, e4⟩ => ⟨A, n, k, by rw [e1, e3.out.nil]; rfl, e2.out.1, e4⟩
  have k4 : Hid (∀ A n k w', Ext w w' → RdO w' A n k [3] none → Calls Tryz.prog 16 #[.agg #[.int .u8 2, .bool false, .bool false, .string ⟨#[]⟩, .int .i64 0, .bool false, .slice A n k, .int .i64 2, .int .u64 0]] w' fun e w'' => e = .returned (.tuple #[.string ⟨#[48, 120, 49, 46, 56, 112, 51]⟩, .int .i64 0]) ∧ Ext w' w'') := fun A n k w' h hA => by
    have h9 := lx_Text ⟨2, false, false, [], 0, false, [3], 2, 0⟩ (by decide) A n k w' hA.toRd (by decide) (hL.ext h)
    unfold chkN at h9
    rw [al_o2, if_pos rfl, if_pos rfl, al_t2] at h9
    exact h9
  have k5 : Hid (∀ w', Ext w w' → Calls Tryz.prog 15 #[.string ⟨#[49, 101, 43, 120]⟩] w' fun e w'' => ∃ A n k, e = .returned (.tuple #[.agg #[.int .u8 1, .bool false, .bool false, .string ⟨#[49]⟩, .int .i64 0, .bool false, .slice A n k, .int .i64 0, .int .u64 0], .int .i64 1]) ∧ Ext w' w'') := fun w' h => by
    have h9 := lx_Begin [49, 101, 43, 120] (by decide) w' (hL.ext h)
    rw [al_b] at h9
    exact h9.mono fun e w'' ⟨A, n, k, e1, e2, e4⟩ => ⟨A, n, k, e1, e4⟩
  have k6 : Hid (∀ w', Ext w w' → Calls Tryz.prog 13 #[.string ⟨#[49, 95, 46, 53]⟩] w' fun e w'' => ∃ A n k v, e = .returned (.tuple #[.agg #[.int .u8 0, .bool false, .bool false, .string ⟨#[]⟩, .int .i64 0, .bool false, .slice A n k, .int .i64 0, .int .u64 0], v]) ∧ Hid (EIs w'' v 112 1) ∧ Ext w' w'') := fun w' h => by
    have h9 := lx_Read [49, 95, 46, 53] (by decide) w' (hL.ext h)
    rw [al_r3] at h9
    exact h9.mono fun e w'' ⟨A, n, k, v, e1, e2, e3, e4⟩ => ⟨A, n, k, v, e1, e3, e4⟩
  have k7 : Hid (∀ v w', Ext w w' → EIs w' v 112 1 → Calls Tryz.prog 14 #[v] w' fun e w'' => e = .returned (.tuple #[.agg #[.int .i64 112, .int .i64 1], .bool true]) ∧ Ext w' w'') := fun v w' h hv => fa_fault v 112 1 w' (hL.ext h) hv (by decide)
  have k8 : Hid (∀ w', Calls Tryz.prog 21 #[.int .i32 120783] w' fun e w'' => e = .returned (.tuple #[.int .i64 1, .bool true]) ∧ Ext w' w'') := fun w' => by
    have h9 := lx_Digit 120783 (by decide) w'
    rw [show digV 120783 = (1, true) from al_d] at h9
    exact h9
  clear hL
  go_enter Tryz.func12, Tryz.ntmps12
  go_wp2_with (first
    | (go_at_call 13; (with_reducible refine (k1.out _ (by (repeat (first | exact ext_refl _ | assumption | refine ext_setCell ?_ (by simp; try omega) _ | refine ext_alloc ?_ _ | refine ext_drew ?_ | refine ext_drewN ?_ _ | refine ext_trans ?_ (Aft.use _) | refine ext_trans ?_ (by assumption))))).mono ?_); rintro e w1 ⟨A, n, k, rfl, hA, xb1⟩; obtain ⟨xc1, xf1, xl1, xz1⟩ := ext_use xb1; (try simp at xz1))
    | (go_at_call 16; (with_reducible refine (k2.out A n k _ (by (repeat (first | exact ext_refl _ | assumption | refine ext_setCell ?_ (by simp; try omega) _ | refine ext_alloc ?_ _ | refine ext_drew ?_ | refine ext_drewN ?_ _ | refine ext_trans ?_ (Aft.use _) | refine ext_trans ?_ (by assumption)))) (hA.out.ext (by (repeat (first | exact ext_refl _ | assumption | refine ext_setCell ?_ (by simp; try omega) _ | refine ext_alloc ?_ _ | refine ext_drew ?_ | refine ext_drewN ?_ _ | refine ext_trans ?_ (Aft.use _) | refine ext_trans ?_ (by assumption)))))).mono ?_); rintro e w2 ⟨rfl, xb2⟩; obtain ⟨xc2, xf2, xl2, xz2⟩ := ext_use xb2; (try simp at xz2))
    | (go_at_call 13; (with_reducible refine (k3.out _ (by (repeat (first | exact ext_refl _ | assumption | refine ext_setCell ?_ (by simp; try omega) _ | refine ext_alloc ?_ _ | refine ext_drew ?_ | refine ext_drewN ?_ _ | refine ext_trans ?_ (Aft.use _) | refine ext_trans ?_ (by assumption))))).mono ?_); rintro e w3 ⟨C, m, d, rfl, hC, xb3⟩; obtain ⟨xc3, xf3, xl3, xz3⟩ := ext_use xb3; (try simp at xz3))
    | (go_at_call 16; (with_reducible refine (k4.out C m d _ (by (repeat (first | exact ext_refl _ | assumption | refine ext_setCell ?_ (by simp; try omega) _ | refine ext_alloc ?_ _ | refine ext_drew ?_ | refine ext_drewN ?_ _ | refine ext_trans ?_ (Aft.use _) | refine ext_trans ?_ (by assumption)))) (hC.out.ext (by (repeat (first | exact ext_refl _ | assumption | refine ext_setCell ?_ (by simp; try omega) _ | refine ext_alloc ?_ _ | refine ext_drew ?_ | refine ext_drewN ?_ _ | refine ext_trans ?_ (Aft.use _) | refine ext_trans ?_ (by assumption)))))).mono ?_); rintro e w4 ⟨rfl, xb4⟩; obtain ⟨xc4, xf4, xl4, xz4⟩ := ext_use xb4; (try simp at xz4))
    | (go_at_call 15; (with_reducible refine (k5.out _ (by (repeat (first | exact ext_refl _ | assumption | refine ext_setCell ?_ (by simp; try omega) _ | refine ext_alloc ?_ _ | refine ext_drew ?_ | refine ext_drewN ?_ _ | refine ext_trans ?_ (Aft.use _) | refine ext_trans ?_ (by assumption))))).mono ?_); rintro e w5 ⟨A5, n5, c5, rfl, xb5⟩; obtain ⟨xc5, xf5, xl5, xz5⟩ := ext_use xb5; (try simp at xz5))
    | (go_at_call 13; (with_reducible refine (k6.out _ (by (repeat (first | exact ext_refl _ | assumption | refine ext_setCell ?_ (by simp; try omega) _ | refine ext_alloc ?_ _ | refine ext_drew ?_ | refine ext_drewN ?_ _ | refine ext_trans ?_ (Aft.use _) | refine ext_trans ?_ (by assumption))))).mono ?_); rintro e w6 ⟨A6, n6, c6, v6, rfl, hV6, xb6⟩; obtain ⟨xc6, xf6, xl6, xz6⟩ := ext_use xb6; (try simp at xz6))
    | (go_at_call 14; (with_reducible refine (k7.out v6 _ (by (repeat (first | exact ext_refl _ | assumption | refine ext_setCell ?_ (by simp; try omega) _ | refine ext_alloc ?_ _ | refine ext_drew ?_ | refine ext_drewN ?_ _ | refine ext_trans ?_ (Aft.use _) | refine ext_trans ?_ (by assumption)))) (hV6.out.ext (by (repeat (first | exact ext_refl _ | assumption | refine ext_setCell ?_ (by simp; try omega) _ | refine ext_alloc ?_ _ | refine ext_drew ?_ | refine ext_drewN ?_ _ | refine ext_trans ?_ (Aft.use _) | refine ext_trans ?_ (by assumption)))))).mono ?_); rintro e w7 ⟨rfl, xb7⟩; obtain ⟨xc7, xf7, xl7, xz7⟩ := ext_use xb7; (try simp at xz7))
    | (go_at_call 21; (with_reducible refine (k8.out _).mono ?_); rintro e w8 ⟨rfl, xb8⟩; obtain ⟨xc8, xf8, xl8, xz8⟩ := ext_use xb8; (try simp at xz8))
   )
  refine bodyPost_ret (v := .bool true) ?h rfl ⟨rfl, ?_⟩
  case h => simp [results, Tryz.results12, go_sem]
  repeat (first | exact ext_refl _ | assumption | refine ext_setCell ?_ (by simp; try omega) _ | refine ext_alloc ?_ _ | refine ext_drew ?_ | refine ext_drewN ?_ _ | refine ext_trans ?_ (Aft.use _) | refine ext_trans ?_ (by assumption))
end Go.Proofs.YtnkajjealkggdaaGreatDoor
end
