/- Lemmas of this proof, laid together: QkV, QkW. -/
import Derived.Test.YtchchnohmmncfaaGreatDoorMg30
import Derived.Test.YtchchnohmmncfaaGreatDoorMg33
import Derived.Deep.DeepCutAuto
import Derived.Deep.RegionWith
import Derived.Test.YtchchnohmmncfaaGreatDoorMg19
set_option linter.unusedSimpArgs false
set_option linter.unusedVariables false
section
/- Whole numbers as native floats; quick.Whole. -/
namespace Go.Proofs.YtchchnohmmncfaaGreatDoor
open Go.RowKit
attribute [local go_sem high] run_feq run_fne
attribute [local go_sem] fbits fromb
attribute [local go_sem] bs_size bs_extract bs_get bs_append bs_toList const_get
attribute [local go_sem] sz2 sz3 sz4 sz5 sz6 sz7 sz8
set_option maxHeartbeats 8000000
set_option maxRecDepth 100000
attribute [local irreducible] Calls
abbrev nearB (m : Nat) : Nat := bitsS 11 52 0 false false m 1
theorem tu_wholes (m : Nat) (hm : m < 18446744073709551616) (w : World) (hT : Tz w) : Calls Tryz.prog 29 #[fmV (11 : Nat) (52 : Nat), .bool false, .int .u64 (m : Int), .int .u8 0] w fun e w' => e = .returned (.tuple #[.int .u64 (nearB m : Nat), .int .u8 (flagS 11 52 0 false m 1 : Nat), .int .i64 0]) ∧ Ext w w' := by
  obtain ⟨X, hX⟩ : ∃ X, nearB m = X := ⟨_, rfl⟩
  obtain ⟨Y, hY⟩ : ∃ Y, flagS 11 52 0 false m 1 = Y := ⟨_, rfl⟩
  have K1 := Lib.hid (fun w => nof_any m hm w)
  have K2 : Hid (∀ A k w', Ext w w' → Rd w' A k k (lim m) → Calls Tryz.prog 55 #[.bool false, natV A k k, .int .i64 0] w' fun e w'' => ∃ (B : Option Addr) (j a : Nat) (x : Int), e = .returned (.tuple #[dyV false B j j x, .int .i64 0]) ∧ Hid (Rd w'' B j j (lim a) ∧ j ≤ 2 ∧ (-1200 ≤ x ∧ x ≤ 1200) ∧ ((a = 0 ∧ false = false ∧ x = 0) ∨ a % 2 = 1) ∧ tA a x = m ∧ tD 1 x = 1) ∧ Ext w' w'') := Lib.hid fun A k w' he hR => by
    have hl2 : (lim m).length ≤ 2 := lim_bits (by have := bits_lt (show m < 2 ^ 64 from hm); omega)
    have hk := hR.len
    by_cases h0 : m = 0
    · subst h0
      refine (ex_Make0 A k k w' hR).mono ?_
      rintro e w'' ⟨B, j, rfl, hB, hE⟩
      have hj := hB.out.1.len
      exact ⟨B, j, 0, 0, rfl, ⟨hB.out.1, by rw [lim_zero] at hj; simp at hj; omega, by decide, .inl ⟨rfl, rfl, rfl⟩, rfl, rfl⟩, hE⟩
    · refine (ex_Make1 A k k m h0 (by omega) w' (hT.ext he) hR).mono ?_
      rintro e w'' ⟨B, j, rfl, hB, hE⟩
      obtain ⟨z1, z2, z3⟩ := zz_odd m h0
      have hz : zz m ≤ 64 := by
        have h1 : 2 ^ zz m < 2 ^ 64 := Nat.lt_of_le_of_lt z1 hm
        have := (Nat.pow_lt_pow_iff_right (by decide : 1 < 2)).1 h1
        omega
      have hj := hB.out.1.len
      have hjl : (lim (m / 2 ^ zz m)).length ≤ 2 := Nat.le_trans (lim_mono (Nat.div_le_self _ _)) hl2
      refine ⟨B, j, m / 2 ^ zz m, (zz m : Nat), rfl, ⟨hB.out.1, by omega, by omega, .inr z2, ?_, ?_⟩, hE⟩
      · unfold tA; rw [Int.toNat_natCast]; exact z3
      · unfold tD; rw [show (-((zz m : Nat) : Int)).toNat = 0 by omega, Nat.pow_zero]
  have K3 : Hid (∀ B j a x w', (Rd w' B j j (lim a) ∧ j ≤ 2 ∧ (-1200 ≤ x ∧ x ≤ 1200) ∧ ((a = 0 ∧ false = false ∧ x = 0) ∨ a % 2 = 1) ∧ tA a x = m ∧ tD 1 x = 1) → Calls Tryz.prog 57 #[.agg #[.int .i64 11, .int .i64 52], dyV false B j j x, .bool false, .int .u8 0] w' fun e w'' => e = .returned (.tuple #[.int .u64 (X : Int), .int .u8 (Y : Int), .int .i64 0]) ∧ Ext w' w'') := Lib.hid fun B j a x w' ⟨h1, h2, h3, h4, h5, h6⟩ => by
    have := ro_Dyadic 11 52 0 false false B j j a x (by decide) (by decide) (by decide) (by omega) h3 h4 w' h1
    rw [h5, h6, hY] at this
    rw [← hX]
    exact this
  rw [hX, hY]
  clear hX hY hT hm
  go_enter Tryz.func29, Tryz.ntmps29
  go_wp2_with (first
    | (go_at_call 56; (with_reducible refine (K1.out _).mono ?_); rintro e w1 ⟨A, k, rfl, hA, xb1⟩; obtain ⟨xc1, xf1, xl1, xz1⟩ := ext_use xb1; (try simp at xz1); obtain ⟨l1_0, gc, gf⟩ := kp xb1 (w.heap.size) (by first | omega | (simp; try omega)); have r1_0 := gc 0; have f1_0 := gf 0; have r1_0_1 := gc 1; have f1_0_1 := gf 1; clear gc gf)
    | (go_at_call 55; (with_reducible refine (K2.out _ _ _ (by (repeat (first | exact ext_refl _ | assumption | refine ext_setCell ?_ (by simp; try omega) _ | refine ext_alloc ?_ _ | refine ext_drew ?_ | refine ext_drewN ?_ _ | refine ext_trans ?_ (Aft.use _) | refine ext_trans ?_ (by assumption)))) hA.out.1).mono ?_); rintro e w2 ⟨B, j, a, x, rfl, hB, xb2⟩; obtain ⟨xc2, xf2, xl2, xz2⟩ := ext_use xb2; (try simp at xz2); obtain ⟨l2_0, gc, gf⟩ := kp xb2 (w.heap.size) (by first | omega | (simp; try omega)); have r2_0 := gc 0; have f2_0 := gf 0; have r2_0_1 := gc 1; have f2_0_1 := gf 1; clear gc gf)
    | (go_at_call 57; (with_reducible refine (K3.out _ _ _ _ _ ⟨hB.out.1.ext (ext_alloc (ext_refl _) _), hB.out.2⟩).mono ?_); rintro e w3 ⟨rfl, xb3⟩; obtain ⟨xc3, xf3, xl3, xz3⟩ := ext_use xb3; (try simp at xz3); obtain ⟨l3_0, gc, gf⟩ := kp xb3 (w.heap.size) (by first | omega | (simp; try omega)); have r3_0 := gc 0; have f3_0 := gf 0; have r3_0_1 := gc 1; have f3_0_1 := gf 1; clear gc gf)
   )
  refine bodyPost_ret (v := .tuple #[.int .u64 ↑X, .int .u8 ↑Y, .int .i64 0]) ?h rfl ⟨rfl, ?_⟩
  case h => simp [results, Tryz.results29, go_sem]
  repeat (first | exact ext_refl _ | assumption | refine ext_setCell ?_ (by simp; try omega) _ | refine ext_alloc ?_ _ | refine ext_drew ?_ | refine ext_drewN ?_ _ | refine ext_trans ?_ (Aft.use _) | refine ext_trans ?_ (by assumption))
theorem tu_Near (m : Nat) (hm : m < 18446744073709551616) (w : World) (hT : Tz w) : Calls Tryz.prog 16 #[.int .u64 (m : Int)] w fun e w' => e = .returned (.float .f64 (nearB m)) ∧ Ext w w' := by
  have K1 := Lib.hid (fun x w => show Calls Tryz.prog 30 #[.float .f64 x] w fun e w' => e = .returned (.agg #[.int .i64 11, .int .i64 52]) ∧ Ext w w' from tu_Form x w)
  have K2 := Lib.hid (fun w' (he : Ext w w') => show Calls Tryz.prog 29 #[.agg #[.int .i64 11, .int .i64 52], .bool false, .int .u64 (m : Int), .int .u8 0] w' fun e w'' => e = .returned (.tuple #[.int .u64 (nearB m : Nat), .int .u8 (flagS 11 52 0 false m 1 : Nat), .int .i64 0]) ∧ Ext w' w'' from tu_wholes m hm w' (hT.ext he))
  have K3 := Lib.hid (fun b w => tu_native b w)
  generalize nearB m = X at *
  generalize flagS 11 52 0 false m 1 = Y at *
  have h0 : ¬ (m : Int) < 0 := by omega
  have hd : decide ((m : Int) < 0) = false := decide_eq_false h0
  clear hT
  go_enter Tryz.func16, Tryz.ntmps16
  go_wp2_with (first
    | (go_at_call 30; (with_reducible refine (K1.out _ _).mono ?_); rintro e w1 ⟨rfl, xb1⟩)
    | (go_at_call 29; (with_reducible refine (K2.out _ (by (repeat (first | exact ext_refl _ | assumption | refine ext_setCell ?_ (by simp; try omega) _ | refine ext_alloc ?_ _ | refine ext_drew ?_ | refine ext_drewN ?_ _ | refine ext_trans ?_ (Aft.use _) | refine ext_trans ?_ (by assumption))))).mono ?_); rintro e w1 ⟨rfl, xb2⟩)
    | (go_at_call 31; (with_reducible refine (K3.out _ _).mono ?_); rintro e w1 ⟨rfl, xb3⟩))
  refine bodyPost_ret (v := .float .f64 X) ?h rfl ⟨rfl, ?_⟩
  case h => simp [results, Tryz.results16, go_sem]
  repeat (first | exact ext_refl _ | assumption | refine ext_setCell ?_ (by simp; try omega) _ | refine ext_alloc ?_ _ | refine ext_drew ?_ | refine ext_drewN ?_ _ | refine ext_trans ?_ (Aft.use _) | refine ext_trans ?_ (by assumption))
end Go.Proofs.YtchchnohmmncfaaGreatDoor
end
section
/- quick.Whole; some answers that the document fixes. -/
namespace Go.Proofs.YtchchnohmmncfaaGreatDoor
open Go.RowKit
attribute [local go_sem high] run_feq run_fne
attribute [local go_sem] bs_size bs_extract bs_get bs_append bs_toList const_get
attribute [local go_sem] sz2 sz3 sz4 sz5 sz6 sz7 sz8
set_option maxHeartbeats 8000000
set_option maxRecDepth 100000
attribute [local irreducible] Calls
theorem qk_Whole (l : List UInt8) (hd : digsB l = true) (h0 : 0 < l.length) (h19 : l.length ≤ 19) (w : World) (hT : Tz w) :
    Calls Tryz.prog 6 #[.string (bs l)] w fun e w' => e = .returned (.tuple #[.float .f64 (nearB (dval l)), .bool true]) ∧ Ext w w' := by
  have hv : dval l < 18446744073709551616 := by
    have h1 := dval_lt l hd
    have h2 : 10 ^ l.length ≤ 10 ^ 19 := Nat.pow_le_pow_right (by decide) h19
    have h3 : (10 : Nat) ^ 19 < 18446744073709551616 := by decide
    omega
  have k1 := Lib.hid (fun w => qk_number_ok l hd h0 (by omega) hv w)
  have k2 := Lib.hid (fun w' (he : Ext w w') => tu_Near (dval l) hv w' (hT.ext he))
  generalize nearB (dval l) = X at *
  generalize dval l = v at *
  have hc0 := (digs_at hd 0 h0).1
  obtain ⟨c, hc⟩ : ∃ c, l[0] = c := ⟨_, rfl⟩
  rw [hc] at hc0
  have hn43 : ((c.toNat : Int) == 43) = false := by rw [beq_eq_false_iff_ne]; omega
  have hne : (l == []) = false := by rw [beq_eq_false_iff_ne]; intro e; subst e; simp at h0
  have hlI : ¬ (19 : Int) < (l.length : Int) := by omega
  have hlD : decide ((19 : Int) < (l.length : Int)) = false := decide_eq_false hlI
  have hpI : (0 : Int) < (l.length : Int) := by omega
  clear hd hT hv
  go_enter Tryz.func6, Tryz.ntmps6
  go_wp2_with (first
    | (go_at_call 15; (with_reducible refine (k1.out _).mono ?_); rintro e w1 ⟨rfl, xb1⟩)
    | (go_at_call 16; (with_reducible refine (k2.out _ (by (repeat (first | exact ext_refl _ | assumption | refine ext_setCell ?_ (by simp; try omega) _ | refine ext_alloc ?_ _ | refine ext_drew ?_ | refine ext_drewN ?_ _ | refine ext_trans ?_ (Aft.use _) | refine ext_trans ?_ (by assumption))))).mono ?_); rintro e w2 ⟨rfl, xb2⟩))
  refine bodyPost_ret (v := .tuple #[.float .f64 X, .bool true]) ?h rfl ⟨rfl, ?_⟩
  case h => simp [results, Tryz.results6, go_sem]
  repeat (first | exact ext_refl _ | assumption | refine ext_setCell ?_ (by simp; try omega) _ | refine ext_alloc ?_ _ | refine ext_drew ?_ | refine ext_drewN ?_ _ | refine ext_trans ?_ (Aft.use _) | refine ext_trans ?_ (by assumption))
def feq32 (a b : Nat) : Bool := Ieee.single.order a b == some .eq
theorem run_feq32 (t : TypeId) (x y : Nat) : binOp .eql t (.float .f32 x) (.float .f32 y) = pure (.bool (feq32 x y)) := by simp [go_sem]; rfl
attribute [local go_sem high] run_feq32
theorem alive14_any (w : World) (hT : Tz w) (hE : Er w) : Calls Tryz.prog 5 #[] w fun e w' => e = .returned (.bool true) ∧ Ext w w' := by
  have k1 := Lib.hid (fun w' (he : Ext w w') => show Calls Tryz.prog 9 #[.agg #[.bool false, .string { data := #[49, 50, 51] }, .int .i64 (-22)]] w' fun e w'' => e = .returned (.tuple #[.float .f64 4309112396312900913, .bool true]) ∧ Ext w' w'' by
    have := qk_Double ⟨false, [49, 50, 51], -22⟩ (show [49, 50, 51].length ≤ _ by decide) w' (hE.ext he)
    rwa [show dbR ⟨false, [49, 50, 51], -22⟩ = .tuple #[.float .f64 4309112396312900913, .bool true] by kernel_rfl] at this)
  have k2 := Lib.hid (fun w' (he : Ext w w') => show Calls Tryz.prog 9 #[.agg #[.bool false, .string { data := #[49] }, .int .i64 (-23)]] w' fun e w'' => e = .returned (.tuple #[.float .f64 0, .bool false]) ∧ Ext w' w'' by
    have := qk_Double ⟨false, [49], -23⟩ (show [49].length ≤ _ by decide) w' (hE.ext he)
    rwa [show dbR ⟨false, [49], -23⟩ = .tuple #[.float .f64 0, .bool false] by kernel_rfl] at this)
  have k3 := Lib.hid (fun w' (he : Ext w w') => show Calls Tryz.prog 10 #[.agg #[.bool true, .string { data := #[49, 53] }, .int .i64 (-1)]] w' fun e w'' => e = .returned (.tuple #[.float .f32 3217031168, .bool true]) ∧ Ext w' w'' by
    have := qk_Single ⟨true, [49, 53], -1⟩ (show [49, 53].length ≤ _ by decide) w' (hE.ext he)
    rwa [show sgR ⟨true, [49, 53], -1⟩ = .tuple #[.float .f32 3217031168, .bool true] by kernel_rfl] at this)
  have k4 := Lib.hid (fun w' (he : Ext w w') => show Calls Tryz.prog 6 #[.string { data := #[57, 48, 48, 55, 49, 57, 57, 50, 53, 52, 55, 52, 48, 57, 57, 51] }] w' fun e w'' => e = .returned (.tuple #[.float .f64 4845873199050653696, .bool true]) ∧ Ext w' w'' by
    have := qk_Whole [57, 48, 48, 55, 49, 57, 57, 50, 53, 52, 55, 52, 48, 57, 57, 51] (by decide) (by decide) (by decide) w' (hT.ext he)
    rwa [show nearB (dval [57, 48, 48, 55, 49, 57, 57, 50, 53, 52, 55, 52, 48, 57, 57, 51]) = 4845873199050653696 by kernel_rfl] at this)
  have f1 : feq 4309112396312900913 4309112396312900913 = true := by kernel_rfl
  have f2 : feq 4845873199050653696 4845873199050653696 = true := by kernel_rfl
  have f3 : feq32 3217031168 3217031168 = true := by kernel_rfl
  clear hT hE
  go_enter Tryz.func5, Tryz.ntmps5
  go_wp2_with (first
    | (go_at_call 9; (with_reducible refine (k1.out _ (by (repeat (first | exact ext_refl _ | assumption | refine ext_setCell ?_ (by simp; try omega) _ | refine ext_alloc ?_ _ | refine ext_drew ?_ | refine ext_drewN ?_ _ | refine ext_trans ?_ (Aft.use _) | refine ext_trans ?_ (by assumption))))).mono ?_); rintro e w1 ⟨rfl, xb1⟩)
    | (go_at_call 9; (with_reducible refine (k2.out _ (by (repeat (first | exact ext_refl _ | assumption | refine ext_setCell ?_ (by simp; try omega) _ | refine ext_alloc ?_ _ | refine ext_drew ?_ | refine ext_drewN ?_ _ | refine ext_trans ?_ (Aft.use _) | refine ext_trans ?_ (by assumption))))).mono ?_); rintro e w2 ⟨rfl, xb2⟩)
    | (go_at_call 10; (with_reducible refine (k3.out _ (by (repeat (first | exact ext_refl _ | assumption | refine ext_setCell ?_ (by simp; try omega) _ | refine ext_alloc ?_ _ | refine ext_drew ?_ | refine ext_drewN ?_ _ | refine ext_trans ?_ (Aft.use _) | refine ext_trans ?_ (by assumption))))).mono ?_); rintro e w3 ⟨rfl, xb3⟩)
    | (go_at_call 6; (with_reducible refine (k4.out _ (by (repeat (first | exact ext_refl _ | assumption | refine ext_setCell ?_ (by simp; try omega) _ | refine ext_alloc ?_ _ | refine ext_drew ?_ | refine ext_drewN ?_ _ | refine ext_trans ?_ (Aft.use _) | refine ext_trans ?_ (by assumption))))).mono ?_); rintro e w4 ⟨rfl, xb4⟩))
  refine bodyPost_ret (v := .bool true) ?h rfl ⟨rfl, ?_⟩
  case h => simp [results, Tryz.results5, go_sem]
  repeat (first | exact ext_refl _ | assumption | refine ext_setCell ?_ (by simp; try omega) _ | refine ext_alloc ?_ _ | refine ext_drew ?_ | refine ext_drewN ?_ _ | refine ext_trans ?_ (Aft.use _) | refine ext_trans ?_ (by assumption))
end Go.Proofs.YtchchnohmmncfaaGreatDoor
end
