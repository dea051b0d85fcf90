/- Lemmas of this proof, laid together: QuickRightW. -/
import Derived.Test.YtkhkoeibpkglkaaGreatDoorMg30
import Derived.Test.YtkhkoeibpkglkaaGreatDoorMg31
import Derived.Test.YtkhkoeibpkglkaaGreatDoorMg39
import Derived.Test.YtkhkoeibpkglkaaGreatDoorMg37
import Derived.Test.YtkhkoeibpkglkaaGreatDoorMg26
import Derived.Deep.DeepCutAuto
import Derived.Deep.RegionWith
set_option linter.unusedSimpArgs false
set_option linter.unusedVariables false
section
/- QuickRight: the walk. -/
namespace Go.Proofs.YtkhkoeibpkglkaaGreatDoor
open Go.RowKit
attribute [local go_sem] bs_size bs_extract bs_get bs_append bs_toList const_get
attribute [local go_sem] sz2 sz3 sz4 sz5 sz6 sz7 sz8
set_option maxHeartbeats 8000000
set_option maxRecDepth 100000
theorem qw_right (w : World) (h : laidMetH Tryz.prog Rows.quickRightRow.laid w) : Qw w := by
  rw [MakeChecks.laidMetH_plain _ _ _ (by kernel_rfl)] at h
  exact qw_short _ (by kernel_rfl) w h
theorem fbits32r (b : Nat) (w : World) : (callFunc 31 #[.float .f32 b]).run Tryz.prog w = .ok (.value (.int .u32 b)) w := by
  rw [run_callFunc_extern Tryz.func31 (by kernel_rfl) (by kernel_rfl) (by kernel_rfl) (e := Extern.MathFloatBits.float32bits) (by kernel_rfl)]; rfl
attribute [local go_sem] fbits fbits32r
attribute [local irreducible] Calls
theorem walk_QuickRight (x0 : Bool) (x1 : ByteArray) (x2 : Int) (w : World) (hx1 : x1.size ≤ maxLen) (hx2 : -9223372036854775808 ≤ x2 ∧ x2 ≤ 9223372036854775807) (hL : laidMetH Tryz.prog Rows.quickRightRow.laid w) :
    Calls Tryz.prog 6 #[.agg #[.bool x0, .string x1, .int .i64 x2]] w fun e w' => e = .returned (.bool true) ∧ Ext w w' := by
  obtain ⟨l, rfl⟩ := bs_of x1
  have hQ := qw_right w hL
  have hlen : l.length ≤ 9223372036854775807 := by have h := hx1; rw [bs_size] at h; unfold maxLen at h; omega
  have kA := Lib.hid (fun w' (he : Ext w w') => alive14_any w' (hQ.tz.ext he) (hQ.er.ext he))
  have kC := Lib.hid (fun w' => show Calls Tryz.prog 32 #[.agg #[.bool x0, .string (bs l), .int .i64 x2]] w' fun e w'' => e = .returned (.int .i64 (dcE ⟨x0, l, x2⟩)) ∧ Ext w' w'' from check_any' ⟨x0, l, x2⟩ (show l.length ≤ _ by omega) w')
  have hlI : (l.length : Int) ≤ 9223372036854775807 := by omega
  obtain ⟨h2a, h2b⟩ := hx2
  by_cases c1 : (40 : Int) < (l.length : Int)
  · have d1 : decide ((40 : Int) < (l.length : Int)) = true := decide_eq_true c1
    clear hQ hL
    go_enter Tryz.func6, Tryz.ntmps6
    go_wp2_with (first
      | (go_at_call 8; (with_reducible refine (kA.out _ (by (repeat (first | exact ext_refl _ | assumption | refine ext_setCell ?_ (by simp; try omega) _ | refine ext_alloc ?_ _ | refine ext_drew ?_ | refine ext_drewN ?_ _ | refine ext_trans ?_ (Aft.use _) | refine ext_trans ?_ (by assumption))))).mono ?_); rintro e w1 ⟨rfl, xb1⟩; obtain ⟨xc1, xf1, xl1, xz1⟩ := ext_use xb1; (try simp at xz1); obtain ⟨l1_0, gc, gf⟩ := kp xb1 (w.heap.size) (by first | omega | (simp; try omega)); have r1_0 := gc 0; have f1_0 := gf 0; have r1_0_1 := gc 1; have f1_0_1 := gf 1; have r1_0_2 := gc 2; have f1_0_2 := gf 2; clear gc gf)
      | (go_at_call 32; (with_reducible refine (kC.out _).mono ?_); rintro e w1 ⟨rfl, xb1⟩; obtain ⟨xc1, xf1, xl1, xz1⟩ := ext_use xb1; (try simp at xz1); obtain ⟨l1_0, gc, gf⟩ := kp xb1 (w.heap.size) (by first | omega | (simp; try omega)); have r1_0 := gc 0; have f1_0 := gf 0; have r1_0_1 := gc 1; have f1_0_1 := gf 1; have r1_0_2 := gc 2; have f1_0_2 := gf 2; clear gc gf)
     )
    refine bodyPost_ret (v := .bool true) ?h rfl ⟨rfl, ?_⟩
    case h => simp [results, Tryz.results6, go_sem]
    repeat (first | exact ext_refl _ | assumption | refine ext_setCell ?_ (by simp; try omega) _ | refine ext_alloc ?_ _ | refine ext_drew ?_ | refine ext_drewN ?_ _ | refine ext_trans ?_ (Aft.use _) | refine ext_trans ?_ (by assumption))
  have D1 : decide ((40 : Int) < (l.length : Int)) = false := decide_eq_false c1
  by_cases c2 : 400 < x2
  · have d2 : decide (400 < x2) = true := decide_eq_true c2
    clear hQ hL
    go_enter Tryz.func6, Tryz.ntmps6
    go_wp2_with (first
      | (go_at_call 8; (with_reducible refine (kA.out _ (by (repeat (first | exact ext_refl _ | assumption | refine ext_setCell ?_ (by simp; try omega) _ | refine ext_alloc ?_ _ | refine ext_drew ?_ | refine ext_drewN ?_ _ | refine ext_trans ?_ (Aft.use _) | refine ext_trans ?_ (by assumption))))).mono ?_); rintro e w1 ⟨rfl, xb1⟩; obtain ⟨xc1, xf1, xl1, xz1⟩ := ext_use xb1; (try simp at xz1); obtain ⟨l1_0, gc, gf⟩ := kp xb1 (w.heap.size) (by first | omega | (simp; try omega)); have r1_0 := gc 0; have f1_0 := gf 0; have r1_0_1 := gc 1; have f1_0_1 := gf 1; have r1_0_2 := gc 2; have f1_0_2 := gf 2; clear gc gf)
      | (go_at_call 32; (with_reducible refine (kC.out _).mono ?_); rintro e w1 ⟨rfl, xb1⟩; obtain ⟨xc1, xf1, xl1, xz1⟩ := ext_use xb1; (try simp at xz1); obtain ⟨l1_0, gc, gf⟩ := kp xb1 (w.heap.size) (by first | omega | (simp; try omega)); have r1_0 := gc 0; have f1_0 := gf 0; have r1_0_1 := gc 1; have f1_0_1 := gf 1; have r1_0_2 := gc 2; have f1_0_2 := gf 2; clear gc gf)
     )
    refine bodyPost_ret (v := .bool true) ?h rfl ⟨rfl, ?_⟩
    case h => simp [results, Tryz.results6, go_sem]
    repeat (first | exact ext_refl _ | assumption | refine ext_setCell ?_ (by simp; try omega) _ | refine ext_alloc ?_ _ | refine ext_drew ?_ | refine ext_drewN ?_ _ | refine ext_trans ?_ (Aft.use _) | refine ext_trans ?_ (by assumption))
  have D2 : decide (400 < x2) = false := decide_eq_false c2
  by_cases c3 : x2 < -400
  · have d3 : decide (x2 < -400) = true := decide_eq_true c3
    clear hQ hL
    go_enter Tryz.func6, Tryz.ntmps6
    go_wp2_with (first
      | (go_at_call 8; (with_reducible refine (kA.out _ (by (repeat (first | exact ext_refl _ | assumption | refine ext_setCell ?_ (by simp; try omega) _ | refine ext_alloc ?_ _ | refine ext_drew ?_ | refine ext_drewN ?_ _ | refine ext_trans ?_ (Aft.use _) | refine ext_trans ?_ (by assumption))))).mono ?_); rintro e w1 ⟨rfl, xb1⟩; obtain ⟨xc1, xf1, xl1, xz1⟩ := ext_use xb1; (try simp at xz1); obtain ⟨l1_0, gc, gf⟩ := kp xb1 (w.heap.size) (by first | omega | (simp; try omega)); have r1_0 := gc 0; have f1_0 := gf 0; have r1_0_1 := gc 1; have f1_0_1 := gf 1; have r1_0_2 := gc 2; have f1_0_2 := gf 2; clear gc gf)
      | (go_at_call 32; (with_reducible refine (kC.out _).mono ?_); rintro e w1 ⟨rfl, xb1⟩; obtain ⟨xc1, xf1, xl1, xz1⟩ := ext_use xb1; (try simp at xz1); obtain ⟨l1_0, gc, gf⟩ := kp xb1 (w.heap.size) (by first | omega | (simp; try omega)); have r1_0 := gc 0; have f1_0 := gf 0; have r1_0_1 := gc 1; have f1_0_1 := gf 1; have r1_0_2 := gc 2; have f1_0_2 := gf 2; clear gc gf)
     )
    refine bodyPost_ret (v := .bool true) ?h rfl ⟨rfl, ?_⟩
    case h => simp [results, Tryz.results6, go_sem]
    repeat (first | exact ext_refl _ | assumption | refine ext_setCell ?_ (by simp; try omega) _ | refine ext_alloc ?_ _ | refine ext_drew ?_ | refine ext_drewN ?_ _ | refine ext_trans ?_ (Aft.use _) | refine ext_trans ?_ (by assumption))
  have D3 : decide (x2 < -400) = false := decide_eq_false c3
  by_cases c4 : dcE ⟨x0, l, x2⟩ = 0
  · rw [c4] at kC
    obtain ⟨z, hz⟩ : ∃ z, canN (dz ⟨x0, l, x2⟩) (dp ⟨x0, l, x2⟩) = z := ⟨_, rfl⟩
    obtain ⟨d, hd⟩ : ∃ d, canD (dz ⟨x0, l, x2⟩) (dp ⟨x0, l, x2⟩) = d := ⟨_, rfl⟩
    have hdp : dp ⟨x0, l, x2⟩ ≠ 0 := dp_ne _
    have hd0 : d ≠ 0 := by rw [← hd]; exact canD_pos hdp
    have hgcd : Nat.gcd z.natAbs d = 1 := by rw [← hz, ← hd]; exact can_gcd hdp
    have hV : l ≠ [] → 0 < dval l := fun h => dval_pos_last (dc_digs c4) (dc_lastq c4 (List.length_pos_iff.2 h)) h
    have hV40 : dval l < 10 ^ 40 := by
      have h1 := dval_lt l (dc_digs c4)
      have h2 : 10 ^ l.length ≤ 10 ^ 40 := Nat.pow_le_pow_right (by decide) (by omega)
      omega
    have hzl : (lim z.natAbs).length ≤ 56 := by
      have h1 : z.natAbs ≤ dval l * 10 ^ x2.toNat := by
        rw [← hz]
        unfold canN
        rw [sgn_abs]
        refine Nat.le_trans (Nat.div_le_self _ _) ?_
        show (sgn x0 (dval l * 10 ^ x2.toNat : Nat)).natAbs ≤ _
        rw [sgn_abs]
        exact Nat.le_refl _
      have h2 := right_len (e := x2.toNat) hV40
      have h3 := lim_mono h1
      omega
    have hdl : (lim d).length ≤ 56 := by
      have h1 : d ≤ 1 * 10 ^ (-x2).toNat := by
        rw [← hd, Nat.one_mul]
        unfold canD
        exact Nat.div_le_self _ _
      have h2 := right_len (V := 1) (e := (-x2).toNat) (n := 1) (by decide)
      have h3 := lim_mono h1
      omega
    have kQ := Lib.hid (fun w' (he : Ext w w') => show Calls Tryz.prog 33 #[.agg #[.bool x0, .string (bs l), .int .i64 x2]] w' fun e w'' => ∃ (A : Option Addr) (n c : Nat) (D : Option Addr) (m k : Nat), e = .returned (.tuple #[ratV (decide (z < 0)) A n c D m k, .int .i64 0]) ∧ Hid (Rd w'' A n c (lim z.natAbs) ∧ Rd w'' D m k (lim d)) ∧ Ext w' w'' by
      refine (dratio_any ⟨x0, l, x2⟩ c4 (show l.length ≤ 4000 by omega) (show -4000 ≤ x2 ∧ x2 ≤ 7000 by omega) w' (hQ.tz.ext he)).mono ?_
      rw [hz, hd]
      rintro e w'' ⟨A, n, c, D, m, k, rfl, h1, h2⟩
      exact ⟨A, n, c, D, m, k, rfl, ⟨h1.out.1.toRd, h1.out.2.2.1.toRd⟩, h2⟩)
    have law1 := right_law 11 52 22 (by decide) x0 l x2 hV
    have law2 := right_law 8 23 10 (by decide) x0 l x2 hV
    rw [hz, hd] at law1 law2
    obtain ⟨X, hX⟩ : ∃ X, bitsS 11 52 0 (decide (z < 0)) x0 z.natAbs d = X := ⟨_, rfl⟩
    obtain ⟨Y, hY⟩ : ∃ Y, bitsS 8 23 0 (decide (z < 0)) x0 z.natAbs d = Y := ⟨_, rfl⟩
    obtain ⟨X', hX'⟩ : ∃ X, flagS 11 52 0 (decide (z < 0)) z.natAbs d = X := ⟨_, rfl⟩
    obtain ⟨Y', hY'⟩ : ∃ Y, flagS 8 23 0 (decide (z < 0)) z.natAbs d = Y := ⟨_, rfl⟩
    rw [hX] at law1
    rw [hY] at law2
    have hz0 : decide (z < 0) = true → z.natAbs ≠ 0 := fun h => by have := of_decide_eq_true h; omega
    have kR1 := Lib.hid (fun A n c D m k w' (he : Ext w w') (hA : Rd w' A n c (lim z.natAbs)) (hD : Rd w' D m k (lim d)) => show Calls Tryz.prog 13 #[.agg #[.int .i64 11, .int .i64 52], ratV (decide (z < 0)) A n c D m k, .bool x0, .int .u8 0] w' fun e w'' => e = .returned (.tuple #[.int .u64 (X : Int), .int .u8 (X' : Int), .int .i64 0]) ∧ Ext w' w'' by
      have l1 := hA.len
      have l2 := hD.len
      have := ro_ratio 11 52 0 x0 (decide (z < 0)) A n c z.natAbs D m k d (by decide) (by decide) (by decide) hd0 (by omega) (by omega) hgcd hz0 w' (hQ.tz.ext he) hA hD
      rw [← hX, ← hX']
      exact this)
    have kR2 := Lib.hid (fun A n c D m k w' (he : Ext w w') (hA : Rd w' A n c (lim z.natAbs)) (hD : Rd w' D m k (lim d)) => show Calls Tryz.prog 13 #[.agg #[.int .i64 8, .int .i64 23], ratV (decide (z < 0)) A n c D m k, .bool x0, .int .u8 0] w' fun e w'' => e = .returned (.tuple #[.int .u64 (Y : Int), .int .u8 (Y' : Int), .int .i64 0]) ∧ Ext w' w'' by
      have l1 := hA.len
      have l2 := hD.len
      have := ro_ratio 8 23 0 x0 (decide (z < 0)) A n c z.natAbs D m k d (by decide) (by decide) (by decide) hd0 (by omega) (by omega) hgcd hz0 w' (hQ.tz.ext he) hA hD
      rw [← hY, ← hY']
      exact this)
    have hY32 := rdB_lt3 8 23 x0 (askN ⟨x0, l, x2⟩ 10) (askX ⟨x0, l, x2⟩ 10)
    rw [law2] at hY32
    have hYw : IntKind.u64.wrap (Y : Int) = (Y : Int) := by rw [IntKind.wrap_u64]; omega
    have kD := fun w' (he : Ext w w') => show Calls Tryz.prog 28 #[.agg #[.bool x0, .string (bs l), .int .i64 x2]] w' fun e w'' => e = .returned (if askB ⟨x0, l, x2⟩ 9007199254740992 22 37 = true then .tuple #[.float .f64 X, .bool true] else .tuple #[.float .f64 0, .bool false]) ∧ Ext w' w'' by
      have := qk_Double ⟨x0, l, x2⟩ (show l.length ≤ _ by omega) w' (hQ.er.ext he)
      unfold dbR at this
      rw [law1] at this
      exact this
    have kS := fun w' (he : Ext w w') => show Calls Tryz.prog 29 #[.agg #[.bool x0, .string (bs l), .int .i64 x2]] w' fun e w'' => e = .returned (if askB ⟨x0, l, x2⟩ 16777216 10 17 = true then .tuple #[.float .f32 Y, .bool true] else .tuple #[.float .f32 0, .bool false]) ∧ Ext w' w'' by
      have := qk_Single ⟨x0, l, x2⟩ (show l.length ≤ _ by omega) w' (hQ.er.ext he)
      unfold sgR at this
      rw [law2] at this
      exact this
    have kT := fun w' (he : Ext w w') => show Calls Tryz.prog 9 #[.agg #[.bool x0, .string (bs l), .int .i64 x2]] w' fun e w'' => e = .returned (.bool (askB ⟨x0, l, x2⟩ 9007199254740992 22 37)) ∧ Ext w' w'' from qk_Fits ⟨x0, l, x2⟩ (show l.length ≤ _ by omega) w' (hQ.er.ext he)
    obtain ⟨nz, hnz⟩ : ∃ b, decide (z < 0) = b := ⟨_, rfl⟩
    obtain ⟨zz0, hzz⟩ : ∃ a, z.natAbs = a := ⟨_, rfl⟩
    rw [hnz, hzz] at kQ kR1 kR2
    generalize askB ⟨x0, l, x2⟩ 9007199254740992 22 37 = b1 at *
    generalize askB ⟨x0, l, x2⟩ 16777216 10 17 = b2 at *
    clear hQ hL hx1 hz hd hdp hd0 hgcd hV hV40 hzl hdl law1 law2 hX hX' hY hY' hz0 hY32 hnz hzz c4
    rcases b1 with _ | _ <;> rcases b2 with _ | _
    · have KD := Lib.hid kD
      have KS := Lib.hid kS
      have KT := Lib.hid kT
      simp only [if_true, if_false, Bool.false_eq_true] at KD KS
      clear kD kS kT
      go_enter Tryz.func6, Tryz.ntmps6
      go_wp2_with (first
        | (go_at_call 8; (with_reducible refine (kA.out _ (by (repeat (first | exact ext_refl _ | assumption | refine ext_setCell ?_ (by simp; try omega) _ | refine ext_alloc ?_ _ | refine ext_drew ?_ | refine ext_drewN ?_ _ | refine ext_trans ?_ (Aft.use _) | refine ext_trans ?_ (by assumption))))).mono ?_); rintro e w1 ⟨rfl, xb1⟩; obtain ⟨xc1, xf1, xl1, xz1⟩ := ext_use xb1; (try simp at xz1); obtain ⟨l1_0, gc, gf⟩ := kp xb1 (w.heap.size) (by first | omega | (simp; try omega)); have r1_0 := gc 0; have f1_0 := gf 0; have r1_0_1 := gc 1; have f1_0_1 := gf 1; have r1_0_2 := gc 2; have f1_0_2 := gf 2; clear gc gf)
        | (go_at_call 32; (with_reducible refine (kC.out _).mono ?_); rintro e w1 ⟨rfl, xb1⟩; obtain ⟨xc1, xf1, xl1, xz1⟩ := ext_use xb1; (try simp at xz1); obtain ⟨l1_0, gc, gf⟩ := kp xb1 (w.heap.size) (by first | omega | (simp; try omega)); have r1_0 := gc 0; have f1_0 := gf 0; have r1_0_1 := gc 1; have f1_0_1 := gf 1; have r1_0_2 := gc 2; have f1_0_2 := gf 2; clear gc gf)
        | (go_at_call 33; (with_reducible refine (kQ.out _ (by (repeat (first | exact ext_refl _ | assumption | refine ext_setCell ?_ (by simp; try omega) _ | refine ext_alloc ?_ _ | refine ext_drew ?_ | refine ext_drewN ?_ _ | refine ext_trans ?_ (Aft.use _) | refine ext_trans ?_ (by assumption))))).mono ?_); rintro e w2 ⟨A, n, c, D, m, k, rfl, hR, xb2⟩; obtain ⟨xc2, xf2, xl2, xz2⟩ := ext_use xb2; (try simp at xz2); obtain ⟨l2_0, gc, gf⟩ := kp xb2 (w.heap.size) (by first | omega | (simp; try omega)); have r2_0 := gc 0; have f2_0 := gf 0; have r2_0_1 := gc 1; have f2_0_1 := gf 1; have r2_0_2 := gc 2; have f2_0_2 := gf 2; clear gc gf)
        | (go_at_call 28; (with_reducible refine (KD.out _ (by (repeat (first | exact ext_refl _ | assumption | refine ext_setCell ?_ (by simp; try omega) _ | refine ext_alloc ?_ _ | refine ext_drew ?_ | refine ext_drewN ?_ _ | refine ext_trans ?_ (Aft.use _) | refine ext_trans ?_ (by assumption))))).mono ?_); rintro e w3 ⟨rfl, xb3⟩; obtain ⟨xc3, xf3, xl3, xz3⟩ := ext_use xb3; (try simp at xz3); obtain ⟨l3_0, gc, gf⟩ := kp xb3 (w.heap.size) (by first | omega | (simp; try omega)); have r3_0 := gc 0; have f3_0 := gf 0; have r3_0_1 := gc 1; have f3_0_1 := gf 1; have r3_0_2 := gc 2; have f3_0_2 := gf 2; clear gc gf; obtain ⟨l3_1, gc, gf⟩ := kp xb3 (w2.heap.size) (by first | omega | (simp; try omega)); have r3_1 := gc 0; have f3_1 := gf 0; have r3_1_1 := gc 1; have f3_1_1 := gf 1; have r3_1_2 := gc 2; have f3_1_2 := gf 2; clear gc gf)
        | (go_at_call 29; (with_reducible refine (KS.out _ (by (repeat (first | exact ext_refl _ | assumption | refine ext_setCell ?_ (by simp; try omega) _ | refine ext_alloc ?_ _ | refine ext_drew ?_ | refine ext_drewN ?_ _ | refine ext_trans ?_ (Aft.use _) | refine ext_trans ?_ (by assumption))))).mono ?_); rintro e w4 ⟨rfl, xb4⟩; obtain ⟨xc4, xf4, xl4, xz4⟩ := ext_use xb4; (try simp at xz4); obtain ⟨l4_0, gc, gf⟩ := kp xb4 (w.heap.size) (by first | omega | (simp; try omega)); have r4_0 := gc 0; have f4_0 := gf 0; have r4_0_1 := gc 1; have f4_0_1 := gf 1; have r4_0_2 := gc 2; have f4_0_2 := gf 2; clear gc gf; obtain ⟨l4_1, gc, gf⟩ := kp xb4 (w2.heap.size) (by first | omega | (simp; try omega)); have r4_1 := gc 0; have f4_1 := gf 0; have r4_1_1 := gc 1; have f4_1_1 := gf 1; have r4_1_2 := gc 2; have f4_1_2 := gf 2; clear gc gf)
        | (go_at_call 13; (with_reducible refine (kR1.out _ _ _ _ _ _ _ (by (repeat (first | exact ext_refl _ | assumption | refine ext_setCell ?_ (by simp; try omega) _ | refine ext_alloc ?_ _ | refine ext_drew ?_ | refine ext_drewN ?_ _ | refine ext_trans ?_ (Aft.use _) | refine ext_trans ?_ (by assumption)))) (hR.out.1.ext (by (repeat (first | exact ext_refl _ | assumption | refine ext_setCell ?_ (by simp; try omega) _ | refine ext_alloc ?_ _ | refine ext_drew ?_ | refine ext_drewN ?_ _ | refine ext_trans ?_ (Aft.use _) | refine ext_trans ?_ (by assumption))))) (hR.out.2.ext (by (repeat (first | exact ext_refl _ | assumption | refine ext_setCell ?_ (by simp; try omega) _ | refine ext_alloc ?_ _ | refine ext_drew ?_ | refine ext_drewN ?_ _ | refine ext_trans ?_ (Aft.use _) | refine ext_trans ?_ (by assumption)))))).mono ?_); rintro e w5 ⟨rfl, xb5⟩; obtain ⟨xc5, xf5, xl5, xz5⟩ := ext_use xb5; (try simp at xz5); obtain ⟨l5_0, gc, gf⟩ := kp xb5 (w.heap.size) (by first | omega | (simp; try omega)); have r5_0 := gc 0; have f5_0 := gf 0; have r5_0_1 := gc 1; have f5_0_1 := gf 1; have r5_0_2 := gc 2; have f5_0_2 := gf 2; clear gc gf; obtain ⟨l5_1, gc, gf⟩ := kp xb5 (w2.heap.size) (by first | omega | (simp; try omega)); have r5_1 := gc 0; have f5_1 := gf 0; have r5_1_1 := gc 1; have f5_1_1 := gf 1; have r5_1_2 := gc 2; have f5_1_2 := gf 2; clear gc gf)
        | (go_at_call 13; (with_reducible refine (kR2.out _ _ _ _ _ _ _ (by (repeat (first | exact ext_refl _ | assumption | refine ext_setCell ?_ (by simp; try omega) _ | refine ext_alloc ?_ _ | refine ext_drew ?_ | refine ext_drewN ?_ _ | refine ext_trans ?_ (Aft.use _) | refine ext_trans ?_ (by assumption)))) (hR.out.1.ext (by (repeat (first | exact ext_refl _ | assumption | refine ext_setCell ?_ (by simp; try omega) _ | refine ext_alloc ?_ _ | refine ext_drew ?_ | refine ext_drewN ?_ _ | refine ext_trans ?_ (Aft.use _) | refine ext_trans ?_ (by assumption))))) (hR.out.2.ext (by (repeat (first | exact ext_refl _ | assumption | refine ext_setCell ?_ (by simp; try omega) _ | refine ext_alloc ?_ _ | refine ext_drew ?_ | refine ext_drewN ?_ _ | refine ext_trans ?_ (Aft.use _) | refine ext_trans ?_ (by assumption)))))).mono ?_); rintro e w6 ⟨rfl, xb6⟩; obtain ⟨xc6, xf6, xl6, xz6⟩ := ext_use xb6; (try simp at xz6); obtain ⟨l6_0, gc, gf⟩ := kp xb6 (w.heap.size) (by first | omega | (simp; try omega)); have r6_0 := gc 0; have f6_0 := gf 0; have r6_0_1 := gc 1; have f6_0_1 := gf 1; have r6_0_2 := gc 2; have f6_0_2 := gf 2; clear gc gf; obtain ⟨l6_1, gc, gf⟩ := kp xb6 (w2.heap.size) (by first | omega | (simp; try omega)); have r6_1 := gc 0; have f6_1 := gf 0; have r6_1_1 := gc 1; have f6_1_1 := gf 1; have r6_1_2 := gc 2; have f6_1_2 := gf 2; clear gc gf)
        | (go_at_call 9; (with_reducible refine (KT.out _ (by (repeat (first | exact ext_refl _ | assumption | refine ext_setCell ?_ (by simp; try omega) _ | refine ext_alloc ?_ _ | refine ext_drew ?_ | refine ext_drewN ?_ _ | refine ext_trans ?_ (Aft.use _) | refine ext_trans ?_ (by assumption))))).mono ?_); rintro e w7 ⟨rfl, xb7⟩; obtain ⟨xc7, xf7, xl7, xz7⟩ := ext_use xb7; (try simp at xz7); obtain ⟨l7_0, gc, gf⟩ := kp xb7 (w.heap.size) (by first | omega | (simp; try omega)); have r7_0 := gc 0; have f7_0 := gf 0; have r7_0_1 := gc 1; have f7_0_1 := gf 1; have r7_0_2 := gc 2; have f7_0_2 := gf 2; clear gc gf; obtain ⟨l7_1, gc, gf⟩ := kp xb7 (w2.heap.size) (by first | omega | (simp; try omega)); have r7_1 := gc 0; have f7_1 := gf 0; have r7_1_1 := gc 1; have f7_1_1 := gf 1; have r7_1_2 := gc 2; have f7_1_2 := gf 2; clear gc gf)
       )
      refine bodyPost_ret (v := .bool true) ?h rfl ⟨rfl, ?_⟩
      case h => simp [results, Tryz.results6, go_sem]
      repeat (first | exact ext_refl _ | assumption | refine ext_setCell ?_ (by simp; try omega) _ | refine ext_alloc ?_ _ | refine ext_drew ?_ | refine ext_drewN ?_ _ | refine ext_trans ?_ (Aft.use _) | refine ext_trans ?_ (by assumption))
    · have KD := Lib.hid kD
      have KS := Lib.hid kS
      have KT := Lib.hid kT
      simp only [if_true, if_false, Bool.false_eq_true] at KD KS
      clear kD kS kT
      go_enter Tryz.func6, Tryz.ntmps6
      go_wp2_with (first
        | (go_at_call 8; (with_reducible refine (kA.out _ (by (repeat (first | exact ext_refl _ | assumption | refine ext_setCell ?_ (by simp; try omega) _ | refine ext_alloc ?_ _ | refine ext_drew ?_ | refine ext_drewN ?_ _ | refine ext_trans ?_ (Aft.use _) | refine ext_trans ?_ (by assumption))))).mono ?_); rintro e w1 ⟨rfl, xb1⟩; obtain ⟨xc1, xf1, xl1, xz1⟩ := ext_use xb1; (try simp at xz1); obtain ⟨l1_0, gc, gf⟩ := kp xb1 (w.heap.size) (by first | omega | (simp; try omega)); have r1_0 := gc 0; have f1_0 := gf 0; have r1_0_1 := gc 1; have f1_0_1 := gf 1; have r1_0_2 := gc 2; have f1_0_2 := gf 2; clear gc gf)
        | (go_at_call 32; (with_reducible refine (kC.out _).mono ?_); rintro e w1 ⟨rfl, xb1⟩; obtain ⟨xc1, xf1, xl1, xz1⟩ := ext_use xb1; (try simp at xz1); obtain ⟨l1_0, gc, gf⟩ := kp xb1 (w.heap.size) (by first | omega | (simp; try omega)); have r1_0 := gc 0; have f1_0 := gf 0; have r1_0_1 := gc 1; have f1_0_1 := gf 1; have r1_0_2 := gc 2; have f1_0_2 := gf 2; clear gc gf)
        | (go_at_call 33; (with_reducible refine (kQ.out _ (by (repeat (first | exact ext_refl _ | assumption | refine ext_setCell ?_ (by simp; try omega) _ | refine ext_alloc ?_ _ | refine ext_drew ?_ | refine ext_drewN ?_ _ | refine ext_trans ?_ (Aft.use _) | refine ext_trans ?_ (by assumption))))).mono ?_); rintro e w2 ⟨A, n, c, D, m, k, rfl, hR, xb2⟩; obtain ⟨xc2, xf2, xl2, xz2⟩ := ext_use xb2; (try simp at xz2); obtain ⟨l2_0, gc, gf⟩ := kp xb2 (w.heap.size) (by first | omega | (simp; try omega)); have r2_0 := gc 0; have f2_0 := gf 0; have r2_0_1 := gc 1; have f2_0_1 := gf 1; have r2_0_2 := gc 2; have f2_0_2 := gf 2; clear gc gf)
        | (go_at_call 28; (with_reducible refine (KD.out _ (by (repeat (first | exact ext_refl _ | assumption | refine ext_setCell ?_ (by simp; try omega) _ | refine ext_alloc ?_ _ | refine ext_drew ?_ | refine ext_drewN ?_ _ | refine ext_trans ?_ (Aft.use _) | refine ext_trans ?_ (by assumption))))).mono ?_); rintro e w3 ⟨rfl, xb3⟩; obtain ⟨xc3, xf3, xl3, xz3⟩ := ext_use xb3; (try simp at xz3); obtain ⟨l3_0, gc, gf⟩ := kp xb3 (w.heap.size) (by first | omega | (simp; try omega)); have r3_0 := gc 0; have f3_0 := gf 0; have r3_0_1 := gc 1; have f3_0_1 := gf 1; have r3_0_2 := gc 2; have f3_0_2 := gf 2; clear gc gf; obtain ⟨l3_1, gc, gf⟩ := kp xb3 (w2.heap.size) (by first | omega | (simp; try omega)); have r3_1 := gc 0; have f3_1 := gf 0; have r3_1_1 := gc 1; have f3_1_1 := gf 1; have r3_1_2 := gc 2; have f3_1_2 := gf 2; clear gc gf)
        | (go_at_call 29; (with_reducible refine (KS.out _ (by (repeat (first | exact ext_refl _ | assumption | refine ext_setCell ?_ (by simp; try omega) _ | refine ext_alloc ?_ _ | refine ext_drew ?_ | refine ext_drewN ?_ _ | refine ext_trans ?_ (Aft.use _) | refine ext_trans ?_ (by assumption))))).mono ?_); rintro e w4 ⟨rfl, xb4⟩; obtain ⟨xc4, xf4, xl4, xz4⟩ := ext_use xb4; (try simp at xz4); obtain ⟨l4_0, gc, gf⟩ := kp xb4 (w.heap.size) (by first | omega | (simp; try omega)); have r4_0 := gc 0; have f4_0 := gf 0; have r4_0_1 := gc 1; have f4_0_1 := gf 1; have r4_0_2 := gc 2; have f4_0_2 := gf 2; clear gc gf; obtain ⟨l4_1, gc, gf⟩ := kp xb4 (w2.heap.size) (by first | omega | (simp; try omega)); have r4_1 := gc 0; have f4_1 := gf 0; have r4_1_1 := gc 1; have f4_1_1 := gf 1; have r4_1_2 := gc 2; have f4_1_2 := gf 2; clear gc gf)
        | (go_at_call 13; (with_reducible refine (kR1.out _ _ _ _ _ _ _ (by (repeat (first | exact ext_refl _ | assumption | refine ext_setCell ?_ (by simp; try omega) _ | refine ext_alloc ?_ _ | refine ext_drew ?_ | refine ext_drewN ?_ _ | refine ext_trans ?_ (Aft.use _) | refine ext_trans ?_ (by assumption)))) (hR.out.1.ext (by (repeat (first | exact ext_refl _ | assumption | refine ext_setCell ?_ (by simp; try omega) _ | refine ext_alloc ?_ _ | refine ext_drew ?_ | refine ext_drewN ?_ _ | refine ext_trans ?_ (Aft.use _) | refine ext_trans ?_ (by assumption))))) (hR.out.2.ext (by (repeat (first | exact ext_refl _ | assumption | refine ext_setCell ?_ (by simp; try omega) _ | refine ext_alloc ?_ _ | refine ext_drew ?_ | refine ext_drewN ?_ _ | refine ext_trans ?_ (Aft.use _) | refine ext_trans ?_ (by assumption)))))).mono ?_); rintro e w5 ⟨rfl, xb5⟩; obtain ⟨xc5, xf5, xl5, xz5⟩ := ext_use xb5; (try simp at xz5); obtain ⟨l5_0, gc, gf⟩ := kp xb5 (w.heap.size) (by first | omega | (simp; try omega)); have r5_0 := gc 0; have f5_0 := gf 0; have r5_0_1 := gc 1; have f5_0_1 := gf 1; have r5_0_2 := gc 2; have f5_0_2 := gf 2; clear gc gf; obtain ⟨l5_1, gc, gf⟩ := kp xb5 (w2.heap.size) (by first | omega | (simp; try omega)); have r5_1 := gc 0; have f5_1 := gf 0; have r5_1_1 := gc 1; have f5_1_1 := gf 1; have r5_1_2 := gc 2; have f5_1_2 := gf 2; clear gc gf)
        | (go_at_call 13; (with_reducible refine (kR2.out _ _ _ _ _ _ _ (by (repeat (first | exact ext_refl _ | assumption | refine ext_setCell ?_ (by simp; try omega) _ | refine ext_alloc ?_ _ | refine ext_drew ?_ | refine ext_drewN ?_ _ | refine ext_trans ?_ (Aft.use _) | refine ext_trans ?_ (by assumption)))) (hR.out.1.ext (by (repeat (first | exact ext_refl _ | assumption | refine ext_setCell ?_ (by simp; try omega) _ | refine ext_alloc ?_ _ | refine ext_drew ?_ | refine ext_drewN ?_ _ | refine ext_trans ?_ (Aft.use _) | refine ext_trans ?_ (by assumption))))) (hR.out.2.ext (by (repeat (first | exact ext_refl _ | assumption | refine ext_setCell ?_ (by simp; try omega) _ | refine ext_alloc ?_ _ | refine ext_drew ?_ | refine ext_drewN ?_ _ | refine ext_trans ?_ (Aft.use _) | refine ext_trans ?_ (by assumption)))))).mono ?_); rintro e w6 ⟨rfl, xb6⟩; obtain ⟨xc6, xf6, xl6, xz6⟩ := ext_use xb6; (try simp at xz6); obtain ⟨l6_0, gc, gf⟩ := kp xb6 (w.heap.size) (by first | omega | (simp; try omega)); have r6_0 := gc 0; have f6_0 := gf 0; have r6_0_1 := gc 1; have f6_0_1 := gf 1; have r6_0_2 := gc 2; have f6_0_2 := gf 2; clear gc gf; obtain ⟨l6_1, gc, gf⟩ := kp xb6 (w2.heap.size) (by first | omega | (simp; try omega)); have r6_1 := gc 0; have f6_1 := gf 0; have r6_1_1 := gc 1; have f6_1_1 := gf 1; have r6_1_2 := gc 2; have f6_1_2 := gf 2; clear gc gf)
        | (go_at_call 9; (with_reducible refine (KT.out _ (by (repeat (first | exact ext_refl _ | assumption | refine ext_setCell ?_ (by simp; try omega) _ | refine ext_alloc ?_ _ | refine ext_drew ?_ | refine ext_drewN ?_ _ | refine ext_trans ?_ (Aft.use _) | refine ext_trans ?_ (by assumption))))).mono ?_); rintro e w7 ⟨rfl, xb7⟩; obtain ⟨xc7, xf7, xl7, xz7⟩ := ext_use xb7; (try simp at xz7); obtain ⟨l7_0, gc, gf⟩ := kp xb7 (w.heap.size) (by first | omega | (simp; try omega)); have r7_0 := gc 0; have f7_0 := gf 0; have r7_0_1 := gc 1; have f7_0_1 := gf 1; have r7_0_2 := gc 2; have f7_0_2 := gf 2; clear gc gf; obtain ⟨l7_1, gc, gf⟩ := kp xb7 (w2.heap.size) (by first | omega | (simp; try omega)); have r7_1 := gc 0; have f7_1 := gf 0; have r7_1_1 := gc 1; have f7_1_1 := gf 1; have r7_1_2 := gc 2; have f7_1_2 := gf 2; clear gc gf)
       )
      refine bodyPost_ret (v := .bool true) ?h rfl ⟨rfl, ?_⟩
      case h => simp [results, Tryz.results6, go_sem]
      repeat (first | exact ext_refl _ | assumption | refine ext_setCell ?_ (by simp; try omega) _ | refine ext_alloc ?_ _ | refine ext_drew ?_ | refine ext_drewN ?_ _ | refine ext_trans ?_ (Aft.use _) | refine ext_trans ?_ (by assumption))
    · have KD := Lib.hid kD
      have KS := Lib.hid kS
      have KT := Lib.hid kT
      simp only [if_true, if_false, Bool.false_eq_true] at KD KS
      clear kD kS kT
      go_enter Tryz.func6, Tryz.ntmps6
      go_wp2_with (first
        | (go_at_call 8; (with_reducible refine (kA.out _ (by (repeat (first | exact ext_refl _ | assumption | refine ext_setCell ?_ (by simp; try omega) _ | refine ext_alloc ?_ _ | refine ext_drew ?_ | refine ext_drewN ?_ _ | refine ext_trans ?_ (Aft.use _) | refine ext_trans ?_ (by assumption))))).mono ?_); rintro e w1 ⟨rfl, xb1⟩; obtain ⟨xc1, xf1, xl1, xz1⟩ := ext_use xb1; (try simp at xz1); obtain ⟨l1_0, gc, gf⟩ := kp xb1 (w.heap.size) (by first | omega | (simp; try omega)); have r1_0 := gc 0; have f1_0 := gf 0; have r1_0_1 := gc 1; have f1_0_1 := gf 1; have r1_0_2 := gc 2; have f1_0_2 := gf 2; clear gc gf)
        | (go_at_call 32; (with_reducible refine (kC.out _).mono ?_); rintro e w1 ⟨rfl, xb1⟩; obtain ⟨xc1, xf1, xl1, xz1⟩ := ext_use xb1; (try simp at xz1); obtain ⟨l1_0, gc, gf⟩ := kp xb1 (w.heap.size) (by first | omega | (simp; try omega)); have r1_0 := gc 0; have f1_0 := gf 0; have r1_0_1 := gc 1; have f1_0_1 := gf 1; have r1_0_2 := gc 2; have f1_0_2 := gf 2; clear gc gf)
        | (go_at_call 33; (with_reducible refine (kQ.out _ (by (repeat (first | exact ext_refl _ | assumption | refine ext_setCell ?_ (by simp; try omega) _ | refine ext_alloc ?_ _ | refine ext_drew ?_ | refine ext_drewN ?_ _ | refine ext_trans ?_ (Aft.use _) | refine ext_trans ?_ (by assumption))))).mono ?_); rintro e w2 ⟨A, n, c, D, m, k, rfl, hR, xb2⟩; obtain ⟨xc2, xf2, xl2, xz2⟩ := ext_use xb2; (try simp at xz2); obtain ⟨l2_0, gc, gf⟩ := kp xb2 (w.heap.size) (by first | omega | (simp; try omega)); have r2_0 := gc 0; have f2_0 := gf 0; have r2_0_1 := gc 1; have f2_0_1 := gf 1; have r2_0_2 := gc 2; have f2_0_2 := gf 2; clear gc gf)
        | (go_at_call 28; (with_reducible refine (KD.out _ (by (repeat (first | exact ext_refl _ | assumption | refine ext_setCell ?_ (by simp; try omega) _ | refine ext_alloc ?_ _ | refine ext_drew ?_ | refine ext_drewN ?_ _ | refine ext_trans ?_ (Aft.use _) | refine ext_trans ?_ (by assumption))))).mono ?_); rintro e w3 ⟨rfl, xb3⟩; obtain ⟨xc3, xf3, xl3, xz3⟩ := ext_use xb3; (try simp at xz3); obtain ⟨l3_0, gc, gf⟩ := kp xb3 (w.heap.size) (by first | omega | (simp; try omega)); have r3_0 := gc 0; have f3_0 := gf 0; have r3_0_1 := gc 1; have f3_0_1 := gf 1; have r3_0_2 := gc 2; have f3_0_2 := gf 2; clear gc gf; obtain ⟨l3_1, gc, gf⟩ := kp xb3 (w2.heap.size) (by first | omega | (simp; try omega)); have r3_1 := gc 0; have f3_1 := gf 0; have r3_1_1 := gc 1; have f3_1_1 := gf 1; have r3_1_2 := gc 2; have f3_1_2 := gf 2; clear gc gf)
        | (go_at_call 29; (with_reducible refine (KS.out _ (by (repeat (first | exact ext_refl _ | assumption | refine ext_setCell ?_ (by simp; try omega) _ | refine ext_alloc ?_ _ | refine ext_drew ?_ | refine ext_drewN ?_ _ | refine ext_trans ?_ (Aft.use _) | refine ext_trans ?_ (by assumption))))).mono ?_); rintro e w4 ⟨rfl, xb4⟩; obtain ⟨xc4, xf4, xl4, xz4⟩ := ext_use xb4; (try simp at xz4); obtain ⟨l4_0, gc, gf⟩ := kp xb4 (w.heap.size) (by first | omega | (simp; try omega)); have r4_0 := gc 0; have f4_0 := gf 0; have r4_0_1 := gc 1; have f4_0_1 := gf 1; have r4_0_2 := gc 2; have f4_0_2 := gf 2; clear gc gf; obtain ⟨l4_1, gc, gf⟩ := kp xb4 (w2.heap.size) (by first | omega | (simp; try omega)); have r4_1 := gc 0; have f4_1 := gf 0; have r4_1_1 := gc 1; have f4_1_1 := gf 1; have r4_1_2 := gc 2; have f4_1_2 := gf 2; clear gc gf)
        | (go_at_call 13; (with_reducible refine (kR1.out _ _ _ _ _ _ _ (by (repeat (first | exact ext_refl _ | assumption | refine ext_setCell ?_ (by simp; try omega) _ | refine ext_alloc ?_ _ | refine ext_drew ?_ | refine ext_drewN ?_ _ | refine ext_trans ?_ (Aft.use _) | refine ext_trans ?_ (by assumption)))) (hR.out.1.ext (by (repeat (first | exact ext_refl _ | assumption | refine ext_setCell ?_ (by simp; try omega) _ | refine ext_alloc ?_ _ | refine ext_drew ?_ | refine ext_drewN ?_ _ | refine ext_trans ?_ (Aft.use _) | refine ext_trans ?_ (by assumption))))) (hR.out.2.ext (by (repeat (first | exact ext_refl _ | assumption | refine ext_setCell ?_ (by simp; try omega) _ | refine ext_alloc ?_ _ | refine ext_drew ?_ | refine ext_drewN ?_ _ | refine ext_trans ?_ (Aft.use _) | refine ext_trans ?_ (by assumption)))))).mono ?_); rintro e w5 ⟨rfl, xb5⟩; obtain ⟨xc5, xf5, xl5, xz5⟩ := ext_use xb5; (try simp at xz5); obtain ⟨l5_0, gc, gf⟩ := kp xb5 (w.heap.size) (by first | omega | (simp; try omega)); have r5_0 := gc 0; have f5_0 := gf 0; have r5_0_1 := gc 1; have f5_0_1 := gf 1; have r5_0_2 := gc 2; have f5_0_2 := gf 2; clear gc gf; obtain ⟨l5_1, gc, gf⟩ := kp xb5 (w2.heap.size) (by first | omega | (simp; try omega)); have r5_1 := gc 0; have f5_1 := gf 0; have r5_1_1 := gc 1; have f5_1_1 := gf 1; have r5_1_2 := gc 2; have f5_1_2 := gf 2; clear gc gf)
        | (go_at_call 13; (with_reducible refine (kR2.out _ _ _ _ _ _ _ (by (repeat (first | exact ext_refl _ | assumption | refine ext_setCell ?_ (by simp; try omega) _ | refine ext_alloc ?_ _ | refine ext_drew ?_ | refine ext_drewN ?_ _ | refine ext_trans ?_ (Aft.use _) | refine ext_trans ?_ (by assumption)))) (hR.out.1.ext (by (repeat (first | exact ext_refl _ | assumption | refine ext_setCell ?_ (by simp; try omega) _ | refine ext_alloc ?_ _ | refine ext_drew ?_ | refine ext_drewN ?_ _ | refine ext_trans ?_ (Aft.use _) | refine ext_trans ?_ (by assumption))))) (hR.out.2.ext (by (repeat (first | exact ext_refl _ | assumption | refine ext_setCell ?_ (by simp; try omega) _ | refine ext_alloc ?_ _ | refine ext_drew ?_ | refine ext_drewN ?_ _ | refine ext_trans ?_ (Aft.use _) | refine ext_trans ?_ (by assumption)))))).mono ?_); rintro e w6 ⟨rfl, xb6⟩; obtain ⟨xc6, xf6, xl6, xz6⟩ := ext_use xb6; (try simp at xz6); obtain ⟨l6_0, gc, gf⟩ := kp xb6 (w.heap.size) (by first | omega | (simp; try omega)); have r6_0 := gc 0; have f6_0 := gf 0; have r6_0_1 := gc 1; have f6_0_1 := gf 1; have r6_0_2 := gc 2; have f6_0_2 := gf 2; clear gc gf; obtain ⟨l6_1, gc, gf⟩ := kp xb6 (w2.heap.size) (by first | omega | (simp; try omega)); have r6_1 := gc 0; have f6_1 := gf 0; have r6_1_1 := gc 1; have f6_1_1 := gf 1; have r6_1_2 := gc 2; have f6_1_2 := gf 2; clear gc gf)
        | (go_at_call 9; (with_reducible refine (KT.out _ (by (repeat (first | exact ext_refl _ | assumption | refine ext_setCell ?_ (by simp; try omega) _ | refine ext_alloc ?_ _ | refine ext_drew ?_ | refine ext_drewN ?_ _ | refine ext_trans ?_ (Aft.use _) | refine ext_trans ?_ (by assumption))))).mono ?_); rintro e w7 ⟨rfl, xb7⟩; obtain ⟨xc7, xf7, xl7, xz7⟩ := ext_use xb7; (try simp at xz7); obtain ⟨l7_0, gc, gf⟩ := kp xb7 (w.heap.size) (by first | omega | (simp; try omega)); have r7_0 := gc 0; have f7_0 := gf 0; have r7_0_1 := gc 1; have f7_0_1 := gf 1; have r7_0_2 := gc 2; have f7_0_2 := gf 2; clear gc gf; obtain ⟨l7_1, gc, gf⟩ := kp xb7 (w2.heap.size) (by first | omega | (simp; try omega)); have r7_1 := gc 0; have f7_1 := gf 0; have r7_1_1 := gc 1; have f7_1_1 := gf 1; have r7_1_2 := gc 2; have f7_1_2 := gf 2; clear gc gf)
       )
      refine bodyPost_ret (v := .bool true) ?h rfl ⟨rfl, ?_⟩
      case h => simp [results, Tryz.results6, go_sem]
      repeat (first | exact ext_refl _ | assumption | refine ext_setCell ?_ (by simp; try omega) _ | refine ext_alloc ?_ _ | refine ext_drew ?_ | refine ext_drewN ?_ _ | refine ext_trans ?_ (Aft.use _) | refine ext_trans ?_ (by assumption))
    · have KD := Lib.hid kD
      have KS := Lib.hid kS
      have KT := Lib.hid kT
      simp only [if_true, if_false, Bool.false_eq_true] at KD KS
      clear kD kS kT
      go_enter Tryz.func6, Tryz.ntmps6
      go_wp2_with (first
        | (go_at_call 8; (with_reducible refine (kA.out _ (by (repeat (first | exact ext_refl _ | assumption | refine ext_setCell ?_ (by simp; try omega) _ | refine ext_alloc ?_ _ | refine ext_drew ?_ | refine ext_drewN ?_ _ | refine ext_trans ?_ (Aft.use _) | refine ext_trans ?_ (by assumption))))).mono ?_); rintro e w1 ⟨rfl, xb1⟩; obtain ⟨xc1, xf1, xl1, xz1⟩ := ext_use xb1; (try simp at xz1); obtain ⟨l1_0, gc, gf⟩ := kp xb1 (w.heap.size) (by first | omega | (simp; try omega)); have r1_0 := gc 0; have f1_0 := gf 0; have r1_0_1 := gc 1; have f1_0_1 := gf 1; have r1_0_2 := gc 2; have f1_0_2 := gf 2; clear gc gf)
        | (go_at_call 32; (with_reducible refine (kC.out _).mono ?_); rintro e w1 ⟨rfl, xb1⟩; obtain ⟨xc1, xf1, xl1, xz1⟩ := ext_use xb1; (try simp at xz1); obtain ⟨l1_0, gc, gf⟩ := kp xb1 (w.heap.size) (by first | omega | (simp; try omega)); have r1_0 := gc 0; have f1_0 := gf 0; have r1_0_1 := gc 1; have f1_0_1 := gf 1; have r1_0_2 := gc 2; have f1_0_2 := gf 2; clear gc gf)
        | (go_at_call 33; (with_reducible refine (kQ.out _ (by (repeat (first | exact ext_refl _ | assumption | refine ext_setCell ?_ (by simp; try omega) _ | refine ext_alloc ?_ _ | refine ext_drew ?_ | refine ext_drewN ?_ _ | refine ext_trans ?_ (Aft.use _) | refine ext_trans ?_ (by assumption))))).mono ?_); rintro e w2 ⟨A, n, c, D, m, k, rfl, hR, xb2⟩; obtain ⟨xc2, xf2, xl2, xz2⟩ := ext_use xb2; (try simp at xz2); obtain ⟨l2_0, gc, gf⟩ := kp xb2 (w.heap.size) (by first | omega | (simp; try omega)); have r2_0 := gc 0; have f2_0 := gf 0; have r2_0_1 := gc 1; have f2_0_1 := gf 1; have r2_0_2 := gc 2; have f2_0_2 := gf 2; clear gc gf)
        | (go_at_call 28; (with_reducible refine (KD.out _ (by (repeat (first | exact ext_refl _ | assumption | refine ext_setCell ?_ (by simp; try omega) _ | refine ext_alloc ?_ _ | refine ext_drew ?_ | refine ext_drewN ?_ _ | refine ext_trans ?_ (Aft.use _) | refine ext_trans ?_ (by assumption))))).mono ?_); rintro e w3 ⟨rfl, xb3⟩; obtain ⟨xc3, xf3, xl3, xz3⟩ := ext_use xb3; (try simp at xz3); obtain ⟨l3_0, gc, gf⟩ := kp xb3 (w.heap.size) (by first | omega | (simp; try omega)); have r3_0 := gc 0; have f3_0 := gf 0; have r3_0_1 := gc 1; have f3_0_1 := gf 1; have r3_0_2 := gc 2; have f3_0_2 := gf 2; clear gc gf; obtain ⟨l3_1, gc, gf⟩ := kp xb3 (w2.heap.size) (by first | omega | (simp; try omega)); have r3_1 := gc 0; have f3_1 := gf 0; have r3_1_1 := gc 1; have f3_1_1 := gf 1; have r3_1_2 := gc 2; have f3_1_2 := gf 2; clear gc gf)
        | (go_at_call 29; (with_reducible refine (KS.out _ (by (repeat (first | exact ext_refl _ | assumption | refine ext_setCell ?_ (by simp; try omega) _ | refine ext_alloc ?_ _ | refine ext_drew ?_ | refine ext_drewN ?_ _ | refine ext_trans ?_ (Aft.use _) | refine ext_trans ?_ (by assumption))))).mono ?_); rintro e w4 ⟨rfl, xb4⟩; obtain ⟨xc4, xf4, xl4, xz4⟩ := ext_use xb4; (try simp at xz4); obtain ⟨l4_0, gc, gf⟩ := kp xb4 (w.heap.size) (by first | omega | (simp; try omega)); have r4_0 := gc 0; have f4_0 := gf 0; have r4_0_1 := gc 1; have f4_0_1 := gf 1; have r4_0_2 := gc 2; have f4_0_2 := gf 2; clear gc gf; obtain ⟨l4_1, gc, gf⟩ := kp xb4 (w2.heap.size) (by first | omega | (simp; try omega)); have r4_1 := gc 0; have f4_1 := gf 0; have r4_1_1 := gc 1; have f4_1_1 := gf 1; have r4_1_2 := gc 2; have f4_1_2 := gf 2; clear gc gf)
        | (go_at_call 13; (with_reducible refine (kR1.out _ _ _ _ _ _ _ (by (repeat (first | exact ext_refl _ | assumption | refine ext_setCell ?_ (by simp; try omega) _ | refine ext_alloc ?_ _ | refine ext_drew ?_ | refine ext_drewN ?_ _ | refine ext_trans ?_ (Aft.use _) | refine ext_trans ?_ (by assumption)))) (hR.out.1.ext (by (repeat (first | exact ext_refl _ | assumption | refine ext_setCell ?_ (by simp; try omega) _ | refine ext_alloc ?_ _ | refine ext_drew ?_ | refine ext_drewN ?_ _ | refine ext_trans ?_ (Aft.use _) | refine ext_trans ?_ (by assumption))))) (hR.out.2.ext (by (repeat (first | exact ext_refl _ | assumption | refine ext_setCell ?_ (by simp; try omega) _ | refine ext_alloc ?_ _ | refine ext_drew ?_ | refine ext_drewN ?_ _ | refine ext_trans ?_ (Aft.use _) | refine ext_trans ?_ (by assumption)))))).mono ?_); rintro e w5 ⟨rfl, xb5⟩; obtain ⟨xc5, xf5, xl5, xz5⟩ := ext_use xb5; (try simp at xz5); obtain ⟨l5_0, gc, gf⟩ := kp xb5 (w.heap.size) (by first | omega | (simp; try omega)); have r5_0 := gc 0; have f5_0 := gf 0; have r5_0_1 := gc 1; have f5_0_1 := gf 1; have r5_0_2 := gc 2; have f5_0_2 := gf 2; clear gc gf; obtain ⟨l5_1, gc, gf⟩ := kp xb5 (w2.heap.size) (by first | omega | (simp; try omega)); have r5_1 := gc 0; have f5_1 := gf 0; have r5_1_1 := gc 1; have f5_1_1 := gf 1; have r5_1_2 := gc 2; have f5_1_2 := gf 2; clear gc gf)
        | (go_at_call 13; (with_reducible refine (kR2.out _ _ _ _ _ _ _ (by (repeat (first | exact ext_refl _ | assumption | refine ext_setCell ?_ (by simp; try omega) _ | refine ext_alloc ?_ _ | refine ext_drew ?_ | refine ext_drewN ?_ _ | refine ext_trans ?_ (Aft.use _) | refine ext_trans ?_ (by assumption)))) (hR.out.1.ext (by (repeat (first | exact ext_refl _ | assumption | refine ext_setCell ?_ (by simp; try omega) _ | refine ext_alloc ?_ _ | refine ext_drew ?_ | refine ext_drewN ?_ _ | refine ext_trans ?_ (Aft.use _) | refine ext_trans ?_ (by assumption))))) (hR.out.2.ext (by (repeat (first | exact ext_refl _ | assumption | refine ext_setCell ?_ (by simp; try omega) _ | refine ext_alloc ?_ _ | refine ext_drew ?_ | refine ext_drewN ?_ _ | refine ext_trans ?_ (Aft.use _) | refine ext_trans ?_ (by assumption)))))).mono ?_); rintro e w6 ⟨rfl, xb6⟩; obtain ⟨xc6, xf6, xl6, xz6⟩ := ext_use xb6; (try simp at xz6); obtain ⟨l6_0, gc, gf⟩ := kp xb6 (w.heap.size) (by first | omega | (simp; try omega)); have r6_0 := gc 0; have f6_0 := gf 0; have r6_0_1 := gc 1; have f6_0_1 := gf 1; have r6_0_2 := gc 2; have f6_0_2 := gf 2; clear gc gf; obtain ⟨l6_1, gc, gf⟩ := kp xb6 (w2.heap.size) (by first | omega | (simp; try omega)); have r6_1 := gc 0; have f6_1 := gf 0; have r6_1_1 := gc 1; have f6_1_1 := gf 1; have r6_1_2 := gc 2; have f6_1_2 := gf 2; clear gc gf)
        | (go_at_call 9; (with_reducible refine (KT.out _ (by (repeat (first | exact ext_refl _ | assumption | refine ext_setCell ?_ (by simp; try omega) _ | refine ext_alloc ?_ _ | refine ext_drew ?_ | refine ext_drewN ?_ _ | refine ext_trans ?_ (Aft.use _) | refine ext_trans ?_ (by assumption))))).mono ?_); rintro e w7 ⟨rfl, xb7⟩; obtain ⟨xc7, xf7, xl7, xz7⟩ := ext_use xb7; (try simp at xz7); obtain ⟨l7_0, gc, gf⟩ := kp xb7 (w.heap.size) (by first | omega | (simp; try omega)); have r7_0 := gc 0; have f7_0 := gf 0; have r7_0_1 := gc 1; have f7_0_1 := gf 1; have r7_0_2 := gc 2; have f7_0_2 := gf 2; clear gc gf; obtain ⟨l7_1, gc, gf⟩ := kp xb7 (w2.heap.size) (by first | omega | (simp; try omega)); have r7_1 := gc 0; have f7_1 := gf 0; have r7_1_1 := gc 1; have f7_1_1 := gf 1; have r7_1_2 := gc 2; have f7_1_2 := gf 2; clear gc gf)
       )
      refine bodyPost_ret (v := .bool true) ?h rfl ⟨rfl, ?_⟩
      case h => simp [results, Tryz.results6, go_sem]
      repeat (first | exact ext_refl _ | assumption | refine ext_setCell ?_ (by simp; try omega) _ | refine ext_alloc ?_ _ | refine ext_drew ?_ | refine ext_drewN ?_ _ | refine ext_trans ?_ (Aft.use _) | refine ext_trans ?_ (by assumption))
  · have hne : (dcE ⟨x0, l, x2⟩ != 0) = true := by simpa using c4
    have hne2 : (dcE ⟨x0, l, x2⟩ == 0) = false := by simpa using c4
    clear hQ hL
    go_enter Tryz.func6, Tryz.ntmps6
    go_wp2_with (first
      | (go_at_call 8; (with_reducible refine (kA.out _ (by (repeat (first | exact ext_refl _ | assumption | refine ext_setCell ?_ (by simp; try omega) _ | refine ext_alloc ?_ _ | refine ext_drew ?_ | refine ext_drewN ?_ _ | refine ext_trans ?_ (Aft.use _) | refine ext_trans ?_ (by assumption))))).mono ?_); rintro e w1 ⟨rfl, xb1⟩; obtain ⟨xc1, xf1, xl1, xz1⟩ := ext_use xb1; (try simp at xz1); obtain ⟨l1_0, gc, gf⟩ := kp xb1 (w.heap.size) (by first | omega | (simp; try omega)); have r1_0 := gc 0; have f1_0 := gf 0; have r1_0_1 := gc 1; have f1_0_1 := gf 1; have r1_0_2 := gc 2; have f1_0_2 := gf 2; clear gc gf)
      | (go_at_call 32; (with_reducible refine (kC.out _).mono ?_); rintro e w1 ⟨rfl, xb1⟩; obtain ⟨xc1, xf1, xl1, xz1⟩ := ext_use xb1; (try simp at xz1); obtain ⟨l1_0, gc, gf⟩ := kp xb1 (w.heap.size) (by first | omega | (simp; try omega)); have r1_0 := gc 0; have f1_0 := gf 0; have r1_0_1 := gc 1; have f1_0_1 := gf 1; have r1_0_2 := gc 2; have f1_0_2 := gf 2; clear gc gf)
     )
    refine bodyPost_ret (v := .bool true) ?h rfl ⟨rfl, ?_⟩
    case h => simp [results, Tryz.results6, go_sem]
    repeat (first | exact ext_refl _ | assumption | refine ext_setCell ?_ (by simp; try omega) _ | refine ext_alloc ?_ _ | refine ext_drew ?_ | refine ext_drewN ?_ _ | refine ext_trans ?_ (Aft.use _) | refine ext_trans ?_ (by assumption))
end Go.Proofs.YtkhkoeibpkglkaaGreatDoor
end
