/- Lemmas of this proof, laid together: DbC, RatQ, RatS. -/
import Derived.Test.YtiapoflkeliljaaGreatDoorMg25
import Derived.Test.YtiapoflkeliljaaGreatDoorMg26
import Derived.Deep.DeepCutAuto
import Derived.Deep.RegionWith
import Derived.Deep.LoopGhost
set_option linter.unusedSimpArgs false
set_option linter.unusedVariables false
section
/- The program's decimals as fractions, as long as they may be. -/
namespace Go.Proofs.YtiapoflkeliljaaGreatDoor
open Go.RowKit
attribute [local go_sem] bs_size bs_extract bs_get bs_append bs_toList const_get
attribute [local go_sem] sz2 sz3 sz4 sz5 sz6 sz7 sz8
set_option maxHeartbeats 4000000
set_option maxRecDepth 100000
attribute [local irreducible] Calls
attribute [local go_sem] D2.Oper.detAt D2.detUpon D2.relUpon
theorem dval_room {l : List UInt8} (hd : digsB l = true) (hl : l.length ≤ 65536) : (lim (dval l)).length ≤ 16384 := by
  obtain ⟨N, hN⟩ : ∃ N : Nat, N = 65536 := ⟨_, rfl⟩
  exact lim_fits (n := N) (Nat.le_of_lt (Nat.lt_of_lt_of_le (dval_lt l hd) (Nat.pow_le_pow_right (by decide) (by omega)))) (by omega) (by decide)
theorem dratio_negW (neg : Bool) (l : List UInt8) (E : Nat) (hE1 : 1 ≤ E) (hE2 : E ≤ 4000) (hl : l.length ≤ 65536) (hok : dcE ⟨neg, l, -(E : Int)⟩ = 0) (hdg : digsB l = true) (w : World) (hT : Tz w) :
    Calls Tryz.prog 57 #[dcV ⟨neg, l, -(E : Int)⟩] w (TPost w (sgn neg (dval l / Nat.gcd (dval l) (10 ^ E) : Nat)) (denOf (lowD (dval l) (10 ^ E)))) := by
  have HT := Lib.hid hT
  have hnl : (lim (dval l)).length ≤ 16384 := dval_room hdg hl
  have hx := fun w => (pnumber_any l hdg (by omega) w).mono (fun e w' h => natPostL hnl h)
  have hp : ∀ w, Calls Tryz.prog 134 #[.int .u32 10, .int .i64 (E : Int)] w (NatPostL w (10 ^ E) 4001) := fun w => (npow_pos 10 E (by omega) (by omega) hE1 (by omega) (Nat.le_trans (ten_len E (by omega)) (by omega)) w).mono (fun e w' h => natPostL (ten_len E (by omega)) h)
  have hc := fun w => check_any' ⟨neg, l, -(E : Int)⟩ (by simp; omega) w
  rw [hok] at hc
  have h10 : 10 ^ E ≠ 0 := by have := Nat.pow_pos (n := E) (show 0 < 10 by decide); omega
  generalize dval l = X at hx hnl ⊢
  generalize 10 ^ E = Y at hp h10 ⊢
  clear hT hok hdg
  have hmax : max (-(E : Int)) (E : Int) = (E : Int) := by omega
  have hlt : -(E : Int) < 0 := by omega
  go_enter Tryz.func57, Tryz.ntmps57
  go_wp2_with (first
    | (go_at_call 132; (with_reducible refine (hc _).mono ?_); rintro e w1 ⟨rfl, xb1⟩; obtain ⟨xc1, xf1, xl1, xz1⟩ := ext_use xb1; (try simp at xz1); obtain ⟨l1_0, gc, gf⟩ := kp xb1 (w.heap.size) (by first | omega | (simp; try omega)); have r1_0 := gc 0; have f1_0 := gf 0; have r1_0_1 := gc 1; have f1_0_1 := gf 1; have r1_0_2 := gc 2; have f1_0_2 := gf 2; clear gc gf; obtain ⟨l1_1, gc, gf⟩ := kp xb1 (w.heap.size + 1) (by first | omega | (simp; try omega)); have r1_1 := gc 0; have f1_1 := gf 0; have r1_1_1 := gc 1; have f1_1_1 := gf 1; have r1_1_2 := gc 2; have f1_1_2 := gf 2; clear gc gf)
    | (go_at_call 133; (with_reducible refine (hx _).mono ?_); rintro e w2 ⟨A, k, ⟨rfl, hk⟩, hX, xb2⟩; obtain ⟨xc2, xf2, xl2, xz2⟩ := ext_use xb2; (try simp at xz2); obtain ⟨l2_0, gc, gf⟩ := kp xb2 (w.heap.size) (by first | omega | (simp; try omega)); have r2_0 := gc 0; have f2_0 := gf 0; have r2_0_1 := gc 1; have f2_0_1 := gf 1; have r2_0_2 := gc 2; have f2_0_2 := gf 2; clear gc gf; obtain ⟨l2_1, gc, gf⟩ := kp xb2 (w.heap.size + 1) (by first | omega | (simp; try omega)); have r2_1 := gc 0; have f2_1 := gf 0; have r2_1_1 := gc 1; have f2_1_1 := gf 1; have r2_1_2 := gc 2; have f2_1_2 := gf 2; clear gc gf)
    | (go_at_call 134; (with_reducible refine (hp _).mono ?_); rintro e w3 ⟨B, j, ⟨rfl, hj⟩, hY, xb3⟩; obtain ⟨xc3, xf3, xl3, xz3⟩ := ext_use xb3; (try simp at xz3); obtain ⟨l3_0, gc, gf⟩ := kp xb3 (w.heap.size) (by first | omega | (simp; try omega)); have r3_0 := gc 0; have f3_0 := gf 0; have r3_0_1 := gc 1; have f3_0_1 := gf 1; have r3_0_2 := gc 2; have f3_0_2 := gf 2; clear gc gf; obtain ⟨l3_1, gc, gf⟩ := kp xb3 (w.heap.size + 1) (by first | omega | (simp; try omega)); have r3_1 := gc 0; have f3_1 := gf 0; have r3_1_1 := gc 1; have f3_1_1 := gf 1; have r3_1_2 := gc 2; have f3_1_2 := gf 2; clear gc gf; obtain ⟨l3_2, gc, gf⟩ := kp xb3 (w2.heap.size) (by first | omega | (simp; try omega)); have r3_2 := gc 0; have f3_2 := gf 0; clear gc gf)
    | (go_at_call 35; (with_reducible refine (ra_make neg A k k X B j j Y h10 (by omega) (by omega) _ (HT.out.ext (by (repeat (first | exact ext_refl _ | assumption | refine ext_setCell ?_ (by simp; try omega) _ | refine ext_alloc ?_ _ | refine ext_drew ?_ | refine ext_drewN ?_ _ | refine ext_trans ?_ (Aft.use _) | refine ext_trans ?_ (by assumption))))) (hX.out.1.ext (by (repeat (first | exact ext_refl _ | assumption | refine ext_setCell ?_ (by simp; try omega) _ | refine ext_alloc ?_ _ | refine ext_drew ?_ | refine ext_drewN ?_ _ | refine ext_trans ?_ (Aft.use _) | refine ext_trans ?_ (by assumption))))) (hY.out.1.ext (by (repeat (first | exact ext_refl _ | assumption | refine ext_setCell ?_ (by simp; try omega) _ | refine ext_alloc ?_ _ | refine ext_drew ?_ | refine ext_drewN ?_ _ | refine ext_trans ?_ (Aft.use _) | refine ext_trans ?_ (by assumption)))))).mono ?_); rintro e w4 ⟨C, n, c, D, m, d, rfl, hZ, xb4⟩; obtain ⟨xc4, xf4, xl4, xz4⟩ := ext_use xb4; (try simp at xz4); obtain ⟨l4_0, gc, gf⟩ := kp xb4 (w.heap.size) (by first | omega | (simp; try omega)); have r4_0 := gc 0; have f4_0 := gf 0; have r4_0_1 := gc 1; have f4_0_1 := gf 1; have r4_0_2 := gc 2; have f4_0_2 := gf 2; clear gc gf; obtain ⟨l4_1, gc, gf⟩ := kp xb4 (w.heap.size + 1) (by first | omega | (simp; try omega)); have r4_1 := gc 0; have f4_1 := gf 0; have r4_1_1 := gc 1; have f4_1_1 := gf 1; have r4_1_2 := gc 2; have f4_1_2 := gf 2; clear gc gf)
   )
  have n5 : ∀ x, C = some x → w.heap.size + 1 < x.block := fun x hx => by have := hZ.out.2.1 x hx; simp at this; omega
  have n6 : ∀ x, D = some x → w.heap.size + 1 < x.block := fun x hx => by have := hZ.out.2.2.2 x hx; simp at this; omega
  have z0 : w4.cell? ⟨w.heap.size + 1, 0, none⟩ = some (.bool false) := by simp [go_sem, *]
  have z1 : w4.cell? ⟨w.heap.size + 1, 1, none⟩ = some (.slice none 0 0) := by simp [go_sem, *]
  have z2 : w4.cell? ⟨w.heap.size + 1, 2, none⟩ = some (.slice none 0 0) := by simp [go_sem, *]
  obtain ⟨q0, q1, q2⟩ := set3 (b := w.heap.size + 1) z0 z1 z2 (.bool (decide (sgn neg (X / X.gcd Y : Nat) < 0))) (.slice C n c) (.slice D m d)
  have hEE : Ext w w4 := by (repeat (first | exact ext_refl _ | assumption | refine ext_setCell ?_ (by simp; try omega) _ | refine ext_alloc ?_ _ | refine ext_drew ?_ | refine ext_drewN ?_ _ | refine ext_trans ?_ (Aft.use _) | refine ext_trans ?_ (by assumption)))
  refine bodyPost_ret (v := .tuple #[ratV (decide (sgn neg ↑(X / X.gcd Y) < 0)) C n c D m d, .int .i64 0]) ?h rfl ⟨C, n, c, D, m, d, rfl, ⟨hZ.out.1.set3 n5 _ _ _, fun x hx => Nat.le_of_lt (by have := n5 x hx; omega), hZ.out.2.2.1.set3 n6 _ _ _, fun x hx => Nat.le_of_lt (by have := n6 x hx; omega)⟩, ext_set3 hEE (by omega) _ _ _⟩
  case h => simp [results, Tryz.results57, go_sem, q0, q1, q2]
theorem dratio_posW (neg : Bool) (l : List UInt8) (E : Nat) (hE2 : E ≤ 524288) (hl : l.length ≤ 65536) (hv0 : dval l ≠ 0 ∨ E = 0) (hml : (lim (dval l * 10 ^ E)).length ≤ 16384) (hok : dcE ⟨neg, l, (E : Int)⟩ = 0) (hdg : digsB l = true) (w : World) (hT : Tz w) :
    Calls Tryz.prog 57 #[dcV ⟨neg, l, (E : Int)⟩] w (TPost w (sgn neg (dval l * 10 ^ E : Nat)) 1) := by
  have HT := Lib.hid hT
  have hnl : (lim (dval l)).length ≤ 16384 := dval_room hdg hl
  have hlp : (lim (10 ^ E)).length ≤ 16384 := by
    rcases hv0 with h | h
    · exact Nat.le_trans (lim_mono (Nat.le_mul_of_pos_left _ (Nat.pos_of_ne_zero h))) hml
    · subst h; exact Nat.le_trans (ten_len 0 (by omega)) (by decide)
  have h10 : 10 ^ E ≠ 0 := by have := Nat.pow_pos (n := E) (show 0 < 10 by decide); omega
  have hsum : (lim (dval l)).length + (lim (10 ^ E)).length ≤ 16385 := by
    rcases hv0 with h | h
    · exact Nat.le_trans (mul_parts h h10) (by omega)
    · have e : (lim (10 ^ E)).length = 1 := by rw [h]; kernel_rfl
      omega
  clear hv0
  have hx := fun w => (pnumber_any l hdg (by omega) w).mono (fun e w' h => natPostL hnl h)
  have hp : ∀ w, Calls Tryz.prog 134 #[.int .u32 10, .int .i64 (E : Int)] w (NatPostL w (10 ^ E) 16384) := fun w => by
    by_cases h : E = 0
    · subst h
      exact (npow_zero 10 w).mono (fun e w' h => natPostL hlp h)
    · exact (npow_wide 10 E (by omega) (by omega) (by omega) (by omega) hlp w).mono (fun e w' h => natPostL hlp h)
  have hc := fun w => check_any' ⟨neg, l, (E : Int)⟩ (by simp; omega) w
  rw [hok] at hc
  generalize dval l = X at hx hnl hml hsum ⊢
  generalize 10 ^ E = Y at hp hlp hml hsum h10 ⊢
  clear hT hok hdg
  have kM : ∀ A k B j w', Rd w' A k k (lim X) → Rd w' B j j (lim Y) → Calls Tryz.prog 135 #[natV A k k, natV B j j] w' (NatPostL w' (X * Y) 16384) := fun A k B j w' h1 h2 => by
    have e1 := h1.len
    have e2 := h2.len
    exact (pmul_any A B k k j j X Y w' h1 h2 (by omega) (by omega) (by omega) (by omega)).mono (fun e w'' h => natPostL hml h)
  have kR : ∀ A k B j w', Ext w w' → Rd w' A k k (lim (X * Y)) → Rd w' B j j (lim 1) → Calls Tryz.prog 35 #[.bool neg, natV A k k, natV B j j] w' (TPost w' (sgn neg (X * Y : Nat)) 1) := fun A k B j w' he h1 h2 => by
    have e1 := h1.len
    have e2 := h2.len
    have e3 : (lim 1).length = 1 := by kernel_rfl
    have h := ra_make neg A k k (X * Y) B j j 1 (by decide) (by omega) (by omega) w' (HT.out.ext he) h1 h2
    rw [Nat.gcd_one_right, Nat.div_one] at h
    have e : denOf (lowD (X * Y) 1) = 1 := by unfold lowD; rw [Nat.gcd_one_right, Nat.div_one]; split <;> rfl
    rwa [e] at h
  have hmax : max (E : Int) (-(E : Int)) = (E : Int) := by omega
  have hlt : decide ((E : Int) < 0) = false := decide_eq_false (by omega)
  clear hnl hml hlp hsum h10
  go_enter Tryz.func57, Tryz.ntmps57
  go_wp2_with (first
    | (go_at_call 132; (with_reducible refine (hc _).mono ?_); rintro e w1 ⟨rfl, xb1⟩; obtain ⟨xc1, xf1, xl1, xz1⟩ := ext_use xb1; (try simp at xz1); obtain ⟨l1_0, gc, gf⟩ := kp xb1 (w.heap.size) (by first | omega | (simp; try omega)); have r1_0 := gc 0; have f1_0 := gf 0; have r1_0_1 := gc 1; have f1_0_1 := gf 1; have r1_0_2 := gc 2; have f1_0_2 := gf 2; clear gc gf; obtain ⟨l1_1, gc, gf⟩ := kp xb1 (w.heap.size + 1) (by first | omega | (simp; try omega)); have r1_1 := gc 0; have f1_1 := gf 0; have r1_1_1 := gc 1; have f1_1_1 := gf 1; have r1_1_2 := gc 2; have f1_1_2 := gf 2; clear gc gf)
    | (go_at_call 133; (with_reducible refine (hx _).mono ?_); rintro e w2 ⟨A, k, ⟨rfl, hk⟩, hX, xb2⟩; obtain ⟨xc2, xf2, xl2, xz2⟩ := ext_use xb2; (try simp at xz2); obtain ⟨l2_0, gc, gf⟩ := kp xb2 (w.heap.size) (by first | omega | (simp; try omega)); have r2_0 := gc 0; have f2_0 := gf 0; have r2_0_1 := gc 1; have f2_0_1 := gf 1; have r2_0_2 := gc 2; have f2_0_2 := gf 2; clear gc gf; obtain ⟨l2_1, gc, gf⟩ := kp xb2 (w.heap.size + 1) (by first | omega | (simp; try omega)); have r2_1 := gc 0; have f2_1 := gf 0; have r2_1_1 := gc 1; have f2_1_1 := gf 1; have r2_1_2 := gc 2; have f2_1_2 := gf 2; clear gc gf)
    | (go_at_call 134; (with_reducible refine (hp _).mono ?_); rintro e w3 ⟨B, j, ⟨rfl, hj⟩, hY, xb3⟩; obtain ⟨xc3, xf3, xl3, xz3⟩ := ext_use xb3; (try simp at xz3); obtain ⟨l3_0, gc, gf⟩ := kp xb3 (w.heap.size) (by first | omega | (simp; try omega)); have r3_0 := gc 0; have f3_0 := gf 0; have r3_0_1 := gc 1; have f3_0_1 := gf 1; have r3_0_2 := gc 2; have f3_0_2 := gf 2; clear gc gf; obtain ⟨l3_1, gc, gf⟩ := kp xb3 (w.heap.size + 1) (by first | omega | (simp; try omega)); have r3_1 := gc 0; have f3_1 := gf 0; have r3_1_1 := gc 1; have f3_1_1 := gf 1; have r3_1_2 := gc 2; have f3_1_2 := gf 2; clear gc gf; obtain ⟨l3_2, gc, gf⟩ := kp xb3 (w2.heap.size) (by first | omega | (simp; try omega)); have r3_2 := gc 0; have f3_2 := gf 0; clear gc gf)
    | (go_at_call 135; (with_reducible refine (kM _ _ _ _ _ (hX.out.1.ext (by (repeat (first | exact ext_refl _ | assumption | refine ext_setCell ?_ (by simp; try omega) _ | refine ext_alloc ?_ _ | refine ext_drew ?_ | refine ext_drewN ?_ _ | refine ext_trans ?_ (Aft.use _) | refine ext_trans ?_ (by assumption))))) (hY.out.1.ext (by (repeat (first | exact ext_refl _ | assumption | refine ext_setCell ?_ (by simp; try omega) _ | refine ext_alloc ?_ _ | refine ext_drew ?_ | refine ext_drewN ?_ _ | refine ext_trans ?_ (Aft.use _) | refine ext_trans ?_ (by assumption)))))).mono ?_); rintro e w4 ⟨C, m, ⟨rfl, hm⟩, hZ, xb4⟩; obtain ⟨xc4, xf4, xl4, xz4⟩ := ext_use xb4; (try simp at xz4); obtain ⟨l4_0, gc, gf⟩ := kp xb4 (w.heap.size) (by first | omega | (simp; try omega)); have r4_0 := gc 0; have f4_0 := gf 0; have r4_0_1 := gc 1; have f4_0_1 := gf 1; have r4_0_2 := gc 2; have f4_0_2 := gf 2; clear gc gf; obtain ⟨l4_1, gc, gf⟩ := kp xb4 (w.heap.size + 1) (by first | omega | (simp; try omega)); have r4_1 := gc 0; have f4_1 := gf 0; have r4_1_1 := gc 1; have f4_1_1 := gf 1; have r4_1_2 := gc 2; have f4_1_2 := gf 2; clear gc gf; obtain ⟨l4_2, gc, gf⟩ := kp xb4 (w2.heap.size) (by first | omega | (simp; try omega)); have r4_2 := gc 0; have f4_2 := gf 0; clear gc gf)
   )
  have y0 : w4.cell? ⟨w.heap.size, 0, none⟩ = some (.bool neg) := by simp [go_sem, *]
  have hEE4 : Hid (Ext w w4) := by show Ext w w4; (repeat (first | exact ext_refl _ | assumption | refine ext_setCell ?_ (by simp; try omega) _ | refine ext_alloc ?_ _ | refine ext_drew ?_ | refine ext_drewN ?_ _ | refine ext_trans ?_ (Aft.use _) | refine ext_trans ?_ (by assumption)))
  have lw4 : w.heap.size < w4.heap.size := by assumption
  have l24 : w2.heap.size < w4.heap.size := by assumption
  have hZ' : Hid (Rd (w4.setCell ⟨w2.heap.size, 0, none⟩ (.slice C m m)) C m m (lim (X * Y))) := hZ.out.1.tch ((Tch.refl w2.heap.size w4).set 0 _) (fun x hx _ e => by have := hZ.out.2 x hx; have := ext_size xb3; simp at *; omega)
  go_region_with (first
    | (go_at_call 136; (with_reducible refine (nof_one _).mono ?_); rintro e w5 ⟨G, g, rfl, hO, xb5⟩; obtain ⟨xc5, xf5, xl5, xz5⟩ := ext_use xb5; (try simp at xz5); obtain ⟨l5_0, gc, gf⟩ := kp xb5 (w.heap.size) (by first | omega | (simp; try omega)); have r5_0 := gc 0; have f5_0 := gf 0; have r5_0_1 := gc 1; have f5_0_1 := gf 1; have r5_0_2 := gc 2; have f5_0_2 := gf 2; clear gc gf; obtain ⟨l5_1, gc, gf⟩ := kp xb5 (w.heap.size + 1) (by first | omega | (simp; try omega)); have r5_1 := gc 0; have f5_1 := gf 0; have r5_1_1 := gc 1; have f5_1_1 := gf 1; have r5_1_2 := gc 2; have f5_1_2 := gf 2; clear gc gf; obtain ⟨l5_2, gc, gf⟩ := kp xb5 (w2.heap.size) (by first | omega | (simp; try omega)); have r5_2 := gc 0; have f5_2 := gf 0; clear gc gf)
    | (go_at_call 35; (with_reducible refine (kR _ _ _ _ _ (by (repeat (first | exact ext_refl _ | assumption | refine ext_setCell ?_ (by simp; try omega) _ | refine ext_alloc ?_ _ | refine ext_drew ?_ | refine ext_drewN ?_ _ | refine ext_trans ?_ (Aft.use _) | refine ext_trans ?_ (by assumption)))) (hZ'.out.ext (by (repeat (first | exact ext_refl _ | assumption | refine ext_setCell ?_ (by simp; try omega) _ | refine ext_alloc ?_ _ | refine ext_drew ?_ | refine ext_drewN ?_ _ | refine ext_trans ?_ (Aft.use _) | refine ext_trans ?_ (by assumption))))) (hO.out.1.ext (by (repeat (first | exact ext_refl _ | assumption | refine ext_setCell ?_ (by simp; try omega) _ | refine ext_alloc ?_ _ | refine ext_drew ?_ | refine ext_drewN ?_ _ | refine ext_trans ?_ (Aft.use _) | refine ext_trans ?_ (by assumption)))))).mono ?_); rintro e w6 ⟨H, n, c, D, m2, d, rfl, hI, xb6⟩; obtain ⟨xc6, xf6, xl6, xz6⟩ := ext_use xb6; (try simp at xz6); obtain ⟨l6_0, gc, gf⟩ := kp xb6 (w.heap.size) (by first | omega | (simp; try omega)); have r6_0 := gc 0; have f6_0 := gf 0; have r6_0_1 := gc 1; have f6_0_1 := gf 1; have r6_0_2 := gc 2; have f6_0_2 := gf 2; clear gc gf; obtain ⟨l6_1, gc, gf⟩ := kp xb6 (w.heap.size + 1) (by first | omega | (simp; try omega)); have r6_1 := gc 0; have f6_1 := gf 0; have r6_1_1 := gc 1; have f6_1_1 := gf 1; have r6_1_2 := gc 2; have f6_1_2 := gf 2; clear gc gf; obtain ⟨l6_2, gc, gf⟩ := kp xb6 (w2.heap.size) (by first | omega | (simp; try omega)); have r6_2 := gc 0; have f6_2 := gf 0; clear gc gf)
   )
  all_goals
    have n5 : ∀ x, H = some x → w.heap.size + 1 < x.block := fun x hx => by have := hI.out.2.1 x hx; (try simp at this); omega
    have n6 : ∀ x, D = some x → w.heap.size + 1 < x.block := fun x hx => by have := hI.out.2.2.2 x hx; (try simp at this); omega
    have z0 : w6.cell? ⟨w.heap.size + 1, 0, none⟩ = some (.bool false) := by simp [go_sem, *]
    have z1 : w6.cell? ⟨w.heap.size + 1, 1, none⟩ = some (.slice none 0 0) := by simp [go_sem, *]
    have z2 : w6.cell? ⟨w.heap.size + 1, 2, none⟩ = some (.slice none 0 0) := by simp [go_sem, *]
    obtain ⟨q0, q1, q2⟩ := set3 (b := w.heap.size + 1) z0 z1 z2 (.bool (decide (sgn neg (X * Y : Nat) < 0))) (.slice H n c) (.slice D m2 d)
    have hEE : Ext w w6 := by (repeat (first | exact ext_refl _ | assumption | refine ext_setCell ?_ (by simp; try omega) _ | refine ext_alloc ?_ _ | refine ext_drew ?_ | refine ext_drewN ?_ _ | refine ext_trans ?_ (Aft.use _) | refine ext_trans ?_ (by assumption)))
    go_wp2_with fail
    refine bodyPost_ret (v := .tuple #[ratV (decide (sgn neg ↑(X * Y) < 0)) H n c D m2 d, .int .i64 0]) ?h rfl ⟨H, n, c, D, m2, d, rfl, ⟨hI.out.1.set3 n5 _ _ _, fun x hx => Nat.le_of_lt (by have := n5 x hx; omega), hI.out.2.2.1.set3 n6 _ _ _, fun x hx => Nat.le_of_lt (by have := n6 x hx; omega)⟩, ext_set3 hEE (by omega) _ _ _⟩
    case h => simp [results, Tryz.results57, go_sem, q0, q1, q2]
theorem dratio_wide (d : Dc) (hok : dcE d = 0) (hl : d.dig.length ≤ 65536) (he : -4000 ≤ d.exp ∧ d.exp ≤ 524288) (hz : (lim (dz d).natAbs).length ≤ 16384) (h0 : d.dig = [] → d.exp = 0) (h1 : d.dig ≠ [] → dval d.dig ≠ 0) (w : World) (hT : Tz w) :
    Calls Tryz.prog 57 #[dcV d] w (TPost w (canN (dz d) (dp d)) (canD (dz d) (dp d))) := by
  have hdg := dc_digs hok
  obtain ⟨neg, l, exp⟩ := d
  simp only at hl he hdg h0 h1
  by_cases h : exp < 0
  · obtain ⟨E, rfl⟩ : ∃ E : Nat, exp = -(E : Int) := ⟨(-exp).toNat, by omega⟩
    have e1 : dz ⟨neg, l, -(E : Int)⟩ = sgn neg (dval l) := by
      unfold dz; simp only
      rw [show (-(E : Int)).toNat = 0 by omega, Nat.pow_zero, Nat.mul_one]
    have e2 : dp ⟨neg, l, -(E : Int)⟩ = 10 ^ E := by
      unfold dp; simp only
      rw [show (-(-(E : Int))).toNat = E by omega]
    have hY : 10 ^ E ≠ 0 := by have := Nat.pow_pos (n := E) (show 0 < 10 by decide); omega
    have k := dratio_negW neg l E (by omega) (by omega) hl hok hdg w hT
    obtain ⟨c1, c2⟩ := can_sgn neg (dval l) (10 ^ E) hY
    rw [e1, e2, c1, c2]
    exact k
  · obtain ⟨E, rfl⟩ : ∃ E : Nat, exp = (E : Int) := ⟨exp.toNat, by omega⟩
    have e1 : dz ⟨neg, l, (E : Int)⟩ = sgn neg (dval l * 10 ^ E : Nat) := by
      unfold dz; simp only
      rw [Int.toNat_natCast]
    have e2 : dp ⟨neg, l, (E : Int)⟩ = 1 := by
      unfold dp; simp only
      rw [show (-(E : Int)).toNat = 0 by omega, Nat.pow_zero]
    obtain ⟨c1, c2⟩ := can_whole (sgn neg (dval l * 10 ^ E : Nat))
    rw [e1, sgn_abs] at hz
    rw [e1, e2, c1, c2]
    refine dratio_posW neg l E (by omega) hl ?_ hz hok hdg w hT
    by_cases hd : l = []
    · right; have := h0 hd; omega
    · exact .inl (h1 hd)
end Go.Proofs.YtiapoflkeliljaaGreatDoor
end
section
/- The program's fractions: those that are refused. -/
namespace Go.Proofs.YtiapoflkeliljaaGreatDoor
open Go.RowKit
attribute [local go_sem] sz2 sz3 sz4 sz5 sz6 sz7 sz8
set_option maxHeartbeats 4000000
set_option maxRecDepth 100000
attribute [local irreducible] Calls
theorem neq_look' (b b' : Bool) (n n' m m' : Int) (w : World) : (binOp .neq 175 (.agg #[.bool b, .int .i64 n, .int .i64 m]) (.agg #[.bool b', .int .i64 n', .int .i64 m'])).run Tryz.prog w = .ok (.bool (!(b == b' && (n == n' && m == m')))) w := by
  by_cases h1 : n = n' <;> by_cases h2 : m = m' <;> cases b <;> cases b' <;> simp [go_sem, h1, h2]
/-- Seen otherwise. -/
def lookD (b b' : Bool) (n n' m m' : Int) : Nat := if b = b' ∧ n = n' ∧ m = m' then 0 else 1
theorem neq_look_ne (b b' : Bool) (n n' m m' : Int) (w : World) [hz : NeZero (lookD b b' n n' m m')] : (binOp .neq 175 (.agg #[.bool b, .int .i64 n, .int .i64 m]) (.agg #[.bool b', .int .i64 n', .int .i64 m'])).run Tryz.prog w = .ok (.bool true) w := by
  rw [neq_look']
  have h : ¬ (b = b' ∧ n = n' ∧ m = m') := fun h => hz.out (if_pos h)
  have e : (!(b == b' && (n == n' && m == m'))) = true := by
    rw [Bool.not_eq_true', Bool.and_eq_false_iff, Bool.and_eq_false_iff, beq_eq_false_iff_ne, beq_eq_false_iff_ne, beq_eq_false_iff_ne]
    by_cases h1 : b = b'
    · right
      by_cases h2 : n = n'
      · right; intro e; exact h ⟨h1, h2, e⟩
      · left; exact h2
    · exact .inl h1
  rw [e]
attribute [local go_sem high] neq_look neq_look_ne
theorem refused_case {neg : Bool} {a d : Nat} (hd : d ≠ 0) (h : (neg = true ∧ a = 0) ∨ Nat.gcd a d ≠ 1) : decide (sgn neg (a / Nat.gcd a d : Nat) < 0) ≠ neg ∨ denOf (lowD a d) ≠ d := by
  rcases h with ⟨rfl, rfl⟩ | h
  · left
    rw [Nat.zero_div]; decide
  · right
    unfold lowD
    by_cases h0 : a = 0
    · subst h0
      rw [if_pos rfl]
      rw [Nat.gcd_zero_left] at h
      intro e; exact h e.symm
    · rw [if_neg h0]
      have h1 : 0 < Nat.gcd a d := Nat.gcd_pos_of_pos_right a (Nat.pos_of_ne_zero hd)
      have h2 : d / Nat.gcd a d < d := Nat.div_lt_self (Nat.pos_of_ne_zero hd) (by omega)
      have h3 : d / Nat.gcd a d ≠ 0 := by
        have := Nat.div_pos (Nat.le_of_dvd (Nat.pos_of_ne_zero hd) (Nat.gcd_dvd_right a d)) h1; omega
      unfold denOf
      rw [if_neg h3]; omega
theorem ra_refused (neg : Bool) (A : Option Addr) (n c a : Nat) (D : Option Addr) (m k d : Nat) (hd : d ≠ 0) (hn : n ≤ 16384) (hm : m ≤ 16384) (hrf : (neg = true ∧ a = 0) ∨ Nat.gcd a d ≠ 1) (w : World) (hT : Tz w) (hA : Rd w A n c (lim a)) (hD : Rd w D m k (lim d)) :
    Calls Tryz.prog 80 #[ratV neg A n c D m k] w fun e w' => e = .returned (.tuple #[.pointer none, .int .i64 20]) ∧ Ext w w' := by
  have HA := Lib.hid hA
  have HD := Lib.hid hD
  have HT := Lib.hid hT
  have hla := hA.len
  have hld := hD.len
  have hm0 : ((m : Int) == 0) = false := by
    rw [beq_eq_false_iff_ne]
    intro h; exact hd (lim_nil.1 (List.eq_nil_of_length_eq_zero (by omega)))
  have chA : ∀ w', Ext w w' → Calls Tryz.prog 98 #[natV A n c] w' fun e w'' => e = .returned (.int .i64 0) ∧ Ext w' w'' := fun w' he => by
    have := ncheck_any A n c (lim a) w' (HA.out.ext he); rwa [chk_lim (by omega)] at this
  have chD : ∀ w', Ext w w' → Calls Tryz.prog 98 #[natV D m k] w' fun e w'' => e = .returned (.int .i64 0) ∧ Ext w' w'' := fun w' he => by
    have := ncheck_any D m k (lim d) w' (HD.out.ext he); rwa [chk_lim (by omega)] at this
  have kA : ∀ w', Ext w w' → Calls Tryz.prog 99 #[natV A n c] w' (NPost w' a) := fun w' he => ra_whole A n c a (by omega) w' (HA.out.ext he)
  have kD : ∀ w', Ext w w' → Calls Tryz.prog 99 #[natV D m k] w' (NPost w' d) := fun w' he => ra_whole D m k d (by omega) w' (HD.out.ext he)
  clear hA hD hT
  go_enter Tryz.func80, Tryz.ntmps80
  go_upto_region 3 with (first
    | (go_at_call 98; (with_reducible refine (chA _ (by (repeat (first | exact ext_refl _ | assumption | refine ext_setCell ?_ (by simp; try omega) _ | refine ext_alloc ?_ _ | refine ext_drew ?_ | refine ext_drewN ?_ _ | refine ext_trans ?_ (Aft.use _) | refine ext_trans ?_ (by assumption))))).mono ?_); rintro e w1 ⟨rfl, xb1⟩; obtain ⟨xc1, xf1, xl1, xz1⟩ := ext_use xb1; (try simp at xz1); obtain ⟨l1_0, gc, gf⟩ := kp xb1 (w.heap.size) (by first | omega | (simp; try omega)); have r1_0 := gc 0; have f1_0 := gf 0; have r1_0_1 := gc 1; have f1_0_1 := gf 1; have r1_0_2 := gc 2; have f1_0_2 := gf 2; clear gc gf)
    | (go_at_call 98; (with_reducible refine (chD _ (by (repeat (first | exact ext_refl _ | assumption | refine ext_setCell ?_ (by simp; try omega) _ | refine ext_alloc ?_ _ | refine ext_drew ?_ | refine ext_drewN ?_ _ | refine ext_trans ?_ (Aft.use _) | refine ext_trans ?_ (by assumption))))).mono ?_); rintro e w2 ⟨rfl, xb2⟩; obtain ⟨xc2, xf2, xl2, xz2⟩ := ext_use xb2; (try simp at xz2); obtain ⟨l2_0, gc, gf⟩ := kp xb2 (w.heap.size) (by first | omega | (simp; try omega)); have r2_0 := gc 0; have f2_0 := gf 0; have r2_0_1 := gc 1; have f2_0_1 := gf 1; have r2_0_2 := gc 2; have f2_0_2 := gf 2; clear gc gf)
   )
  have z0 : w2.cell? ⟨w.heap.size, 0, none⟩ = some (.bool neg) := by simp [go_sem, *]
  have z1 : w2.cell? ⟨w.heap.size, 1, none⟩ = some (.slice A n c) := by simp [go_sem, *]
  have z2 : w2.cell? ⟨w.heap.size, 2, none⟩ = some (.slice D m k) := by simp [go_sem, *]
  have zl : w.heap.size < w2.heap.size := by assumption
  have hE2 : Hid (Ext w w2) := by show Ext w w2; (repeat (first | exact ext_refl _ | assumption | refine ext_setCell ?_ (by simp; try omega) _ | refine ext_alloc ?_ _ | refine ext_drew ?_ | refine ext_drewN ?_ _ | refine ext_trans ?_ (Aft.use _) | refine ext_trans ?_ (by assumption)))
  clear chA chD
  go_cut [4, 5] (fun p q wc => ∃ (b1 : Nat) (B1 : Option Addr) (k1 l1 b3 : Nat) (B3 : Option Addr) (k3 l3 : Nat), p = .pointer (some ⟨b1, 0, none⟩) ∧ q = .pointer (some ⟨b3, 0, none⟩) ∧ Hid (IntIs wc b1 0 a B1 k1 l1) ∧ Hid (IntIs wc b3 0 d B3 k3 l3) ∧ Hid (b3 ≠ b1 ∧ Off B3 k3 b1 ∧ w2.heap.size ≤ b1) ∧ Hid (Ext w2 wc))
  case first =>
    go_region_with (first
      | (go_at_call 99; (with_reducible refine (kA _ (ext_trans hE2.out (by (repeat (first | exact ext_refl _ | assumption | refine ext_setCell ?_ (by simp; try omega) _ | refine ext_alloc ?_ _ | refine ext_drew ?_ | refine ext_drewN ?_ _ | refine ext_trans ?_ (Aft.use _) | refine ext_trans ?_ (by assumption)))))).mono ?_); rintro e w5 ⟨b5, B5, k5, l5, rfl, hI5, hb5, xb5⟩; obtain ⟨xc5, xf5, xl5, xz5⟩ := ext_use xb5; (try simp at xz5); obtain ⟨l5_0, gc, gf⟩ := kp xb5 (w.heap.size) (by first | omega | (simp; try omega)); have r5_0 := gc 0; have f5_0 := gf 0; have r5_0_1 := gc 1; have f5_0_1 := gf 1; have r5_0_2 := gc 2; have f5_0_2 := gf 2; clear gc gf)
      | (go_at_call 99; (with_reducible refine (kD _ (ext_trans hE2.out (by (repeat (first | exact ext_refl _ | assumption | refine ext_setCell ?_ (by simp; try omega) _ | refine ext_alloc ?_ _ | refine ext_drew ?_ | refine ext_drewN ?_ _ | refine ext_trans ?_ (Aft.use _) | refine ext_trans ?_ (by assumption)))))).mono ?_); rintro e w6 ⟨b6, B6, k6, l6, rfl, hI6, hb6, xb6⟩; obtain ⟨xc6, xf6, xl6, xz6⟩ := ext_use xb6; (try simp at xz6); obtain ⟨l6_0, gc, gf⟩ := kp xb6 (w.heap.size) (by first | omega | (simp; try omega)); have r6_0 := gc 0; have f6_0 := gf 0; have r6_0_1 := gc 1; have f6_0_1 := gf 1; have r6_0_2 := gc 2; have f6_0_2 := gf 2; clear gc gf)
     )
    all_goals
      go_wp2_with fail
      go_meet
      case rel =>
        have q5 := hI5.out.1.room.lt
        have q6 := hI6.out.1.room.lt
        simp at hb5 hb6
        first
          | exact ⟨b5, B5, k5, l5, b6, B6, k6, l6, rfl, rfl, hI5.out.1.ext xb6, hI6.out.1, ⟨by omega, hI6.out.2.off q5 k6, by omega⟩, ext_trans (ext_drew (ext_refl w2)) (ext_trans xb5 xb6)⟩
          | exact ⟨b5, B5, k5, l5, b6, B6, k6, l6, rfl, rfl, hI5.out.1, hI6.out.1.ext xb5, ⟨by omega, hI6.out.1.rd.off hb5, by have := ext_size xb6; simp at this; omega⟩, ext_trans (ext_drew (ext_refl w2)) (ext_trans xb6 xb5)⟩
  case rest =>
    obtain ⟨b1, B1, k1, l1, b3, B3, k3, l3, rfl, rfl, hI1, hI3, hap, hEc⟩ := hcut
    have hk1 := Nat.le_trans (Nat.le_of_eq (hI1.out.lenNat.symm.trans hla)) hn
    have hk3 := Nat.le_trans (Nat.le_of_eq (hI3.out.lenNat.symm.trans hld)) hm
    have hk1b : k1 ≤ 1000000 := by omega
    have hk1c : k1 ≤ 400000 := by omega
    have hk3c : k3 ≤ 400000 := by omega
    clear xb1 xb2 kA kD
    have hl3 := lowD_len (a := a) hd
    rw [hla, hld] at hl3
    have hn' := Nat.le_trans hl3.2.2 hn
    have hm' := Nat.le_trans hl3.2.1 (Nat.le_trans hm (show 16384 ≤ 100000 by decide))
    have hdl := Nat.le_trans hl3.1 hm
    have hcase : decide (sgn neg (a / Nat.gcd a d : Nat) < 0) ≠ neg ∨ denOf (lowD a d) ≠ d := refused_case hd hrf
    have y0 := (Below.cell (p := ⟨w.heap.size, 0, none⟩) hEc.out zl).trans z0
    go_upto_if 33 with (fail)
    go_cut [4] (fun p wn => ∃ (B2 : Option Addr) (k2 l2 : Nat), p = .pointer (some ⟨b1, 0, none⟩) ∧ k2 ≤ 400000 ∧ Hid (IntIs wn b1 0 (sgn neg a) B2 k2 l2) ∧ Hid (IntIs wn b3 0 d B3 k3 l3) ∧ Hid (Ext w2 wn))
    case first =>
      cases neg with
      | false =>
        go_wp2
        go_meet
        case rel => exact ⟨B1, k1, l1, rfl, hk1c, hI1.out, hI3, hEc⟩
      | true =>
        go_wp2_with (first
          | (go_at_call 100; (with_reducible refine (bi_Neg b1 0 b1 0 B1 k1 l1 a hk1b _ hI1.out.room hI1.out).mono ?_); rintro e w7 ⟨rfl, B2, k2, l2, hI2, xt2⟩)
         )
        go_meet
        case rel =>
          refine ⟨B2, k2, l2, rfl, ?_, hI2.out.1, hI3.out.tch xt2 hap.out.1 hap.out.2.1, xt2.ext hEc.out hap.out.2.2⟩
          have := hI2.out.1.rd.len; rw [Int.natAbs_neg, Int.natAbs_natCast, hla] at this; omega
    case rest =>
    obtain ⟨wq, rfl⟩ : ∃ wq, wq = wc := ⟨wc, rfl⟩
    obtain ⟨B2, k2, l2, rfl, hk2, hI2, hI3, hEc⟩ := hcut
    clear y0
    have y0 := (Below.cell (p := ⟨w.heap.size, 0, none⟩) hEc.out zl).trans z0
    have y1 := (Below.cell (p := ⟨w.heap.size, 1, none⟩) hEc.out zl).trans z1
    have y2 := (Below.cell (p := ⟨w.heap.size, 2, none⟩) hEc.out zl).trans z2
    have yl := ext_lt hEc.out _ zl
    have hE3 := Lib.hid (ext_trans hE2.out hEc.out)
    have hTr := Lib.hid (HT.out.ext hE3.out)
    go_upto_region 8 with (first
      | (go_at_call 71; (with_reducible refine (br_SetFrac' _ b1 b3 neg a d hd B2 k2 l2 B3 k3 l3 hk2 hk3c _ (hTr.out.ext (ext_alloc (ext_refl _) _)) (rat_room wq) (hI2.out.ext (ext_alloc (ext_refl _) _)) (hI3.out.ext (ext_alloc (ext_refl _) _))).mono ?_); rintro e w4 ⟨rfl, A4, n4, c4, D4, m4, e4, hI4, xt4⟩; have hn4 := Nat.le_trans (Nat.le_of_eq hI4.out.1.int.lenSgn.symm) hn'; have hm4 := Nat.le_trans (Nat.le_of_eq hI4.out.1.rd.len.symm) hm'; have hx4 := Lib.hid (xt4.ext (ext_alloc (ext_refl wq) _) (Nat.le_refl _)); have v0 := (Below.cell (p := ⟨w.heap.size, 0, none⟩) hx4.out yl).trans y0; have v1 := (Below.cell (p := ⟨w.heap.size, 1, none⟩) hx4.out yl).trans y1; have v2 := (Below.cell (p := ⟨w.heap.size, 2, none⟩) hx4.out yl).trans y2; have vl := ext_lt hx4.out _ yl)
      | (go_at_call 72; (with_reducible refine (ra_told_ok _ _ A4 n4 c4 _ D4 m4 e4 hn4 hm4 hdl _ hI4.out.1).mono ?_); rintro e w5 ⟨A5, n5, c5, D5, m5, e5, rfl, hI5, xb5⟩; obtain ⟨xc5, xf5, xl5, xz5⟩ := ext_use xb5; (try simp at xz5); obtain ⟨l5_0, gc, gf⟩ := kp xb5 (w.heap.size) (by first | omega | (simp; try omega)); have r5_0 := gc 0; have f5_0 := gf 0; have r5_0_1 := gc 1; have f5_0_1 := gf 1; have r5_0_2 := gc 2; have f5_0_2 := gf 2; clear gc gf)
     )
    have hE5 := Lib.hid (ext_trans hx4.out xb5)
    have hR5 := Lib.hid (hI4.out.1.ext xb5)
    have hN5 := Lib.hid (hI3.out.ext hE5.out)
    have kDen : ∀ wx, Ext w5 wx → Calls Tryz.prog 83 #[.pointer (some ⟨wq.heap.size, 0, none⟩)] wx (NPost wx (denOf (lowD a d))) := fun wx hx => br_Denom _ _ _ _ _ _ _ _ _ (by omega) wx (hR5.out.ext hx)
    have kCmp : ∀ b7 B7 k7 l7 wx, Ext w5 wx → IntIs wx b7 0 (denOf (lowD a d)) B7 k7 l7 → Calls Tryz.prog 161 #[.pointer (some ⟨b7, 0, none⟩), .pointer (some ⟨b3, 0, none⟩)] wx fun e w' => e = .returned (.int .i64 ((denOf (lowD a d) : Int) - (d : Int)).sign) ∧ Ext wx w' := fun b7 B7 k7 l7 wx hx h7 => bi_Cmp b7 0 b3 0 _ d B7 k7 l7 B3 k3 l3 wx h7 (hN5.out.ext hx)
    generalize hdz : decide (sgn neg (a / Nat.gcd a d : Nat) < 0) = dz at *
    generalize denOf (lowD a d) = q at *
    have hcl : Hid (Ext w (w5.alloc (Obj.cells #[.bool dz, .slice A5 n5 c5, .slice D5 m5 e5] 32))) := ext_alloc (ext_trans hE3.out hE5.out) _
    have hEw := Lib.hid (ext_trans hE3.out hE5.out)
    by_cases hsn : dz = neg ∧ n5 = n ∧ m5 = m
    · have hq : q ≠ d := hcase.resolve_left (fun h => h hsn.1)
      obtain ⟨rfl, rfl, rfl⟩ := hsn
      have hsg : (((q : Int) - (d : Int)).sign == 0) = false := by
        rw [beq_eq_false_iff_ne]; intro h; have := Int.sign_eq_zero_iff_zero.1 h; omega
      have hR0 : ((q : Int) - (d : Int)).sign ≠ 0 := by intro h; rw [h] at hsg; cases hsg
      generalize ((q : Int) - (d : Int)).sign = R at kCmp hsg hR0
      clear hcase hq
      go_cut [61] (fun v wn => v = .bool true ∧ Hid (Ext w5 wn))
      case first =>
        go_region_with (first
          | (go_at_call 160; (with_reducible refine (ra_seen _ _ _ _ _ _ _ _).mono ?_); rintro e w6 ⟨rfl, xb6⟩; obtain ⟨xc6, xf6, xl6, xz6⟩ := ext_use xb6; (try simp at xz6); obtain ⟨l6_0, gc, gf⟩ := kp xb6 (w.heap.size) (by first | omega | (simp; try omega)); have r6_0 := gc 0; have f6_0 := gf 0; have r6_0_1 := gc 1; have f6_0_1 := gf 1; have r6_0_2 := gc 2; have f6_0_2 := gf 2; clear gc gf; obtain ⟨l6_1, gc, gf⟩ := kp xb6 (w5.heap.size) (by first | omega | (simp; try omega)); have r6_1 := gc 0; have f6_1 := gf 0; have r6_1_1 := gc 1; have f6_1_1 := gf 1; have r6_1_2 := gc 2; have f6_1_2 := gf 2; clear gc gf)
          | (go_at_call 83; (with_reducible refine (kDen _ (by (repeat (first | exact ext_refl _ | assumption | refine ext_setCell ?_ (by simp; try omega) _ | refine ext_alloc ?_ _ | refine ext_drew ?_ | refine ext_drewN ?_ _ | refine ext_trans ?_ (Aft.use _) | refine ext_trans ?_ (by assumption))))).mono ?_); rintro e w7 ⟨b7, B7, k7, l7, rfl, hI7, hb7, xb7⟩; obtain ⟨xc7, xf7, xl7, xz7⟩ := ext_use xb7; (try simp at xz7); obtain ⟨l7_0, gc, gf⟩ := kp xb7 (w.heap.size) (by first | omega | (simp; try omega)); have r7_0 := gc 0; have f7_0 := gf 0; have r7_0_1 := gc 1; have f7_0_1 := gf 1; have r7_0_2 := gc 2; have f7_0_2 := gf 2; clear gc gf; obtain ⟨l7_1, gc, gf⟩ := kp xb7 (w5.heap.size) (by first | omega | (simp; try omega)); have r7_1 := gc 0; have f7_1 := gf 0; have r7_1_1 := gc 1; have f7_1_1 := gf 1; have r7_1_2 := gc 2; have f7_1_2 := gf 2; clear gc gf)
          | (go_at_call 161; (with_reducible refine (kCmp b7 B7 k7 l7 _ (by (repeat (first | exact ext_refl _ | assumption | refine ext_setCell ?_ (by simp; try omega) _ | refine ext_alloc ?_ _ | refine ext_drew ?_ | refine ext_drewN ?_ _ | refine ext_trans ?_ (Aft.use _) | refine ext_trans ?_ (by assumption)))) hI7.out.1).mono ?_); rintro e w8 ⟨rfl, xb8⟩; obtain ⟨xc8, xf8, xl8, xz8⟩ := ext_use xb8; (try simp at xz8); obtain ⟨l8_0, gc, gf⟩ := kp xb8 (w.heap.size) (by first | omega | (simp; try omega)); have r8_0 := gc 0; have f8_0 := gf 0; have r8_0_1 := gc 1; have f8_0_1 := gf 1; have r8_0_2 := gc 2; have f8_0_2 := gf 2; clear gc gf; obtain ⟨l8_1, gc, gf⟩ := kp xb8 (w5.heap.size) (by first | omega | (simp; try omega)); have r8_1 := gc 0; have f8_1 := gf 0; have r8_1_1 := gc 1; have f8_1_1 := gf 1; have r8_1_2 := gc 2; have f8_1_2 := gf 2; clear gc gf)
         )
        all_goals
          go_wp2_with fail
          go_meet
          case rel => exact ⟨by first | rfl | (simp; exact hR0), (show Ext _ _ by (repeat (first | exact ext_refl _ | assumption | refine ext_setCell ?_ (by simp; try omega) _ | refine ext_alloc ?_ _ | refine ext_drew ?_ | refine ext_drewN ?_ _ | refine ext_trans ?_ (Aft.use _) | refine ext_trans ?_ (by assumption))))⟩
      case rest =>
        obtain ⟨rfl, hEn⟩ := hcut
        go_wp2
        refine bodyPost_ret (v := .tuple #[.pointer none, .int .i64 20]) ?h rfl ⟨rfl, ext_trans hEw.out hEn.out⟩
        case h => simp [results, Tryz.results80, go_sem]
    · have hlk : NeZero (lookD dz neg (n5 : Int) (n : Int) (m5 : Int) (m : Int)) := ⟨fun h => by
        unfold lookD at h
        split at h
        · rename_i h2; exact hsn ⟨h2.1, by have := h2.2.1; omega, by have := h2.2.2; omega⟩
        · cases h⟩
      clear hcase kDen kCmp hsn
      have c50 : (w5.alloc (Obj.cells #[.bool dz, .slice A5 n5 c5, .slice D5 m5 e5] 32)).cell? ⟨w5.heap.size, 0, none⟩ = some (.bool dz) := by simp [go_sem]
      have c51 : (w5.alloc (Obj.cells #[.bool dz, .slice A5 n5 c5, .slice D5 m5 e5] 32)).cell? ⟨w5.heap.size, 1, none⟩ = some (.slice A5 n5 c5) := by simp [go_sem]
      have c52 : (w5.alloc (Obj.cells #[.bool dz, .slice A5 n5 c5, .slice D5 m5 e5] 32)).cell? ⟨w5.heap.size, 2, none⟩ = some (.slice D5 m5 e5) := by simp [go_sem]
      have c10 : (w5.alloc (Obj.cells #[.bool dz, .slice A5 n5 c5, .slice D5 m5 e5] 32)).cell? ⟨w.heap.size, 0, none⟩ = some (.bool neg) := by simp [go_sem, *]
      have c11 : (w5.alloc (Obj.cells #[.bool dz, .slice A5 n5 c5, .slice D5 m5 e5] 32)).cell? ⟨w.heap.size, 1, none⟩ = some (.slice A n c) := by simp [go_sem, *]
      have c12 : (w5.alloc (Obj.cells #[.bool dz, .slice A5 n5 c5, .slice D5 m5 e5] 32)).cell? ⟨w.heap.size, 2, none⟩ = some (.slice D m k) := by simp [go_sem, *]
      have l50 : w5.heap.size < (w5.alloc (Obj.cells #[.bool dz, .slice A5 n5 c5, .slice D5 m5 e5] 32)).heap.size := by simp
      have l10 : w.heap.size < (w5.alloc (Obj.cells #[.bool dz, .slice A5 n5 c5, .slice D5 m5 e5] 32)).heap.size := by have := ext_size hEw.out; simp; omega
      have hEa : Hid (Ext w5 (w5.alloc (Obj.cells #[.bool dz, .slice A5 n5 c5, .slice D5 m5 e5] 32))) := ext_alloc (ext_refl _) _
      go_cut [61] (fun v wn => v = .bool true ∧ Hid (Ext w5 wn))
      case first =>
        refine wp_aft (by kernel_rfl) (by kernel_rfl) (fun hq hqf => ?_)
        repeat (go_big_quiet_step (first
          | (go_at_call 160; exact aft_of (ra_seen _ _ _ _ _ _ _ _))
          ))
        refine wpQuiet_nil ?_
        rintro _ ⟨nq, rfl⟩
        have xl := ext_lt nq.use
        have xz := ext_size nq.use
        try simp at xz
        go_wp2_with fail
        go_meet
        case rel => exact ⟨rfl, ext_trans hEa.out nq.use⟩
      case rest =>
        obtain ⟨rfl, hEn⟩ := hcut
        go_wp2
        refine bodyPost_ret (v := .tuple #[.pointer none, .int .i64 20]) ?h rfl ⟨rfl, ext_trans hEw.out hEn.out⟩
        case h => simp [results, Tryz.results80, go_sem]
end Go.Proofs.YtiapoflkeliljaaGreatDoor
end
section
/- The program's fractions: which may be. -/
namespace Go.Proofs.YtiapoflkeliljaaGreatDoor
open Go.RowKit
attribute [local go_sem] sz2 sz3 sz4 sz5 sz6 sz7 sz8
set_option maxHeartbeats 4000000
set_option maxRecDepth 100000
attribute [local irreducible] Calls
theorem taken_bad1 (neg : Bool) (A : Option Addr) (n c : Nat) (D : Option Addr) (m k : Nat) (e1 : Int) (h1 : (e1 == 0) = false) (w : World) (c1 : ∀ w', Ext w w' → Calls Tryz.prog 98 #[natV A n c] w' fun e w'' => e = .returned (.int .i64 e1) ∧ Ext w' w'') :
    Calls Tryz.prog 80 #[ratV neg A n c D m k] w fun e w' => e = .returned (.tuple #[.pointer none, .int .i64 20]) ∧ Ext w w' := by
  have h1' : ¬ e1 = 0 := by simpa using h1
  go_enter Tryz.func80, Tryz.ntmps80
  go_wp2_with (first
    | (go_at_call 98; (with_reducible refine (c1 _ (by (repeat (first | exact ext_refl _ | assumption | refine ext_setCell ?_ (by simp; try omega) _ | refine ext_alloc ?_ _ | refine ext_drew ?_ | refine ext_drewN ?_ _ | refine ext_trans ?_ (Aft.use _) | refine ext_trans ?_ (by assumption))))).mono ?_); rintro e w1 ⟨rfl, xb1⟩; obtain ⟨xc1, xf1, xl1, xz1⟩ := ext_use xb1; (try simp at xz1); obtain ⟨l1_0, gc, gf⟩ := kp xb1 (w.heap.size) (by first | omega | (simp; try omega)); have r1_0 := gc 0; have f1_0 := gf 0; have r1_0_1 := gc 1; have f1_0_1 := gf 1; have r1_0_2 := gc 2; have f1_0_2 := gf 2; clear gc gf)
   )
  refine bodyPost_ret (v := .tuple #[.pointer none, .int .i64 20]) ?h rfl ⟨rfl, ?_⟩
  case h => simp [results, Tryz.results80, go_sem]
  repeat (first | exact ext_refl _ | assumption | refine ext_setCell ?_ (by simp; try omega) _ | refine ext_alloc ?_ _ | refine ext_drew ?_ | refine ext_drewN ?_ _ | refine ext_trans ?_ (Aft.use _) | refine ext_trans ?_ (by assumption))
theorem taken_bad2 (neg : Bool) (A : Option Addr) (n c : Nat) (D : Option Addr) (m k : Nat) (e1 : Int) (h1 : (e1 == 0) = false) (w : World) (c1 : ∀ w', Ext w w' → Calls Tryz.prog 98 #[natV A n c] w' fun e w'' => e = .returned (.int .i64 0) ∧ Ext w' w'')
    (c2 : ∀ w', Ext w w' → Calls Tryz.prog 98 #[natV D m k] w' fun e w'' => e = .returned (.int .i64 e1) ∧ Ext w' w'') :
    Calls Tryz.prog 80 #[ratV neg A n c D m k] w fun e w' => e = .returned (.tuple #[.pointer none, .int .i64 20]) ∧ Ext w w' := by
  have h1' : ¬ e1 = 0 := by simpa using h1
  go_enter Tryz.func80, Tryz.ntmps80
  go_upto_region 2 with (first
    | (go_at_call 98; (with_reducible refine (c2 _ (ext_trans (ext_alloc (ext_refl w) _) xb1)).mono ?_); rintro e w2 ⟨rfl, xb2⟩; obtain ⟨xc2, xf2, xl2, xz2⟩ := ext_use xb2; (try simp at xz2); obtain ⟨l2_0, gc, gf⟩ := kp xb2 (w.heap.size) (by first | omega | (simp; try omega)); have r2_0 := gc 0; have f2_0 := gf 0; have r2_0_1 := gc 1; have f2_0_1 := gf 1; have r2_0_2 := gc 2; have f2_0_2 := gf 2; clear gc gf)
    | (go_at_call 98; (with_reducible refine (c1 _ (by (repeat (first | exact ext_refl _ | assumption | refine ext_setCell ?_ (by simp; try omega) _ | refine ext_alloc ?_ _ | refine ext_drew ?_ | refine ext_drewN ?_ _ | refine ext_trans ?_ (Aft.use _) | refine ext_trans ?_ (by assumption))))).mono ?_); rintro e w1 ⟨rfl, xb1⟩; obtain ⟨xc1, xf1, xl1, xz1⟩ := ext_use xb1; (try simp at xz1); obtain ⟨l1_0, gc, gf⟩ := kp xb1 (w.heap.size) (by first | omega | (simp; try omega)); have r1_0 := gc 0; have f1_0 := gf 0; have r1_0_1 := gc 1; have f1_0_1 := gf 1; have r1_0_2 := gc 2; have f1_0_2 := gf 2; clear gc gf)
   )
  all_goals
    go_wp2
    refine bodyPost_ret (v := .tuple #[.pointer none, .int .i64 20]) ?h rfl ⟨rfl, ?_⟩
    case h => simp [results, Tryz.results80, go_sem]
    repeat (first | exact ext_refl _ | assumption | refine ext_setCell ?_ (by simp; try omega) _ | refine ext_alloc ?_ _ | refine ext_drew ?_ | refine ext_drewN ?_ _ | refine ext_trans ?_ (Aft.use _) | refine ext_trans ?_ (by assumption))
theorem taken_bad3 (neg : Bool) (A : Option Addr) (n c : Nat) (D : Option Addr) (k : Nat) (w : World) (c1 : ∀ w', Ext w w' → Calls Tryz.prog 98 #[natV A n c] w' fun e w'' => e = .returned (.int .i64 0) ∧ Ext w' w'')
    (c2 : ∀ w', Ext w w' → Calls Tryz.prog 98 #[natV D 0 k] w' fun e w'' => e = .returned (.int .i64 0) ∧ Ext w' w'') :
    Calls Tryz.prog 80 #[ratV neg A n c D 0 k] w fun e w' => e = .returned (.tuple #[.pointer none, .int .i64 20]) ∧ Ext w w' := by
  go_enter Tryz.func80, Tryz.ntmps80
  go_upto_region 2 with (first
    | (go_at_call 98; (with_reducible refine (c2 _ (ext_trans (ext_alloc (ext_refl w) _) xb1)).mono ?_); rintro e w2 ⟨rfl, xb2⟩; obtain ⟨xc2, xf2, xl2, xz2⟩ := ext_use xb2; (try simp at xz2); obtain ⟨l2_0, gc, gf⟩ := kp xb2 (w.heap.size) (by first | omega | (simp; try omega)); have r2_0 := gc 0; have f2_0 := gf 0; have r2_0_1 := gc 1; have f2_0_1 := gf 1; have r2_0_2 := gc 2; have f2_0_2 := gf 2; clear gc gf)
    | (go_at_call 98; (with_reducible refine (c1 _ (by (repeat (first | exact ext_refl _ | assumption | refine ext_setCell ?_ (by simp; try omega) _ | refine ext_alloc ?_ _ | refine ext_drew ?_ | refine ext_drewN ?_ _ | refine ext_trans ?_ (Aft.use _) | refine ext_trans ?_ (by assumption))))).mono ?_); rintro e w1 ⟨rfl, xb1⟩; obtain ⟨xc1, xf1, xl1, xz1⟩ := ext_use xb1; (try simp at xz1); obtain ⟨l1_0, gc, gf⟩ := kp xb1 (w.heap.size) (by first | omega | (simp; try omega)); have r1_0 := gc 0; have f1_0 := gf 0; have r1_0_1 := gc 1; have f1_0_1 := gf 1; have r1_0_2 := gc 2; have f1_0_2 := gf 2; clear gc gf)
   )
  all_goals
    go_wp2
    refine bodyPost_ret (v := .tuple #[.pointer none, .int .i64 20]) ?h rfl ⟨rfl, ?_⟩
    case h => simp [results, Tryz.results80, go_sem]
    repeat (first | exact ext_refl _ | assumption | refine ext_setCell ?_ (by simp; try omega) _ | refine ext_alloc ?_ _ | refine ext_drew ?_ | refine ext_drewN ?_ _ | refine ext_trans ?_ (Aft.use _) | refine ext_trans ?_ (by assumption))
/-- A fraction that may be. -/
def RatOk (neg : Bool) (xs ys : List Nat) : Prop := chk xs = 0 ∧ chk ys = 0 ∧ val ys ≠ 0 ∧ Nat.gcd (val xs) (val ys) = 1 ∧ (neg = true → val xs ≠ 0)
theorem ra_check_no (neg : Bool) (A : Option Addr) (n c : Nat) (xs : List Nat) (D : Option Addr) (m k : Nat) (ys : List Nat) (hno : ¬ RatOk neg xs ys) (w : World) (hT : Tz w) (hA : Rd w A n c xs) (hD : Rd w D m k ys) :
    Calls Tryz.prog 30 #[ratV neg A n c D m k] w fun e w' => e = .returned (.int .i64 20) ∧ Ext w w' := by
  have kt : ∀ w', Ext w w' → Calls Tryz.prog 80 #[ratV neg A n c D m k] w' fun e w'' => e = .returned (.tuple #[.pointer none, .int .i64 20]) ∧ Ext w' w'' := by
    intro w' he
    have n1 := fun w'' (h : Ext w' w'') => ncheck_any A n c xs w'' ((hA.ext he).ext h)
    have n2 := fun w'' (h : Ext w' w'') => ncheck_any D m k ys w'' ((hD.ext he).ext h)
    by_cases h1 : chk xs = 0
    · rw [h1] at n1
      by_cases h2 : chk ys = 0
      · rw [h2] at n2
        obtain ⟨l1, e1⟩ := chk_zero hA.lb h1
        obtain ⟨l2, e2⟩ := chk_zero hD.lb h2
        have a1 := hA.len
        have a2 := hD.len
        by_cases h3 : val ys = 0
        · have hm : m = 0 := by rw [← a2, e2, h3, lim_zero]; rfl
          subst hm
          exact taken_bad3 neg A n c D k w' n1 n2
        · rw [e1] at hA a1
          rw [e2] at hD a2
          refine ra_refused neg A n c (val xs) D m k (val ys) h3 (by rw [← a1, ← e1]; exact l1) (by rw [← a2, ← e2]; exact l2) ?_ w' (hT.ext he) (hA.ext he) (hD.ext he)
          by_cases h4 : Nat.gcd (val xs) (val ys) = 1
          · left
            by_cases h5 : neg = true ∧ val xs = 0
            · exact h5
            · exact absurd ⟨h1, h2, h3, h4, fun h => fun h6 => h5 ⟨h, h6⟩⟩ hno
          · exact .inr h4
      · exact taken_bad2 neg A n c D m k _ (by rw [beq_eq_false_iff_ne]; omega) w' n1 n2
    · exact taken_bad1 neg A n c D m k _ (by rw [beq_eq_false_iff_ne]; omega) w' n1
  clear hT hA hD hno
  go_enter Tryz.func30, Tryz.ntmps30
  go_wp2_with (first
    | (go_at_call 80; (with_reducible refine (kt _ (by (repeat (first | exact ext_refl _ | assumption | refine ext_setCell ?_ (by simp; try omega) _ | refine ext_alloc ?_ _ | refine ext_drew ?_ | refine ext_drewN ?_ _ | refine ext_trans ?_ (Aft.use _) | refine ext_trans ?_ (by assumption))))).mono ?_); rintro e w1 ⟨rfl, xb1⟩; obtain ⟨xc1, xf1, xl1, xz1⟩ := ext_use xb1; (try simp at xz1); obtain ⟨l1_0, gc, gf⟩ := kp xb1 (w.heap.size) (by first | omega | (simp; try omega)); have r1_0 := gc 0; have f1_0 := gf 0; have r1_0_1 := gc 1; have f1_0_1 := gf 1; have r1_0_2 := gc 2; have f1_0_2 := gf 2; clear gc gf)
   )
  refine bodyPost_ret (v := .int .i64 20) ?h rfl ⟨rfl, ?_⟩
  case h => simp [results, Tryz.results30, go_sem]
  repeat (first | exact ext_refl _ | assumption | refine ext_setCell ?_ (by simp; try omega) _ | refine ext_alloc ?_ _ | refine ext_drew ?_ | refine ext_drewN ?_ _ | refine ext_trans ?_ (Aft.use _) | refine ext_trans ?_ (by assumption))
theorem ra_check_yes (neg : Bool) (A : Option Addr) (n c a : Nat) (D : Option Addr) (m k d : Nat) (hd : d ≠ 0) (hn : n ≤ 16384) (hm : m ≤ 16384) (hg : Nat.gcd a d = 1) (hng : neg = true → a ≠ 0) (w : World) (hT : Tz w) (hA : Rd w A n c (lim a)) (hD : Rd w D m k (lim d)) :
    Calls Tryz.prog 30 #[ratV neg A n c D m k] w fun e w' => e = .returned (.int .i64 0) ∧ Ext w w' := by
  have kt : ∀ w', Ext w w' → Calls Tryz.prog 80 #[ratV neg A n c D m k] w' (KPost w' (sgn neg a) (lowD a d)) := fun w' he => ra_taken neg A n c a D m k d hd hn hm hg hng w' (hT.ext he) (hA.ext he) (hD.ext he)
  clear hT hA hD hng hg
  go_enter Tryz.func30, Tryz.ntmps30
  go_wp2_with (first
    | (go_at_call 80; (with_reducible refine (kt _ (by (repeat (first | exact ext_refl _ | assumption | refine ext_setCell ?_ (by simp; try omega) _ | refine ext_alloc ?_ _ | refine ext_drew ?_ | refine ext_drewN ?_ _ | refine ext_trans ?_ (Aft.use _) | refine ext_trans ?_ (by assumption))))).mono ?_); rintro e w1 ⟨g, A1, n1, c1, D1, m1, k1, rfl, hI1, hg1, xb1⟩; obtain ⟨xc1, xf1, xl1, xz1⟩ := ext_use xb1; (try simp at xz1); obtain ⟨l1_0, gc, gf⟩ := kp xb1 (w.heap.size) (by first | omega | (simp; try omega)); have r1_0 := gc 0; have f1_0 := gf 0; have r1_0_1 := gc 1; have f1_0_1 := gf 1; have r1_0_2 := gc 2; have f1_0_2 := gf 2; clear gc gf)
   )
  refine bodyPost_ret (v := .int .i64 0) ?h rfl ⟨rfl, ?_⟩
  case h => simp [results, Tryz.results30, go_sem]
  repeat (first | exact ext_refl _ | assumption | refine ext_setCell ?_ (by simp; try omega) _ | refine ext_alloc ?_ _ | refine ext_drew ?_ | refine ext_drewN ?_ _ | refine ext_trans ?_ (Aft.use _) | refine ext_trans ?_ (by assumption))
end Go.Proofs.YtiapoflkeliljaaGreatDoor
end
