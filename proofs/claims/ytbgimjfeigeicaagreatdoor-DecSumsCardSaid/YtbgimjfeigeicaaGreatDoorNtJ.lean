/- The document's order, difference and product of natural numbers. -/
import Derived.Test.YtbgimjfeigeicaaGreatDoorNtI
namespace Go.Proofs.YtbgimjfeigeicaaGreatDoor
open Go.RowKit
attribute [local go_sem] sz2 sz3 sz4 sz5 sz6 sz7 sz8
set_option maxHeartbeats 4000000
set_option maxRecDepth 100000
attribute [local irreducible] Calls
theorem rcmpN_any (A B : Option Addr) (n c m d a b : Nat) (w : World) (hA : Rd w A n c (lim a)) (hB : Rd w B m d (lim b)) (ha : (lim a).length ≤ 16384) (hb : (lim b).length ≤ 16384) :
    Calls Tryz.prog 51 #[natV A n c, natV B m d] w fun e w' => e = .returned (.tuple #[.int .i64 (cmpN a b), .int .i64 0]) ∧ Ext w w' := by
  have h2 : ∀ w', Hid (Ext w w') → Calls Tryz.prog 95 #[natV A n c, natV B m d] w' fun e w'' => e = .returned (.int .i64 0) ∧ Ext w' w'' := fun w' he => by
    have := rtwo_any A B n c m d _ _ w' (hA.ext he.out) (hB.ext he.out)
    rwa [chk2_lim ha hb] at this
  have hc : ∀ w', Hid (Ext w w') → Calls Tryz.prog 96 #[.slice A n c, .slice B m d] w' fun e w'' => e = .returned (.int .i64 (cmpN a b)) ∧ Ext w' w'' := fun w' he => rcmp_any A B n c m d a b w' (hA.ext he.out) (hB.ext he.out)
  clear hA hB ha hb
  go_enter Tryz.func51, Tryz.ntmps51
  go_wp2_with (first
    | (go_at_call 95; (with_reducible refine (h2 _ (Lib.hid (by (repeat (first | exact ext_refl _ | assumption | refine ext_setCell ?_ (by simp; try omega) _ | refine ext_alloc ?_ _ | refine ext_drew ?_ | refine ext_drewN ?_ _ | refine ext_trans ?_ (Aft.use _) | refine ext_trans ?_ (by assumption)))))).mono ?_); rintro e w0 ⟨rfl, xb0⟩; obtain ⟨xc0, xf0, xl0, xz0⟩ := ext_use xb0; (try simp at xz0); have l0_0 := xl0 (w.heap.size) (by first | omega | (simp; try omega)); have r0_0 := xc0 (w.heap.size) 0 (by first | omega | (simp; try omega)); have f0_0 := xf0 (w.heap.size) 0 (by first | omega | (simp; try omega)); have l0_1 := xl0 (w.heap.size + 1) (by first | omega | (simp; try omega)); have r0_1 := xc0 (w.heap.size + 1) 0 (by first | omega | (simp; try omega)); have f0_1 := xf0 (w.heap.size + 1) 0 (by first | omega | (simp; try omega)))
    | (go_at_call 96; (with_reducible refine (hc _ (Lib.hid (by (repeat (first | exact ext_refl _ | assumption | refine ext_setCell ?_ (by simp; try omega) _ | refine ext_alloc ?_ _ | refine ext_drew ?_ | refine ext_drewN ?_ _ | refine ext_trans ?_ (Aft.use _) | refine ext_trans ?_ (by assumption)))))).mono ?_); rintro e w1 ⟨rfl, xb1⟩; obtain ⟨xc1, xf1, xl1, xz1⟩ := ext_use xb1; (try simp at xz1); have l1_0 := xl1 (w.heap.size) (by first | omega | (simp; try omega)); have r1_0 := xc1 (w.heap.size) 0 (by first | omega | (simp; try omega)); have f1_0 := xf1 (w.heap.size) 0 (by first | omega | (simp; try omega)))
   )
  refine bodyPost_ret (v := _) ?h rfl ⟨rfl, ?_⟩
  case h => simp [results, Tryz.results51, go_sem]
  repeat (first | exact ext_refl _ | assumption | refine ext_setCell ?_ (by simp; try omega) _ | refine ext_alloc ?_ _ | refine ext_drew ?_ | refine ext_drewN ?_ _ | refine ext_trans ?_ (Aft.use _) | refine ext_trans ?_ (by assumption))
theorem rsub_any (A B : Option Addr) (n c m d a b : Nat) (hab : b ≤ a) (w : World) (hA : Rd w A n c (lim a)) (hB : Rd w B m d (lim b)) (ha : (lim a).length ≤ 16384) (hb : (lim b).length ≤ 16384) :
    Calls Tryz.prog 53 #[natV A n c, natV B m d] w fun e w' => ∃ A' k c', e = .returned (.tuple #[natV A' k c', .bool true, .int .i64 0]) ∧ Hid (Rd w' A' k c' (lim (a - b)) ∧ Fr w A') ∧ Ext w w' := by
  have h2 : ∀ w', Hid (Ext w w') → Calls Tryz.prog 95 #[natV A n c, natV B m d] w' fun e w'' => e = .returned (.int .i64 0) ∧ Ext w' w'' := fun w' he => by
    have := rtwo_any A B n c m d _ _ w' (hA.ext he.out) (hB.ext he.out)
    rwa [chk2_lim ha hb] at this
  have hc : ∀ w', Hid (Ext w w') → Calls Tryz.prog 96 #[.slice A n c, .slice B m d] w' fun e w'' => ∃ v : Int, (e = .returned (.int .i64 v) ∧ 0 ≤ v) ∧ Ext w' w'' := fun w' he => by
    refine (rcmp_any A B n c m d a b w' (hA.ext he.out) (hB.ext he.out)).mono ?_
    rintro e w'' ⟨h1, h2⟩
    refine ⟨_, ⟨h1, ?_⟩, h2⟩
    unfold cmpN
    rw [if_neg (by omega)]
    split <;> omega
  have hl : ∀ w', Hid (Ext w w') → Calls Tryz.prog 100 #[.slice A n c, .slice B m d] w' fun e w'' => ∃ (A' : Option Addr) (k c' : Nat), e = .returned (.slice A' k c') ∧ Hid (Rd w'' A' k c' (lim (a - b)) ∧ Fr w' A') ∧ Ext w' w'' := fun w' he =>
    less_any A B n c m d a b hab (by have := hA.len; omega) w' (hA.ext he.out) (hB.ext he.out)
  clear hA hB ha hb hab
  go_enter Tryz.func53, Tryz.ntmps53
  go_wp2_with (first
    | (go_at_call 95; (with_reducible refine (h2 _ (Lib.hid (by (repeat (first | exact ext_refl _ | assumption | refine ext_setCell ?_ (by simp; try omega) _ | refine ext_alloc ?_ _ | refine ext_drew ?_ | refine ext_drewN ?_ _ | refine ext_trans ?_ (Aft.use _) | refine ext_trans ?_ (by assumption)))))).mono ?_); rintro e w0 ⟨rfl, xb0⟩; obtain ⟨xc0, xf0, xl0, xz0⟩ := ext_use xb0; (try simp at xz0); have l0_0 := xl0 (w.heap.size) (by first | omega | (simp; try omega)); have r0_0 := xc0 (w.heap.size) 0 (by first | omega | (simp; try omega)); have f0_0 := xf0 (w.heap.size) 0 (by first | omega | (simp; try omega)); have l0_1 := xl0 (w.heap.size + 1) (by first | omega | (simp; try omega)); have r0_1 := xc0 (w.heap.size + 1) 0 (by first | omega | (simp; try omega)); have f0_1 := xf0 (w.heap.size + 1) 0 (by first | omega | (simp; try omega)); have l0_2 := xl0 (w.heap.size + 1 + 1) (by first | omega | (simp; try omega)); have r0_2 := xc0 (w.heap.size + 1 + 1) 0 (by first | omega | (simp; try omega)); have f0_2 := xf0 (w.heap.size + 1 + 1) 0 (by first | omega | (simp; try omega)))
    | (go_at_call 96; (with_reducible refine (hc _ (Lib.hid (by (repeat (first | exact ext_refl _ | assumption | refine ext_setCell ?_ (by simp; try omega) _ | refine ext_alloc ?_ _ | refine ext_drew ?_ | refine ext_drewN ?_ _ | refine ext_trans ?_ (Aft.use _) | refine ext_trans ?_ (by assumption)))))).mono ?_); rintro e w1 ⟨v, ⟨rfl, hv⟩, xb1⟩; obtain ⟨xc1, xf1, xl1, xz1⟩ := ext_use xb1; (try simp at xz1); have l1_0 := xl1 (w.heap.size) (by first | omega | (simp; try omega)); have r1_0 := xc1 (w.heap.size) 0 (by first | omega | (simp; try omega)); have f1_0 := xf1 (w.heap.size) 0 (by first | omega | (simp; try omega)); have l1_1 := xl1 (w.heap.size + 1) (by first | omega | (simp; try omega)); have r1_1 := xc1 (w.heap.size + 1) 0 (by first | omega | (simp; try omega)); have f1_1 := xf1 (w.heap.size + 1) 0 (by first | omega | (simp; try omega)); have l1_2 := xl1 (w.heap.size + 1 + 1) (by first | omega | (simp; try omega)); have r1_2 := xc1 (w.heap.size + 1 + 1) 0 (by first | omega | (simp; try omega)); have f1_2 := xf1 (w.heap.size + 1 + 1) 0 (by first | omega | (simp; try omega)))
    | (go_at_call 100; (with_reducible refine (hl _ (Lib.hid (by (repeat (first | exact ext_refl _ | assumption | refine ext_setCell ?_ (by simp; try omega) _ | refine ext_alloc ?_ _ | refine ext_drew ?_ | refine ext_drewN ?_ _ | refine ext_trans ?_ (Aft.use _) | refine ext_trans ?_ (by assumption)))))).mono ?_); rintro e w2 ⟨A', k, c', rfl, hR, xb2⟩; obtain ⟨xc2, xf2, xl2, xz2⟩ := ext_use xb2; (try simp at xz2); have l2_0 := xl2 (w.heap.size + 1 + 1) (by first | omega | (simp; try omega)); have r2_0 := xc2 (w.heap.size + 1 + 1) 0 (by first | omega | (simp; try omega)); have f2_0 := xf2 (w.heap.size + 1 + 1) 0 (by first | omega | (simp; try omega)))
    | (go_at_call 99; (with_reducible refine (nat_any A' k c' _).mono ?_); rintro e w3 ⟨rfl, xb3⟩; obtain ⟨xc3, xf3, xl3, xz3⟩ := ext_use xb3; (try simp at xz3); have l3_0 := xl3 (w.heap.size + 1 + 1) (by first | omega | (simp; try omega)); have r3_0 := xc3 (w.heap.size + 1 + 1) 0 (by first | omega | (simp; try omega)); have f3_0 := xf3 (w.heap.size + 1 + 1) 0 (by first | omega | (simp; try omega)))
   )
  have hR2 := hR.out.1.ext xb3
  have hF := hR.out.2
  refine bodyPost_ret (v := .tuple #[natV A' k c', .bool true, .int .i64 0]) ?h rfl ⟨A', k, c', rfl, ⟨hR2.set _ ?_, ?_⟩, ?_⟩
  case h => simp [results, Tryz.results53, go_sem, *]
  · intro q hq
    have := hF q hq
    simp; omega
  · intro q hq
    have := hF q hq
    omega
  repeat (first | exact ext_refl _ | assumption | refine ext_setCell ?_ (by simp; try omega) _ | refine ext_alloc ?_ _ | refine ext_drew ?_ | refine ext_drewN ?_ _ | refine ext_trans ?_ (Aft.use _) | refine ext_trans ?_ (by assumption))
theorem rmul_any (A B : Option Addr) (n c m d a b : Nat) (w : World) (hA : Rd w A n c (lim a)) (hB : Rd w B m d (lim b)) (ha : (lim a).length ≤ 16384) (hb : (lim b).length ≤ 16384) (hsum : n + m ≤ 16385) (hs : (lim (a * b)).length ≤ 16384) :
    Calls Tryz.prog 58 #[natV A n c, natV B m d] w fun e w' => ∃ A' k c', e = .returned (.tuple #[natV A' k c', .int .i64 0]) ∧ Hid (Rd w' A' k c' (lim (a * b)) ∧ Fr w A') ∧ Ext w w' := by
  have h2 : ∀ w', Hid (Ext w w') → Calls Tryz.prog 95 #[natV A n c, natV B m d] w' fun e w'' => e = .returned (.int .i64 0) ∧ Ext w' w'' := fun w' he => by
    have := rtwo_any A B n c m d _ _ w' (hA.ext he.out) (hB.ext he.out)
    rwa [chk2_lim ha hb] at this
  have hp : ∀ w', Hid (Ext w w') → Calls Tryz.prog 107 #[.slice A n c, .slice B m d] w' fun e w'' => ∃ (A' : Option Addr) (k c' : Nat), e = .returned (.slice A' k c') ∧ Hid (Rd w'' A' k c' (lim (a * b)) ∧ Fr w' A') ∧ Ext w' w'' := fun w' he =>
    times_nat A B n c m d a b (by have := hA.len; omega) (by have := hB.len; omega) w' (hA.ext he.out) (hB.ext he.out)
  have hmx := hA.mx
  have hmy := hB.mx
  have hcx := hA.cap
  have hcy := hB.cap
  clear hA hB
  have HS := Lib.hid hs
  clear ha hb hs
  go_enter Tryz.func58, Tryz.ntmps58
  go_wp2_with (first
    | (go_at_call 95; (with_reducible refine (h2 _ (Lib.hid (by (repeat (first | exact ext_refl _ | assumption | refine ext_setCell ?_ (by simp; try omega) _ | refine ext_alloc ?_ _ | refine ext_drew ?_ | refine ext_drewN ?_ _ | refine ext_trans ?_ (Aft.use _) | refine ext_trans ?_ (by assumption)))))).mono ?_); rintro e w0 ⟨rfl, xb0⟩; obtain ⟨xc0, xf0, xl0, xz0⟩ := ext_use xb0; (try simp at xz0); have l0_0 := xl0 (w.heap.size) (by first | omega | (simp; try omega)); have r0_0 := xc0 (w.heap.size) 0 (by first | omega | (simp; try omega)); have f0_0 := xf0 (w.heap.size) 0 (by first | omega | (simp; try omega)); have l0_1 := xl0 (w.heap.size + 1) (by first | omega | (simp; try omega)); have r0_1 := xc0 (w.heap.size + 1) 0 (by first | omega | (simp; try omega)); have f0_1 := xf0 (w.heap.size + 1) 0 (by first | omega | (simp; try omega)); have l0_2 := xl0 (w.heap.size + 1 + 1) (by first | omega | (simp; try omega)); have r0_2 := xc0 (w.heap.size + 1 + 1) 0 (by first | omega | (simp; try omega)); have f0_2 := xf0 (w.heap.size + 1 + 1) 0 (by first | omega | (simp; try omega)))
    | (go_at_call 107; (with_reducible refine (hp _ (Lib.hid (by (repeat (first | exact ext_refl _ | assumption | refine ext_setCell ?_ (by simp; try omega) _ | refine ext_alloc ?_ _ | refine ext_drew ?_ | refine ext_drewN ?_ _ | refine ext_trans ?_ (Aft.use _) | refine ext_trans ?_ (by assumption)))))).mono ?_); rintro e w1 ⟨A', k, c', rfl, hR, xb1⟩; obtain ⟨xc1, xf1, xl1, xz1⟩ := ext_use xb1; (try simp at xz1); have l1_0 := xl1 (w.heap.size + 1 + 1) (by first | omega | (simp; try omega)); have r1_0 := xc1 (w.heap.size + 1 + 1) 0 (by first | omega | (simp; try omega)); have f1_0 := xf1 (w.heap.size + 1 + 1) 0 (by first | omega | (simp; try omega)))
    | (go_at_call 97; (with_reducible refine (fits_any A' k c' _ _ hR.out.1 (by rw [val_lim]; exact HS.out)).mono ?_); rintro e w2 ⟨k2, rfl, hR2, xb2⟩; obtain ⟨xc2, xf2, xl2, xz2⟩ := ext_use xb2; (try simp at xz2); have l2_0 := xl2 (w.heap.size + 1 + 1) (by first | omega | (simp; try omega)); have r2_0 := xc2 (w.heap.size + 1 + 1) 0 (by first | omega | (simp; try omega)); have f2_0 := xf2 (w.heap.size + 1 + 1) 0 (by first | omega | (simp; try omega)))
   )
  rw [val_lim] at hR2
  have hF := hR.out.2
  refine bodyPost_ret (v := .tuple #[natV A' k2 c', .int .i64 0]) ?h rfl ⟨A', k2, c', rfl, ⟨hR2.set _ ?_, ?_⟩, ?_⟩
  case h => simp [results, Tryz.results58, go_sem, *]
  · intro q hq
    have := hF q hq
    simp; omega
  · intro q hq
    have := hF q hq
    omega
  repeat (first | exact ext_refl _ | assumption | refine ext_setCell ?_ (by simp; try omega) _ | refine ext_alloc ?_ _ | refine ext_drew ?_ | refine ext_drewN ?_ _ | refine ext_trans ?_ (Aft.use _) | refine ext_trans ?_ (by assumption))
end Go.Proofs.YtbgimjfeigeicaaGreatDoor
