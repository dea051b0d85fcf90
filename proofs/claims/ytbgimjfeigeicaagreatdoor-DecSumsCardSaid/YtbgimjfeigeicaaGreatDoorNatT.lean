/- The document's numbers: Check, Of, Add. -/
import Derived.Test.YtbgimjfeigeicaaGreatDoorRows
import Derived.Test.YtbgimjfeigeicaaGreatDoorSl
import Derived.Test.YtbgimjfeigeicaaGreatDoorStr
import Derived.Test.YtbgimjfeigeicaaGreatDoorNatR
import Derived.Test.YtbgimjfeigeicaaGreatDoorNatS
namespace Go.Proofs.YtbgimjfeigeicaaGreatDoor
open Go.RowKit
attribute [local go_sem] sz2 sz3 sz4 sz5 sz6 sz7 sz8
set_option maxHeartbeats 4000000
set_option maxRecDepth 100000
attribute [local irreducible] Calls
abbrev natV (A : Option Addr) (n c : Nat) : Value := .agg #[.slice A n c]
theorem nat_any (A : Option Addr) (n c : Nat) (w : World) : Calls Tryz.prog 99 #[.slice A n c] w fun e w' => e = .returned (natV A n c) ∧ Ext w w' := by
  go_enter Tryz.func99, Tryz.ntmps99
  go_wp2
  refine bodyPost_ret (v := _) ?h rfl ⟨rfl, ?_⟩
  case h => simp [results, Tryz.results99, go_sem]
  repeat (first | exact ext_refl _ | assumption | refine ext_setCell ?_ (by simp; try omega) _ | refine ext_alloc ?_ _ | refine ext_drew ?_ | refine ext_drewN ?_ _ | refine ext_trans ?_ (Aft.use _) | refine ext_trans ?_ (by assumption))
theorem check_any (A : Option Addr) (n c : Nat) (xs : List Nat) (w : World) (hR : Rd w A n c xs) :
    Calls Tryz.prog 101 #[natV A n c] w fun e w' => e = .returned (.int .i64 (chk xs : Nat)) ∧ Ext w w' := by
  have hmx := hR.mx
  have hcx := hR.cap
  have hlen := Lib.hid hR.len
  by_cases h1 : 16384 < n
  · have e : chk xs = 4 := by unfold chk; rw [if_pos (by rw [hlen.out]; omega)]
    rw [e]
    clear e hR
    go_enter Tryz.func101, Tryz.ntmps101
    go_wp2
    refine bodyPost_ret (v := _) ?h rfl ⟨rfl, ?_⟩
    case h => simp [results, Tryz.results101, go_sem]
    repeat (first | exact ext_refl _ | assumption | refine ext_setCell ?_ (by simp; try omega) _ | refine ext_alloc ?_ _ | refine ext_drew ?_ | refine ext_drewN ?_ _ | refine ext_trans ?_ (Aft.use _) | refine ext_trans ?_ (by assumption))
  rcases hR.shape with ⟨rfl, rfl, rfl, rfl⟩ | ⟨b, off, rfl⟩
  · clear hR
    have e : chk [] = 0 := rfl
    rw [e]
    clear e
    go_enter Tryz.func101, Tryz.ntmps101
    go_wp2
    refine bodyPost_ret (v := _) ?h rfl ⟨rfl, ?_⟩
    case h => simp [results, Tryz.results101, go_sem]
    repeat (first | exact ext_refl _ | assumption | refine ext_setCell ?_ (by simp; try omega) _ | refine ext_alloc ?_ _ | refine ext_drew ?_ | refine ext_drewN ?_ _ | refine ext_trans ?_ (Aft.use _) | refine ext_trans ?_ (by assumption))
  by_cases h0 : n = 0
  · have e : chk xs = 0 := by unfold chk; rw [if_neg (by rw [hlen.out]; omega), if_neg (by rw [hlen.out]; omega)]
    rw [e]
    clear e hR
    subst h0
    go_enter Tryz.func101, Tryz.ntmps101
    go_wp2
    refine bodyPost_ret (v := _) ?h rfl ⟨rfl, ?_⟩
    case h => simp [results, Tryz.results101, go_sem]
    repeat (first | exact ext_refl _ | assumption | refine ext_setCell ?_ (by simp; try omega) _ | refine ext_alloc ?_ _ | refine ext_drew ?_ | refine ext_drewN ?_ _ | refine ext_trans ?_ (Aft.use _) | refine ext_trans ?_ (by assumption))
  obtain ⟨x, hx, hxb, hc⟩ := hR.get (n - 1) (by omega)
  have hb : b < w.heap.size := World.block_lt_of_cell? w _ hc
  have e : chk xs = if x = 0 then 10 else 0 := by
    unfold chk
    rw [if_neg (by rw [hlen.out]; omega), hlen.out, hx.out]
    by_cases h : x = 0
    · rw [if_pos ⟨by omega, h⟩, if_pos h]
    · rw [if_neg (fun h' => h h'.2), if_neg h]
  rw [e]
  clear e hR
  by_cases hz : x = 0
  · subst hz
    rw [if_pos rfl]
    go_enter Tryz.func101, Tryz.ntmps101
    go_wp2
    refine bodyPost_ret (v := _) ?h rfl ⟨rfl, ?_⟩
    case h => simp [results, Tryz.results101, go_sem]
    repeat (first | exact ext_refl _ | assumption | refine ext_setCell ?_ (by simp; try omega) _ | refine ext_alloc ?_ _ | refine ext_drew ?_ | refine ext_drewN ?_ _ | refine ext_trans ?_ (Aft.use _) | refine ext_trans ?_ (by assumption))
  · rw [if_neg hz]
    have hne : ((x : Int) == 0) = false := by simp; omega
    clear hz
    go_enter Tryz.func101, Tryz.ntmps101
    go_wp2
    refine bodyPost_ret (v := _) ?h rfl ⟨rfl, ?_⟩
    case h => simp [results, Tryz.results101, go_sem]
    repeat (first | exact ext_refl _ | assumption | refine ext_setCell ?_ (by simp; try omega) _ | refine ext_alloc ?_ _ | refine ext_drew ?_ | refine ext_drewN ?_ _ | refine ext_trans ?_ (Aft.use _) | refine ext_trans ?_ (by assumption))
def chk2 (xs ys : List Nat) : Nat := if chk xs ≠ 0 then chk xs else chk ys
theorem rtwo_any (A B : Option Addr) (n c m d : Nat) (xs ys : List Nat) (w : World) (hA : Rd w A n c xs) (hB : Rd w B m d ys) :
    Calls Tryz.prog 95 #[natV A n c, natV B m d] w fun e w' => e = .returned (.int .i64 (chk2 xs ys : Nat)) ∧ Ext w w' := by
  have hx : ∀ w', Hid (Ext w w') → Calls Tryz.prog 101 #[natV A n c] w' fun e w'' => e = .returned (.int .i64 (chk xs : Nat)) ∧ Ext w' w'' := fun w' he => check_any A n c xs w' (hA.ext he.out)
  have hy : ∀ w', Hid (Ext w w') → Calls Tryz.prog 101 #[natV B m d] w' fun e w'' => e = .returned (.int .i64 (chk ys : Nat)) ∧ Ext w' w'' := fun w' he => check_any B m d ys w' (hB.ext he.out)
  clear hA hB
  by_cases h : chk xs = 0
  · have e : chk2 xs ys = chk ys := by unfold chk2; rw [if_neg (by simpa using h)]
    rw [e]
    rw [h] at hx
    clear e h
    go_enter Tryz.func95, Tryz.ntmps95
    go_wp2_with (first
      | (go_at_call 101; (with_reducible refine (hx _ (Lib.hid (by (repeat (first | exact ext_refl _ | assumption | refine ext_setCell ?_ (by simp; try omega) _ | refine ext_alloc ?_ _ | refine ext_drew ?_ | refine ext_drewN ?_ _ | refine ext_trans ?_ (Aft.use _) | refine ext_trans ?_ (by assumption)))))).mono ?_); rintro e w' ⟨rfl, xb⟩; obtain ⟨xc, xf, xl, xz⟩ := ext_use xb; (try simp at xz))
      | (go_at_call 101; (with_reducible refine (hy _ (Lib.hid (by (repeat (first | exact ext_refl _ | assumption | refine ext_setCell ?_ (by simp; try omega) _ | refine ext_alloc ?_ _ | refine ext_drew ?_ | refine ext_drewN ?_ _ | refine ext_trans ?_ (Aft.use _) | refine ext_trans ?_ (by assumption)))))).mono ?_); rintro e w' ⟨rfl, xb⟩; obtain ⟨xc, xf, xl, xz⟩ := ext_use xb; (try simp at xz))
     )
    refine bodyPost_ret (v := _) ?h rfl ⟨rfl, ?_⟩
    case h => simp [results, Tryz.results95, go_sem]
    repeat (first | exact ext_refl _ | assumption | refine ext_setCell ?_ (by simp; try omega) _ | refine ext_alloc ?_ _ | refine ext_drew ?_ | refine ext_drewN ?_ _ | refine ext_trans ?_ (Aft.use _) | refine ext_trans ?_ (by assumption))
  · have e : chk2 xs ys = chk xs := by unfold chk2; rw [if_pos h]
    rw [e]
    have hne : ((chk xs : Int) == 0) = false := by simp; omega
    clear e h
    go_enter Tryz.func95, Tryz.ntmps95
    go_wp2_with (first
      | (go_at_call 101; (with_reducible refine (hx _ (Lib.hid (by (repeat (first | exact ext_refl _ | assumption | refine ext_setCell ?_ (by simp; try omega) _ | refine ext_alloc ?_ _ | refine ext_drew ?_ | refine ext_drewN ?_ _ | refine ext_trans ?_ (Aft.use _) | refine ext_trans ?_ (by assumption)))))).mono ?_); rintro e w' ⟨rfl, xb⟩; obtain ⟨xc, xf, xl, xz⟩ := ext_use xb; (try simp at xz))
     )
    refine bodyPost_ret (v := _) ?h rfl ⟨rfl, ?_⟩
    case h => simp [results, Tryz.results95, go_sem]
    repeat (first | exact ext_refl _ | assumption | refine ext_setCell ?_ (by simp; try omega) _ | refine ext_alloc ?_ _ | refine ext_drew ?_ | refine ext_drewN ?_ _ | refine ext_trans ?_ (Aft.use _) | refine ext_trans ?_ (by assumption))
theorem fits_any (A : Option Addr) (n c : Nat) (xs : List Nat) (w : World) (hR : Rd w A n c xs) (hs : (lim (val xs)).length ≤ 16384) :
    Calls Tryz.prog 97 #[.slice A n c] w fun e w' => ∃ k, e = .returned (.tuple #[natV A k c, .int .i64 0]) ∧ Rd w' A k c (lim (val xs)) ∧ Ext w w' := by
  obtain ⟨k, hk⟩ : ∃ k, k = (lim (val xs)).length := ⟨_, rfl⟩
  have hx : ∀ w', Hid (Ext w w') → Calls Tryz.prog 137 #[.slice A n c] w' fun e w'' => (e = .returned (.slice A k c) ∧ Rd w' A k c (lim (val xs))) ∧ Ext w' w'' := fun w' he => by
    refine (trim_any A n c xs w' (hR.ext he.out)).mono ?_
    rintro e w'' ⟨j, rfl, h2, rfl⟩
    rw [trimZ_lim xs hR.lb] at h2
    obtain rfl : j = k := by rw [hk]; exact h2.len.symm
    exact ⟨⟨rfl, h2⟩, ext_refl _⟩
  have hc := hR.cap
  have hm := hR.mx
  have hks : k ≤ 16384 := by omega
  have hK : Rd w A k c (lim (val xs)) := by
    have h2 := hR.take (k := k) (by
      obtain ⟨j, hj, he⟩ := trimZ_prefix xs
      rw [trimZ_lim xs hR.lb] at he
      rw [hk, he, List.length_take, hR.len]; omega)
    obtain ⟨j, hj, he⟩ := trimZ_prefix xs
    rw [trimZ_lim xs hR.lb] at he
    have h3 : xs.take k = lim (val xs) := by
      rw [he, hk, he, List.length_take, Nat.min_eq_left hj]
    rwa [h3] at h2
  have HK := Lib.hid hk
  clear hR hs hk
  go_enter Tryz.func97, Tryz.ntmps97
  go_wp2_with (first
    | (go_at_call 137; (with_reducible refine (hx _ (Lib.hid (by (repeat (first | exact ext_refl _ | assumption | refine ext_setCell ?_ (by simp; try omega) _ | refine ext_alloc ?_ _ | refine ext_drew ?_ | refine ext_drewN ?_ _ | refine ext_trans ?_ (Aft.use _) | refine ext_trans ?_ (by assumption)))))).mono ?_); rintro e w1 ⟨⟨rfl, hR'⟩, xb1⟩; obtain ⟨xc1, xf1, xl1, xz1⟩ := ext_use xb1; (try simp at xz1))
    | (go_at_call 99; (with_reducible refine (nat_any A k c _).mono ?_); rintro e w' ⟨rfl, xb⟩; obtain ⟨xc, xf, xl, xz⟩ := ext_use xb; (try simp at xz))
   )
  have y : w'.cell? ⟨w.heap.size, 0, none⟩ = some (.slice none 0 0) := by rw [xc _ _ (by omega), xc1 _ _ (by simp), World.cell?_alloc_at _ _ _ _ rfl]; rfl
  refine bodyPost_ret (v := .tuple #[natV A k c, .int .i64 0]) ?h rfl ⟨k, rfl, hK.ext ?_, ?_⟩
  case h => simp [results, Tryz.results97, go_sem, y]
  all_goals
    repeat (first | exact ext_refl _ | assumption | refine ext_setCell ?_ (by simp; try omega) _ | refine ext_alloc ?_ _ | refine ext_drew ?_ | refine ext_drewN ?_ _ | refine ext_trans ?_ (Aft.use _) | refine ext_trans ?_ (by assumption))
theorem chk2_lim {a b : Nat} (ha : (lim a).length ≤ 16384) (hb : (lim b).length ≤ 16384) : chk2 (lim a) (lim b) = 0 := by
  unfold chk2; rw [chk_lim ha, chk_lim hb]; rfl
theorem add_any (A B : Option Addr) (n c m d : Nat) (a b : Nat) (w : World) (hA : Rd w A n c (lim a)) (hB : Rd w B m d (lim b)) (ha : (lim a).length ≤ 16384) (hb : (lim b).length ≤ 16384) (hs : (lim (a + b)).length ≤ 16384) :
    Calls Tryz.prog 52 #[natV A n c, natV B m d] w fun e w' => ∃ A' k c', e = .returned (.tuple #[natV A' k c', .int .i64 0]) ∧ Rd w' A' k c' (lim (a + b)) ∧ Fr w A' ∧ Ext w w' := by
  have h2 : ∀ w', Hid (Ext w w') → Calls Tryz.prog 95 #[natV A n c, natV B m d] w' fun e w'' => e = .returned (.int .i64 0) ∧ Ext w' w'' := fun w' he => by
    have := rtwo_any A B n c m d _ _ w' (hA.ext he.out) (hB.ext he.out)
    rwa [chk2_lim ha hb] at this
  have hp : ∀ w', Hid (Ext w w') → Calls Tryz.prog 98 #[.slice A n c, .slice B m d] w' fun e w'' => ∃ A' k c' zs, (e = .returned (.slice A' k c') ∧ Hid (Rd w'' A' k c' zs ∧ Fr w' A' ∧ val zs = a + b)) ∧ Ext w' w'' := fun w' he => by
    refine (plus_any A B n c m d _ _ (by have := hA.len; omega) (by have := hB.len; omega) w' (hA.ext he.out) (hB.ext he.out)).mono ?_
    rintro e w'' ⟨A', c', zs, rfl, h1, h2, h3, h4, h5, _⟩
    rw [val_lim, val_lim] at h5
    exact ⟨A', _, c', zs, ⟨rfl, h1, h2, h5⟩, h3⟩
  clear hA hB
  have HS := Lib.hid hs
  clear ha hb hs
  go_enter Tryz.func52, Tryz.ntmps52
  go_wp2_with (first
    | (go_at_call 95; (with_reducible refine (h2 _ (Lib.hid (by (repeat (first | exact ext_refl _ | assumption | refine ext_setCell ?_ (by simp; try omega) _ | refine ext_alloc ?_ _ | refine ext_drew ?_ | refine ext_drewN ?_ _ | refine ext_trans ?_ (Aft.use _) | refine ext_trans ?_ (by assumption)))))).mono ?_); rintro e w0 ⟨rfl, xb0⟩; obtain ⟨xc0, xf0, xl0, xz0⟩ := ext_use xb0; (try simp at xz0); have l0_0 := xl0 (w.heap.size) (by first | omega | (simp; try omega)); have r0_0 := xc0 (w.heap.size) 0 (by first | omega | (simp; try omega)); have f0_0 := xf0 (w.heap.size) 0 (by first | omega | (simp; try omega)); have l0_1 := xl0 (w.heap.size + 1) (by first | omega | (simp; try omega)); have r0_1 := xc0 (w.heap.size + 1) 0 (by first | omega | (simp; try omega)); have f0_1 := xf0 (w.heap.size + 1) 0 (by first | omega | (simp; try omega)); have l0_2 := xl0 (w.heap.size + 1 + 1) (by first | omega | (simp; try omega)); have r0_2 := xc0 (w.heap.size + 1 + 1) 0 (by first | omega | (simp; try omega)); have f0_2 := xf0 (w.heap.size + 1 + 1) 0 (by first | omega | (simp; try omega)))
    | (go_at_call 98; (with_reducible refine (hp _ (Lib.hid (by (repeat (first | exact ext_refl _ | assumption | refine ext_setCell ?_ (by simp; try omega) _ | refine ext_alloc ?_ _ | refine ext_drew ?_ | refine ext_drewN ?_ _ | refine ext_trans ?_ (Aft.use _) | refine ext_trans ?_ (by assumption)))))).mono ?_); rintro e w1 ⟨A', k, c', zs, ⟨rfl, hR⟩, xb1⟩; obtain ⟨xc1, xf1, xl1, xz1⟩ := ext_use xb1; (try simp at xz1); have l1_0 := xl1 (w.heap.size + 1 + 1) (by first | omega | (simp; try omega)); have r1_0 := xc1 (w.heap.size + 1 + 1) 0 (by first | omega | (simp; try omega)); have f1_0 := xf1 (w.heap.size + 1 + 1) 0 (by first | omega | (simp; try omega)))
    | (go_at_call 97; (with_reducible refine (fits_any A' k c' zs _ hR.out.1 (by rw [hR.out.2.2]; exact HS.out)).mono ?_); rintro e w2 ⟨k2, rfl, hR2, xb2⟩; obtain ⟨xc2, xf2, xl2, xz2⟩ := ext_use xb2; (try simp at xz2); have l2_0 := xl2 (w.heap.size + 1 + 1) (by first | omega | (simp; try omega)); have r2_0 := xc2 (w.heap.size + 1 + 1) 0 (by first | omega | (simp; try omega)); have f2_0 := xf2 (w.heap.size + 1 + 1) 0 (by first | omega | (simp; try omega)))
   )
  rw [hR.out.2.2] at hR2
  refine bodyPost_ret (v := .tuple #[natV A' k2 c', .int .i64 0]) ?h rfl ⟨A', k2, c', rfl, hR2.set _ ?_, ?_, ?_⟩
  case h => simp [results, Tryz.results52, go_sem, *]
  · intro a ha
    have := hR.out.2.1 a ha
    simp; omega
  · intro a ha
    have := hR.out.2.1 a ha
    omega
  repeat (first | exact ext_refl _ | assumption | refine ext_setCell ?_ (by simp; try omega) _ | refine ext_alloc ?_ _ | refine ext_drew ?_ | refine ext_drewN ?_ _ | refine ext_trans ?_ (Aft.use _) | refine ext_trans ?_ (by assumption))
end Go.Proofs.YtbgimjfeigeicaaGreatDoor
