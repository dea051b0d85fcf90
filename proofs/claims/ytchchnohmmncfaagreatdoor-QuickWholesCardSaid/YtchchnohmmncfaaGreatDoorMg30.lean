/- Lemmas of this proof, laid together: RouH, QkC, QkR. -/
import Derived.Test.YtchchnohmmncfaaGreatDoorMg22
import Derived.Test.YtchchnohmmncfaaGreatDoorMg18
import Derived.Test.YtchchnohmmncfaaGreatDoorMg27
import Derived.Deep.DeepCutAuto
import Derived.Deep.RegionWith
import Derived.Test.YtchchnohmmncfaaGreatDoorMg24
import Derived.Test.YtchchnohmmncfaaGreatDoorMg19
set_option linter.unusedSimpArgs false
set_option linter.unusedVariables false
section
/- Rounding: fractions. -/
namespace Go.Proofs.YtchchnohmmncfaaGreatDoor
open Go.RowKit
attribute [local go_sem] sz2 sz3 sz4 sz5 sz6 sz7 sz8
set_option maxHeartbeats 8000000
set_option maxRecDepth 100000
attribute [local irreducible] Calls
/-- A new number, not yet filled. -/
structure NB (u : World) (x : Nat) : Prop where
  c0 : u.cell? ⟨x, 0, none⟩ = some (.pointer none)
  c1 : u.cell? ⟨x, 1, none⟩ = some (.pointer none)
  f0 : u.frozen? ⟨x, 0, none⟩ = false
  f1 : u.frozen? ⟨x, 1, none⟩ = false
  lt : x < u.heap.size
theorem NB.ext {u u' : World} {x : Nat} (h : NB u x) (he : Ext u u') : NB u' x :=
  ⟨(Below.cell (p := ⟨x, 0, none⟩) he h.lt).trans h.c0, (Below.cell (p := ⟨x, 1, none⟩) he h.lt).trans h.c1, (Below.frozen (p := ⟨x, 0, none⟩) he h.lt).trans h.f0, (Below.frozen (p := ⟨x, 1, none⟩) he h.lt).trans h.f1, ext_lt he _ h.lt⟩
end Go.Proofs.YtchchnohmmncfaaGreatDoor
end
section
/- Exact numbers rounded. -/
namespace Go.Proofs.YtchchnohmmncfaaGreatDoor
open Go.RowKit
attribute [local go_sem] sz2 sz3 sz4 sz5 sz6 sz7 sz8
set_option maxHeartbeats 8000000
set_option maxRecDepth 100000
attribute [local irreducible] Calls
theorem len_tA (a : Nat) (x : Int) (hx : x ≤ 1200) : (lim (tA a x)).length ≤ (lim a).length + 38 := by
  unfold tA
  refine lim_bits ?_
  have h1 := bits_shl a x.toNat
  have h2 := (lim_bytes a).1
  omega
theorem len_tD (x : Int) (hx : -1200 ≤ x) : (lim (tD 1 x)).length ≤ 39 := by
  unfold tD
  refine lim_bits ?_
  have h1 := bits_shl 1 (-x).toNat
  have h2 : bitsOf 1 ≤ 1 := bits_lt (by decide)
  omega
/-- A pair of pointers in a block of its own. -/
structure PairAt (w : World) (x : Nat) : Prop where
  c0 : ∃ t, w.cell? ⟨x, 0, none⟩ = some (.pointer t)
  c1 : ∃ t, w.cell? ⟨x, 1, none⟩ = some (.pointer t)
  no : ∀ o, 2 ≤ o → w.cell? ⟨x, o, none⟩ = none
  lt : x < w.heap.size
theorem PairAt.ext {w w' : World} {x : Nat} (h : PairAt w x) (he : Ext w w') : PairAt w' x := by
  obtain ⟨⟨t, h0⟩, ⟨u, h1⟩, h2, h3⟩ := h
  exact ⟨⟨t, (Below.cell (p := ⟨x, 0, none⟩) he h3).trans h0⟩, ⟨u, (Below.cell (p := ⟨x, 1, none⟩) he h3).trans h1⟩, fun o ho => (Below.cell (p := ⟨x, o, none⟩) he h3).trans (h2 o ho), ext_lt he _ h3⟩
theorem pair_off {w : World} {x b : Nat} {z : Int} {A : Option Addr} {n c : Nat} (h : PairAt w x) (hi : IntIs w b 0 z A n c) : b ≠ x ∧ Off A n x := by
  obtain ⟨⟨t, h0⟩, ⟨u, h1⟩, h2, h3⟩ := h
  constructor
  · intro e
    subst e
    have := hi.neg
    rw [h0] at this
    cases this
  · rintro ⟨g, off, s⟩ hA hn e
    have hs := hi.rd.at_ _ hA
    simp only at hs e
    subst hs e
    have hl := hi.rd.len
    obtain ⟨-, k⟩ := hi.rd.cells g off hA 0 (by omega)
    rw [Nat.add_zero] at k
    rcases Nat.lt_or_ge off 2 with q | q
    · rcases (by omega : off = 0 ∨ off = 1) with rfl | rfl
      · rw [h0] at k; cases k
      · rw [h1] at k; cases k
    · rw [h2 off q] at k; cases k
theorem NbIs.pair {w w' : World} {p q a d x : Nat} (h : NbIs w p q a d) (hp : PairAt w x) (ht : Tch x w w') : NbIs w' p q a d := by
  obtain ⟨⟨A, n, c, h1⟩, ⟨B, m, k, h2⟩⟩ := h
  exact ⟨⟨A, n, c, h1.tch ht (pair_off hp h1).1 (pair_off hp h1).2⟩, ⟨B, m, k, h2.tch ht (pair_off hp h2).1 (pair_off hp h2).2⟩⟩
theorem ro_Dyadic (E F mode : Nat) (neg below : Bool) (A : Option Addr) (n c a : Nat) (x : Int) (hE : 2 ≤ E ∧ E ≤ 11) (hF : 1 ≤ F ∧ F ≤ 52) (hm : mode ≤ 4) (hn : n ≤ 16384) (hx : -1200 ≤ x ∧ x ≤ 1200) (hok : (a = 0 ∧ below = false ∧ x = 0) ∨ a % 2 = 1) (w : World) (hA : Rd w A n c (lim a)) :
    Calls Tryz.prog 57 #[fmV E F, dyV below A n c x, .bool neg, .int .u8 (mode : Int)] w fun e w' => e = .returned (.tuple #[.int .u64 (bitsS E F mode below neg (tA a x) (tD 1 x) : Nat), .int .u8 (flagS E F mode below (tA a x) (tD 1 x) : Nat), .int .i64 0]) ∧ Ext w w' := by
  have la := hA.len
  have KF := Lib.hid (fun w' => fm_Check E F hE hF w')
  have KX := Lib.hid (fun w' (he : Ext w w') => show Calls Tryz.prog 98 #[dyV below A n c x] w' fun e w'' => e = .returned (.int .i64 0) ∧ Ext w' w'' by
    rcases hok with ⟨rfl, rfl, rfl⟩ | h
    · exact ex_Check0 A n c w' (hA.ext he)
    · exact ex_Check below A n c a x hn (by omega) h w' (hA.ext he))
  have KA := Lib.hid (fun w' (he : Ext w w') => ro_large a A n c (by omega) w' (hA.ext he))
  have K1 := Lib.hid (fun w' => bi_NewInt 1 (by decide) (by decide) w')
  obtain ⟨X, hX⟩ : ∃ X, bitsS E F mode below neg (tA a x) (tD 1 x) = X := ⟨_, rfl⟩
  obtain ⟨Y, hY⟩ : ∃ Y, flagS E F mode below (tA a x) (tD 1 x) = Y := ⟨_, rfl⟩
  have h1A := len_tA a x hx.2
  have h1D := len_tD x hx.1
  have KS := Lib.hid (fun p q w' (h : NbIs w' p q (tA a x) (tD 1 x)) => ro_signed p q (tA a x) (tD 1 x) E F mode below neg hE hF hm (Nat.mul_pos (by decide) (Nat.two_pow_pos _)) (by omega) (by omega) w' h)
  rw [hX, hY] at KS
  rw [hX, hY]
  have hl1 : (lim 1).length ≤ 500000 := by have e : (lim 1).length = 1 := by kernel_rfl
                                           omega
  have KT := Lib.hid (fun p q w' (h : NbIs w' p q a 1) => nb_times p q a 1 x (by omega) hl1 (by omega) w' h)
  have hba : bitsOf a ≤ 16384 * 32 := by have := (lim_bytes a).1; omega
  have KB := Lib.hid (fun b B nn cc u (h : IntIs u b 0 (a : Int) B nn cc) => show Calls Tryz.prog 103 #[.pointer (some ⟨b, 0, none⟩)] u fun e u' => e = .returned (.int .i64 (bitsOf a : Nat)) ∧ Ext u u' by
    have := bi_BitLen b 0 (a : Int) B nn cc (by have := h.rd.len; rw [Int.natAbs_natCast] at this; omega) u h
    rwa [Int.natAbs_natCast] at this)
  obtain ⟨ba, hbe⟩ : ∃ y, bitsOf a = y := ⟨_, rfl⟩
  rw [hbe] at KB hba
  have KN := Lib.hid (fun u => ro_near x ba hx (by omega) u)
  have hmi : ¬ (4 : Int) < (mode : Int) := by omega
  have hmd : decide ((4 : Int) < (mode : Int)) = false := decide_eq_false hmi
  have hbi : (ba : Int) ≤ 16384 * 32 := by omega
  clear hX hY hA hbe hok h1A h1D hl1 hE hF hba
  go_enter Tryz.func57, Tryz.ntmps57
  go_upto_region 1 with fail
  obtain ⟨W, hW⟩ : ∃ W, W = (w.alloc (.cells #[.int .i64 (E : Int), .int .i64 (F : Int)] 47)).alloc (.cells #[.bool below, .slice A n c, .int .i64 x] 90) := ⟨_, rfl⟩
  obtain ⟨B0, hB0⟩ : ∃ B0, w.heap.size = B0 := ⟨_, rfl⟩
  have xW : Hid (Ext w W) := by show Ext w W; rw [hW]; exact ext_alloc (ext_alloc (ext_refl _) _) _
  have bx : Hid (∀ u, Ext W u → u.cell? ⟨B0, 0, none⟩ = some (.int .i64 (E : Int)) ∧ u.cell? ⟨B0, 1, none⟩ = some (.int .i64 (F : Int)) ∧ u.cell? ⟨B0 + 1, 0, none⟩ = some (.bool below) ∧ u.cell? ⟨B0 + 1, 1, none⟩ = some (.slice A n c) ∧ u.cell? ⟨B0 + 1, 2, none⟩ = some (.int .i64 x) ∧ B0 + 1 < u.heap.size) := Lib.hid fun u hu => by
    have l1 : B0 + 1 < W.heap.size := by rw [hW, ← hB0]; simp
    have l0 : B0 < W.heap.size := by omega
    refine ⟨(Below.cell (p := ⟨B0, 0, none⟩) hu l0).trans ?_, (Below.cell (p := ⟨B0, 1, none⟩) hu l0).trans ?_, (Below.cell (p := ⟨B0 + 1, 0, none⟩) hu l1).trans ?_, (Below.cell (p := ⟨B0 + 1, 1, none⟩) hu l1).trans ?_, (Below.cell (p := ⟨B0 + 1, 2, none⟩) hu l1).trans ?_, Nat.lt_of_lt_of_le l1 (ext_size hu)⟩
    all_goals (rw [hW, ← hB0]; simp [go_sem])
  obtain ⟨c0, c1, c2, c3, c4, cl⟩ := bx.out W (ext_refl _)
  rw [← hW, hB0]
  clear hW hB0
  go_wp2_with (first
    | (go_at_call 97; (with_reducible refine (KF.out _).mono ?_); rintro e w1 ⟨rfl, hX1⟩; obtain ⟨c0, c1, c2, c3, c4, cl⟩ := bx.out _ hX1)
    | (go_at_call 98; (with_reducible refine (KX.out _ (ext_trans xW.out hX1)).mono ?_); rintro e w2 ⟨rfl, hE2⟩; have hX2 := ext_trans hX1 hE2; obtain ⟨c0, c1, c2, c3, c4, cl⟩ := bx.out _ hX2)
    | (go_at_call 99; (with_reducible refine (KA.out _ (ext_trans xW.out hX2)).mono ?_); rintro e w3 ⟨b5, B5, k5, l5, rfl, hI5, hb5, xb5, hf5⟩; have hX3 := ext_trans hX2 xb5; obtain ⟨c0, c1, c2, c3, c4, cl⟩ := bx.out _ hX3)
    | (go_at_call 100; (with_reducible refine (K1.out _).mono ?_); rintro e w4 ⟨b6, B6, k6, l6, rfl, hI6, hb6, xb6⟩; have hX4 := ext_trans hX3 xb6; obtain ⟨c0, c1, c2, c3, c4, cl⟩ := bx.out _ hX4))
  have cl4 := cl
  obtain ⟨xN, hxN⟩ : ∃ y, w4.heap.size = y := ⟨_, rfl⟩
  obtain ⟨W4, hW4⟩ : ∃ u, u = w4.alloc (.cells #[.pointer (some ⟨b5, 0, none⟩), .pointer (some ⟨b6, 0, none⟩)] 131) := ⟨_, rfl⟩
  have hX5 : Ext W W4 := by rw [hW4]; exact ext_alloc hX4 _
  have hE45 : Ext w4 W4 := by rw [hW4]; exact ext_alloc (ext_refl _) _
  have hN4 : NbIs W4 b5 b6 a 1 := ⟨⟨_, _, _, (hI5.out.ext xb6).ext hE45⟩, ⟨_, _, _, hI6.out.1.ext hE45⟩⟩
  have hP4 : PairAt W4 xN := by
    rw [hW4, ← hxN]
    refine ⟨⟨_, World.cell?_alloc_new _ _ _ _⟩, ⟨_, World.cell?_alloc_new _ _ _ _⟩, fun o ho => ?_, by simp⟩
    rw [World.cell?_alloc_new]
    exact Array.getElem?_eq_none (by simpa using ho)
  have n0 : W4.cell? ⟨xN, 0, none⟩ = some (.pointer (some ⟨b5, 0, none⟩)) := by rw [hW4, ← hxN, World.cell?_alloc_new]; rfl
  have n1 : W4.cell? ⟨xN, 1, none⟩ = some (.pointer (some ⟨b6, 0, none⟩)) := by rw [hW4, ← hxN, World.cell?_alloc_new]; rfl
  have nf0 : W4.frozen? ⟨xN, 0, none⟩ = false := by rw [hW4, ← hxN]; exact World.frozen?_alloc_new _ _ _ _
  have nf1 : W4.frozen? ⟨xN, 1, none⟩ = false := by rw [hW4, ← hxN]; exact World.frozen?_alloc_new _ _ _ _
  have hBx : B0 + 1 < xN := by omega
  have hlx := hP4.lt
  have bxx : Hid (∀ u, Ext W4 u → (u.cell? ⟨B0, 0, none⟩ = some (.int .i64 (E : Int)) ∧ u.cell? ⟨B0, 1, none⟩ = some (.int .i64 (F : Int)) ∧ u.cell? ⟨B0 + 1, 0, none⟩ = some (.bool below) ∧ u.cell? ⟨B0 + 1, 1, none⟩ = some (.slice A n c) ∧ u.cell? ⟨B0 + 1, 2, none⟩ = some (.int .i64 x) ∧ B0 + 1 < u.heap.size) ∧ u.cell? ⟨xN, 0, none⟩ = some (.pointer (some ⟨b5, 0, none⟩)) ∧ u.cell? ⟨xN, 1, none⟩ = some (.pointer (some ⟨b6, 0, none⟩)) ∧ u.frozen? ⟨xN, 0, none⟩ = false ∧ u.frozen? ⟨xN, 1, none⟩ = false ∧ xN < u.heap.size) := Lib.hid fun u hu =>
    ⟨bx.out u (ext_trans hX5 hu), (Below.cell (p := ⟨xN, 0, none⟩) hu hlx).trans n0, (Below.cell (p := ⟨xN, 1, none⟩) hu hlx).trans n1, (Below.frozen (p := ⟨xN, 0, none⟩) hu hlx).trans nf0, (Below.frozen (p := ⟨xN, 1, none⟩) hu hlx).trans nf1, ext_lt hu _ hlx⟩
  have KB2 := Lib.hid (fun u (he : Ext W4 u) => KB.out b5 B5 k5 l5 u (((hI5.out.ext xb6).ext hE45).ext he))
  have KT2 := Lib.hid (fun u (he : Ext W4 u) => KT.out b5 b6 u (hN4.ext he))
  have HP := Lib.hid hP4
  have HXW := Lib.hid (ext_trans xW.out hX5)
  have HWX : Hid (w.heap.size ≤ xN) := by have h1 := ext_size xW.out; have h2 := ext_size hX4; show _ ≤ _; omega
  have e0 : ¬ B0 = xN := by omega
  have e1 : ¬ B0 + 1 = xN := by omega
  rw [← hW4, hxN]
  obtain ⟨⟨c0, c1, c2, c3, c4, cl⟩, n0, n1, nf0, nf1, hlx⟩ := bxx.out W4 (ext_refl _)
  clear hW4 hxN hX5 hX4 hX3 hX2 hX1 hE2 xb5 xb6 hI5 hI6 hb5 hb6 hf5 hE45 hN4 hP4 bx xW KB KT KF KX KA K1 cl4
  go_region_with (first
    | (go_at_call 103; (with_reducible refine (KB2.out _ (by (repeat (first | exact ext_refl _ | assumption | refine ext_setCell ?_ (by simp; try omega) _ | refine ext_alloc ?_ _ | refine ext_drew ?_ | refine ext_drewN ?_ _ | refine ext_trans ?_ (Aft.use _) | refine ext_trans ?_ (by assumption))))).mono ?_); rintro e w5 ⟨rfl, xb5⟩; obtain ⟨⟨c0, c1, c2, c3, c4, cl⟩, n0, n1, nf0, nf1, hlx⟩ := bxx.out w5 (by (repeat (first | exact ext_refl _ | assumption | refine ext_setCell ?_ (by simp; try omega) _ | refine ext_alloc ?_ _ | refine ext_drew ?_ | refine ext_drewN ?_ _ | refine ext_trans ?_ (Aft.use _) | refine ext_trans ?_ (by assumption)))))
    | (go_at_call 102; (with_reducible refine (KN.out _).mono ?_); rintro e w6 ⟨rfl, xb6⟩; obtain ⟨⟨c0, c1, c2, c3, c4, cl⟩, n0, n1, nf0, nf1, hlx⟩ := bxx.out w6 (by (repeat (first | exact ext_refl _ | assumption | refine ext_setCell ?_ (by simp; try omega) _ | refine ext_alloc ?_ _ | refine ext_drew ?_ | refine ext_drewN ?_ _ | refine ext_trans ?_ (Aft.use _) | refine ext_trans ?_ (by assumption)))))
    | (go_at_call 101; (with_reducible refine (KT2.out _ (by (repeat (first | exact ext_refl _ | assumption | refine ext_setCell ?_ (by simp; try omega) _ | refine ext_alloc ?_ _ | refine ext_drew ?_ | refine ext_drewN ?_ _ | refine ext_trans ?_ (Aft.use _) | refine ext_trans ?_ (by assumption))))).mono ?_); rintro e w7 ⟨p, q, rfl, hN7, xb7⟩; obtain ⟨⟨c0, c1, c2, c3, c4, cl⟩, n0, n1, nf0, nf1, hlx⟩ := bxx.out w7 (by (repeat (first | exact ext_refl _ | assumption | refine ext_setCell ?_ (by simp; try omega) _ | refine ext_alloc ?_ _ | refine ext_drew ?_ | refine ext_drewN ?_ _ | refine ext_trans ?_ (Aft.use _) | refine ext_trans ?_ (by assumption))))))
  all_goals
    go_wp2_with (first
      | (go_at_call 104; (with_reducible refine (KS.out p q _ (hN7.out.pair (HP.out.ext (by (repeat (first | exact ext_refl _ | assumption | refine ext_setCell ?_ (by simp; try omega) _ | refine ext_alloc ?_ _ | refine ext_drew ?_ | refine ext_drewN ?_ _ | refine ext_trans ?_ (Aft.use _) | refine ext_trans ?_ (by assumption))))) (((Tch.refl _ _).set _ _).set _ _))).mono ?_); rintro e w8 ⟨rfl, xb8⟩))
    refine bodyPost_ret (v := .tuple #[.int .u64 ↑X, .int .u8 ↑Y, .int .i64 0]) ?h rfl ⟨rfl, ext_trans (Tch.ext ((Tch.of (show Ext W4 w7 by (repeat (first | exact ext_refl _ | assumption | refine ext_setCell ?_ (by simp; try omega) _ | refine ext_alloc ?_ _ | refine ext_drew ?_ | refine ext_drewN ?_ _ | refine ext_trans ?_ (Aft.use _) | refine ext_trans ?_ (by assumption))))).trans (((Tch.refl _ _).set _ _).set _ _)) HXW.out HWX.out) xb8⟩
    case h => simp [results, Tryz.results57, go_sem]
end Go.Proofs.YtchchnohmmncfaaGreatDoor
end
section
/- QuickRight: the plain law. -/
namespace Go.Proofs.YtchchnohmmncfaaGreatDoor
open Go.RowKit
set_option maxRecDepth 100000
theorem right_cross (V P : Nat) (x : Int) : V * 10 ^ (x - P).toNat * 10 ^ (x - (x - P).toNat).toNat * 10 ^ (-x).toNat = V * 10 ^ x.toNat * 10 ^ (-(x - (x - P).toNat)).toNat := by
  rcases Nat.eq_zero_or_pos (x - P).toNat with h | h
  · rw [h]
    simp only [Nat.pow_zero, Nat.mul_one, Int.natCast_zero, Int.sub_zero]
  · have h1 : (-x).toNat = 0 := by omega
    have h2 : (-(x - (x - P).toNat)).toNat = 0 := by omega
    have h3 : x.toNat = (x - P).toNat + (x - (x - P).toNat).toNat := by omega
    rw [h1, h2, Nat.pow_zero, Nat.mul_one, Nat.mul_one, h3, Nat.pow_add, ← Nat.mul_assoc]
theorem right_law (E F P : Nat) (hE : 2 ≤ E) (neg : Bool) (l : List UInt8) (x : Int) (hV : l ≠ [] → 0 < dval l) :
    rdB E F neg (askN ⟨neg, l, x⟩ P) (askX ⟨neg, l, x⟩ P) = bitsS E F 0 (decide (canN (dz ⟨neg, l, x⟩) (dp ⟨neg, l, x⟩) < 0)) neg (canN (dz ⟨neg, l, x⟩) (dp ⟨neg, l, x⟩)).natAbs (canD (dz ⟨neg, l, x⟩) (dp ⟨neg, l, x⟩)) := by
  by_cases hl : l = []
  · subst hl
    have hz : dz ⟨neg, [], x⟩ = 0 := by
      unfold dz
      have e : dval [] * 10 ^ x.toNat = 0 := Nat.zero_mul _
      show sgn neg ((dval [] * 10 ^ x.toNat : Nat)) = 0
      rw [e]
      cases neg <;> rfl
    rw [hz, canN_zero]
    have hn : askN ⟨neg, [], x⟩ P = 0 := if_pos rfl
    rw [hn]
    unfold rdB bitsS
    rw [if_pos rfl, if_pos (show Int.natAbs 0 = 0 from rfl), Nat.add_zero]
  · have hv := hV hl
    have hn : askN ⟨neg, l, x⟩ P = dval l * 10 ^ (x - P).toNat := if_neg hl
    have hx : askX ⟨neg, l, x⟩ P = x - (x - P).toNat := if_neg hl
    rw [hn, hx]
    have hc := right_cross (dval l) P x
    have hz : dz ⟨neg, l, x⟩ = sgn neg (dval l * 10 ^ x.toNat : Nat) := rfl
    have hp : dp ⟨neg, l, x⟩ = 10 ^ (-x).toNat := rfl
    rw [hz, hp]
    have hA : 0 < dval l * 10 ^ x.toNat := Nat.mul_pos hv (Nat.pow_pos (by decide))
    have hq : 0 < 10 ^ (-x).toNat := Nat.pow_pos (by decide)
    have hP1 : 0 < dval l * 10 ^ (x - P).toNat * 10 ^ (x - (x - P).toNat).toNat := Nat.mul_pos (Nat.mul_pos hv (Nat.pow_pos (by decide))) (Nat.pow_pos (by decide))
    have hQ1 : 0 < 10 ^ (-(x - (x - P).toNat)).toNat := Nat.pow_pos (by decide)
    have hN1 : ¬ dval l * 10 ^ (x - P).toNat = 0 := Nat.ne_of_gt (Nat.mul_pos hv (Nat.pow_pos (by decide)))
    unfold rdB
    rw [if_neg hN1]
    generalize dval l * 10 ^ (x - P).toNat * 10 ^ (x - (x - P).toNat).toNat = P1 at *
    generalize 10 ^ (-(x - (x - P).toNat)).toNat = Q1 at *
    generalize dval l * 10 ^ x.toNat = A at *
    generalize 10 ^ (-x).toNat = q at *
    have hg : 0 < Nat.gcd A q := Nat.gcd_pos_of_pos_left _ hA
    obtain ⟨a, ha⟩ := Nat.gcd_dvd_left A q
    obtain ⟨d, hd⟩ := Nat.gcd_dvd_right A q
    have e1 : (canN (sgn neg A) q).natAbs = a := by
      unfold canN
      rw [sgn_abs, sgn_abs]
      refine Nat.div_eq_of_eq_mul_right hg ha
    have e2 : canD (sgn neg A) q = d := by
      unfold canD
      rw [sgn_abs]
      refine Nat.div_eq_of_eq_mul_right hg hd
    have ha0 : 0 < a := Nat.pos_of_ne_zero fun h => by rw [h, Nat.mul_zero] at ha; omega
    have hd0 : 0 < d := Nat.pos_of_ne_zero fun h => by rw [h, Nat.mul_zero] at hd; omega
    have e3 : decide (canN (sgn neg A) q < 0) = neg := by
      have : (canN (sgn neg A) q) = sgn (decide (sgn neg A < 0)) a := by
        unfold canN
        rw [sgn_abs, Nat.div_eq_of_eq_mul_right hg ha]
      rw [this, sgn_lt, sgn_lt, decide_eq_true ha0, decide_eq_true hA, Bool.and_true, Bool.and_true]
    rw [e1, e2, e3]
    unfold bitsS
    rw [if_neg (Nat.ne_of_gt ha0), Nat.add_comm]
    congr 1
    rw [← bits_even (neg := neg) hE hP1 hQ1]
    refine bitsQ_eq hP1 hQ1 ha0 hd0 ?_
    refine Nat.eq_of_mul_eq_mul_right hg ?_
    generalize Nat.gcd A q = g at *
    subst ha hd
    calc P1 * d * g = P1 * (g * d) := by rw [Nat.mul_assoc, Nat.mul_comm d g]
      _ = g * a * Q1 := hc
      _ = a * Q1 * g := by rw [Nat.mul_comm g a, Nat.mul_assoc, Nat.mul_comm g Q1, Nat.mul_assoc]
theorem rdB_lt3 (E F : Nat) (neg : Bool) (n : Nat) (e : Int) : rdB E F neg n e < 2 ^ (E + F + 1) := by
  have h := rdB_lt (E := E) (F := F) (n := n) (e := e)
  have h2 : 2 ^ (E + F + 1) = 2 * 2 ^ (E + F) := by rw [Nat.pow_succ, Nat.mul_comm]
  cases neg with
  | false => omega
  | true => rw [rdB_neg]; omega
end Go.Proofs.YtchchnohmmncfaaGreatDoor
end
