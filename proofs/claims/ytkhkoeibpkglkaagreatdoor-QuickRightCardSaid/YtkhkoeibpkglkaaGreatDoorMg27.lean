/- Lemmas of this proof, laid together: RouH, QkC. -/
import Derived.Test.YtkhkoeibpkglkaaGreatDoorMg20
import Derived.Test.YtkhkoeibpkglkaaGreatDoorMg24
import Derived.Test.YtkhkoeibpkglkaaGreatDoorMg26
import Derived.Deep.DeepCutAuto
import Derived.Deep.RegionWith
import Derived.Test.YtkhkoeibpkglkaaGreatDoorMg21
set_option linter.unusedSimpArgs false
set_option linter.unusedVariables false
section
/- Rounding: fractions. -/
namespace Go.Proofs.YtkhkoeibpkglkaaGreatDoor
open Go.RowKit
attribute [local go_sem] sz2 sz3 sz4 sz5 sz6 sz7 sz8
set_option maxHeartbeats 8000000
set_option maxRecDepth 100000
attribute [local irreducible] Calls
theorem byz {P Q : Prop} (h : P) (k : P → Q) : Q := k h
/-- A new number, not yet filled. -/
structure NB (u : World) (x : Nat) : Prop where
  c0 : u.cell? ⟨x, 0, none⟩ = some (.pointer none)
  c1 : u.cell? ⟨x, 1, none⟩ = some (.pointer none)
  f0 : u.frozen? ⟨x, 0, none⟩ = false
  f1 : u.frozen? ⟨x, 1, none⟩ = false
  lt : x < u.heap.size
theorem NB.ext {u u' : World} {x : Nat} (h : NB u x) (he : Ext u u') : NB u' x :=
  ⟨(Below.cell (p := ⟨x, 0, none⟩) he h.lt).trans h.c0, (Below.cell (p := ⟨x, 1, none⟩) he h.lt).trans h.c1, (Below.frozen (p := ⟨x, 0, none⟩) he h.lt).trans h.f0, (Below.frozen (p := ⟨x, 1, none⟩) he h.lt).trans h.f1, ext_lt he _ h.lt⟩
theorem nb_set {u : World} {x : Nat} (h : NB u x) (v v' : Value) : ((u.setCell ⟨x, 0, none⟩ v).setCell ⟨x, 1, none⟩ v').cell? ⟨x, 0, none⟩ = some v ∧ ((u.setCell ⟨x, 0, none⟩ v).setCell ⟨x, 1, none⟩ v').cell? ⟨x, 1, none⟩ = some v' ∧ x < ((u.setCell ⟨x, 0, none⟩ v).setCell ⟨x, 1, none⟩ v').heap.size := by
  obtain ⟨h0, h1, h2, h3, h4⟩ := h
  refine ⟨by simp [go_sem, h0, h1], by simp [go_sem, h0, h1], by simp; omega⟩
theorem exp_ten0 (b p q : Nat) (P : Option Addr) (n c : Nat) (Q : Option Addr) (m d : Nat) (u : World) (hr : Room u b 0) (hx : IntIs u p 0 10 P n c) (hy : IntIs u q 0 0 Q m d) :
    Calls Tryz.prog 77 #[.pointer (some ⟨b, 0, none⟩), .pointer (some ⟨p, 0, none⟩), .pointer (some ⟨q, 0, none⟩), .pointer none] u (IPost u b 0 1) := by
  have h1 := hx.rd.len
  have e : (lim (10 : Int).natAbs).length = 1 := by kernel_rfl
  exact bi_Exp0 b p q 10 P n c Q m d (by omega) u hr hx hy
theorem mul_one_num (b g a : Nat) (B : Option Addr) (k l : Nat) (A : Option Addr) (n c : Nat) (hk : k ≤ 16384) (u : World) (hx : IntIs u b 0 (a : Int) B k l) (hy : IntIs u g 0 1 A n c) :
    Calls Tryz.prog 79 #[.pointer (some ⟨b, 0, none⟩), .pointer (some ⟨b, 0, none⟩), .pointer (some ⟨g, 0, none⟩)] u (IPost u b 0 (a : Int)) := by
  have h1 := hy.rd.len
  have e : (lim (1 : Int).natAbs).length = 1 := by kernel_rfl
  have := bi_Mul b 0 b 0 g 0 (a : Int) 1 B k l A n c (by omega) (by omega) u hx.room hx hy
  rwa [Int.mul_one] at this
theorem ro_ratio0 (E F mode : Nat) (neg below : Bool) (A : Option Addr) (n c a : Nat) (D : Option Addr) (m k d : Nat) (hE : 2 ≤ E ∧ E ≤ 11) (hF : 1 ≤ F ∧ F ≤ 52) (hm : mode ≤ 4) (hd : d ≠ 0) (hn : n ≤ 16384) (hmm : m ≤ 16384) (hg : Nat.gcd a d = 1) (hng : below = true → a ≠ 0) (w : World) (hT : Tz w) (hA : Rd w A n c (lim a)) (hD : Rd w D m k (lim d)) :
    Calls Tryz.prog 38 #[fmV E F, ratV below A n c D m k, .int .i64 0, .bool neg, .int .u8 (mode : Int)] w fun e w' => e = .returned (.tuple #[.int .u64 (bitsS E F mode below neg a d : Nat), .int .u8 (flagS E F mode below a d : Nat), .int .i64 0]) ∧ Ext w w' := by
  have la := hA.len
  have ld := hD.len
  have KF := Lib.hid (fun w' => fm_Check E F hE hF w')
  have KR := Lib.hid (fun w' (he : Ext w w') => ra_check_yes below A n c a D m k d hd hn hmm hg hng w' (hT.ext he) (hA.ext he) (hD.ext he))
  have KA := Lib.hid (fun w' (he : Ext w w') => ro_large a A n c (by omega) w' (hA.ext he))
  have KD := Lib.hid (fun w' (he : Ext w w') => ro_large d D m k (by omega) w' (hD.ext he))
  obtain ⟨X, hX⟩ : ∃ X, bitsS E F mode below neg a d = X := ⟨_, rfl⟩
  obtain ⟨Y, hY⟩ : ∃ Y, flagS E F mode below a d = Y := ⟨_, rfl⟩
  have KS := Lib.hid (fun p q w' (h : NbIs w' p q a d) => ro_signed p q a d E F mode below neg hE hF hm (by omega) (by omega) (by omega) w' h)
  rw [hX, hY] at KS
  rw [hX, hY]
  have hmi : ¬ (4 : Int) < (mode : Int) := by omega
  have hmd : decide ((4 : Int) < (mode : Int)) = false := decide_eq_false hmi
  have hbb : bitsOf a ≤ 16384 * 32 ∧ bitsOf d ≤ 16384 * 32 := by
    have h1 := (lim_bytes a).1
    have h2 := (lim_bytes d).1
    omega
  obtain ⟨ba, hba⟩ : ∃ x, bitsOf a = x := ⟨_, rfl⟩
  obtain ⟨bd, hbd⟩ : ∃ x, bitsOf d = x := ⟨_, rfl⟩
  have kBA : ∀ b B nn cc u, nn ≤ 1000000 → IntIs u b 0 (a : Int) B nn cc → Calls Tryz.prog 76 #[.pointer (some ⟨b, 0, none⟩)] u fun e u' => e = .returned (.int .i64 (ba : Int)) ∧ Ext u u' := fun b B nn cc u hnn h => by
    have := bi_BitLen b 0 (a : Int) B nn cc hnn u h
    rwa [Int.natAbs_natCast, hba] at this
  have kBD : ∀ b B nn cc u, nn ≤ 1000000 → IntIs u b 0 (d : Int) B nn cc → Calls Tryz.prog 76 #[.pointer (some ⟨b, 0, none⟩)] u fun e u' => e = .returned (.int .i64 (bd : Int)) ∧ Ext u u' := fun b B nn cc u hnn h => by
    have := bi_BitLen b 0 (d : Int) B nn cc hnn u h
    rwa [Int.natAbs_natCast, hbd] at this
  rw [hba, hbd] at hbb
  have KBA := Lib.hid kBA
  have KBD := Lib.hid kBD
  clear hX hY hg hng hT hA hD hba hbd kBA kBD hE hF
  go_enter Tryz.func38, Tryz.ntmps38
  go_upto_region 2 with fail
  obtain ⟨W, hW⟩ : ∃ W, W = (w.alloc (.cells #[.int .i64 (E : Int), .int .i64 (F : Int)] 28)).alloc (.cells #[.bool below, .slice A n c, .slice D m k] 33) := ⟨_, rfl⟩
  obtain ⟨B0, hB0⟩ : ∃ B0, w.heap.size = B0 := ⟨_, rfl⟩
  have xW : Hid (Ext w W) := by show Ext w W; rw [hW]; exact ext_alloc (ext_alloc (ext_refl _) _) _
  have bx : Hid (∀ u, Ext W u → u.cell? ⟨B0, 0, none⟩ = some (.int .i64 (E : Int)) ∧ u.cell? ⟨B0, 1, none⟩ = some (.int .i64 (F : Int)) ∧ u.cell? ⟨B0 + 1, 0, none⟩ = some (.bool below) ∧ u.cell? ⟨B0 + 1, 1, none⟩ = some (.slice A n c) ∧ u.cell? ⟨B0 + 1, 2, none⟩ = some (.slice D m k) ∧ B0 + 1 < u.heap.size) := Lib.hid fun u hu => by
    have l1 : B0 + 1 < W.heap.size := by rw [hW, ← hB0]; simp
    have l0 : B0 < W.heap.size := by omega
    refine ⟨(Below.cell (p := ⟨B0, 0, none⟩) hu l0).trans ?_, (Below.cell (p := ⟨B0, 1, none⟩) hu l0).trans ?_, (Below.cell (p := ⟨B0 + 1, 0, none⟩) hu l1).trans ?_, (Below.cell (p := ⟨B0 + 1, 1, none⟩) hu l1).trans ?_, (Below.cell (p := ⟨B0 + 1, 2, none⟩) hu l1).trans ?_, Nat.lt_of_lt_of_le l1 (ext_size hu)⟩
    all_goals (rw [hW, ← hB0]; simp [go_sem])
  obtain ⟨c0, c1, c2, c3, c4, cl⟩ := bx.out W (ext_refl _)
  rw [← hW, hB0]
  have hWw : Hid (w.heap.size ≤ W.heap.size) := ext_size xW.out
  clear hW hB0
  go_wp2_with (first
    | (go_at_call 72; (with_reducible refine (KF.out _).mono ?_); rintro e w1 ⟨rfl, hX1⟩; obtain ⟨c0, c1, c2, c3, c4, cl⟩ := bx.out _ hX1)
    | (go_at_call 73; (with_reducible refine (KR.out _ (ext_trans xW.out hX1)).mono ?_); rintro e w2 ⟨rfl, hE2⟩; have hX2 := ext_trans hX1 hE2; obtain ⟨c0, c1, c2, c3, c4, cl⟩ := bx.out _ hX2))
  have hb3 := Lib.hid (fun u (hu : Ext w2 u) => bx.out u (ext_trans hX2 hu))
  have hE0 := Lib.hid (ext_trans xW.out hX2)
  have KA2 := Lib.hid (fun u (hu : Ext w2 u) => KA.out u (ext_trans hE0.out hu))
  have KD2 := Lib.hid (fun u (hu : Ext w2 u) => KD.out u (ext_trans hE0.out hu))
  clear bx xW hX1 hE2 hX2
  go_cut [13] (fun v wc => ∃ x b1 B1 k1 l1 b2 B2 k2 l2, v = .pointer (some ⟨x, 0, none⟩) ∧ Hid (wc.cell? ⟨x, 0, none⟩ = some (.pointer (some ⟨b1, 0, none⟩)) ∧ wc.cell? ⟨x, 1, none⟩ = some (.pointer (some ⟨b2, 0, none⟩)) ∧ w2.heap.size ≤ x ∧ x < wc.heap.size) ∧ Hid (IntIs wc b1 0 (a : Int) B1 k1 l1) ∧ Hid (IntIs wc b2 0 (d : Int) B2 k2 l2) ∧ Hid (b2 ≠ b1 ∧ Off B2 k2 b1 ∧ x ≠ b1 ∧ w2.heap.size ≤ b1) ∧ Hid (Ext w2 wc))
  case first =>
    go_region_with (first
      | (go_at_call 74; (with_reducible refine (KA2.out _ (by (repeat (first | exact ext_refl _ | assumption | refine ext_setCell ?_ (by simp; try omega) _ | refine ext_alloc ?_ _ | refine ext_drew ?_ | refine ext_drewN ?_ _ | refine ext_trans ?_ (Aft.use _) | refine ext_trans ?_ (by assumption))))).mono ?_); rintro e w5 ⟨b5, B5, k5, l5, rfl, hI5, hb5, xb5, hf5⟩; obtain ⟨c0, c1, c2, c3, c4, cl⟩ := hb3.out w5 (by (repeat (first | exact ext_refl _ | assumption | refine ext_setCell ?_ (by simp; try omega) _ | refine ext_alloc ?_ _ | refine ext_drew ?_ | refine ext_drewN ?_ _ | refine ext_trans ?_ (Aft.use _) | refine ext_trans ?_ (by assumption)))); (try (replace Z := Z.ext xb5; obtain ⟨z0, z1, z2, z3, z4⟩ := id Z)); (try (refine byz (P := NB w5 w2.heap.size) ?_ ?_; (refine NB.ext ?_ xb5; constructor <;> (simp [go_sem]; done)); (intro Z; obtain ⟨z0, z1, z2, z3, z4⟩ := id Z))); (try (refine byz (P := NB w5 w6.heap.size) ?_ ?_; (refine NB.ext ?_ xb5; constructor <;> (simp [go_sem]; done)); (intro Z; obtain ⟨z0, z1, z2, z3, z4⟩ := id Z))))
      | (go_at_call 74; (with_reducible refine (KD2.out _ (by (repeat (first | exact ext_refl _ | assumption | refine ext_setCell ?_ (by simp; try omega) _ | refine ext_alloc ?_ _ | refine ext_drew ?_ | refine ext_drewN ?_ _ | refine ext_trans ?_ (Aft.use _) | refine ext_trans ?_ (by assumption))))).mono ?_); rintro e w6 ⟨b6, B6, k6, l6, rfl, hI6, hb6, xb6, hf6⟩; obtain ⟨c0, c1, c2, c3, c4, cl⟩ := hb3.out w6 (by (repeat (first | exact ext_refl _ | assumption | refine ext_setCell ?_ (by simp; try omega) _ | refine ext_alloc ?_ _ | refine ext_drew ?_ | refine ext_drewN ?_ _ | refine ext_trans ?_ (Aft.use _) | refine ext_trans ?_ (by assumption)))); (try (replace Z := Z.ext xb6; obtain ⟨z0, z1, z2, z3, z4⟩ := id Z)); (try (refine byz (P := NB w6 w2.heap.size) ?_ ?_; (refine NB.ext ?_ xb6; constructor <;> (simp [go_sem]; done)); (intro Z; obtain ⟨z0, z1, z2, z3, z4⟩ := id Z))); (try (refine byz (P := NB w6 w5.heap.size) ?_ ?_; (refine NB.ext ?_ xb6; constructor <;> (simp [go_sem]; done)); (intro Z; obtain ⟨z0, z1, z2, z3, z4⟩ := id Z)))))
    all_goals
      go_wp2_with fail
      go_meet
      case rel =>
        have q5 := hI5.out.room.lt
        have q6 := hI6.out.room.lt
        have s6 := ext_size xb6
        have s5 := ext_size xb5
        simp at s5 s6 hb5 hb6
        have H5 : Ext w5 w6 := by (repeat (first | exact ext_refl _ | assumption | refine ext_setCell ?_ (by simp; try omega) _ | refine ext_alloc ?_ _ | refine ext_drew ?_ | refine ext_drewN ?_ _ | refine ext_trans ?_ (Aft.use _) | refine ext_trans ?_ (by assumption)))
        first
          | exact ⟨w5.heap.size, b5, B5, k5, l5, b6, B6, k6, l6, rfl, ⟨(nb_set Z _ _).1, (nb_set Z _ _).2.1, by omega, (nb_set Z _ _).2.2⟩, (hI5.out.ext H5).tch (((Tch.refl _ _).set 0 _).set 1 _) (by omega) (hI5.out.rd.off (Nat.le_refl _)), hI6.out.tch (((Tch.refl _ _).set 0 _).set 1 _) (by omega) (hf6.out.off (by first | omega | (simp; omega) | (simp; done)) _), ⟨by omega, hf6.out.off (by first | omega | (simp; omega) | (simp; done)) _, by omega, by omega⟩, by (repeat (first | exact ext_refl _ | assumption | refine ext_setCell ?_ (by simp; try omega) _ | refine ext_alloc ?_ _ | refine ext_drew ?_ | refine ext_drewN ?_ _ | refine ext_trans ?_ (Aft.use _) | refine ext_trans ?_ (by assumption)))⟩
          | exact ⟨w2.heap.size, b5, B5, k5, l5, b6, B6, k6, l6, rfl, ⟨(nb_set Z _ _).1, (nb_set Z _ _).2.1, by omega, (nb_set Z _ _).2.2⟩, (hI5.out.ext H5).tch (((Tch.refl _ _).set 0 _).set 1 _) (by omega) (hf5.out.off (by first | omega | (simp; omega) | (simp; done)) _), hI6.out.tch (((Tch.refl _ _).set 0 _).set 1 _) (by omega) (hf6.out.off (by first | omega | (simp; omega) | (simp; done)) _), ⟨by omega, hf6.out.off (by first | omega | (simp; omega) | (simp; done)) _, by omega, by omega⟩, by (repeat (first | exact ext_refl _ | assumption | refine ext_setCell ?_ (by simp; try omega) _ | refine ext_alloc ?_ _ | refine ext_drew ?_ | refine ext_drewN ?_ _ | refine ext_trans ?_ (Aft.use _) | refine ext_trans ?_ (by assumption)))⟩
          | exact ⟨w6.heap.size, b5, B5, k5, l5, b6, B6, k6, l6, rfl, ⟨by simp [go_sem], by simp [go_sem], by omega, by simp⟩, (hI5.out.ext H5).ext (ext_alloc (ext_refl _) _), hI6.out.ext (ext_alloc (ext_refl _) _), ⟨by omega, hf6.out.off (by first | omega | (simp; omega) | (simp; done)) _, by omega, by omega⟩, by (repeat (first | exact ext_refl _ | assumption | refine ext_setCell ?_ (by simp; try omega) _ | refine ext_alloc ?_ _ | refine ext_drew ?_ | refine ext_drewN ?_ _ | refine ext_trans ?_ (Aft.use _) | refine ext_trans ?_ (by assumption)))⟩
  case rest =>
    obtain ⟨x, b1, B1, k1, l1, b2, B2, k2, l2, rfl, hx, hI1, hI2, hap, hE⟩ := hcut
    obtain ⟨x0, x1, xs, xlt⟩ := hx.out
    have hk1 : k1 ≤ 16384 := by have := hI1.out.rd.len; rw [Int.natAbs_natCast] at this; omega
    have hk2 : k2 ≤ 16384 := by have := hI2.out.rd.len; rw [Int.natAbs_natCast] at this; omega
    have KB1 := Lib.hid (fun u (hu : Ext wc u) => KBA.out b1 B1 k1 l1 u (by omega) (hI1.out.ext hu))
    have KB2 := Lib.hid (fun u (hu : Ext wc u) => KBD.out b2 B2 k2 l2 u (by omega) (hI2.out.ext hu))
    have hba1 : (ba : Int) ≤ 524288 := by omega
    have hbd1 : (bd : Int) ≤ 524288 := by omega
    have kN := fun u => ro_near 0 (ba + bd) (by omega) (by omega) u
    rw [Int.natCast_add] at kN
    have KN := Lib.hid kN
    clear kN KA KD KA2 KD2
    go_wp2_with fail
    refine wp_aft (by kernel_rfl) (by kernel_rfl) (fun hq hqf => ?_)
    repeat (go_big_quiet_step (first
      | (go_at_call 76; exact aft_of (KB1.out _ (by (repeat (first | exact ext_refl _ | assumption | refine ext_setCell ?_ (by simp; try omega) _ | refine ext_alloc ?_ _ | refine ext_drew ?_ | refine ext_drewN ?_ _ | refine ext_trans ?_ (Aft.use _) | refine ext_trans ?_ (by assumption))))))
      | (go_at_call 76; exact aft_of (KB2.out _ (by (repeat (first | exact ext_refl _ | assumption | refine ext_setCell ?_ (by simp; try omega) _ | refine ext_alloc ?_ _ | refine ext_drew ?_ | refine ext_drewN ?_ _ | refine ext_trans ?_ (Aft.use _) | refine ext_trans ?_ (by assumption))))))
      | (go_at_call 75; exact aft_of (KN.out _))
      ))
    refine wpQuiet_nil ?_
    rintro _ ⟨nq, rfl⟩
    have xl := ext_lt nq.use
    have xz := ext_size nq.use
    try simp at xz
    have hX3 := nq.use
    clear hq hqf
    generalize nq.out = W3 at *
    have x0' := (Below.cell (p := ⟨x, 0, none⟩) hX3 xlt).trans x0
    have x1' := (Below.cell (p := ⟨x, 1, none⟩) hX3 xlt).trans x1
    have xl' := ext_lt hX3 _ xlt
    clear x0 x1 xlt
    have hW3 := Lib.hid (ext_trans hE.out hX3)
    have hb4 := Lib.hid (fun u (hu : Ext W3 u) => hb3.out u (ext_trans hW3.out hu))
    have hx4 := Lib.hid (fun u (hu : Ext W3 u) => show u.cell? ⟨x, 0, none⟩ = some (.pointer (some ⟨b1, 0, none⟩)) ∧ u.cell? ⟨x, 1, none⟩ = some (.pointer (some ⟨b2, 0, none⟩)) ∧ x < u.heap.size from ⟨(Below.cell (p := ⟨x, 0, none⟩) hu xl').trans x0', (Below.cell (p := ⟨x, 1, none⟩) hu xl').trans x1', ext_lt hu _ xl'⟩)
    have hJ1 := Lib.hid (fun u (hu : Ext W3 u) => (hI1.out.ext hX3).ext hu)
    have hJ2 := Lib.hid (fun u (hu : Ext W3 u) => (hI2.out.ext hX3).ext hu)
    have rz := Lib.hid (int_room W3)
    have hbW : b1 < W3.heap.size := (hI1.out.ext hX3).room.lt
    have hb3' := hb3.out
    clear hx hX3 hI1 hI2 hb3
    go_wp2_with (first
      | (go_at_call 78; (with_reducible refine (bi_NewInt 10 (by decide) (by decide) _).mono ?_); rintro e w7 ⟨p7, P7, n7, c7, rfl, hI7, hp7, xb7⟩; obtain ⟨c0, c1, c2, c3, c4, cl⟩ := hb4.out w7 (by (repeat (first | exact ext_refl _ | assumption | refine ext_setCell ?_ (by simp; try omega) _ | refine ext_alloc ?_ _ | refine ext_drew ?_ | refine ext_drewN ?_ _ | refine ext_trans ?_ (Aft.use _) | refine ext_trans ?_ (by assumption)))); obtain ⟨x0', x1', xl'⟩ := hx4.out w7 (by (repeat (first | exact ext_refl _ | assumption | refine ext_setCell ?_ (by simp; try omega) _ | refine ext_alloc ?_ _ | refine ext_drew ?_ | refine ext_drewN ?_ _ | refine ext_trans ?_ (Aft.use _) | refine ext_trans ?_ (by assumption)))))
      | (go_at_call 78; (with_reducible refine (bi_NewInt 0 (by decide) (by decide) _).mono ?_); rintro e w8 ⟨p8, P8, n8, c8, rfl, hI8, hp8, xb8⟩; obtain ⟨c0, c1, c2, c3, c4, cl⟩ := hb4.out w8 (by (repeat (first | exact ext_refl _ | assumption | refine ext_setCell ?_ (by simp; try omega) _ | refine ext_alloc ?_ _ | refine ext_drew ?_ | refine ext_drewN ?_ _ | refine ext_trans ?_ (Aft.use _) | refine ext_trans ?_ (by assumption)))); obtain ⟨x0', x1', xl'⟩ := hx4.out w8 (by (repeat (first | exact ext_refl _ | assumption | refine ext_setCell ?_ (by simp; try omega) _ | refine ext_alloc ?_ _ | refine ext_drew ?_ | refine ext_drewN ?_ _ | refine ext_trans ?_ (Aft.use _) | refine ext_trans ?_ (by assumption)))))
      | (go_at_call 77; (with_reducible refine (exp_ten0 W3.heap.size p7 p8 P7 n7 c7 P8 n8 c8 _ (rz.out.ext (by (repeat (first | exact ext_refl _ | assumption | refine ext_setCell ?_ (by simp; try omega) _ | refine ext_alloc ?_ _ | refine ext_drew ?_ | refine ext_drewN ?_ _ | refine ext_trans ?_ (Aft.use _) | refine ext_trans ?_ (by assumption))))) (hI7.out.1.ext (by (repeat (first | exact ext_refl _ | assumption | refine ext_setCell ?_ (by simp; try omega) _ | refine ext_alloc ?_ _ | refine ext_drew ?_ | refine ext_drewN ?_ _ | refine ext_trans ?_ (Aft.use _) | refine ext_trans ?_ (by assumption))))) (hI8.out.1.ext (by (repeat (first | exact ext_refl _ | assumption | refine ext_setCell ?_ (by simp; try omega) _ | refine ext_alloc ?_ _ | refine ext_drew ?_ | refine ext_drewN ?_ _ | refine ext_trans ?_ (Aft.use _) | refine ext_trans ?_ (by assumption)))))).mono ?_); rintro e w9 ⟨rfl, A9, n9, c9, hI9, xt9⟩; have hX9 : Ext W3 w9 := (xt9.ext (by (repeat (first | exact ext_refl _ | assumption | refine ext_setCell ?_ (by simp; try omega) _ | refine ext_alloc ?_ _ | refine ext_drew ?_ | refine ext_drewN ?_ _ | refine ext_trans ?_ (Aft.use _) | refine ext_trans ?_ (by assumption)))) (Nat.le_refl _)); obtain ⟨c0, c1, c2, c3, c4, cl⟩ := hb4.out w9 hX9; obtain ⟨x0', x1', xl'⟩ := hx4.out w9 hX9))
    have hwb : w2.heap.size ≤ b1 := hap.out.2.2.2
    have hB02 : B0 + 1 < w2.heap.size := (hb3' w2 (ext_refl _)).2.2.2.2.2
    have hxb : x ≠ b1 := hap.out.2.2.1
    have hlb : b1 < w9.heap.size := ext_lt hX9 _ hbW
    have hw2 := Lib.hid (ext_trans hE0.out (ext_trans hW3.out hX9))
    have hT4 := Lib.hid (fun u (hu : Tch b1 w9 u) => show u.cell? ⟨B0, 0, none⟩ = some (.int .i64 (E : Int)) ∧ u.cell? ⟨B0, 1, none⟩ = some (.int .i64 (F : Int)) ∧ u.cell? ⟨B0 + 1, 0, none⟩ = some (.bool below) ∧ u.cell? ⟨x, 0, none⟩ = some (.pointer (some ⟨b1, 0, none⟩)) ∧ u.cell? ⟨x, 1, none⟩ = some (.pointer (some ⟨b2, 0, none⟩)) ∧ B0 + 1 < u.heap.size ∧ x < u.heap.size from
      ⟨(hu.cell (p := ⟨B0, 0, none⟩) (by show B0 < _; omega) (by show B0 ≠ _; omega)).trans c0, (hu.cell (p := ⟨B0, 1, none⟩) (by show B0 < _; omega) (by show B0 ≠ _; omega)).trans c1, (hu.cell (p := ⟨B0 + 1, 0, none⟩) (by show B0 + 1 < _; omega) (by show B0 + 1 ≠ _; omega)).trans c2, (hu.cell (p := ⟨x, 0, none⟩) xl' hxb).trans x0', (hu.cell (p := ⟨x, 1, none⟩) xl' hxb).trans x1', Nat.lt_of_lt_of_le cl hu.size, Nat.lt_of_lt_of_le xl' hu.size⟩)
    have hN4 := Lib.hid (fun u Bu ku lu (hu : Tch b1 w9 u) (hi : IntIs u b1 0 (a : Int) Bu ku lu) => show NbIs u b1 b2 a d from ⟨⟨_, _, _, hi⟩, ⟨_, _, _, (hJ2.out w9 hX9).tch hu hap.out.1 hap.out.2.1⟩⟩)
    have KM := Lib.hid (mul_one_num b1 W3.heap.size a B1 k1 l1 A9 n9 c9 hk1 w9 (hJ1.out w9 hX9) hI9.out.1)
    clear xt9 hX9 hI7 hI8 hp7 hp8 xb7 xb8
    go_wp2_with (first
      | (go_at_call 79; (with_reducible refine (KM.out).mono ?_); rintro e w10 ⟨rfl, A10, n10, c10, hI10, xt10⟩; obtain ⟨c0, c1, c2, x0', x1', cl, xl'⟩ := hT4.out w10 xt10)
      | (go_at_call 80; (with_reducible refine (KS.out _ _ _ (hN4.out _ _ _ _ xt10 hI10.out.1)).mono ?_); rintro e w11 ⟨rfl, xb11⟩))
    refine bodyPost_ret (v := .tuple #[.int .u64 ↑X, .int .u8 ↑Y, .int .i64 0]) ?h rfl ⟨rfl, ext_trans (xt10.ext hw2.out (Nat.le_trans (ext_size hE0.out) hwb)) xb11⟩
    case h => simp [results, Tryz.results38, go_sem]
end Go.Proofs.YtkhkoeibpkglkaaGreatDoor
end
section
/- Exact numbers rounded. -/
namespace Go.Proofs.YtkhkoeibpkglkaaGreatDoor
open Go.RowKit
attribute [local go_sem] sz2 sz3 sz4 sz5 sz6 sz7 sz8
set_option maxHeartbeats 8000000
set_option maxRecDepth 100000
attribute [local irreducible] Calls
theorem len_tA (a : Nat) (x : Int) (hx : x ≤ 1200) : (lim (tA a x)).length ≤ (lim a).length + 38 := by
  unfold tA
  refine lim_bits ?_
  have h1 := bits_shl a x.toNat
  have h2 := (lim_bytes a).1
  omega
theorem len_tD (x : Int) (hx : -1200 ≤ x) : (lim (tD 1 x)).length ≤ 39 := by
  unfold tD
  refine lim_bits ?_
  have h1 := bits_shl 1 (-x).toNat
  have h2 : bitsOf 1 ≤ 1 := bits_lt (by decide)
  omega
/-- A pair of pointers in a block of its own. -/
structure PairAt (w : World) (x : Nat) : Prop where
  c0 : ∃ t, w.cell? ⟨x, 0, none⟩ = some (.pointer t)
  c1 : ∃ t, w.cell? ⟨x, 1, none⟩ = some (.pointer t)
  no : ∀ o, 2 ≤ o → w.cell? ⟨x, o, none⟩ = none
  lt : x < w.heap.size
theorem PairAt.ext {w w' : World} {x : Nat} (h : PairAt w x) (he : Ext w w') : PairAt w' x := by
  obtain ⟨⟨t, h0⟩, ⟨u, h1⟩, h2, h3⟩ := h
  exact ⟨⟨t, (Below.cell (p := ⟨x, 0, none⟩) he h3).trans h0⟩, ⟨u, (Below.cell (p := ⟨x, 1, none⟩) he h3).trans h1⟩, fun o ho => (Below.cell (p := ⟨x, o, none⟩) he h3).trans (h2 o ho), ext_lt he _ h3⟩
theorem pair_off {w : World} {x b : Nat} {z : Int} {A : Option Addr} {n c : Nat} (h : PairAt w x) (hi : IntIs w b 0 z A n c) : b ≠ x ∧ Off A n x := by
  obtain ⟨⟨t, h0⟩, ⟨u, h1⟩, h2, h3⟩ := h
  constructor
  · intro e
    subst e
    have := hi.neg
    rw [h0] at this
    cases this
  · rintro ⟨g, off, s⟩ hA hn e
    have hs := hi.rd.at_ _ hA
    simp only at hs e
    subst hs e
    have hl := hi.rd.len
    obtain ⟨-, k⟩ := hi.rd.cells g off hA 0 (by omega)
    rw [Nat.add_zero] at k
    rcases Nat.lt_or_ge off 2 with q | q
    · rcases (by omega : off = 0 ∨ off = 1) with rfl | rfl
      · rw [h0] at k; cases k
      · rw [h1] at k; cases k
    · rw [h2 off q] at k; cases k
theorem NbIs.pair {w w' : World} {p q a d x : Nat} (h : NbIs w p q a d) (hp : PairAt w x) (ht : Tch x w w') : NbIs w' p q a d := by
  obtain ⟨⟨A, n, c, h1⟩, ⟨B, m, k, h2⟩⟩ := h
  exact ⟨⟨A, n, c, h1.tch ht (pair_off hp h1).1 (pair_off hp h1).2⟩, ⟨B, m, k, h2.tch ht (pair_off hp h2).1 (pair_off hp h2).2⟩⟩
theorem ro_Dyadic (E F mode : Nat) (neg below : Bool) (A : Option Addr) (n c a : Nat) (x : Int) (hE : 2 ≤ E ∧ E ≤ 11) (hF : 1 ≤ F ∧ F ≤ 52) (hm : mode ≤ 4) (hn : n ≤ 16384) (hx : -1200 ≤ x ∧ x ≤ 1200) (hok : (a = 0 ∧ below = false ∧ x = 0) ∨ a % 2 = 1) (w : World) (hA : Rd w A n c (lim a)) :
    Calls Tryz.prog 169 #[fmV E F, dyV below A n c x, .bool neg, .int .u8 (mode : Int)] w fun e w' => e = .returned (.tuple #[.int .u64 (bitsS E F mode below neg (tA a x) (tD 1 x) : Nat), .int .u8 (flagS E F mode below (tA a x) (tD 1 x) : Nat), .int .i64 0]) ∧ Ext w w' := by
  have la := hA.len
  have KF := Lib.hid (fun w' => fm_Check E F hE hF w')
  have KX := Lib.hid (fun w' (he : Ext w w') => show Calls Tryz.prog 238 #[dyV below A n c x] w' fun e w'' => e = .returned (.int .i64 0) ∧ Ext w' w'' by
    rcases hok with ⟨rfl, rfl, rfl⟩ | h
    · exact ex_Check0 A n c w' (hA.ext he)
    · exact ex_Check below A n c a x hn (by omega) h w' (hA.ext he))
  have KA := Lib.hid (fun w' (he : Ext w w') => ro_large a A n c (by omega) w' (hA.ext he))
  have K1 := Lib.hid (fun w' => bi_NewInt 1 (by decide) (by decide) w')
  obtain ⟨X, hX⟩ : ∃ X, bitsS E F mode below neg (tA a x) (tD 1 x) = X := ⟨_, rfl⟩
  obtain ⟨Y, hY⟩ : ∃ Y, flagS E F mode below (tA a x) (tD 1 x) = Y := ⟨_, rfl⟩
  have h1A := len_tA a x hx.2
  have h1D := len_tD x hx.1
  have KS := Lib.hid (fun p q w' (h : NbIs w' p q (tA a x) (tD 1 x)) => ro_signed p q (tA a x) (tD 1 x) E F mode below neg hE hF hm (Nat.mul_pos (by decide) (Nat.two_pow_pos _)) (by omega) (by omega) w' h)
  rw [hX, hY] at KS
  rw [hX, hY]
  have hl1 : (lim 1).length ≤ 500000 := by have e : (lim 1).length = 1 := by kernel_rfl
                                           omega
  have KT := Lib.hid (fun p q w' (h : NbIs w' p q a 1) => nb_times p q a 1 x (by omega) hl1 (by omega) w' h)
  have hba : bitsOf a ≤ 16384 * 32 := by have := (lim_bytes a).1; omega
  have KB := Lib.hid (fun b B nn cc u (h : IntIs u b 0 (a : Int) B nn cc) => show Calls Tryz.prog 76 #[.pointer (some ⟨b, 0, none⟩)] u fun e u' => e = .returned (.int .i64 (bitsOf a : Nat)) ∧ Ext u u' by
    have := bi_BitLen b 0 (a : Int) B nn cc (by have := h.rd.len; rw [Int.natAbs_natCast] at this; omega) u h
    rwa [Int.natAbs_natCast] at this)
  obtain ⟨ba, hbe⟩ : ∃ y, bitsOf a = y := ⟨_, rfl⟩
  rw [hbe] at KB hba
  have KN := Lib.hid (fun u => ro_near x ba hx (by omega) u)
  have hmi : ¬ (4 : Int) < (mode : Int) := by omega
  have hmd : decide ((4 : Int) < (mode : Int)) = false := decide_eq_false hmi
  have hbi : (ba : Int) ≤ 16384 * 32 := by omega
  clear hX hY hA hbe hok h1A h1D hl1 hE hF hba
  go_enter Tryz.func169, Tryz.ntmps169
  go_upto_region 1 with fail
  obtain ⟨W, hW⟩ : ∃ W, W = (w.alloc (.cells #[.int .i64 (E : Int), .int .i64 (F : Int)] 28)).alloc (.cells #[.bool below, .slice A n c, .int .i64 x] 79) := ⟨_, rfl⟩
  obtain ⟨B0, hB0⟩ : ∃ B0, w.heap.size = B0 := ⟨_, rfl⟩
  have xW : Hid (Ext w W) := by show Ext w W; rw [hW]; exact ext_alloc (ext_alloc (ext_refl _) _) _
  have bx : Hid (∀ u, Ext W u → u.cell? ⟨B0, 0, none⟩ = some (.int .i64 (E : Int)) ∧ u.cell? ⟨B0, 1, none⟩ = some (.int .i64 (F : Int)) ∧ u.cell? ⟨B0 + 1, 0, none⟩ = some (.bool below) ∧ u.cell? ⟨B0 + 1, 1, none⟩ = some (.slice A n c) ∧ u.cell? ⟨B0 + 1, 2, none⟩ = some (.int .i64 x) ∧ B0 + 1 < u.heap.size) := Lib.hid fun u hu => by
    have l1 : B0 + 1 < W.heap.size := by rw [hW, ← hB0]; simp
    have l0 : B0 < W.heap.size := by omega
    refine ⟨(Below.cell (p := ⟨B0, 0, none⟩) hu l0).trans ?_, (Below.cell (p := ⟨B0, 1, none⟩) hu l0).trans ?_, (Below.cell (p := ⟨B0 + 1, 0, none⟩) hu l1).trans ?_, (Below.cell (p := ⟨B0 + 1, 1, none⟩) hu l1).trans ?_, (Below.cell (p := ⟨B0 + 1, 2, none⟩) hu l1).trans ?_, Nat.lt_of_lt_of_le l1 (ext_size hu)⟩
    all_goals (rw [hW, ← hB0]; simp [go_sem])
  obtain ⟨c0, c1, c2, c3, c4, cl⟩ := bx.out W (ext_refl _)
  rw [← hW, hB0]
  clear hW hB0
  go_wp2_with (first
    | (go_at_call 72; (with_reducible refine (KF.out _).mono ?_); rintro e w1 ⟨rfl, hX1⟩; obtain ⟨c0, c1, c2, c3, c4, cl⟩ := bx.out _ hX1)
    | (go_at_call 238; (with_reducible refine (KX.out _ (ext_trans xW.out hX1)).mono ?_); rintro e w2 ⟨rfl, hE2⟩; have hX2 := ext_trans hX1 hE2; obtain ⟨c0, c1, c2, c3, c4, cl⟩ := bx.out _ hX2)
    | (go_at_call 74; (with_reducible refine (KA.out _ (ext_trans xW.out hX2)).mono ?_); rintro e w3 ⟨b5, B5, k5, l5, rfl, hI5, hb5, xb5, hf5⟩; have hX3 := ext_trans hX2 xb5; obtain ⟨c0, c1, c2, c3, c4, cl⟩ := bx.out _ hX3)
    | (go_at_call 78; (with_reducible refine (K1.out _).mono ?_); rintro e w4 ⟨b6, B6, k6, l6, rfl, hI6, hb6, xb6⟩; have hX4 := ext_trans hX3 xb6; obtain ⟨c0, c1, c2, c3, c4, cl⟩ := bx.out _ hX4))
  have cl4 := cl
  obtain ⟨xN, hxN⟩ : ∃ y, w4.heap.size = y := ⟨_, rfl⟩
  obtain ⟨W4, hW4⟩ : ∃ u, u = w4.alloc (.cells #[.pointer (some ⟨b5, 0, none⟩), .pointer (some ⟨b6, 0, none⟩)] 121) := ⟨_, rfl⟩
  have hX5 : Ext W W4 := by rw [hW4]; exact ext_alloc hX4 _
  have hE45 : Ext w4 W4 := by rw [hW4]; exact ext_alloc (ext_refl _) _
  have hN4 : NbIs W4 b5 b6 a 1 := ⟨⟨_, _, _, (hI5.out.ext xb6).ext hE45⟩, ⟨_, _, _, hI6.out.1.ext hE45⟩⟩
  have hP4 : PairAt W4 xN := by
    rw [hW4, ← hxN]
    refine ⟨⟨_, World.cell?_alloc_new _ _ _ _⟩, ⟨_, World.cell?_alloc_new _ _ _ _⟩, fun o ho => ?_, by simp⟩
    rw [World.cell?_alloc_new]
    exact Array.getElem?_eq_none (by simpa using ho)
  have n0 : W4.cell? ⟨xN, 0, none⟩ = some (.pointer (some ⟨b5, 0, none⟩)) := by rw [hW4, ← hxN, World.cell?_alloc_new]; rfl
  have n1 : W4.cell? ⟨xN, 1, none⟩ = some (.pointer (some ⟨b6, 0, none⟩)) := by rw [hW4, ← hxN, World.cell?_alloc_new]; rfl
  have nf0 : W4.frozen? ⟨xN, 0, none⟩ = false := by rw [hW4, ← hxN]; exact World.frozen?_alloc_new _ _ _ _
  have nf1 : W4.frozen? ⟨xN, 1, none⟩ = false := by rw [hW4, ← hxN]; exact World.frozen?_alloc_new _ _ _ _
  have hBx : B0 + 1 < xN := by omega
  have hlx := hP4.lt
  have bxx : Hid (∀ u, Ext W4 u → (u.cell? ⟨B0, 0, none⟩ = some (.int .i64 (E : Int)) ∧ u.cell? ⟨B0, 1, none⟩ = some (.int .i64 (F : Int)) ∧ u.cell? ⟨B0 + 1, 0, none⟩ = some (.bool below) ∧ u.cell? ⟨B0 + 1, 1, none⟩ = some (.slice A n c) ∧ u.cell? ⟨B0 + 1, 2, none⟩ = some (.int .i64 x) ∧ B0 + 1 < u.heap.size) ∧ u.cell? ⟨xN, 0, none⟩ = some (.pointer (some ⟨b5, 0, none⟩)) ∧ u.cell? ⟨xN, 1, none⟩ = some (.pointer (some ⟨b6, 0, none⟩)) ∧ u.frozen? ⟨xN, 0, none⟩ = false ∧ u.frozen? ⟨xN, 1, none⟩ = false ∧ xN < u.heap.size) := Lib.hid fun u hu =>
    ⟨bx.out u (ext_trans hX5 hu), (Below.cell (p := ⟨xN, 0, none⟩) hu hlx).trans n0, (Below.cell (p := ⟨xN, 1, none⟩) hu hlx).trans n1, (Below.frozen (p := ⟨xN, 0, none⟩) hu hlx).trans nf0, (Below.frozen (p := ⟨xN, 1, none⟩) hu hlx).trans nf1, ext_lt hu _ hlx⟩
  have KB2 := Lib.hid (fun u (he : Ext W4 u) => KB.out b5 B5 k5 l5 u (((hI5.out.ext xb6).ext hE45).ext he))
  have KT2 := Lib.hid (fun u (he : Ext W4 u) => KT.out b5 b6 u (hN4.ext he))
  have HP := Lib.hid hP4
  have HXW := Lib.hid (ext_trans xW.out hX5)
  have HWX : Hid (w.heap.size ≤ xN) := by have h1 := ext_size xW.out; have h2 := ext_size hX4; show _ ≤ _; omega
  have e0 : ¬ B0 = xN := by omega
  have e1 : ¬ B0 + 1 = xN := by omega
  rw [← hW4, hxN]
  obtain ⟨⟨c0, c1, c2, c3, c4, cl⟩, n0, n1, nf0, nf1, hlx⟩ := bxx.out W4 (ext_refl _)
  clear hW4 hxN hX5 hX4 hX3 hX2 hX1 hE2 xb5 xb6 hI5 hI6 hb5 hb6 hf5 hE45 hN4 hP4 bx xW KB KT KF KX KA K1 cl4
  go_region_with (first
    | (go_at_call 76; (with_reducible refine (KB2.out _ (by (repeat (first | exact ext_refl _ | assumption | refine ext_setCell ?_ (by simp; try omega) _ | refine ext_alloc ?_ _ | refine ext_drew ?_ | refine ext_drewN ?_ _ | refine ext_trans ?_ (Aft.use _) | refine ext_trans ?_ (by assumption))))).mono ?_); rintro e w5 ⟨rfl, xb5⟩; obtain ⟨⟨c0, c1, c2, c3, c4, cl⟩, n0, n1, nf0, nf1, hlx⟩ := bxx.out w5 (by (repeat (first | exact ext_refl _ | assumption | refine ext_setCell ?_ (by simp; try omega) _ | refine ext_alloc ?_ _ | refine ext_drew ?_ | refine ext_drewN ?_ _ | refine ext_trans ?_ (Aft.use _) | refine ext_trans ?_ (by assumption)))))
    | (go_at_call 75; (with_reducible refine (KN.out _).mono ?_); rintro e w6 ⟨rfl, xb6⟩; obtain ⟨⟨c0, c1, c2, c3, c4, cl⟩, n0, n1, nf0, nf1, hlx⟩ := bxx.out w6 (by (repeat (first | exact ext_refl _ | assumption | refine ext_setCell ?_ (by simp; try omega) _ | refine ext_alloc ?_ _ | refine ext_drew ?_ | refine ext_drewN ?_ _ | refine ext_trans ?_ (Aft.use _) | refine ext_trans ?_ (by assumption)))))
    | (go_at_call 205; (with_reducible refine (KT2.out _ (by (repeat (first | exact ext_refl _ | assumption | refine ext_setCell ?_ (by simp; try omega) _ | refine ext_alloc ?_ _ | refine ext_drew ?_ | refine ext_drewN ?_ _ | refine ext_trans ?_ (Aft.use _) | refine ext_trans ?_ (by assumption))))).mono ?_); rintro e w7 ⟨p, q, rfl, hN7, xb7⟩; obtain ⟨⟨c0, c1, c2, c3, c4, cl⟩, n0, n1, nf0, nf1, hlx⟩ := bxx.out w7 (by (repeat (first | exact ext_refl _ | assumption | refine ext_setCell ?_ (by simp; try omega) _ | refine ext_alloc ?_ _ | refine ext_drew ?_ | refine ext_drewN ?_ _ | refine ext_trans ?_ (Aft.use _) | refine ext_trans ?_ (by assumption))))))
  all_goals
    go_wp2_with (first
      | (go_at_call 80; (with_reducible refine (KS.out p q _ (hN7.out.pair (HP.out.ext (by (repeat (first | exact ext_refl _ | assumption | refine ext_setCell ?_ (by simp; try omega) _ | refine ext_alloc ?_ _ | refine ext_drew ?_ | refine ext_drewN ?_ _ | refine ext_trans ?_ (Aft.use _) | refine ext_trans ?_ (by assumption))))) (((Tch.refl _ _).set _ _).set _ _))).mono ?_); rintro e w8 ⟨rfl, xb8⟩))
    refine bodyPost_ret (v := .tuple #[.int .u64 ↑X, .int .u8 ↑Y, .int .i64 0]) ?h rfl ⟨rfl, ext_trans (Tch.ext ((Tch.of (show Ext W4 w7 by (repeat (first | exact ext_refl _ | assumption | refine ext_setCell ?_ (by simp; try omega) _ | refine ext_alloc ?_ _ | refine ext_drew ?_ | refine ext_drewN ?_ _ | refine ext_trans ?_ (Aft.use _) | refine ext_trans ?_ (by assumption))))).trans (((Tch.refl _ _).set _ _).set _ _)) HXW.out HWX.out) xb8⟩
    case h => simp [results, Tryz.results169, go_sem]
end Go.Proofs.YtkhkoeibpkglkaaGreatDoor
end
