/- Lemmas of this proof, laid together: RatQ, RatS, RatY, RatV, RatW, RaN. -/
import Derived.Test.YtfdmhefjmnlllaaGreatDoorMg24
import Derived.Test.YtfdmhefjmnlllaaGreatDoorMg26
import Derived.Deep.DeepCutAuto
import Derived.Deep.RegionWith
import Derived.Deep.LoopGhost
import Derived.Test.YtfdmhefjmnlllaaGreatDoorMg25
set_option linter.unusedSimpArgs false
set_option linter.unusedVariables false
section
/- The program's fractions: those that are refused. -/
namespace Go.Proofs.YtfdmhefjmnlllaaGreatDoor
open Go.RowKit
attribute [local go_sem] sz2 sz3 sz4 sz5 sz6 sz7 sz8
set_option maxHeartbeats 4000000
set_option maxRecDepth 100000
attribute [local irreducible] Calls
theorem neq_look' (b b' : Bool) (n n' m m' : Int) (w : World) : (binOp .neq 113 (.agg #[.bool b, .int .i64 n, .int .i64 m]) (.agg #[.bool b', .int .i64 n', .int .i64 m'])).run Tryz.prog w = .ok (.bool (!(b == b' && (n == n' && m == m')))) w := by
 by_cases h1 : n = n' <;> by_cases h2 : m = m' <;> cases b <;> cases b' <;> simp [go_sem, h1, h2]
def lookD (b b' : Bool) (n n' m m' : Int) : Nat := if b = b' ∧ n = n' ∧ m = m' then 0 else 1
theorem neq_look_ne (b b' : Bool) (n n' m m' : Int) (w : World) [hz : NeZero (lookD b b' n n' m m')] : (binOp .neq 113 (.agg #[.bool b, .int .i64 n, .int .i64 m]) (.agg #[.bool b', .int .i64 n', .int .i64 m'])).run Tryz.prog w = .ok (.bool true) w := by
 rw [neq_look']
 have h : ¬ (b = b' ∧ n = n' ∧ m = m') := fun h => hz.out (if_pos h)
 have e : (!(b == b' && (n == n' && m == m'))) = true := by
  rw [Bool.not_eq_true', Bool.and_eq_false_iff, Bool.and_eq_false_iff, beq_eq_false_iff_ne, beq_eq_false_iff_ne, beq_eq_false_iff_ne]
  by_cases h1 : b = b'
  ·right
   by_cases h2 : n = n'
   ·right; intro e; exact h ⟨h1, h2, e⟩
   ·left; exact h2
  ·exact .inl h1
 rw [e]
attribute [local go_sem high] neq_look neq_look_ne
theorem refused_case {neg : Bool} {a d : Nat} (hd : d ≠ 0) (h : (neg = true ∧ a = 0) ∨ Nat.gcd a d ≠ 1) : decide (sgn neg (a / Nat.gcd a d : Nat) < 0) ≠ neg ∨ denOf (lowD a d) ≠ d := by
 rcases h with ⟨rfl, rfl⟩ | h
 ·left
  rw [Nat.zero_div]; decide
 ·right
  unfold lowD
  by_cases h0 : a = 0
  ·subst h0
   rw [if_pos rfl]
   rw [Nat.gcd_zero_left] at h
   intro e; exact h e.symm
  ·rw [if_neg h0]
   have h1 : 0 < Nat.gcd a d := Nat.gcd_pos_of_pos_right a (Nat.pos_of_ne_zero hd)
   have h2 : d / Nat.gcd a d < d := Nat.div_lt_self (Nat.pos_of_ne_zero hd) (by omega)
   have h3 : d / Nat.gcd a d ≠ 0 := by
    have := Nat.div_pos (Nat.le_of_dvd (Nat.pos_of_ne_zero hd) (Nat.gcd_dvd_right a d)) h1; omega
   unfold denOf
   rw [if_neg h3]; omega
theorem ra_refused (neg : Bool) (A : Option Addr) (n c a : Nat) (D : Option Addr) (m k d : Nat) (hd : d ≠ 0) (hn : n ≤ 16384) (hm : m ≤ 16384) (hrf : (neg = true ∧ a = 0) ∨ Nat.gcd a d ≠ 1) (w : World) (hT : Tz w) (hA : Rd w A n c (lim a)) (hD : Rd w D m k (lim d)) :
  Calls Tryz.prog 40 #[ratV neg A n c D m k] w fun e w' => e = .returned (.tuple #[.pointer none, .int .i64 20]) ∧ Ext w w' := by
 have HA := Lib.hid hA
 have HD := Lib.hid hD
 have HT := Lib.hid hT
 have hla := hA.len
 have hld := hD.len
 have hm0 : ((m : Int) == 0) = false := by
  rw [beq_eq_false_iff_ne]
  intro h; exact hd (lim_nil.1 (List.eq_nil_of_length_eq_zero (by omega)))
 have chA : ∀ w', Ext w w' → Calls Tryz.prog 61 #[natV A n c] w' fun e w'' => e = .returned (.int .i64 0) ∧ Ext w' w'' := fun w' he => by
  have := ncheck_any A n c (lim a) w' (HA.out.ext he); rwa [chk_lim (by omega)] at this
 have chD : ∀ w', Ext w w' → Calls Tryz.prog 61 #[natV D m k] w' fun e w'' => e = .returned (.int .i64 0) ∧ Ext w' w'' := fun w' he => by
  have := ncheck_any D m k (lim d) w' (HD.out.ext he); rwa [chk_lim (by omega)] at this
 have kA : ∀ w', Ext w w' → Calls Tryz.prog 62 #[natV A n c] w' (NPost w' a) := fun w' he => ra_whole A n c a (by omega) w' (HA.out.ext he)
 have kD : ∀ w', Ext w w' → Calls Tryz.prog 62 #[natV D m k] w' (NPost w' d) := fun w' he => ra_whole D m k d (by omega) w' (HD.out.ext he)
 clear hA hD hT
 go_enter Tryz.func40, Tryz.ntmps40
 go_upto_region 3 with (first
  | (go_at_call 61; (with_reducible refine (chA _ xcl).mono ?_); rintro e w1 ⟨rfl, xb1⟩; obtain ⟨xc1, xf1, xl1, xz1⟩ := jU xb1; (try simp at xz1); obtain ⟨l1_0, r1_0, f1_0, r1_0_1, f1_0_1, r1_0_2, f1_0_2⟩ := kq3 xb1 (w.heap.size))
  | (go_at_call 61; (with_reducible refine (chD _ xcl).mono ?_); rintro e w2 ⟨rfl, xb2⟩; obtain ⟨xc2, xf2, xl2, xz2⟩ := jU xb2; (try simp at xz2); obtain ⟨l2_0, r2_0, f2_0, r2_0_1, f2_0_1, r2_0_2, f2_0_2⟩ := kq3 xb2 (w.heap.size))
  )
 have z0 : w2.cell? ⟨w.heap.size, 0, none⟩ = some (.bool neg) := by simp [go_sem, *]
 have z1 : w2.cell? ⟨w.heap.size, 1, none⟩ = some (.slice A n c) := by simp [go_sem, *]
 have z2 : w2.cell? ⟨w.heap.size, 2, none⟩ = some (.slice D m k) := by simp [go_sem, *]
 have zl : w.heap.size < w2.heap.size := by assumption
 have hE2 : Hid (Ext w w2) := by show Ext w w2; exact xcl
 clear chA chD
 go_cut [4, 5] (fun p q wc => ∃ (b1 : Nat) (B1 : Option Addr) (k1 l1 b3 : Nat) (B3 : Option Addr) (k3 l3 : Nat), p = .pointer (some ⟨b1, 0, none⟩) ∧ q = .pointer (some ⟨b3, 0, none⟩) ∧ Hid (IntIs wc b1 0 a B1 k1 l1) ∧ Hid (IntIs wc b3 0 d B3 k3 l3) ∧ Hid (b3 ≠ b1 ∧ Off B3 k3 b1 ∧ w2.heap.size ≤ b1) ∧ Hid (Ext w2 wc))
 case first =>
  go_region_with (first
   | (go_at_call 62; (with_reducible refine (kA _ (jT hE2.out xcl)).mono ?_); rintro e w5 ⟨b5, B5, k5, l5, rfl, hI5, hb5, xb5⟩; obtain ⟨xc5, xf5, xl5, xz5⟩ := jU xb5; (try simp at xz5); obtain ⟨l5_0, r5_0, f5_0, r5_0_1, f5_0_1, r5_0_2, f5_0_2⟩ := kq3 xb5 (w.heap.size))
   | (go_at_call 62; (with_reducible refine (kD _ (jT hE2.out xcl)).mono ?_); rintro e w6 ⟨b6, B6, k6, l6, rfl, hI6, hb6, xb6⟩; obtain ⟨xc6, xf6, xl6, xz6⟩ := jU xb6; (try simp at xz6); obtain ⟨l6_0, r6_0, f6_0, r6_0_1, f6_0_1, r6_0_2, f6_0_2⟩ := kq3 xb6 (w.heap.size))
   )
  all_goals
   go_wp2_with fail
   go_meet
   case rel =>
    have q5 := hI5.out.1.room.lt
    have q6 := hI6.out.1.room.lt
    simp at hb5 hb6
    first
     | exact ⟨b5, B5, k5, l5, b6, B6, k6, l6, rfl, rfl, hI5.out.1.ext xb6, hI6.out.1, ⟨by omega, hI6.out.2.off q5 k6, by omega⟩, jT (jD (jR w2)) (jT xb5 xb6)⟩
     | exact ⟨b5, B5, k5, l5, b6, B6, k6, l6, rfl, rfl, hI5.out.1, hI6.out.1.ext xb5, ⟨by omega, hI6.out.1.rd.off hb5, by have := ext_size xb6; simp at this; omega⟩, jT (jD (jR w2)) (jT xb6 xb5)⟩
 case rest =>
  obtain ⟨b1, B1, k1, l1, b3, B3, k3, l3, rfl, rfl, hI1, hI3, hap, hEc⟩ := hcut
  have hk1 := Nat.le_trans (Nat.le_of_eq (hI1.out.lenNat.symm.trans hla)) hn
  have hk3 := Nat.le_trans (Nat.le_of_eq (hI3.out.lenNat.symm.trans hld)) hm
  have hk1b : k1 ≤ 1000000 := by omega
  have hk1c : k1 ≤ 400000 := by omega
  have hk3c : k3 ≤ 400000 := by omega
  clear xb1 xb2 kA kD
  have hl3 := lowD_len (a := a) hd
  rw [hla, hld] at hl3
  have hn' := Nat.le_trans hl3.2.2 hn
  have hm' := Nat.le_trans hl3.2.1 (Nat.le_trans hm (show 16384 ≤ 100000 by decide))
  have hdl := Nat.le_trans hl3.1 hm
  have hcase : decide (sgn neg (a / Nat.gcd a d : Nat) < 0) ≠ neg ∨ denOf (lowD a d) ≠ d := refused_case hd hrf
  have y0 := (Below.cell (p := ⟨w.heap.size, 0, none⟩) hEc.out zl).trans z0
  go_upto_if 33 with (fail)
  go_cut [4] (fun p wn => ∃ (B2 : Option Addr) (k2 l2 : Nat), p = .pointer (some ⟨b1, 0, none⟩) ∧ k2 ≤ 400000 ∧ Hid (IntIs wn b1 0 (sgn neg a) B2 k2 l2) ∧ Hid (IntIs wn b3 0 d B3 k3 l3) ∧ Hid (Ext w2 wn))
  case first =>
   cases neg with
   | false =>
    go_wp2
    go_meet
    case rel => exact ⟨B1, k1, l1, rfl, hk1c, hI1.out, hI3, hEc⟩
   | true =>
    go_wp2_with (first
     | (go_at_call 63; (with_reducible refine (bi_Neg b1 0 b1 0 B1 k1 l1 a hk1b _ hI1.out.room hI1.out).mono ?_); rintro e w7 ⟨rfl, B2, k2, l2, hI2, xt2⟩)
     )
    go_meet
    case rel =>
     refine ⟨B2, k2, l2, rfl, ?_, hI2.out.1, hI3.out.tch xt2 hap.out.1 hap.out.2.1, xt2.ext hEc.out hap.out.2.2⟩
     have := hI2.out.1.rd.len; rw [Int.natAbs_neg, Int.natAbs_natCast, hla] at this; omega
  case rest =>
  obtain ⟨wq, rfl⟩ : ∃ wq, wq = wc := ⟨wc, rfl⟩
  obtain ⟨B2, k2, l2, rfl, hk2, hI2, hI3, hEc⟩ := hcut
  clear y0
  have y0 := (Below.cell (p := ⟨w.heap.size, 0, none⟩) hEc.out zl).trans z0
  have y1 := (Below.cell (p := ⟨w.heap.size, 1, none⟩) hEc.out zl).trans z1
  have y2 := (Below.cell (p := ⟨w.heap.size, 2, none⟩) hEc.out zl).trans z2
  have yl := ext_lt hEc.out _ zl
  have hE3 := Lib.hid (jT hE2.out hEc.out)
  have hTr := Lib.hid (HT.out.ext hE3.out)
  go_upto_region 8 with (first
   | (go_at_call 65; (with_reducible refine (br_SetFrac' _ b1 b3 neg a d hd B2 k2 l2 B3 k3 l3 hk2 hk3c _ (hTr.out.ext (jA (jR _) _)) (rat_room wq) (hI2.out.ext (jA (jR _) _)) (hI3.out.ext (jA (jR _) _))).mono ?_); rintro e w4 ⟨rfl, A4, n4, c4, D4, m4, e4, hI4, xt4⟩; have hn4 := Nat.le_trans (Nat.le_of_eq hI4.out.1.int.lenSgn.symm) hn'; have hm4 := Nat.le_trans (Nat.le_of_eq hI4.out.1.rd.len.symm) hm'; have hx4 := Lib.hid (xt4.ext (jA (jR wq) _) (Nat.le_refl _)); have v0 := (Below.cell (p := ⟨w.heap.size, 0, none⟩) hx4.out yl).trans y0; have v1 := (Below.cell (p := ⟨w.heap.size, 1, none⟩) hx4.out yl).trans y1; have v2 := (Below.cell (p := ⟨w.heap.size, 2, none⟩) hx4.out yl).trans y2; have vl := ext_lt hx4.out _ yl)
   | (go_at_call 64; (with_reducible refine (ra_told_ok _ _ A4 n4 c4 _ D4 m4 e4 hn4 hm4 hdl _ hI4.out.1).mono ?_); rintro e w5 ⟨A5, n5, c5, D5, m5, e5, rfl, hI5, xb5⟩; obtain ⟨xc5, xf5, xl5, xz5⟩ := jU xb5; (try simp at xz5); obtain ⟨l5_0, r5_0, f5_0, r5_0_1, f5_0_1, r5_0_2, f5_0_2⟩ := kq3 xb5 (w.heap.size))
   )
  have hE5 := Lib.hid (jT hx4.out xb5)
  have hR5 := Lib.hid (hI4.out.1.ext xb5)
  have hN5 := Lib.hid (hI3.out.ext hE5.out)
  have kDen : ∀ wx, Ext w5 wx → Calls Tryz.prog 43 #[.pointer (some ⟨wq.heap.size, 0, none⟩)] wx (NPost wx (denOf (lowD a d))) := fun wx hx => br_Denom _ _ _ _ _ _ _ _ _ (by omega) wx (hR5.out.ext hx)
  have kCmp : ∀ b7 B7 k7 l7 wx, Ext w5 wx → IntIs wx b7 0 (denOf (lowD a d)) B7 k7 l7 → Calls Tryz.prog 85 #[.pointer (some ⟨b7, 0, none⟩), .pointer (some ⟨b3, 0, none⟩)] wx fun e w' => e = .returned (.int .i64 ((denOf (lowD a d) : Int) - (d : Int)).sign) ∧ Ext wx w' := fun b7 B7 k7 l7 wx hx h7 => bi_Cmp b7 0 b3 0 _ d B7 k7 l7 B3 k3 l3 wx h7 (hN5.out.ext hx)
  generalize hdz : decide (sgn neg (a / Nat.gcd a d : Nat) < 0) = dz at *
  generalize denOf (lowD a d) = q at *
  have hcl : Hid (Ext w (w5.alloc (Obj.cells #[.bool dz, .slice A5 n5 c5, .slice D5 m5 e5] 26))) := jA (jT hE3.out hE5.out) _
  have hEw := Lib.hid (jT hE3.out hE5.out)
  by_cases hsn : dz = neg ∧ n5 = n ∧ m5 = m
  ·have hq : q ≠ d := hcase.resolve_left (fun h => h hsn.1)
   obtain ⟨rfl, rfl, rfl⟩ := hsn
   have hsg : (((q : Int) - (d : Int)).sign == 0) = false := by
    rw [beq_eq_false_iff_ne]; intro h; have := Int.sign_eq_zero_iff_zero.1 h; omega
   have hR0 : ((q : Int) - (d : Int)).sign ≠ 0 := by intro h; rw [h] at hsg; cases hsg
   generalize ((q : Int) - (d : Int)).sign = R at kCmp hsg hR0
   clear hcase hq
   go_cut [61] (fun v wn => v = .bool true ∧ Hid (Ext w5 wn))
   case first =>
    go_region_with (first
     | (go_at_call 84; (with_reducible refine (ra_seen _ _ _ _ _ _ _ _).mono ?_); rintro e w6 ⟨rfl, xb6⟩; obtain ⟨xc6, xf6, xl6, xz6⟩ := jU xb6; (try simp at xz6); obtain ⟨l6_0, r6_0, f6_0, r6_0_1, f6_0_1, r6_0_2, f6_0_2⟩ := kq3 xb6 (w.heap.size); obtain ⟨l6_1, r6_1, f6_1, r6_1_1, f6_1_1, r6_1_2, f6_1_2⟩ := kq3 xb6 (w5.heap.size))
     | (go_at_call 43; (with_reducible refine (kDen _ xcl).mono ?_); rintro e w7 ⟨b7, B7, k7, l7, rfl, hI7, hb7, xb7⟩; obtain ⟨xc7, xf7, xl7, xz7⟩ := jU xb7; (try simp at xz7); obtain ⟨l7_0, r7_0, f7_0, r7_0_1, f7_0_1, r7_0_2, f7_0_2⟩ := kq3 xb7 (w.heap.size); obtain ⟨l7_1, r7_1, f7_1, r7_1_1, f7_1_1, r7_1_2, f7_1_2⟩ := kq3 xb7 (w5.heap.size))
     | (go_at_call 85; (with_reducible refine (kCmp b7 B7 k7 l7 _ xcl hI7.out.1).mono ?_); rintro e w8 ⟨rfl, xb8⟩; obtain ⟨xc8, xf8, xl8, xz8⟩ := jU xb8; (try simp at xz8); obtain ⟨l8_0, r8_0, f8_0, r8_0_1, f8_0_1, r8_0_2, f8_0_2⟩ := kq3 xb8 (w.heap.size); obtain ⟨l8_1, r8_1, f8_1, r8_1_1, f8_1_1, r8_1_2, f8_1_2⟩ := kq3 xb8 (w5.heap.size))
     )
    all_goals
     go_wp2_with fail
     go_meet
     case rel => exact ⟨by first | rfl | (simp; exact hR0), (show Ext _ _ by exact xcl)⟩
   case rest =>
    obtain ⟨rfl, hEn⟩ := hcut
    go_wp2
    refine bodyPost_ret (v := .tuple #[.pointer none, .int .i64 20]) ?h rfl ⟨rfl, jT hEw.out hEn.out⟩
    case h => simp [results, Tryz.results40, go_sem]
  ·have hlk : NeZero (lookD dz neg (n5 : Int) (n : Int) (m5 : Int) (m : Int)) := ⟨fun h => by
    unfold lookD at h
    split at h
    ·rename_i h2; exact hsn ⟨h2.1, by have := h2.2.1; omega, by have := h2.2.2; omega⟩
    ·cases h⟩
   clear hcase kDen kCmp hsn
   have c50 : (w5.alloc (Obj.cells #[.bool dz, .slice A5 n5 c5, .slice D5 m5 e5] 26)).cell? ⟨w5.heap.size, 0, none⟩ = some (.bool dz) := by simp [go_sem]
   have c51 : (w5.alloc (Obj.cells #[.bool dz, .slice A5 n5 c5, .slice D5 m5 e5] 26)).cell? ⟨w5.heap.size, 1, none⟩ = some (.slice A5 n5 c5) := by simp [go_sem]
   have c52 : (w5.alloc (Obj.cells #[.bool dz, .slice A5 n5 c5, .slice D5 m5 e5] 26)).cell? ⟨w5.heap.size, 2, none⟩ = some (.slice D5 m5 e5) := by simp [go_sem]
   have c10 : (w5.alloc (Obj.cells #[.bool dz, .slice A5 n5 c5, .slice D5 m5 e5] 26)).cell? ⟨w.heap.size, 0, none⟩ = some (.bool neg) := by simp [go_sem, *]
   have c11 : (w5.alloc (Obj.cells #[.bool dz, .slice A5 n5 c5, .slice D5 m5 e5] 26)).cell? ⟨w.heap.size, 1, none⟩ = some (.slice A n c) := by simp [go_sem, *]
   have c12 : (w5.alloc (Obj.cells #[.bool dz, .slice A5 n5 c5, .slice D5 m5 e5] 26)).cell? ⟨w.heap.size, 2, none⟩ = some (.slice D m k) := by simp [go_sem, *]
   have l50 : w5.heap.size < (w5.alloc (Obj.cells #[.bool dz, .slice A5 n5 c5, .slice D5 m5 e5] 26)).heap.size := by simp
   have l10 : w.heap.size < (w5.alloc (Obj.cells #[.bool dz, .slice A5 n5 c5, .slice D5 m5 e5] 26)).heap.size := by have := ext_size hEw.out; simp; omega
   have hEa : Hid (Ext w5 (w5.alloc (Obj.cells #[.bool dz, .slice A5 n5 c5, .slice D5 m5 e5] 26))) := jA (jR _) _
   go_cut [61] (fun v wn => v = .bool true ∧ Hid (Ext w5 wn))
   case first =>
    refine wp_aft (by kernel_rfl) (by kernel_rfl) (fun hq hqf => ?_)
    repeat (go_big_quiet_step (first
     | (go_at_call 84; exact aft_of (ra_seen _ _ _ _ _ _ _ _))
     ))
    refine wpQuiet_nil ?_
    rintro _ ⟨nq, rfl⟩
    have xl := ext_lt nq.use
    have xz := ext_size nq.use
    try simp at xz
    go_wp2_with fail
    go_meet
    case rel => exact ⟨rfl, jT hEa.out nq.use⟩
   case rest =>
    obtain ⟨rfl, hEn⟩ := hcut
    go_wp2
    refine bodyPost_ret (v := .tuple #[.pointer none, .int .i64 20]) ?h rfl ⟨rfl, jT hEw.out hEn.out⟩
    case h => simp [results, Tryz.results40, go_sem]
end Go.Proofs.YtfdmhefjmnlllaaGreatDoor
end
section
/- The program's fractions: which may be. -/
namespace Go.Proofs.YtfdmhefjmnlllaaGreatDoor
open Go.RowKit
attribute [local go_sem] sz2 sz3 sz4 sz5 sz6 sz7 sz8
set_option maxHeartbeats 4000000
set_option maxRecDepth 100000
attribute [local irreducible] Calls
theorem taken_bad1 (neg : Bool) (A : Option Addr) (n c : Nat) (D : Option Addr) (m k : Nat) (e1 : Int) (h1 : (e1 == 0) = false) (w : World) (c1 : ∀ w', Ext w w' → Calls Tryz.prog 61 #[natV A n c] w' fun e w'' => e = .returned (.int .i64 e1) ∧ Ext w' w'') :
  Calls Tryz.prog 40 #[ratV neg A n c D m k] w fun e w' => e = .returned (.tuple #[.pointer none, .int .i64 20]) ∧ Ext w w' := by
 have h1' : ¬ e1 = 0 := by simpa using h1
 go_enter Tryz.func40, Tryz.ntmps40
 go_wp2_with (first
  | (go_at_call 61; (with_reducible refine (c1 _ xcl).mono ?_); rintro e w1 ⟨rfl, xb1⟩; obtain ⟨xc1, xf1, xl1, xz1⟩ := jU xb1; (try simp at xz1); obtain ⟨l1_0, r1_0, f1_0, r1_0_1, f1_0_1, r1_0_2, f1_0_2⟩ := kq3 xb1 (w.heap.size))
  )
 refine bodyPost_ret (v := .tuple #[.pointer none, .int .i64 20]) ?h rfl ⟨rfl, ?_⟩
 case h => simp [results, Tryz.results40, go_sem]
 exact xcl
theorem taken_bad2 (neg : Bool) (A : Option Addr) (n c : Nat) (D : Option Addr) (m k : Nat) (e1 : Int) (h1 : (e1 == 0) = false) (w : World) (c1 : ∀ w', Ext w w' → Calls Tryz.prog 61 #[natV A n c] w' fun e w'' => e = .returned (.int .i64 0) ∧ Ext w' w'')
  (c2 : ∀ w', Ext w w' → Calls Tryz.prog 61 #[natV D m k] w' fun e w'' => e = .returned (.int .i64 e1) ∧ Ext w' w'') :
  Calls Tryz.prog 40 #[ratV neg A n c D m k] w fun e w' => e = .returned (.tuple #[.pointer none, .int .i64 20]) ∧ Ext w w' := by
 have h1' : ¬ e1 = 0 := by simpa using h1
 go_enter Tryz.func40, Tryz.ntmps40
 go_upto_region 2 with (first
  | (go_at_call 61; (with_reducible refine (c2 _ (jT (jA (jR w) _) xb1)).mono ?_); rintro e w2 ⟨rfl, xb2⟩; obtain ⟨xc2, xf2, xl2, xz2⟩ := jU xb2; (try simp at xz2); obtain ⟨l2_0, r2_0, f2_0, r2_0_1, f2_0_1, r2_0_2, f2_0_2⟩ := kq3 xb2 (w.heap.size))
  | (go_at_call 61; (with_reducible refine (c1 _ xcl).mono ?_); rintro e w1 ⟨rfl, xb1⟩; obtain ⟨xc1, xf1, xl1, xz1⟩ := jU xb1; (try simp at xz1); obtain ⟨l1_0, r1_0, f1_0, r1_0_1, f1_0_1, r1_0_2, f1_0_2⟩ := kq3 xb1 (w.heap.size))
  )
 all_goals
  go_wp2
  refine bodyPost_ret (v := .tuple #[.pointer none, .int .i64 20]) ?h rfl ⟨rfl, ?_⟩
  case h => simp [results, Tryz.results40, go_sem]
  exact xcl
theorem taken_bad3 (neg : Bool) (A : Option Addr) (n c : Nat) (D : Option Addr) (k : Nat) (w : World) (c1 : ∀ w', Ext w w' → Calls Tryz.prog 61 #[natV A n c] w' fun e w'' => e = .returned (.int .i64 0) ∧ Ext w' w'')
  (c2 : ∀ w', Ext w w' → Calls Tryz.prog 61 #[natV D 0 k] w' fun e w'' => e = .returned (.int .i64 0) ∧ Ext w' w'') :
  Calls Tryz.prog 40 #[ratV neg A n c D 0 k] w fun e w' => e = .returned (.tuple #[.pointer none, .int .i64 20]) ∧ Ext w w' := by
 go_enter Tryz.func40, Tryz.ntmps40
 go_upto_region 2 with (first
  | (go_at_call 61; (with_reducible refine (c2 _ (jT (jA (jR w) _) xb1)).mono ?_); rintro e w2 ⟨rfl, xb2⟩; obtain ⟨xc2, xf2, xl2, xz2⟩ := jU xb2; (try simp at xz2); obtain ⟨l2_0, r2_0, f2_0, r2_0_1, f2_0_1, r2_0_2, f2_0_2⟩ := kq3 xb2 (w.heap.size))
  | (go_at_call 61; (with_reducible refine (c1 _ xcl).mono ?_); rintro e w1 ⟨rfl, xb1⟩; obtain ⟨xc1, xf1, xl1, xz1⟩ := jU xb1; (try simp at xz1); obtain ⟨l1_0, r1_0, f1_0, r1_0_1, f1_0_1, r1_0_2, f1_0_2⟩ := kq3 xb1 (w.heap.size))
  )
 all_goals
  go_wp2
  refine bodyPost_ret (v := .tuple #[.pointer none, .int .i64 20]) ?h rfl ⟨rfl, ?_⟩
  case h => simp [results, Tryz.results40, go_sem]
  exact xcl
def RatOk (neg : Bool) (xs ys : List Nat) : Prop := chk xs = 0 ∧ chk ys = 0 ∧ val ys ≠ 0 ∧ Nat.gcd (val xs) (val ys) = 1 ∧ (neg = true → val xs ≠ 0)
theorem ra_check_no (neg : Bool) (A : Option Addr) (n c : Nat) (xs : List Nat) (D : Option Addr) (m k : Nat) (ys : List Nat) (hno : ¬ RatOk neg xs ys) (w : World) (hT : Tz w) (hA : Rd w A n c xs) (hD : Rd w D m k ys) :
  Calls Tryz.prog 19 #[ratV neg A n c D m k] w fun e w' => e = .returned (.int .i64 20) ∧ Ext w w' := by
 have kt : ∀ w', Ext w w' → Calls Tryz.prog 40 #[ratV neg A n c D m k] w' fun e w'' => e = .returned (.tuple #[.pointer none, .int .i64 20]) ∧ Ext w' w'' := by
  intro w' he
  have n1 := fun w'' (h : Ext w' w'') => ncheck_any A n c xs w'' ((hA.ext he).ext h)
  have n2 := fun w'' (h : Ext w' w'') => ncheck_any D m k ys w'' ((hD.ext he).ext h)
  by_cases h1 : chk xs = 0
  ·rw [h1] at n1
   by_cases h2 : chk ys = 0
   ·rw [h2] at n2
    obtain ⟨l1, e1⟩ := chk_zero hA.lb h1
    obtain ⟨l2, e2⟩ := chk_zero hD.lb h2
    have a1 := hA.len
    have a2 := hD.len
    by_cases h3 : val ys = 0
    ·have hm : m = 0 := by rw [← a2, e2, h3, lim_zero]; rfl
     subst hm
     exact taken_bad3 neg A n c D k w' n1 n2
    ·rw [e1] at hA a1
     rw [e2] at hD a2
     refine ra_refused neg A n c (val xs) D m k (val ys) h3 (by rw [← a1, ← e1]; exact l1) (by rw [← a2, ← e2]; exact l2) ?_ w' (hT.ext he) (hA.ext he) (hD.ext he)
     by_cases h4 : Nat.gcd (val xs) (val ys) = 1
     ·left
      by_cases h5 : neg = true ∧ val xs = 0
      ·exact h5
      ·exact absurd ⟨h1, h2, h3, h4, fun h => fun h6 => h5 ⟨h, h6⟩⟩ hno
     ·exact .inr h4
   ·exact taken_bad2 neg A n c D m k _ (by rw [beq_eq_false_iff_ne]; omega) w' n1 n2
  ·exact taken_bad1 neg A n c D m k _ (by rw [beq_eq_false_iff_ne]; omega) w' n1
 clear hT hA hD hno
 go_enter Tryz.func19, Tryz.ntmps19
 go_wp2_with (first
  | (go_at_call 40; (with_reducible refine (kt _ xcl).mono ?_); rintro e w1 ⟨rfl, xb1⟩; obtain ⟨xc1, xf1, xl1, xz1⟩ := jU xb1; (try simp at xz1); obtain ⟨l1_0, r1_0, f1_0, r1_0_1, f1_0_1, r1_0_2, f1_0_2⟩ := kq3 xb1 (w.heap.size))
  )
 refine bodyPost_ret (v := .int .i64 20) ?h rfl ⟨rfl, ?_⟩
 case h => simp [results, Tryz.results19, go_sem]
 exact xcl
end Go.Proofs.YtfdmhefjmnlllaaGreatDoor
end
section
/- The program's fractions: whole numbers, texts, what is below. -/
namespace Go.Proofs.YtfdmhefjmnlllaaGreatDoor
open Go.RowKit
attribute [local go_sem] bs_size bs_extract bs_get bs_append bs_toList const_get
attribute [local go_sem] sz2 sz3 sz4 sz5 sz6 sz7 sz8
set_option maxHeartbeats 4000000
set_option maxRecDepth 100000
attribute [local irreducible] Calls
abbrev WhPost (w : World) (z : Int) (d : Nat) : Ending → World → Prop := fun e w' => ∃ (A : Option Addr) (n c : Nat) (D : Option Addr) (m k : Nat), e = .returned (ratV (decide (z < 0)) A n c D m k) ∧
 Hid (RdO w' A n c (lim z.natAbs) none ∧ Fr w A ∧ RdO w' D m k (lim d) A ∧ Fr w D) ∧ Ext w w'
theorem ra_Whole (x : Int) (h1 : -9223372036854775808 ≤ x) (h2 : x ≤ 9223372036854775807) (w : World) :
  Calls Tryz.prog 29 #[.int .i64 x] w (WhPost w x 1) := by
 have hl : (lim x.natAbs).length ≤ 2 := lim_le (by show x.natAbs < 4294967296 ^ 2; omega)
 have kT : ∀ (g : Nat) (A : Option Addr) (n c : Nat) (D : Option Addr) (m k : Nat) (w' : World), RatIs w' g x A n c 0 D m k → Calls Tryz.prog 64 #[.pointer (some ⟨g, 0, none⟩)] w' (TPost w' x 1) := fun g A n c D m k w' h => by
  have h3 := h.int.rd.len
  have h4 := h.rd.len
  rw [lim_zero] at h4
  have h5 : (lim (denOf 0)).length = 1 := by kernel_rfl
  exact ra_told_ok g x A n c 0 D m k (by omega) (by simp at h4; omega) (by omega) w' h
 have HL := Lib.hid hl
 have hr1 : Hid (RatRoom ((w.alloc (Obj.cells #[.bool false, .slice none 0 0, .slice none 0 0] 26)).alloc (Obj.cells #[.bool false, .slice none 0 0, .slice none 0 0] 68)) (w.heap.size + 1)) := by
  have := rat_room (w.alloc (Obj.cells #[.bool false, .slice none 0 0, .slice none 0 0] 26))
  have e0 : (w.alloc (Obj.cells #[.bool false, .slice none 0 0, .slice none 0 0] 26)).heap.size = w.heap.size + 1 := by simp
  rw [e0] at this
  exact this
 have kS := br_SetInt64 (w.heap.size + 1) x h1 h2 _ hr1.out
 clear hl h1 h2
 go_enter Tryz.func29, Tryz.ntmps29
 go_upto_region 2 with (first
  | (go_at_call 76; (with_reducible refine kS.mono ?_); rintro e w1 ⟨rfl, A1, n1, c1, D1, m1, k1, hI1, xt1⟩; have xb1 := xt1.ext (jA (jR (w.alloc (Obj.cells #[.bool false, .slice none 0 0, .slice none 0 0] 26))) _) (by simp); clear xt1)
  | (go_at_call 64; (with_reducible refine (kT _ _ _ _ _ _ _ _ hI1.out.1).mono ?_); rintro e w2 ⟨A2, n2, c2, D2, m2, k2, rfl, hR2, xb2⟩; obtain ⟨xc2, xf2, xl2, xz2⟩ := jU xb2; (try simp at xz2))
  )
 obtain ⟨r0, r1, r2, f0, f1, f2, rl⟩ := res3 w w2 _ (jT xb1 xb2)
 have hE := Lib.hid (jT (jA (jR w) (Obj.cells #[.bool false, .slice none 0 0, .slice none 0 0] 26)) (jT xb1 xb2))
 have hs1 : w.heap.size + 1 ≤ w1.heap.size := by have := xb1.size; simpa using this
 clear xc2 xf2 xl2 xz2 hI1 xb1 xb2 hr1 kT
 go_wp2
 obtain ⟨q0, q1, q2⟩ := set3 (b := w.heap.size) r0 r1 r2 (.bool (decide (x < 0))) (.slice A2 n2 c2) (.slice D2 m2 k2)
 have hal : Ext (((w2.setCell ⟨w.heap.size, 0, none⟩ (.bool (decide (x < 0)))).setCell ⟨w.heap.size, 1, none⟩ (.slice A2 n2 c2)).setCell ⟨w.heap.size, 2, none⟩ (.slice D2 m2 k2)) ((((w2.setCell ⟨w.heap.size, 0, none⟩ (.bool (decide (x < 0)))).setCell ⟨w.heap.size, 1, none⟩ (.slice A2 n2 c2)).setCell ⟨w.heap.size, 2, none⟩ (.slice D2 m2 k2)).alloc (Obj.cells #[.bool (decide (x < 0)), .slice A2 n2 c2, .slice D2 m2 k2] 26)) := jA (jR _) _
 have rl' : w.heap.size < (((w2.setCell ⟨w.heap.size, 0, none⟩ (.bool (decide (x < 0)))).setCell ⟨w.heap.size, 1, none⟩ (.slice A2 n2 c2)).setCell ⟨w.heap.size, 2, none⟩ (.slice D2 m2 k2)).heap.size := by simpa using rl
 have q0 := (Below.cell (p := ⟨w.heap.size, 0, none⟩) hal rl').trans q0
 have q1 := (Below.cell (p := ⟨w.heap.size, 1, none⟩) hal rl').trans q1
 have q2 := (Below.cell (p := ⟨w.heap.size, 2, none⟩) hal rl').trans q2
 have n5 : ∀ a, A2 = some a → w.heap.size < a.block := fun a ha => by have := hR2.out.2.1 a ha; omega
 have n6 : ∀ a, D2 = some a → w.heap.size < a.block := fun a ha => by have := hR2.out.2.2.2 a ha; omega
 refine bodyPost_ret (v := ratV (decide (x < 0)) A2 n2 c2 D2 m2 k2) ?h rfl ⟨A2, n2, c2, D2, m2, k2, rfl, ⟨(hR2.out.1.set3 n5 _ _ _).ext hal, fun a ha => Nat.le_of_lt (n5 a ha), (hR2.out.2.2.1.set3 n6 _ _ _).ext hal, fun a ha => Nat.le_of_lt (n6 a ha)⟩, jT (ext_set3 hE.out (Nat.le_refl _) _ _ _) hal⟩
 case h => simp [results, Tryz.results29, go_sem, q0, q1, q2]
theorem ra_Text (neg : Bool) (A : Option Addr) (n c a : Nat) (D : Option Addr) (m k d : Nat) (hd : d ≠ 0) (hn : n ≤ 16384) (hm : m ≤ 16384) (hg : Nat.gcd a d = 1) (hng : neg = true → a ≠ 0) (w : World) (hT : Tz w) (hA : Rd w A n c (lim a)) (hD : Rd w D m k (lim d)) :
  Calls Tryz.prog 16 #[ratV neg A n c D m k] w fun e w' => e = .returned (.tuple #[.string (bs (rtext (sgn neg a) d)), .int .i64 0]) ∧ Ext w w' := by
 have kt : ∀ w', Ext w w' → Calls Tryz.prog 40 #[ratV neg A n c D m k] w' (KPost w' (sgn neg a) (lowD a d)) := fun w' he => ra_taken neg A n c a D m k d hd hn hm hg hng w' (hT.ext he) (hA.ext he) (hD.ext he)
 have kS : ∀ (g : Nat) (A' : Option Addr) (n' c' : Nat) (D' : Option Addr) (m' k' : Nat) (w' : World), RatIs w' g (sgn neg a) A' n' c' (lowD a d) D' m' k' → Calls Tryz.prog 52 #[.pointer (some ⟨g, 0, none⟩)] w' fun e w'' => e = .returned (.string (bs (rtext (sgn neg a) d))) ∧ Ext w' w'' := fun g A' n' c' D' m' k' w' h => by
  have h1 := h.int.rd.len
  have h2 := h.rd.len
  rw [sgn_abs, hA.len] at h1
  have h3 := lim_mono (lowD_le a d)
  rw [hD.len] at h3
  have := br_RatString g _ A' n' c' _ D' m' k' (by omega) (by omega) w' h
  rwa [den_low hd hg] at this
 clear hT hA hD hng hg
 generalize rtext (sgn neg a) d = l at *
 go_enter Tryz.func16, Tryz.ntmps16
 go_wp2_with (first
  | (go_at_call 40; (with_reducible refine (kt _ xcl).mono ?_); rintro e w1 ⟨g1, A1, n1, c1, D1, m1, k1, rfl, hI1, hg1, xb1⟩; obtain ⟨xc1, xf1, xl1, xz1⟩ := jU xb1; (try simp at xz1); obtain ⟨l1_0, r1_0, f1_0, r1_0_1, f1_0_1, r1_0_2, f1_0_2⟩ := kq3 xb1 (w.heap.size))
  | (go_at_call 52; (with_reducible refine (kS _ _ _ _ _ _ _ _ hI1.out.1).mono ?_); rintro e w2 ⟨rfl, xb2⟩; obtain ⟨xc2, xf2, xl2, xz2⟩ := jU xb2; (try simp at xz2))
  )
 refine bodyPost_ret (v := .tuple #[.string (bs l), .int .i64 0]) ?h rfl ⟨rfl, ?_⟩
 case h => simp [results, Tryz.results16, go_sem]
 exact xcl
theorem ra_Floor (neg : Bool) (A : Option Addr) (n c a : Nat) (D : Option Addr) (m k d : Nat) (hd : d ≠ 0) (hn : n ≤ 16384) (hm : m ≤ 16384) (hg : Nat.gcd a d = 1) (hng : neg = true → a ≠ 0) (w : World) (hT : Tz w) (hA : Rd w A n c (lim a)) (hD : Rd w D m k (lim d)) :
  Calls Tryz.prog 13 #[ratV neg A n c D m k] w fun e w' => ∃ (B : Option Addr) (k l : Nat), e = .returned (.tuple #[.bool (decide (sgn neg a / (d : Int) < 0)), natV B k l, .int .i64 0]) ∧ Hid (RdO w' B k l (lim (sgn neg a / (d : Int)).natAbs) none ∧ Fr w B) ∧ Ext w w' := by
 have kt : ∀ w', Ext w w' → Calls Tryz.prog 40 #[ratV neg A n c D m k] w' (KPost w' (sgn neg a) (lowD a d)) := fun w' he => ra_taken neg A n c a D m k d hd hn hm hg hng w' (hT.ext he) (hA.ext he) (hD.ext he)
 have la := hA.len
 have ld := hD.len
 clear hT hA hD hng
 go_enter Tryz.func13, Tryz.ntmps13
 go_upto_region 4 with (first
  | (go_at_call 40; (with_reducible refine (kt _ xcl).mono ?_); rintro e w1 ⟨g1, A1, n1, c1, D1, m1, k1, rfl, hI1, hg1, xb1⟩; obtain ⟨xc1, xf1, xl1, xz1⟩ := jU xb1; (try simp at xz1); obtain ⟨l1_0, r1_0, f1_0, r1_0_1, f1_0_1, r1_0_2, f1_0_2⟩ := kq3 xb1 (w.heap.size); obtain ⟨l1_1, r1_1, f1_1⟩ := kq1 xb1 (w.heap.size + 1))
  )
 have hE1 : Hid (Ext w w1) := by show Ext w w1; exact xcl
 have hI := Lib.hid hI1.out.1
 have lD := hI.out.rd.len
 have lA := hI.out.int.rd.len
 have hdd : Hid (denOf (lowD a d) = d) := Lib.hid (den_low hd hg)
 have z0 : w1.cell? ⟨w.heap.size + 1, 0, none⟩ = some (.slice none 0 0) := by simp [go_sem, *]
 have f0 : w1.frozen? ⟨w.heap.size + 1, 0, none⟩ = false := by simp [go_sem, *]
 have zl : w.heap.size + 1 < w1.heap.size := by assumption
 have hlow := lim_mono (lowD_le a d)
 rw [sgn_abs] at lA
 have hbn : n1 ≤ 200000 := by omega
 have hbm : m1 ≤ 200000 := by omega
 clear hI1 xc1 xf1 xl1 xz1
 have hdp : (0 : Int) < (d : Int) := by omega
 have hrm := Lib.hid (int_room w1)
 have gl := hI.out.int.room.lt
 have kN : Calls Tryz.prog 42 #[.pointer (some ⟨g1, 0, none⟩)] (w1.alloc (Obj.cells #[.bool false, .slice none 0 0] 66)) (NPost (w1.alloc (Obj.cells #[.bool false, .slice none 0 0] 66)) (sgn neg a)) := br_Num g1 _ A1 n1 c1 _ D1 m1 k1 (by omega) _ (hI.out.ext (jA (jR _) _))
 have kD : ∀ w', Ext w1 w' → Calls Tryz.prog 43 #[.pointer (some ⟨g1, 0, none⟩)] w' (NPost w' (d : Nat)) := fun w' he => by
  have := br_Denom g1 _ A1 n1 c1 _ D1 m1 k1 (by omega) w' (hI.out.ext he)
  rwa [hdd.out] at this
 have hza : (sgn neg a).natAbs = a := sgn_abs neg a
 generalize hzd : sgn neg a = z at *
 have kQ : ∀ (b2 b3 : Nat) (B2 : Option Addr) (j2 l2 : Nat) (B3 : Option Addr) (j3 l3 : Nat) (w' : World), w1.heap.size < b2 → w1.heap.size < b3 → Ext (w1.alloc (Obj.cells #[.bool false, .slice none 0 0] 66)) w' → IntIs w' b2 0 z B2 j2 l2 → IntIs w' b3 0 (d : Nat) B3 j3 l3 →
   Calls Tryz.prog 41 #[.pointer (some ⟨w1.heap.size, 0, none⟩), .pointer (some ⟨b2, 0, none⟩), .pointer (some ⟨b3, 0, none⟩)] w' fun e w'' => e = .returned (.pointer (some ⟨w1.heap.size, 0, none⟩)) ∧ ∃ (A : Option Addr) (n c : Nat), Hid (IntIs w'' w1.heap.size 0 (z / (d : Int)) A n c ∧ Fr w' A) ∧ Hid (∀ U, Ext U w' → U.heap.size ≤ w1.heap.size → Ext U w'') :=
  fun b2 b3 B2 j2 l2 B3 j3 l3 w' h2 h3 he hi2 hi3 => bi_Div w1.heap.size b2 b3 z (d : Int) hdp (by omega) (by omega) B2 j2 l2 B3 j3 l3 (by have := hi2.rd.len; rw [hza] at this; omega) (by have := hi3.rd.len; rw [Int.natAbs_natCast] at this; omega) w' (hrm.out.ext he) hi2 hi3
 have hal1 : Ext w1 (w1.alloc (Obj.cells #[.bool false, .slice none 0 0] 66)) := jA (jR w1) _
 have hsz1 : (w1.alloc (Obj.cells #[.bool false, .slice none 0 0] 66)).heap.size = w1.heap.size + 1 := by simp
 go_upto_region 5 with (first
  | (go_at_call 42; (with_reducible refine kN.mono ?_); rintro e w2 ⟨b2, B2, j2, l2, rfl, hI2, hb2, xb2⟩; have hb2' : w1.heap.size < b2 := (by omega); have hE2 := Lib.hid (jT hal1 xb2); have hs2 := xb2.size)
  | (go_at_call 43; (with_reducible refine (kD _ hE2.out).mono ?_); rintro e w3 ⟨b3, B3, j3, l3, rfl, hI3, hb3, xb3⟩; have hb3' : w1.heap.size < b3 := (by omega); have hE3 := Lib.hid (jT xb2 xb3); have hI2' := Lib.hid (hI2.out.1.ext xb3); have hI3' := Lib.hid (hI3.out.1))
  | (go_at_call 41; (with_reducible refine (kQ _ _ _ _ _ _ _ _ _ hb2' hb3' hE3.out hI2'.out hI3'.out).mono ?_); rintro e w4 ⟨rfl, A4, n4, c4, hI4, hP4⟩)
  )
 have xb4 : Ext w1 w4 := hP4.out w1 (jT hal1 hE3.out) (Nat.le_refl _)
 have hw4 := Lib.hid (jT hE1.out xb4)
 have z1 := (Below.cell (p := ⟨w.heap.size + 1, 0, none⟩) xb4 zl).trans z0
 have f1 := (Below.frozen (p := ⟨w.heap.size + 1, 0, none⟩) xb4 zl).trans f0
 have zl4 := ext_lt xb4 _ zl
 have hQ4 := Lib.hid hI4.out.1
 have kL : ∀ w', Ext w4 w' → Calls Tryz.prog 45 #[.pointer (some ⟨w1.heap.size, 0, none⟩)] w' fun e w'' => ∃ (B : Option Addr) (k l : Nat), e = .returned (natV B k l) ∧ Hid (RdO w'' B k l (lim (z / (d : Int)).natAbs) none ∧ Fr w' B) ∧ Ext w' w'' := fun w' he => by
  refine ra_limbs w1.heap.size 0 (z / (d : Int)) A4 n4 c4 ?_ w' (hQ4.out.ext he)
  have h1 := hQ4.out.rd.len
  have h2 : (z / (d : Int)).natAbs ≤ z.natAbs := by
   have := Int.natAbs_ediv_le_natAbs z (d : Int)
   exact this
  have h3 := lim_mono h2
  rw [hza] at h3
  omega
 have kg : ∀ w', Ext w4 w' → Calls Tryz.prog 44 #[.pointer (some ⟨w1.heap.size, 0, none⟩)] w' fun e w'' => e = .returned (.int .i64 (z / (d : Int)).sign) ∧ Ext w' w'' := fun w' he => bi_Sign w1.heap.size 0 _ A4 n4 c4 w' (hQ4.out.ext he)
 have hdq : decide ((z / (d : Int)).sign < 0) = decide (z / (d : Int) < 0) := decide_eq_decide.2 (by rw [Int.sign_neg_iff])
 generalize hq : z / (d : Int) = q at *
 clear hI4 hP4 hI2 hI3 hI2' hI3' xb2 xb3 hE3 hE2 kD kN kQ hrm hb2 hb2' hb3 hb3' hs2 hI hal1 hsz1 lA la ld hlow hbn hbm z0 f0 xb1
 go_wp2_with (first
  | (go_at_call 44; (with_reducible refine (kg _ xcl).mono ?_); rintro e w5 ⟨rfl, xb5⟩; obtain ⟨xc5, xf5, xl5, xz5⟩ := jU xb5; (try simp at xz5); obtain ⟨l5_0, r5_0, f5_0⟩ := kq1 xb5 (w.heap.size + 1))
  | (go_at_call 45; (with_reducible refine (kL _ xcl).mono ?_); rintro e w6 ⟨A6, k6, c6, rfl, hR6, xb6⟩; obtain ⟨xc6, xf6, xl6, xz6⟩ := jU xb6; (try simp at xz6); obtain ⟨l6_0, r6_0, f6_0⟩ := kq1 xb6 (w.heap.size + 1))
  )
 rw [hzd, hq]
 have q0 := World.cell?_setCell_same w6 ⟨w.heap.size + 1, 0, none⟩ (.slice A6 k6 c6) (u := .slice none 0 0) (r6_0.trans (r5_0.trans z1))
 have n6 : ∀ a, A6 = some a → w.heap.size + 1 < a.block := fun a ha => by have := hR6.out.2 a ha; omega
 refine bodyPost_ret (v := .tuple #[.bool (decide (q < 0)), natV A6 k6 c6, .int .i64 0]) ?h rfl ⟨A6, k6, c6, rfl, ⟨hR6.out.1.set _ n6, fun a ha => by have := n6 a ha; omega⟩, jS (jT hw4.out (jT xb5 xb6)) (Nat.le_succ _) _⟩
 case h => simp [results, Tryz.results13, go_sem, q0]
end Go.Proofs.YtfdmhefjmnlllaaGreatDoor
end
section
/- The program's fractions that may not be: what is answered to them (written by mkran.py). -/
namespace Go.Proofs.YtfdmhefjmnlllaaGreatDoor
open Go.RowKit
attribute [local go_sem] sz2 sz3 sz4 sz5 sz6 sz7 sz8
set_option maxHeartbeats 4000000
set_option maxRecDepth 100000
attribute [local irreducible] Calls
attribute [local go_sem] run_makeFunc''
abbrev NoE (w : World) (E : Int) : Ending → World → Prop := fun e w' => e = .returned (.tuple #[ratV false none 0 0 none 0 0, .int .i64 E]) ∧ Ext w w'
section
variable (s t : Bool) (A : Option Addr) (n c : Nat) (D : Option Addr) (m k : Nat) (B : Option Addr) (n2 c2 : Nat) (C : Option Addr) (m2 k2 : Nat) (w : World)
end
end Go.Proofs.YtfdmhefjmnlllaaGreatDoor
end
