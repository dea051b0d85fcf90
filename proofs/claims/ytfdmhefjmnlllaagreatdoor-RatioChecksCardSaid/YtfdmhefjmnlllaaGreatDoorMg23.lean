/- Lemmas of this proof, laid together: RatH, RatI, RatP, RatJ, IntJ, IntK, NtK, BigQ, BigR, BigS, NtL, RatF, RatG, RatK0, TwIntG, TwIntH, TwRatI, TwRatJ. -/
import Derived.Test.YtfdmhefjmnlllaaGreatDoorMg22
import Derived.Deep.DeepCutAuto
import Derived.Deep.RegionWith
import Derived.Deep.LoopGhost
import Derived.Test.YtfdmhefjmnlllaaGreatDoorMg03
import Derived.Test.YtfdmhefjmnlllaaGreatDoorMg11
import Derived.Test.YtfdmhefjmnlllaaGreatDoorMg21
import Derived.Test.YtfdmhefjmnlllaaGreatDoorMg12
import Derived.Test.YtfdmhefjmnlllaaGreatDoorMg13
import Derived.Test.YtfdmhefjmnlllaaGreatDoorMg15
import Derived.Test.YtfdmhefjmnlllaaGreatDoorMg09
set_option linter.unusedSimpArgs false
set_option linter.unusedVariables false
section
/- The program's fractions: taken. -/
namespace Go.Proofs.YtfdmhefjmnlllaaGreatDoor
open Go.RowKit
attribute [local go_sem] sz2 sz3 sz4 sz5 sz6 sz7 sz8
set_option maxHeartbeats 4000000
set_option maxRecDepth 100000
attribute [local irreducible] Calls
attribute [local go_sem high] neq_look
abbrev KPost (w : World) (z : Int) (d : Nat) : Ending → World → Prop := fun e w' => ∃ (g : Nat) (A : Option Addr) (n c : Nat) (D : Option Addr) (m k : Nat), e = .returned (.tuple #[.pointer (some ⟨g, 0, none⟩), .int .i64 0]) ∧
 Hid (RatIs w' g z A n c d D m k ∧ Fr w A ∧ Fr w D) ∧ w.heap.size ≤ g ∧ Ext w w'
theorem ra_seen (neg : Bool) (A : Option Addr) (n c : Nat) (D : Option Addr) (m k : Nat) (w : World) : Calls Tryz.prog 84 #[ratV neg A n c D m k] w fun e w' => e = .returned (.agg #[.bool neg, .int .i64 (n : Int), .int .i64 (m : Int)]) ∧ Ext w w' := by
 go_enter Tryz.func84, Tryz.ntmps84
 go_wp2
 refine bodyPost_ret (v := .agg #[.bool neg, .int .i64 ↑n, .int .i64 ↑m]) ?h rfl ⟨rfl, ?_⟩
 case h => simp [results, Tryz.results84, go_sem]
 exact xcl
theorem ra_taken (neg : Bool) (A : Option Addr) (n c a : Nat) (D : Option Addr) (m k d : Nat) (hd : d ≠ 0) (hn : n ≤ 16384) (hm : m ≤ 16384) (hg : Nat.gcd a d = 1) (hng : neg = true → a ≠ 0) (w : World) (hT : Tz w) (hA : Rd w A n c (lim a)) (hD : Rd w D m k (lim d)) :
  Calls Tryz.prog 40 #[ratV neg A n c D m k] w (KPost w (sgn neg a) (lowD a d)) := by
 have HA := Lib.hid hA
 have HD := Lib.hid hD
 have HT := Lib.hid hT
 have hla := hA.len
 have hld := hD.len
 have hm0 : ((m : Int) == 0) = false := by
  rw [beq_eq_false_iff_ne]
  intro h; exact hd (lim_nil.1 (List.eq_nil_of_length_eq_zero (by omega)))
 have chA : ∀ w', Ext w w' → Calls Tryz.prog 61 #[natV A n c] w' fun e w'' => e = .returned (.int .i64 0) ∧ Ext w' w'' := fun w' he => by
  have := ncheck_any A n c (lim a) w' (HA.out.ext he); rwa [chk_lim (by omega)] at this
 have chD : ∀ w', Ext w w' → Calls Tryz.prog 61 #[natV D m k] w' fun e w'' => e = .returned (.int .i64 0) ∧ Ext w' w'' := fun w' he => by
  have := ncheck_any D m k (lim d) w' (HD.out.ext he); rwa [chk_lim (by omega)] at this
 have kA : ∀ w', Ext w w' → Calls Tryz.prog 62 #[natV A n c] w' (NPost w' a) := fun w' he => ra_whole A n c a (by omega) w' (HA.out.ext he)
 have kD : ∀ w', Ext w w' → Calls Tryz.prog 62 #[natV D m k] w' (NPost w' d) := fun w' he => ra_whole D m k d (by omega) w' (HD.out.ext he)
 clear hA hD hT
 go_enter Tryz.func40, Tryz.ntmps40
 go_upto_region 3 with (first
  | (go_at_call 61; (with_reducible refine (chA _ xcl).mono ?_); rintro e w1 ⟨rfl, xb1⟩; obtain ⟨xc1, xf1, xl1, xz1⟩ := jU xb1; (try simp at xz1); obtain ⟨l1_0, r1_0, f1_0, r1_0_1, f1_0_1, r1_0_2, f1_0_2⟩ := kq3 xb1 (w.heap.size))
  | (go_at_call 61; (with_reducible refine (chD _ xcl).mono ?_); rintro e w2 ⟨rfl, xb2⟩; obtain ⟨xc2, xf2, xl2, xz2⟩ := jU xb2; (try simp at xz2); obtain ⟨l2_0, r2_0, f2_0, r2_0_1, f2_0_1, r2_0_2, f2_0_2⟩ := kq3 xb2 (w.heap.size))
  )
 have z0 : w2.cell? ⟨w.heap.size, 0, none⟩ = some (.bool neg) := by simp [go_sem, *]
 have z1 : w2.cell? ⟨w.heap.size, 1, none⟩ = some (.slice A n c) := by simp [go_sem, *]
 have z2 : w2.cell? ⟨w.heap.size, 2, none⟩ = some (.slice D m k) := by simp [go_sem, *]
 have zl : w.heap.size < w2.heap.size := by assumption
 have hE2 : Hid (Ext w w2) := by show Ext w w2; exact xcl
 clear chA chD
 go_cut [4, 5] (fun p q wc => ∃ (b1 : Nat) (B1 : Option Addr) (k1 l1 b3 : Nat) (B3 : Option Addr) (k3 l3 : Nat), p = .pointer (some ⟨b1, 0, none⟩) ∧ q = .pointer (some ⟨b3, 0, none⟩) ∧ Hid (IntIs wc b1 0 a B1 k1 l1) ∧ Hid (IntIs wc b3 0 d B3 k3 l3) ∧ Hid (b3 ≠ b1 ∧ Off B3 k3 b1 ∧ w2.heap.size ≤ b1) ∧ Hid (Ext w2 wc))
 case first =>
  go_region_with (first
   | (go_at_call 62; (with_reducible refine (kA _ (jT hE2.out xcl)).mono ?_); rintro e w5 ⟨b5, B5, k5, l5, rfl, hI5, hb5, xb5⟩; obtain ⟨xc5, xf5, xl5, xz5⟩ := jU xb5; (try simp at xz5); obtain ⟨l5_0, r5_0, f5_0, r5_0_1, f5_0_1, r5_0_2, f5_0_2⟩ := kq3 xb5 (w.heap.size))
   | (go_at_call 62; (with_reducible refine (kD _ (jT hE2.out xcl)).mono ?_); rintro e w6 ⟨b6, B6, k6, l6, rfl, hI6, hb6, xb6⟩; obtain ⟨xc6, xf6, xl6, xz6⟩ := jU xb6; (try simp at xz6); obtain ⟨l6_0, r6_0, f6_0, r6_0_1, f6_0_1, r6_0_2, f6_0_2⟩ := kq3 xb6 (w.heap.size))
   )
  all_goals
   go_wp2_with fail
   go_meet
   case rel =>
    have q5 := hI5.out.1.room.lt
    have q6 := hI6.out.1.room.lt
    simp at hb5 hb6
    first
     | exact ⟨b5, B5, k5, l5, b6, B6, k6, l6, rfl, rfl, hI5.out.1.ext xb6, hI6.out.1, ⟨by omega, hI6.out.2.off q5 k6, by omega⟩, jT (jD (jR w2)) (jT xb5 xb6)⟩
     | exact ⟨b5, B5, k5, l5, b6, B6, k6, l6, rfl, rfl, hI5.out.1, hI6.out.1.ext xb5, ⟨by omega, hI6.out.1.rd.off hb5, by have := ext_size xb6; simp at this; omega⟩, jT (jD (jR w2)) (jT xb6 xb5)⟩
 case rest =>
  obtain ⟨b1, B1, k1, l1, b3, B3, k3, l3, rfl, rfl, hI1, hI3, hap, hEc⟩ := hcut
  have hk1 := Nat.le_trans (Nat.le_of_eq (hI1.out.lenNat.symm.trans hla)) hn
  have hk3 := Nat.le_trans (Nat.le_of_eq (hI3.out.lenNat.symm.trans hld)) hm
  have hk1b : k1 ≤ 1000000 := by omega
  have hk1c : k1 ≤ 400000 := by omega
  have hk3c : k3 ≤ 400000 := by omega
  clear xb1 xb2 kA kD
  have hl3 := lowD_len (a := a) hd
  rw [hla, hld] at hl3
  have hn' := Nat.le_trans hl3.2.2 hn
  have hm' := Nat.le_trans hl3.2.1 (Nat.le_trans hm (show 16384 ≤ 100000 by decide))
  have hdl := Nat.le_trans hl3.1 hm
  have hden : denOf (lowD a d) = d := by
   unfold denOf lowD
   by_cases h0 : a = 0
   ·rw [if_pos h0, if_pos rfl]; subst h0; rw [Nat.gcd_zero_left] at hg; exact hg.symm
   ·rw [if_neg h0, hg, Nat.div_one, if_neg hd]
  have y0 := (Below.cell (p := ⟨w.heap.size, 0, none⟩) hEc.out zl).trans z0
  go_upto_if 33 with (fail)
  go_cut [4] (fun p wn => ∃ (B2 : Option Addr) (k2 l2 : Nat), p = .pointer (some ⟨b1, 0, none⟩) ∧ k2 ≤ 400000 ∧ Hid (IntIs wn b1 0 (sgn neg a) B2 k2 l2) ∧ Hid (IntIs wn b3 0 d B3 k3 l3) ∧ Hid (Ext w2 wn))
  case first =>
   cases neg with
   | false =>
    go_wp2
    go_meet
    case rel => exact ⟨B1, k1, l1, rfl, hk1c, hI1.out, hI3, hEc⟩
   | true =>
    go_wp2_with (first
     | (go_at_call 63; (with_reducible refine (bi_Neg b1 0 b1 0 B1 k1 l1 a hk1b _ hI1.out.room hI1.out).mono ?_); rintro e w7 ⟨rfl, B2, k2, l2, hI2, xt2⟩)
     )
    go_meet
    case rel =>
     refine ⟨B2, k2, l2, rfl, ?_, hI2.out.1, hI3.out.tch xt2 hap.out.1 hap.out.2.1, xt2.ext hEc.out hap.out.2.2⟩
     have := hI2.out.1.rd.len; rw [Int.natAbs_neg, Int.natAbs_natCast, hla] at this; omega
  case rest =>
  obtain ⟨wq, rfl⟩ : ∃ wq, wq = wc := ⟨wc, rfl⟩
  obtain ⟨B2, k2, l2, rfl, hk2, hI2, hI3, hEc⟩ := hcut
  clear y0
  have y0 := (Below.cell (p := ⟨w.heap.size, 0, none⟩) hEc.out zl).trans z0
  have y1 := (Below.cell (p := ⟨w.heap.size, 1, none⟩) hEc.out zl).trans z1
  have y2 := (Below.cell (p := ⟨w.heap.size, 2, none⟩) hEc.out zl).trans z2
  have yl := ext_lt hEc.out _ zl
  have hE3 := Lib.hid (jT hE2.out hEc.out)
  have hTr := Lib.hid (HT.out.ext hE3.out)
  go_upto_region 8 with (first
   | (go_at_call 65; (with_reducible refine (br_SetFrac' _ b1 b3 neg a d hd B2 k2 l2 B3 k3 l3 hk2 hk3c _ (hTr.out.ext (jA (jR _) _)) (rat_room wq) (hI2.out.ext (jA (jR _) _)) (hI3.out.ext (jA (jR _) _))).mono ?_); rintro e w4 ⟨rfl, A4, n4, c4, D4, m4, e4, hI4, xt4⟩; have hn4 := Nat.le_trans (Nat.le_of_eq hI4.out.1.int.lenSgn.symm) hn'; have hm4 := Nat.le_trans (Nat.le_of_eq hI4.out.1.rd.len.symm) hm'; have hx4 := Lib.hid (xt4.ext (jA (jR wq) _) (Nat.le_refl _)); have v0 := (Below.cell (p := ⟨w.heap.size, 0, none⟩) hx4.out yl).trans y0; have v1 := (Below.cell (p := ⟨w.heap.size, 1, none⟩) hx4.out yl).trans y1; have v2 := (Below.cell (p := ⟨w.heap.size, 2, none⟩) hx4.out yl).trans y2; have vl := ext_lt hx4.out _ yl)
   | (go_at_call 64; (with_reducible refine (ra_told_ok _ _ A4 n4 c4 _ D4 m4 e4 hn4 hm4 hdl _ hI4.out.1).mono ?_); rintro e w5 ⟨A5, n5, c5, D5, m5, e5, rfl, hI5, xb5⟩; obtain ⟨xc5, xf5, xl5, xz5⟩ := jU xb5; (try simp at xz5); obtain ⟨l5_0, r5_0, f5_0, r5_0_1, f5_0_1, r5_0_2, f5_0_2⟩ := kq3 xb5 (w.heap.size))
   )
  have hds : decide (sgn neg a < 0) = neg := by rw [sgn_lt]; cases neg; rfl; exact decide_eq_true (Nat.pos_of_ne_zero (hng rfl))
  obtain rfl : n5 = n := by rw [← hI5.out.1.len, ← hla, sgn_abs, hg, Nat.div_one]
  obtain rfl : m5 = m := by rw [← hI5.out.2.2.1.len, hden, hld]
  have hE5 := Lib.hid (jT hx4.out xb5)
  have hR5 := Lib.hid (hI4.out.1.ext xb5)
  have hN5 := Lib.hid (hI3.out.ext hE5.out)
  have kDen : ∀ wx, Ext w5 wx → Calls Tryz.prog 43 #[.pointer (some ⟨wq.heap.size, 0, none⟩)] wx (NPost wx d) := fun wx hx => by
   have := br_Denom _ _ _ _ _ _ _ _ _ (by omega) wx (hR5.out.ext hx); rwa [hden] at this
  have kCmp : ∀ b7 B7 k7 l7 wx, Ext w5 wx → IntIs wx b7 0 d B7 k7 l7 → Calls Tryz.prog 85 #[.pointer (some ⟨b7, 0, none⟩), .pointer (some ⟨b3, 0, none⟩)] wx fun e w' => e = .returned (.int .i64 0) ∧ Ext wx w' := fun b7 B7 k7 l7 wx hx h7 => by
   have := bi_Cmp b7 0 b3 0 d d B7 k7 l7 B3 k3 l3 wx h7 (hN5.out.ext hx); rwa [Int.sub_self, Int.sign_zero] at this
  clear hng
  generalize hdz : decide (sgn neg a < 0) = dz
  rw [hdz] at hds
  subst hds
  clear hdz
  have hcl : Hid (Ext w (w5.alloc (Obj.cells #[.bool false, .slice A5 n5 c5, .slice D5 m5 e5] 26))) := jA (jT hE3.out hE5.out) _
  go_cut [61] (fun v wn => v = .bool false ∧ Hid (Ext w5 wn))
  case first =>
   go_region_with (first
    | (go_at_call 84; (with_reducible refine (ra_seen _ _ _ _ _ _ _ _).mono ?_); rintro e w6 ⟨rfl, xb6⟩; obtain ⟨xc6, xf6, xl6, xz6⟩ := jU xb6; (try simp at xz6); obtain ⟨l6_0, r6_0, f6_0, r6_0_1, f6_0_1, r6_0_2, f6_0_2⟩ := kq3 xb6 (w.heap.size); obtain ⟨l6_1, r6_1, f6_1, r6_1_1, f6_1_1, r6_1_2, f6_1_2⟩ := kq3 xb6 (w5.heap.size))
    | (go_at_call 43; (with_reducible refine (kDen _ xcl).mono ?_); rintro e w7 ⟨b7, B7, k7, l7, rfl, hI7, hb7, xb7⟩; obtain ⟨xc7, xf7, xl7, xz7⟩ := jU xb7; (try simp at xz7); obtain ⟨l7_0, r7_0, f7_0, r7_0_1, f7_0_1, r7_0_2, f7_0_2⟩ := kq3 xb7 (w.heap.size); obtain ⟨l7_1, r7_1, f7_1, r7_1_1, f7_1_1, r7_1_2, f7_1_2⟩ := kq3 xb7 (w5.heap.size))
    | (go_at_call 85; (with_reducible refine (kCmp b7 B7 k7 l7 _ xcl hI7.out.1).mono ?_); rintro e w8 ⟨rfl, xb8⟩; obtain ⟨xc8, xf8, xl8, xz8⟩ := jU xb8; (try simp at xz8); obtain ⟨l8_0, r8_0, f8_0, r8_0_1, f8_0_1, r8_0_2, f8_0_2⟩ := kq3 xb8 (w.heap.size); obtain ⟨l8_1, r8_1, f8_1, r8_1_1, f8_1_1, r8_1_2, f8_1_2⟩ := kq3 xb8 (w5.heap.size))
    )
   all_goals
    go_wp2_with fail
    go_meet
    case rel => exact ⟨rfl, (show Ext _ _ by exact xcl)⟩
  case rest =>
   obtain ⟨rfl, hEn⟩ := hcut
   go_wp2
   refine bodyPost_ret (v := .tuple #[.pointer (some ⟨wq.heap.size, 0, none⟩), .int .i64 0]) ?h rfl ⟨_, A4, n4, c4, D4, m4, e4, rfl, ⟨?_, hI4.out.2.1.mono (jA hE3.out _), hI4.out.2.2.mono (jA hE3.out _)⟩, ext_size hE3.out, jT (jT hE3.out hE5.out) hEn.out⟩
   case h => simp [results, Tryz.results40, go_sem]
   have := hR5.out.ext hEn.out
   rwa [hg, Nat.div_one] at this
end Go.Proofs.YtfdmhefjmnlllaaGreatDoor
end
section
/- Fractions of the library's: products. -/
namespace Go.Proofs.YtfdmhefjmnlllaaGreatDoor
open Go.RowKit
attribute [local go_sem] sz2 sz3 sz4 sz5 sz6 sz7 sz8
set_option maxHeartbeats 4000000
set_option maxRecDepth 100000
attribute [local irreducible] Calls
theorem bw_by (A G : Option Addr) (n c m d a g : Nat) (h0 : g ≠ 0) (hn : n ≤ 400000) (w : World) (hA : Rd w A n c (lim a)) (hG : Rd w G m d (lim g)) :
  Calls Tryz.prog 125 #[.slice A n c, .slice G m d] w fun e w' => ∃ (A' : Option Addr) (k c' : Nat), (e = .returned (.slice A' k c') ∧ k ≤ n) ∧ Hid (Rd w' A' k c' (lim (a / g))) ∧ Ext w w' := by
 have hle : (lim (a / g)).length ≤ n := by rw [← hA.len]; exact lim_mono (Nat.div_le_self _ _)
 by_cases h1 : g = 1
 ·subst h1
  refine (bw_by_one A G n c m d w hG).mono ?_
  rintro e w' ⟨rfl, h2⟩
  exact ⟨A, n, c, ⟨rfl, Nat.le_refl _⟩, by rw [Nat.div_one]; exact hA.ext h2, h2⟩
 ·refine (bw_by_div A G n c m d a g h1 h0 hn w hA hG).mono ?_
  rintro e w' ⟨A', k, c', rfl, h2, h3⟩
  exact ⟨A', k, c', ⟨rfl, by rw [← h2.out.1.len]; exact hle⟩, h2.out.1, h3⟩
theorem bw_mulA (A B : Option Addr) (n c m d a b : Nat) (hs : n + m ≤ 200000) (w : World) (hA : Rd w A n c (lim a)) (hB : Rd w B m d (lim b)) : Calls Tryz.prog 121 #[.slice A n c, .slice B m d] w (WPost w (a * b)) := bw_mul (n + m) A B n c m d a b rfl hs w hA hB
theorem bw_commonA (A B : Option Addr) (n c m d a b : Nat) (hn : n ≤ 400000) (hm : m ≤ 400000) (w : World) (hT : Tz w) (hA : Rd w A n c (lim a)) (hB : Rd w B m d (lim b)) : Calls Tryz.prog 124 #[.slice A n c, .slice B m d] w (WPost w (Nat.gcd a b)) := bw_common A B n c m d a b hn hm w hT hA hB
end Go.Proofs.YtfdmhefjmnlllaaGreatDoor
end
section
/- Fractions in their lowest terms, plainly. -/
namespace Go.Proofs.YtfdmhefjmnlllaaGreatDoor
theorem low_uniq {a d A D : Nat} (hd : d ≠ 0) (hD : D ≠ 0) (hg : Nat.gcd a d = 1) (hx : a * D = A * d) : a = A / Nat.gcd A D ∧ d = D / Nat.gcd A D := by
 have hG : 0 < Nat.gcd A D := Nat.pos_of_ne_zero (fun h => hD (Nat.eq_zero_of_gcd_eq_zero_right h))
 obtain ⟨u, hu⟩ := Nat.gcd_dvd_left A D
 obtain ⟨v, hv⟩ := Nat.gcd_dvd_right A D
 have hc : Nat.gcd (A / Nat.gcd A D) (D / Nat.gcd A D) = 1 := Nat.coprime_div_gcd_div_gcd hG
 have e1 : A / Nat.gcd A D = u := Nat.div_eq_of_eq_mul_right hG hu
 have e2 : D / Nat.gcd A D = v := Nat.div_eq_of_eq_mul_right hG hv
 rw [e1, e2] at hc ⊢
 have hx' : a * v = u * d := by
  refine Nat.eq_of_mul_eq_mul_left hG ?_
  calc Nat.gcd A D * (a * v) = a * (Nat.gcd A D * v) := by grind
   _ = a * D := by rw [← hv]
   _ = A * d := hx
   _ = (Nat.gcd A D * u) * d := by rw [← hu]
   _ = Nat.gcd A D * (u * d) := by grind
 have d1 : a ∣ u := Nat.Coprime.dvd_of_dvd_mul_right (show Nat.Coprime a d from hg) ⟨v, hx'.symm⟩
 have d2 : u ∣ a := Nat.Coprime.dvd_of_dvd_mul_right (show Nat.Coprime u v from hc) ⟨d, hx'⟩
 have e3 : a = u := Nat.dvd_antisymm d1 d2
 refine ⟨e3, ?_⟩
 have d3 : d ∣ v := Nat.Coprime.dvd_of_dvd_mul_left (show Nat.Coprime d a by rw [Nat.coprime_comm]; exact hg) ⟨u, by rw [hx']; exact Nat.mul_comm _ _⟩
 have d4 : v ∣ d := Nat.Coprime.dvd_of_dvd_mul_left (show Nat.Coprime v u by rw [Nat.coprime_comm]; exact hc) ⟨a, by rw [← hx']; exact Nat.mul_comm _ _⟩
 exact Nat.dvd_antisymm d3 d4
def canN (z : Int) (d : Nat) : Int := sgn (decide (z < 0)) (z.natAbs / Nat.gcd z.natAbs d : Nat)
def canD (z : Int) (d : Nat) : Nat := d / Nat.gcd z.natAbs d
theorem can_uniq {z : Int} {d : Nat} {Z : Int} {D : Nat} (hd : d ≠ 0) (hD : D ≠ 0) (hg : Nat.gcd z.natAbs d = 1) (hx : z * (D : Int) = Z * (d : Int)) : z = canN Z D ∧ d = canD Z D := by
 have ha : z.natAbs * D = Z.natAbs * d := by
  have := congrArg Int.natAbs hx
  rwa [Int.natAbs_mul, Int.natAbs_mul, Int.natAbs_natCast, Int.natAbs_natCast] at this
 have h := low_uniq hd hD hg ha
 have hs : decide (z < 0) = decide (Z < 0) := by
  have hd' : (0 : Int) < d := by omega
  have hD' : (0 : Int) < D := by omega
  by_cases h1 : z < 0
  ·have : Z * (d : Int) < 0 := by rw [← hx]; exact Int.mul_neg_of_neg_of_pos h1 hD'
   have h2 : Z < 0 := by
    rcases Int.lt_or_le Z 0 with h | h
    ·exact h
    ·have := Int.mul_nonneg h (Int.le_of_lt hd'); omega
   rw [decide_eq_true h1, decide_eq_true h2]
  ·have h3 : 0 ≤ z * (D : Int) := Int.mul_nonneg (by omega) (Int.le_of_lt hD')
   have h2 : ¬ Z < 0 := by
    intro h
    have := Int.mul_neg_of_neg_of_pos h hd'; omega
   rw [decide_eq_false h1, decide_eq_false h2]
 refine ⟨?_, h.2⟩
 unfold canN
 rw [← hs, ← h.1, sgn_self]
theorem canD_pos {z : Int} {d : Nat} (hd : d ≠ 0) : canD z d ≠ 0 := by
 unfold canD
 have := Nat.div_pos (Nat.le_of_dvd (Nat.pos_of_ne_zero hd) (Nat.gcd_dvd_right z.natAbs d)) (Nat.gcd_pos_of_pos_right z.natAbs (Nat.pos_of_ne_zero hd))
 omega
theorem can_gcd {z : Int} {d : Nat} (hd : d ≠ 0) : Nat.gcd (canN z d).natAbs (canD z d) = 1 := by
 unfold canN canD
 rw [sgn_abs]
 exact Nat.coprime_div_gcd_div_gcd (Nat.gcd_pos_of_pos_right z.natAbs (Nat.pos_of_ne_zero hd))
theorem can_self {z : Int} {d : Nat} (hd : d ≠ 0) (hg : Nat.gcd z.natAbs d = 1) : canN z d = z ∧ canD z d = d := by
 have := can_uniq hd hd hg rfl
 exact ⟨this.1.symm, this.2.symm⟩
def canW (z : Int) (d : Nat) : Nat := if z = 0 then 0 else canD z d
theorem canN_zero (d : Nat) : canN 0 d = 0 := by unfold canN; rw [Int.natAbs_zero, Nat.zero_div]; rfl
theorem canW_zero (d : Nat) : canW 0 d = 0 := if_pos rfl
theorem canW_den {z : Int} {d : Nat} (hd : d ≠ 0) : denOf (canW z d) = canD z d := by
 unfold canW
 by_cases h : z = 0
 ·subst h; rw [if_pos rfl]; unfold denOf canD; rw [if_pos rfl, Int.natAbs_zero, Nat.gcd_zero_left, Nat.div_self (Nat.pos_of_ne_zero hd)]
 ·rw [if_neg h]; unfold denOf; rw [if_neg (canD_pos hd)]
theorem can_add {x y : Int} {p q : Nat} (hp : p ≠ 0) (hq : q ≠ 0) (hxp : Nat.gcd x.natAbs p = 1) (hyq : Nat.gcd y.natAbs q = 1) (g : Nat) (hg : g = Nat.gcd p q) (a : Int) (ha : a = x * ((q / g : Nat) : Int) + y * ((p / g : Nat) : Int)) (h : Nat) (hh : h = Nat.gcd a.natAbs g) :
    sgn (decide (a < 0)) (a.natAbs / h : Nat) = canN (x * q + y * p) (p * q) ∧ (p / g) * (q / h) = canD (x * q + y * p) (p * q) := by
  obtain ⟨u, hu⟩ : g ∣ p := by rw [hg]; exact Nat.gcd_dvd_left p q
  obtain ⟨v, hv⟩ : g ∣ q := by rw [hg]; exact Nat.gcd_dvd_right p q
  have hG : 0 < g := by rw [hg]; exact Nat.gcd_pos_of_pos_right p (Nat.pos_of_ne_zero hq)
  have e1 : p / g = u := by rw [hu, Nat.mul_div_cancel_left _ hG]
  have e2 : q / g = v := by rw [hv, Nat.mul_div_cancel_left _ hG]
  have c1 : Nat.Coprime u v := by
    have := Nat.coprime_div_gcd_div_gcd (m := p) (n := q) (by rw [← hg]; exact hG)
    rw [← hg, e1, e2] at this; exact this
  rw [e1, e2] at ha
  rw [e1]
  have hH : 0 < h := by rw [hh]; exact Nat.gcd_pos_of_pos_right _ hG
  obtain ⟨s, hs⟩ : h ∣ a.natAbs := by rw [hh]; exact Nat.gcd_dvd_left _ _
  obtain ⟨t, ht⟩ : h ∣ g := by rw [hh]; exact Nat.gcd_dvd_right _ _
  have e3 : a.natAbs / h = s := by rw [hs, Nat.mul_div_cancel_left _ hH]
  have e4 : g / h = t := by rw [ht, Nat.mul_div_cancel_left _ hH]
  have c2 : Nat.Coprime s t := by
    have := Nat.coprime_div_gcd_div_gcd (m := a.natAbs) (n := g) (by rw [← hh]; exact hH)
    rw [← hh, e3, e4] at this; exact this
  have hqh : q / h = t * v := by
    have : q = h * (t * v) := by rw [hv]; conv => lhs; lhs; rw [ht]
                                 grind
    rw [this, Nat.mul_div_cancel_left _ hH]
  rw [e3, hqh]
  have hxu : Nat.Coprime x.natAbs u := Nat.Coprime.coprime_dvd_right ⟨g, by rw [hu]; exact Nat.mul_comm _ _⟩ (show Nat.Coprime x.natAbs p from hxp)
  have hyv : Nat.Coprime y.natAbs v := Nat.Coprime.coprime_dvd_right ⟨g, by rw [hv]; exact Nat.mul_comm _ _⟩ (show Nat.Coprime y.natAbs q from hyq)
  have cau : Nat.Coprime a.natAbs u := by
    have h1 : Nat.gcd (x * (v : Int)).natAbs u = 1 := by
      rw [Int.natAbs_mul, Int.natAbs_natCast]
      exact Nat.Coprime.mul_left hxu c1.symm
    have h2 : Nat.gcd a.natAbs u ∣ Nat.gcd (x * (v : Int)).natAbs u := by
      refine Nat.dvd_gcd ?_ (Nat.gcd_dvd_right _ _)
      have d1 : ((Nat.gcd a.natAbs u : Nat) : Int) ∣ a := Int.ofNat_dvd_left.2 (Nat.gcd_dvd_left _ _)
      have d2 : ((Nat.gcd a.natAbs u : Nat) : Int) ∣ (u : Int) := Int.natCast_dvd_natCast.2 (Nat.gcd_dvd_right _ _)
      have d3 : ((Nat.gcd a.natAbs u : Nat) : Int) ∣ a - y * (u : Int) := Int.dvd_sub d1 (Int.dvd_trans d2 (Int.dvd_mul_left _ _))
      have e : a - y * (u : Int) = x * (v : Int) := by rw [ha]; omega
      rw [e] at d3
      exact Int.ofNat_dvd_left.1 d3
    rw [h1] at h2
    exact Nat.dvd_one.1 h2
  have cav : Nat.Coprime a.natAbs v := by
    have h1 : Nat.gcd (y * (u : Int)).natAbs v = 1 := by
      rw [Int.natAbs_mul, Int.natAbs_natCast]
      exact Nat.Coprime.mul_left hyv c1
    have h2 : Nat.gcd a.natAbs v ∣ Nat.gcd (y * (u : Int)).natAbs v := by
      refine Nat.dvd_gcd ?_ (Nat.gcd_dvd_right _ _)
      have d1 : ((Nat.gcd a.natAbs v : Nat) : Int) ∣ a := Int.ofNat_dvd_left.2 (Nat.gcd_dvd_left _ _)
      have d2 : ((Nat.gcd a.natAbs v : Nat) : Int) ∣ (v : Int) := Int.natCast_dvd_natCast.2 (Nat.gcd_dvd_right _ _)
      have d3 : ((Nat.gcd a.natAbs v : Nat) : Int) ∣ a - x * (v : Int) := Int.dvd_sub d1 (Int.dvd_trans d2 (Int.dvd_mul_left _ _))
      have e : a - x * (v : Int) = y * (u : Int) := by rw [ha]; omega
      rw [e] at d3
      exact Int.ofNat_dvd_left.1 d3
    rw [h1] at h2
    exact Nat.dvd_one.1 h2
  have csu : Nat.Coprime s u := Nat.Coprime.coprime_dvd_left ⟨h, by rw [Nat.mul_comm]; exact hs⟩ cau
  have csv : Nat.Coprime s v := Nat.Coprime.coprime_dvd_left ⟨h, by rw [Nat.mul_comm]; exact hs⟩ cav
  have hu0 : u ≠ 0 := by intro h; rw [h, Nat.mul_zero] at hu; exact hp hu
  have hv0 : v ≠ 0 := by intro h; rw [h, Nat.mul_zero] at hv; exact hq hv
  have ht0 : t ≠ 0 := by intro h'; rw [h', Nat.mul_zero] at ht; omega
  refine can_uniq (Nat.mul_ne_zero hu0 (Nat.mul_ne_zero ht0 hv0)) (Nat.mul_ne_zero hp hq) (by rw [sgn_abs]; exact Nat.Coprime.mul_right csu (Nat.Coprime.mul_right c2 csv)) ?_
  have ka : sgn (decide (a < 0)) (s : Nat) * (h : Int) = a := by
    have h1 := sgn_self a
    rw [hs] at h1
    refine Eq.trans ?_ h1
    generalize decide (a < 0) = b
    cases b
    · show (s : Int) * h = ((h * s : Nat) : Int)
      rw [Int.natCast_mul, Int.mul_comm]
    · show -(s : Int) * h = -((h * s : Nat) : Int)
      rw [Int.natCast_mul, Int.neg_mul, Int.mul_comm]
  have hs0 : (g : Int) = (h : Int) * (t : Int) := by rw [ht, Int.natCast_mul]
  have hp0 : (p : Int) = (g : Int) * (u : Int) := by rw [hu, Int.natCast_mul]
  have hq0 : (q : Int) = (g : Int) * (v : Int) := by rw [hv, Int.natCast_mul]
  generalize sgn (decide (a < 0)) (s : Nat) = sg at ka ⊢
  rw [Int.natCast_mul, Int.natCast_mul, Int.natCast_mul, hp0, hq0]
  have : x * ((g : Int) * v) + y * ((g : Int) * u) = g * a := by rw [ha]; grind
  rw [this, ← ka]
  rw [hs0]
  grind
end Go.Proofs.YtfdmhefjmnlllaaGreatDoor
end
section
/- Fractions of the library's: a product in lowest terms. -/
namespace Go.Proofs.YtfdmhefjmnlllaaGreatDoor
open Go.RowKit
attribute [local go_sem] sz2 sz3 sz4 sz5 sz6 sz7 sz8
set_option maxHeartbeats 4000000
set_option maxRecDepth 100000
attribute [local irreducible] Calls
attribute [local go_sem] D2.Oper.detAt D2.detUpon D2.relUpon
theorem Rd.nil_of {w : World} {A : Option Addr} {n c a : Nat} (h : Rd w A n c (lim a)) (ha : a = 0) : n = 0 := by
 have := h.len; rw [ha, lim_zero] at this; exact this.symm
namespace D2
def RRow (v : Nat) : List Value → Value → World → Prop := fun _ u w => ∃ (A : Option Addr) (k c : Nat), u = .slice A k c ∧ Rd w A k c (lim v)
theorem stays_row (v : Nat) : Stays (RRow v) := fun _ _ _ _ ⟨A, k, c, h1, h2⟩ he => ⟨A, k, c, h1, h2.ext he⟩
theorem stays_word (N v : Nat) : Stays (RWord N v) := fun _ _ _ _ ⟨A, k, c, h1, h2, h3⟩ he => ⟨A, k, c, h1, h2.ext he, h3⟩
theorem row_at {v : Nat} {vals : List Value} {A : Option Addr} {k c : Nat} {w : World} (h : RRow v vals (.slice A k c) w) : Rd w A k c (lim v) := by
 obtain ⟨A', k', c', e, h2⟩ := h
 simp only [Value.slice.injEq] at e
 obtain ⟨rfl, rfl, rfl⟩ := e
 exact h2
theorem fresh_row {w w' : World} {A : Option Addr} {k c : Nat} : Fresh w (.slice A k c) w' := fun b hb => by simp [blk] at hb
theorem rel_row {f : FuncId} {args : Array Value} {v : Nat} {vals : List Value} {w : World} (h : Calls Tryz.prog f args w fun e w' => ∃ (B : Option Addr) (k l : Nat), e = .returned (.slice B k l) ∧ Hid (Rd w' B k l (lim v)) ∧ Ext w w') :
  Calls Tryz.prog f args w fun e w' => ∃ u, e = .returned u ∧ Ext w w' ∧ Fresh w u w' ∧ RRow v vals u w' :=
 h.mono fun _ _ ⟨B, k, l, h1, h2, h3⟩ => ⟨_, h1, h3, fresh_row, B, k, l, rfl, h2.out⟩
theorem rel_wpost {f : FuncId} {args : Array Value} {N v : Nat} {vals : List Value} {w : World} (hN : N ≤ w.heap.size) (h : Calls Tryz.prog f args w (WPost w v)) :
  Calls Tryz.prog f args w fun e w' => ∃ u, e = .returned u ∧ Ext w w' ∧ Fresh w u w' ∧ RWord N v vals u w' :=
 h.mono fun _ _ ⟨B, k, l, h1, h2, h3⟩ => ⟨_, h1, h3, fresh_row, B, k, l, rfl, h2.out.1, fun a ha => Nat.le_trans hN (h2.out.2 a ha)⟩
end D2
theorem denOf_ne (d : Nat) : denOf d ≠ 0 := by unfold denOf; split <;> omega
theorem den_len {w : World} {g : Nat} {z : Int} {A : Option Addr} {n c d : Nat} {D : Option Addr} {m e L : Nat} (h : RatIs w g z A n c d D m e) (hm : m ≤ L) (h1 : 1 ≤ L) : (lim (denOf d)).length ≤ L := by
 by_cases hd : d = 0
 ·subst hd
  have : (lim (denOf 0)).length = 1 := by kernel_rfl
  omega
 ·rw [show denOf d = d from if_neg hd, h.rd.len]; exact hm
end Go.Proofs.YtfdmhefjmnlllaaGreatDoor
end
section
/- Whole numbers of the library's: products, differences, quotients. -/
namespace Go.Proofs.YtfdmhefjmnlllaaGreatDoor
open Go.RowKit
attribute [local go_sem] sz2 sz3 sz4 sz5 sz6 sz7 sz8
set_option maxHeartbeats 4000000
set_option maxRecDepth 100000
attribute [local irreducible] Calls
attribute [local go_sem] D2.Oper.detAt D2.detUpon D2.relUpon
namespace D2
def RQuo (N q r : Nat) : List Value → Value → World → Prop := fun _ u w => ∃ (A : Option Addr) (k c : Nat) (B : Option Addr) (m d : Nat), u = .tuple #[.slice A k c, .slice B m d] ∧ (Rd w A k c (lim q) ∧ ∀ a, A = some a → N ≤ a.block) ∧ Rd w B m d (lim r) ∧ ∀ a, B = some a → N ≤ a.block
theorem stays_quo (N q r : Nat) : Stays (RQuo N q r) := fun _ _ _ _ ⟨A, k, c, B, m, d, h1, ⟨h2, h3⟩, h4, h5⟩ he => ⟨A, k, c, B, m, d, h1, ⟨h2.ext he, h3⟩, h4.ext he, h5⟩
theorem quo_at {N q r : Nat} {vals : List Value} {A : Option Addr} {k c : Nat} {B : Option Addr} {m d : Nat} {w : World} (h : RQuo N q r vals (.tuple #[.slice A k c, .slice B m d]) w) : (Rd w A k c (lim q) ∧ ∀ a, A = some a → N ≤ a.block) ∧ Rd w B m d (lim r) ∧ ∀ a, B = some a → N ≤ a.block := by
 obtain ⟨A', k', c', B', m', d', e, h1, h2⟩ := h
 cases e
 exact ⟨h1, h2⟩
theorem rel_quo {f : FuncId} {args : Array Value} {N q r : Nat} {vals : List Value} {w : World} (hN : N ≤ w.heap.size) (h : Calls Tryz.prog f args w (QPost w q r)) :
  Calls Tryz.prog f args w fun e w' => ∃ u, e = .returned u ∧ Ext w w' ∧ Fresh w u w' ∧ RQuo N q r vals u w' :=
 h.mono fun _ _ ⟨A, k, c, B, m, d, h1, h2, h3, h4⟩ => ⟨_, h1, h4, (fun b hb => by simp [blk] at hb), A, k, c, B, m, d, rfl, ⟨h2.out.1, fun a ha => Nat.le_trans hN (h2.out.2 a ha)⟩, h3.out.1, fun a ha => Nat.le_trans hN (h3.out.2 a ha)⟩
end D2
theorem sgn_turn (y : Int) : sgn (!decide (y < 0)) y.natAbs = -y := sgn_neg y
theorem bi_Sub (b o g p h q : Nat) (x y : Int) (A : Option Addr) (n c : Nat) (B : Option Addr) (m d : Nat) (hn : n ≤ 1000000) (hm : m ≤ 1000000) (w : World) (hr : Room w b o) (hx : IntIs w g p x A n c) (hy : IntIs w h q y B m d) :
  Calls Tryz.prog 128 #[.pointer (some ⟨b, o, none⟩), .pointer (some ⟨g, p, none⟩), .pointer (some ⟨h, q, none⟩)] w (IPost w b o (x - y)) := by
 have HX := Lib.hid hx
 have HY := Lib.hid hy
 have HR := Lib.hid hr
 have lx := hx.room.lt
 have x0 := hx.neg
 have x1 := hx.words
 have ly := hy.room.lt
 have y0 := hy.neg
 have y1 := hy.words
 have hbl := hr.lt
 clear hx hy hr
 go_enter Tryz.func128, Tryz.ntmps128
 go_wp2
 refine wp_aft_tail 18 (by kernel_rfl) (by kernel_rfl) (by kernel_rfl) (fun hq hqf => ?_)
 simp only [List.take_succ_cons, List.take_zero, List.drop_succ_cons, List.drop_zero]
 repeat (go_big_quiet_step (first | fail
  ))
 refine wpQuiet_nil ?_
 rintro _ ⟨nq, rfl⟩
 have xl := ext_lt nq.use
 have xz := ext_size nq.use
 try simp at xz
 have hE := Lib.hid nq.use
 go_wp2_with (first
  | (go_at_call 166; (with_reducible refine (bi_added b o A n c x.natAbs _ B m d y.natAbs _ hn hm _ (HR.out.ext hE.out) (HX.out.rd.ext hE.out) (HY.out.rd.ext hE.out)).mono ?_); rintro e w3 ⟨rfl, A3, n3, c3, hI3, xt3⟩)
  )
 refine bodyPost_ret (v := .pointer (some ⟨b, o, none⟩)) ?h rfl ⟨rfl, A3, n3, c3, ⟨by have := hI3.out.1; rwa [sgn_self, sgn_turn, ← Int.sub_eq_add_neg] at this, hI3.out.2.mono hE.out⟩, (Tch.of hE.out).trans xt3⟩
 case h => simp [results, Tryz.results128, go_sem]
abbrev QRPost (w : World) (b g : Nat) (q r : Int) : Ending → World → Prop := fun e w' => e = .returned (.tuple #[.pointer (some ⟨b, 0, none⟩), .pointer (some ⟨g, 0, none⟩)]) ∧ ∃ (A : Option Addr) (n c : Nat) (B : Option Addr) (m d : Nat) (w1 : World),
 Hid (IntIs w' b 0 q A n c ∧ Fr w A ∧ IntIs w' g 0 r B m d ∧ Fr w B) ∧ Tch g w w1 ∧ Tch b w1 w'
theorem bi_QuoRem (b g bx b2 : Nat) (x y : Int) (hy0 : y ≠ 0) (hbg : b ≠ g) (A : Option Addr) (n c : Nat) (B : Option Addr) (m d : Nat) (hn : n ≤ 400000) (w : World) (hr : Room w b 0) (hr2 : Room w g 0) (hx : IntIs w bx 0 x A n c) (hy : IntIs w b2 0 y B m d) :
  Calls Tryz.prog 127 #[.pointer (some ⟨b, 0, none⟩), .pointer (some ⟨bx, 0, none⟩), .pointer (some ⟨b2, 0, none⟩), .pointer (some ⟨g, 0, none⟩)] w
   (QRPost w b g (sgn (!(decide (x < 0) == decide (y < 0))) (x.natAbs / y.natAbs)) (sgn (decide (x < 0)) (x.natAbs % y.natAbs))) := by
 have HX := Lib.hid hx
 have HY := Lib.hid hy
 have HR := Lib.hid hr
 have HR2 := Lib.hid hr2
 have lx := hx.room.lt
 have x0 := hx.neg
 have x1 := hx.words
 have ly := hy.room.lt
 have y0 := hy.neg
 have y1 := hy.words
 simp only [Nat.zero_add] at x1 y1
 have kD : ∀ w', Ext w w' → Calls Tryz.prog 162 #[.slice A n c, .slice B m d] w' (QPost w' (x.natAbs / y.natAbs) (x.natAbs % y.natAbs)) := fun w' he => bw_div A B n c m d _ _ (by omega) hn w' (HX.out.rd.ext he) (HY.out.rd.ext he)
 clear hx hy hr hr2
 go_enter Tryz.func127, Tryz.ntmps127
 go_wp2
 refine wp_aft (by kernel_rfl) (by kernel_rfl) (fun hq hqf => ?_)
 repeat (go_big_quiet_step (first | fail
  ))
 refine wpQuiet_nil ?_
 rintro _ ⟨nq, rfl⟩
 have xl := ext_lt nq.use
 have xz := ext_size nq.use
 try simp at xz
 have hE := Lib.hid nq.use
 clear hq hqf
 have z0 := (Below.cell (p := ⟨bx, 0, none⟩) hE.out lx).trans x0
 have z1 := (Below.cell (p := ⟨bx, 1, none⟩) hE.out lx).trans x1
 have z2 := (Below.cell (p := ⟨b2, 0, none⟩) hE.out ly).trans y0
 have z3 := (Below.cell (p := ⟨b2, 1, none⟩) hE.out ly).trans y1
 have lx' := ext_lt hE.out _ lx
 have ly' := ext_lt hE.out _ ly
 generalize nq.out = W at *
 clear nq x0 x1 y0 y1
 go_upto_region 3 with (fail)
 refine D2.wp_drawn (D2.tab [(8, D2.RQuo W.heap.size (x.natAbs / y.natAbs) (x.natAbs % y.natAbs))]) (by kernel_rfl) (by kernel_rfl) (D2.tab_stays (by simp [D2.stays_quo])) (fun hq hqf => ?_)
 have u1 := fun nq => (hq nq bx 1 lx').trans z1
 have u3 := fun nq => (hq nq b2 1 ly').trans z3
 iterate 8
  (refine D2.wpK_det rfl (fun K hK => ?_)
   go_simp
   first
    | (refine hK _ ?_; clear hK K)
    | (apply Exists.intro; refine ⟨fun x => ?_, hK _ ?_⟩; (first | exact u1 x | exact u3 x | (simp [u1, u3]; rfl)); clear hK K))
 refine D2.wpK_rel _ rfl rfl ?_ ?_
 ·rintro _ ⟨nn, rfl⟩ _
  unfold D2.Oper.relAt
  go_simp
  exact D2.rel_quo (ext_size nn.use) (kD _ (jT hE.out nn.use))
 rintro v ⟨_, ⟨nn, rfl⟩, hr⟩
 obtain ⟨A5, k5, c5, B5, m5, d5, rfl, -⟩ := hr
 clear nn
 iterate 5
  (refine D2.wpK_det rfl (fun K hK => ?_)
   go_simp
   refine hK _ ?_; clear hK K)
 refine D2.wpK_nil ?_
 intro nq hG
 have r5 : D2.RQuo W.heap.size (x.natAbs / y.natAbs) (x.natAbs % y.natAbs) [] (.tuple #[.slice A5 k5 c5, .slice B5 m5 d5]) nq.out := by have := hG.fact 8; simp [D2.Facts.put] at this; exact this
 have hR5 := Lib.hid (D2.quo_at r5)
 have hE2 := Lib.hid (jT hE.out nq.use)
 have fA : Fr w A5 := fun a ha => Nat.le_trans hE.out.size (hR5.out.1.2 a ha)
 have fB : Fr w B5 := fun a ha => Nat.le_trans hE.out.size (hR5.out.2.2 a ha)
 have oAb := fA.off HR.out.lt k5
 have oAg := fA.off HR2.out.lt k5
 have oBb := fB.off HR.out.lt m5
 have oBg := fB.off HR2.out.lt m5
 clear r5 hG u1 u3 hq hqf kD
 generalize nq.out = W2 at *
 clear nq
 clear z0 z1 z2 z3
 have HG := Lib.hid hbg
 have HY0 := Lib.hid hy0
 clear hbg hy0
 go_upto_region 5 with (first
  | (go_at_call 88; (with_reducible refine (bi_set g 0 _ B5 m5 d5 (x.natAbs % y.natAbs) _ (HR2.out.ext hE2.out) hR5.out.2.1 oBg).mono ?_); rintro e w3 ⟨rfl, hI3, xt3⟩)
  )
 have HI3 := Lib.hid (hI3.out)
 have HT3 := Lib.hid xt3
 clear hI3 xt3
 go_wp2_with (first
  | (go_at_call 88; (with_reducible refine (bi_set b 0 _ A5 k5 c5 (x.natAbs / y.natAbs) _ ((HR.out.ext hE2.out).tch HT3.out HG.out) (hR5.out.1.1.tch HT3.out oAg) oAb).mono ?_); rintro e w4 ⟨rfl, hI4, xt4⟩)
  )
 refine bodyPost_ret (v := .tuple #[.pointer (some ⟨b, 0, none⟩), .pointer (some ⟨g, 0, none⟩)]) ?h rfl ⟨rfl, A5, k5, c5, B5, m5, d5, w3, ⟨hI4.out, fA, HI3.out.tch xt4 (Ne.symm HG.out) oBb, fB⟩, (Tch.of hE2.out).trans HT3.out, xt4⟩
 case h => simp [results, Tryz.results127, go_sem]
end Go.Proofs.YtfdmhefjmnlllaaGreatDoor
end
section
/- Whole numbers of the library's: quotients rounded down. -/
namespace Go.Proofs.YtfdmhefjmnlllaaGreatDoor
open Go.RowKit
attribute [local go_sem] sz2 sz3 sz4 sz5 sz6 sz7 sz8
set_option maxHeartbeats 4000000
set_option maxRecDepth 100000
theorem floor_plain {x y : Int} (hy : 0 < y) (h : ¬ (x < 0 ∧ x.natAbs % y.natAbs ≠ 0)) : sgn (decide (x < 0)) (x.natAbs / y.natAbs) = x / y ∧ sgn (decide (x < 0)) (x.natAbs % y.natAbs) = x % y := by
 obtain ⟨d, rfl⟩ : ∃ d : Nat, y = (d : Int) := ⟨y.natAbs, by omega⟩
 have hd : 0 < d := by omega
 rw [Int.natAbs_natCast] at *
 have hdm := Nat.div_add_mod x.natAbs d
 have hml := Nat.mod_lt x.natAbs hd
 obtain ⟨h1, h2⟩ := (Int.ediv_emod_unique (a := x) (b := (d : Int)) (r := sgn (decide (x < 0)) (x.natAbs % d)) (q := sgn (decide (x < 0)) (x.natAbs / d)) (by omega)).2 (by
  generalize x.natAbs % d = r at *
  generalize hq : x.natAbs / d = q at *
  by_cases h0 : x < 0
  ·have hr : r = 0 := by
    by_cases hr : r = 0
    ·exact hr
    ·exact absurd ⟨h0, hr⟩ h
   subst hr
   simp only [sgn, decide_eq_true h0, if_true]
   have e : ((d * q + 0 : Nat) : Int) = (x.natAbs : Int) := by rw [hdm]
   simp only [Nat.add_zero, Int.natCast_mul] at e
   refine ⟨?_, by omega, by omega⟩
   rw [Int.mul_neg]
   omega
  ·simp only [sgn, decide_eq_false h0]
   have e : ((d * q + r : Nat) : Int) = (x.natAbs : Int) := by rw [hdm]
   rw [Int.natCast_add, Int.natCast_mul] at e
   refine ⟨?_, by simp, by simp; omega⟩
   simp only [Bool.false_eq_true, if_false]
   omega)
 exact ⟨h1.symm, h2.symm⟩
theorem floor_turn {x y : Int} (hy : 0 < y) (h0 : x < 0) (h : x.natAbs % y.natAbs ≠ 0) : sgn (decide (x < 0)) (x.natAbs / y.natAbs) - 1 = x / y ∧ ((y.natAbs - x.natAbs % y.natAbs : Nat) : Int) = x % y := by
 obtain ⟨d, rfl⟩ : ∃ d : Nat, y = (d : Int) := ⟨y.natAbs, by omega⟩
 have hd : 0 < d := by omega
 rw [Int.natAbs_natCast] at *
 have hdm := Nat.div_add_mod x.natAbs d
 have hml := Nat.mod_lt x.natAbs hd
 obtain ⟨h1, h2⟩ := (Int.ediv_emod_unique (a := x) (b := (d : Int)) (r := ((d - x.natAbs % d : Nat) : Int)) (q := sgn (decide (x < 0)) (x.natAbs / d) - 1) (by omega)).2 (by
  generalize x.natAbs % d = r at *
  generalize hq : x.natAbs / d = q at *
  simp only [sgn, decide_eq_true h0, if_true]
  have e : ((d * q + r : Nat) : Int) = (x.natAbs : Int) := by rw [hdm]
  rw [Int.natCast_add, Int.natCast_mul] at e
  refine ⟨?_, by omega, by omega⟩
  rw [Int.mul_sub, Int.mul_neg]
  omega)
 exact ⟨h1.symm, h2.symm⟩
attribute [local irreducible] Calls
abbrev DMPost (w : World) (b g : Nat) (q r : Int) : Ending → World → Prop := fun e w' => e = .returned (.tuple #[.pointer (some ⟨b, 0, none⟩), .pointer (some ⟨g, 0, none⟩)]) ∧ ∃ (A : Option Addr) (n c : Nat) (B : Option Addr) (m d : Nat),
 Hid (IntIs w' b 0 q A n c ∧ Fr w A ∧ IntIs w' g 0 r B m d ∧ Fr w B) ∧ Hid (∀ U, Ext U w → U.heap.size ≤ b → U.heap.size ≤ g → Ext U w') ∧ w.heap.size ≤ w'.heap.size
theorem bi_DivMod (b g bx b2 : Nat) (x y : Int) (hy0 : 0 < y) (hbg : b ≠ g) (hbx : bx ≠ b ∧ bx ≠ g) (hb2 : b2 ≠ b ∧ b2 ≠ g) (A : Option Addr) (n c : Nat) (B : Option Addr) (m d : Nat) (hn : n ≤ 400000) (hm : m ≤ 400000) (w : World) (hr : Room w b 0) (hr2 : Room w g 0) (hx : IntIs w bx 0 x A n c) (hy : IntIs w b2 0 y B m d) :
  Calls Tryz.prog 86 #[.pointer (some ⟨b, 0, none⟩), .pointer (some ⟨bx, 0, none⟩), .pointer (some ⟨b2, 0, none⟩), .pointer (some ⟨g, 0, none⟩)] w (DMPost w b g (x / y) (x % y)) := by
 have HX := Lib.hid hx
 have HY := Lib.hid hy
 have HR := Lib.hid hr
 have HR2 := Lib.hid hr2
 have lx := hx.room.lt
 have ly := hy.room.lt
 have y0 := hy.neg
 have y1 := hy.words
 simp only [Nat.zero_add] at y1
 have hyn : decide (y < 0) = false := decide_eq_false (by omega)
 rw [hyn] at y0
 have kQ : ∀ w', Ext w w' → Calls Tryz.prog 127 #[.pointer (some ⟨b, 0, none⟩), .pointer (some ⟨bx, 0, none⟩), .pointer (some ⟨b2, 0, none⟩), .pointer (some ⟨g, 0, none⟩)] w' (QRPost w' b g (sgn (decide (x < 0)) (x.natAbs / y.natAbs)) (sgn (decide (x < 0)) (x.natAbs % y.natAbs))) := fun w' he => by
  have := bi_QuoRem b g bx b2 x y (by omega) hbg A n c B m d hn w' (HR.out.ext he) (HR2.out.ext he) (HX.out.ext he) (HY.out.ext he)
  rw [hyn] at this
  have e : ∀ s : Bool, (!(s == false)) = s := by decide
  rw [e] at this
  exact this
 have HBG := Lib.hid hbg
 have HBX := Lib.hid hbx
 have HB2 := Lib.hid hb2
 clear hx hy hr hr2 hbg hbx hb2
 by_cases hneg : x < 0 ∧ x.natAbs % y.natAbs ≠ 0
 ·obtain ⟨hx0, hr0⟩ := hneg
  obtain ⟨e1, e2⟩ := floor_turn hy0 hx0 hr0
  have hrn : decide (sgn (decide (x < 0)) (x.natAbs % y.natAbs) < 0) = true := decide_eq_true (by rw [decide_eq_true hx0]; simp [sgn]; omega)
  have hab : (sgn (decide (x < 0)) (x.natAbs % y.natAbs)).natAbs = x.natAbs % y.natAbs := sgn_abs _ _
  have hle : x.natAbs % y.natAbs ≤ y.natAbs := Nat.le_of_lt (Nat.mod_lt _ (by omega))
  have hql : (lim (x.natAbs / y.natAbs)).length ≤ n := by rw [← HX.out.rd.len]; exact lim_mono (Nat.div_le_self _ _)
  have hqa : (sgn (decide (x < 0)) (x.natAbs / y.natAbs)).natAbs = x.natAbs / y.natAbs := sgn_abs _ _
  have hE12 := Lib.hid (And.intro e1 (And.intro e2 (And.intro hab (And.intro hle (And.intro hql hqa)))))
  have hsg : Hid (sgn false (y.natAbs - x.natAbs % y.natAbs) = ((y.natAbs - x.natAbs % y.natAbs : Nat) : Int)) := Lib.hid rfl
  clear e1 e2 hx0 hr0 hyn hab hle hql hqa
  generalize x / y = q at *
  generalize x % y = r at *
  generalize sgn (decide (x < 0)) (x.natAbs / y.natAbs) = q0 at *
  generalize sgn (decide (x < 0)) (x.natAbs % y.natAbs) = r0 at *
  go_enter Tryz.func86, Tryz.ntmps86
  go_upto_region 7 with (first
   | (go_at_call 89; (with_reducible refine (bw_copied B m d (lim y.natAbs) (Nat.le_trans hm (by decide)) _ HY.out.rd).mono ?_); rintro e w2 ⟨rfl, hR2, xb2⟩)
   | (go_at_call 127; (with_reducible refine (kQ _ xb2).mono ?_); rintro e w3 ⟨rfl, A3, n3, c3, B3, m3, d3, w2', hI3, xt3, xt4⟩; have g0 := hI3.out.2.2.1.neg; have g1 := hI3.out.2.2.1.room.lt; rw [hrn] at g0; have hxt := Lib.hid (And.intro xt3 xt4); clear xt3 xt4)
   )
  have hn3 : n3 ≤ 1000000 := by
   have h1 := hI3.out.1.rd.len
   rw [hE12.out.2.2.2.2.2] at h1
   have := hE12.out.2.2.2.2.1
   omega
  have hm3 : m3 ≤ 1000000 := by
   have h1 := hI3.out.2.2.1.rd.len
   rw [hE12.out.2.2.1] at h1
   have h2 := lim_mono hE12.out.2.2.2.1
   rw [HY.out.rd.len] at h2
   omega
  have hob : b < w.heap.size := HR.out.lt
  have hog : g < w.heap.size := HR2.out.lt
  have hOb : Off (some ⟨w.heap.size, 0, none⟩) m b := fun k hk _ e => by cases hk; simp at e; omega
  have hOg : Off (some ⟨w.heap.size, 0, none⟩) m g := fun k hk _ e => by cases hk; simp at e; omega
  have hsz3 : w2.heap.size ≤ w3.heap.size := Nat.le_trans hxt.out.1.size hxt.out.2.size
  have hSz : Hid (Rd w3 (some ⟨w.heap.size, 0, none⟩) m m (lim y.natAbs)) := Lib.hid ((hR2.out.tch hxt.out.1 hOg).tch hxt.out.2 hOb)
  have hB3b : Off B3 m3 b := hI3.out.2.2.2.off (Nat.lt_of_lt_of_le hob xb2.size) m3
  have hA3g : Off A3 n3 g := hI3.out.2.1.off (Nat.lt_of_lt_of_le hog xb2.size) n3
  have HQ := Lib.hid (And.intro hOb (And.intro hOg (And.intro hB3b hA3g)))
  have hsub : ∀ (P4 : Option Addr) (p4 k4 l4 : Nat) (w4 : World), Ext w3 w4 → IntIs w4 p4 0 1 P4 k4 l4 → Calls Tryz.prog 128 #[.pointer (some ⟨b, 0, none⟩), .pointer (some ⟨b, 0, none⟩), .pointer (some ⟨p4, 0, none⟩)] w4 (IPost w4 b 0 q) := fun P4 p4 k4 l4 w4 he h4 => by
   have h5 := h4.rd.len
   rw [show (lim (1 : Int).natAbs).length = 1 by kernel_rfl] at h5
   have := bi_Sub b 0 b 0 p4 0 q0 1 A3 n3 c3 P4 k4 l4 hn3 (by omega) w4 (hI3.out.1.room.ext he) (hI3.out.1.ext he) h4
   rw [hE12.out.1] at this
   exact this
  have hgb := Ne.symm HBG.out
  have hmI := Lib.hid hI3.out.2.2.1
  have hle5 : Hid (x.natAbs % y.natAbs ≤ y.natAbs ∧ r0.natAbs = x.natAbs % y.natAbs) := Lib.hid ⟨hE12.out.2.2.2.1, hE12.out.2.2.1⟩
  have hgs : g < w2.heap.size := Nat.lt_of_lt_of_le hog xb2.size
  have HGB := Lib.hid hgb
  have kS : ∀ w', Rd w' (some ⟨w.heap.size, 0, none⟩) m m (lim y.natAbs) → Rd w' B3 m3 d3 (lim r0.natAbs) → Calls Tryz.prog 129 #[.slice (some ⟨w.heap.size, 0, none⟩) m m, .slice B3 m3 d3] w' (WPost w' (y.natAbs - r0.natAbs)) := fun w' h1 h2 =>
   bw_sub _ B3 m m m3 d3 y.natAbs r0.natAbs (by rw [hle5.out.2]; exact hle5.out.1) (Nat.le_trans hm (by decide)) w' h1 h2
  clear hgb g0 g1 hOb hOg hB3b hA3g hrn
  go_wp2_with (first
   | (go_at_call 70; (with_reducible refine (bi_NewInt 1 (by decide) (by decide) _).mono ?_); rintro e w4 ⟨p4, P4, k4, l4, rfl, hI4, hp4, xb4⟩)
   | (go_at_call 128; (with_reducible refine (hsub P4 p4 k4 l4 _ xb4 hI4.out.1).mono ?_); rintro e w5 ⟨rfl, A5, n5, c5, hI5, xt5⟩; have hm5 := Lib.hid ((hmI.out.ext xb4).tch xt5 HGB.out HQ.out.2.2.1); have hs5 := Lib.hid ((hSz.out.ext xb4).tch xt5 HQ.out.1); have g5 := hm5.out.words; have g6 := hm5.out.room.lt; simp only [Nat.zero_add] at g5; have HT5 := Lib.hid xt5; clear xt5)
   | (go_at_call 129; (with_reducible refine (kS _ hs5.out hm5.out.rd).mono ?_); rintro e w6 ⟨A6, k6, c6, rfl, hR6, xb6⟩; have ho6 := hR6.out.2.off g6 k6)
   | (go_at_call 88; (with_reducible refine (bi_set g 0 false A6 k6 c6 (y.natAbs - r0.natAbs) _ (hm5.out.room.ext xb6) hR6.out.1 ho6).mono ?_); rintro e w7 ⟨rfl, hI7, xt7⟩; have HT7 := Lib.hid xt7; clear xt7)
   )
  have hP : Hid (∀ U, Ext U w → U.heap.size ≤ b → U.heap.size ≤ g → Ext U w7) := Lib.hid fun U hU h1 h2 => HT7.out.ext (jT (HT5.out.ext (jT (hxt.out.2.ext (hxt.out.1.ext (jT hU xb2) h2) h1) xb4) h1) xb6) h2
  have hS : w.heap.size ≤ w7.heap.size := Nat.le_trans xb2.size (Nat.le_trans hsz3 (Nat.le_trans xb4.size (Nat.le_trans HT5.out.size (Nat.le_trans xb6.size HT7.out.size))))
  have hA5 : Off A5 n5 g := hI5.out.2.off (Nat.lt_of_lt_of_le hgs (Nat.le_trans hsz3 xb4.size)) n5
  have hF5 : Fr w A5 := fun a ha => Nat.le_trans (Nat.le_trans xb2.size (Nat.le_trans hsz3 xb4.size)) (hI5.out.2 a ha)
  have hF6 : Fr w A6 := fun a ha => Nat.le_trans (Nat.le_trans xb2.size (Nat.le_trans hsz3 (Nat.le_trans xb4.size HT5.out.size))) (hR6.out.2 a ha)
  have hr7 : sgn false (y.natAbs - r0.natAbs) = r := by rw [hle5.out.2, hsg.out]; exact hE12.out.2.1
  have HR7 := Lib.hid hr7
  clear hr7
  refine bodyPost_ret (v := .tuple #[.pointer (some ⟨b, 0, none⟩), .pointer (some ⟨g, 0, none⟩)]) ?h rfl ⟨rfl, A5, n5, c5, A6, k6, c6, ⟨(hI5.out.1.ext xb6).tch HT7.out HBG.out hA5, hF5, by have := hI7.out; rwa [HR7.out] at this, hF6⟩, hP, hS⟩
  case h => simp [results, Tryz.results86, go_sem]
 ·obtain ⟨e1, e2⟩ := floor_plain hy0 hneg
  rw [e1, e2] at kQ
  have hrn : decide (x % y < 0) = false := decide_eq_false (by have := Int.emod_nonneg x (show y ≠ 0 by omega); omega)
  have hE12 := Lib.hid (And.intro e1 e2)
  clear e1 e2 hneg hyn
  generalize x / y = q at *
  generalize x % y = r at *
  go_enter Tryz.func86, Tryz.ntmps86
  go_wp2_with (first
   | (go_at_call 89; (with_reducible refine (bw_copied B m d (lim y.natAbs) (Nat.le_trans hm (by decide)) _ HY.out.rd).mono ?_); rintro e w2 ⟨rfl, hR2, xb2⟩)
   | (go_at_call 127; (with_reducible refine (kQ _ xb2).mono ?_); rintro e w3 ⟨rfl, A3, n3, c3, B3, m3, d3, w2', hI3, xt3, xt4⟩; have g0 := hI3.out.2.2.1.neg; have g1 := hI3.out.2.2.1.room.lt; rw [hrn] at g0; have hxt := Lib.hid (And.intro xt3 xt4); clear xt3 xt4)
   )
  have hP : Hid (∀ U, Ext U w → U.heap.size ≤ b → U.heap.size ≤ g → Ext U w3) := Lib.hid fun U hU h1 h2 => hxt.out.2.ext (hxt.out.1.ext (jT hU xb2) h2) h1
  have hS : w.heap.size ≤ w3.heap.size := Nat.le_trans xb2.size (Nat.le_trans hxt.out.1.size hxt.out.2.size)
  refine bodyPost_ret (v := .tuple #[.pointer (some ⟨b, 0, none⟩), .pointer (some ⟨g, 0, none⟩)]) ?h rfl ⟨rfl, A3, n3, c3, B3, m3, d3, ⟨hI3.out.1, hI3.out.2.1.mono xb2, hI3.out.2.2.1, hI3.out.2.2.2.mono xb2⟩, hP, hS⟩
  case h => simp [results, Tryz.results86, go_sem]
theorem bi_Div (b bx b2 : Nat) (x y : Int) (hy0 : 0 < y) (hbx : bx ≠ b) (hb2 : b2 ≠ b) (A : Option Addr) (n c : Nat) (B : Option Addr) (m d : Nat) (hn : n ≤ 400000) (hm : m ≤ 400000) (w : World) (hr : Room w b 0) (hx : IntIs w bx 0 x A n c) (hy : IntIs w b2 0 y B m d) :
  Calls Tryz.prog 41 #[.pointer (some ⟨b, 0, none⟩), .pointer (some ⟨bx, 0, none⟩), .pointer (some ⟨b2, 0, none⟩)] w fun e w' => e = .returned (.pointer (some ⟨b, 0, none⟩)) ∧ ∃ (A : Option Addr) (n c : Nat), Hid (IntIs w' b 0 (x / y) A n c ∧ Fr w A) ∧ Hid (∀ U, Ext U w → U.heap.size ≤ b → Ext U w') := by
 have hbl := hr.lt
 have lx := hx.room.lt
 have ly := hy.room.lt
 have hrm := Lib.hid (int_room w)
 have kD : Calls Tryz.prog 86 #[.pointer (some ⟨b, 0, none⟩), .pointer (some ⟨bx, 0, none⟩), .pointer (some ⟨b2, 0, none⟩), .pointer (some ⟨w.heap.size, 0, none⟩)] (w.alloc (Obj.cells #[.bool false, .slice none 0 0] 66)) (DMPost (w.alloc (Obj.cells #[.bool false, .slice none 0 0] 66)) b w.heap.size (x / y) (x % y)) :=
  bi_DivMod b w.heap.size bx b2 x y hy0 (by omega) ⟨hbx, by omega⟩ ⟨hb2, by omega⟩ A n c B m d hn hm _ (hr.ext (jA (jR _) _)) hrm.out (hx.ext (jA (jR _) _)) (hy.ext (jA (jR _) _))
 clear hx hy hr hbx hb2
 go_enter Tryz.func41, Tryz.ntmps41
 go_wp2_with (first
  | (go_at_call 86; (with_reducible refine kD.mono ?_); rintro e w3 ⟨rfl, A3, n3, c3, B3, m3, d3, hI3, hP3, hS3⟩)
  )
 refine bodyPost_ret (v := .pointer (some ⟨b, 0, none⟩)) ?h rfl ⟨rfl, A3, n3, c3, ⟨hI3.out.1, hI3.out.2.1.mono (jA (jR w) _)⟩, fun U hU h1 => hP3.out U (jA hU _) h1 hU.size⟩
 case h => simp [results, Tryz.results41, go_sem]
end Go.Proofs.YtfdmhefjmnlllaaGreatDoor
end
section
/- The program's whole numbers: small ones; powers. -/
namespace Go.Proofs.YtfdmhefjmnlllaaGreatDoor
open Go.RowKit
attribute [local go_sem] sz2 sz3 sz4 sz5 sz6 sz7 sz8
set_option maxHeartbeats 4000000
set_option maxRecDepth 100000
attribute [local irreducible] Calls
theorem and_one (r : Nat) (hr : r < 9223372036854775808) : bits BinOp.and IntKind.i64 (r : Int) 1 = ((r % 2 : Nat) : Int) := by
 have h1 : (BitVec.ofInt 64 (r : Int)).toNat = r := by rw [BitVec.ofInt_natCast, BitVec.toNat_ofNat]; exact Nat.mod_eq_of_lt (by omega)
 have h2 : (BitVec.ofInt 64 1).toNat = 1 := by decide
 show IntKind.i64.wrap ((BitVec.ofInt 64 (r : Int) &&& BitVec.ofInt 64 1).toNat : Int) = _
 rw [BitVec.toNat_and, h1, h2, Nat.and_one_is_mod, IntKind.wrap_i64]
 omega
structure PC (w : World) (G6 G7 Gr : Nat) (v6 v7 vr : Value) : Prop where
 c6 : w.cell? ⟨G6, 0, none⟩ = some v6
 c7 : w.cell? ⟨G7, 0, none⟩ = some v7
 cr : w.cell? ⟨Gr, 0, none⟩ = some vr
 f6 : w.frozen? ⟨G6, 0, none⟩ = false
 f7 : w.frozen? ⟨G7, 0, none⟩ = false
 fr : w.frozen? ⟨Gr, 0, none⟩ = false
 l7 : G7 < w.heap.size
theorem PC.ext {w w' : World} {G6 G7 Gr : Nat} {v6 v7 vr : Value} (h : PC w G6 G7 Gr v6 v7 vr) (h6 : G6 < G7) (hr : Gr < G7) (he : Ext w w') : PC w' G6 G7 Gr v6 v7 vr :=
 ⟨(Below.cell (p := ⟨G6, 0, none⟩) he (Nat.lt_trans h6 h.l7)).trans h.c6, (Below.cell (p := ⟨G7, 0, none⟩) he h.l7).trans h.c7, (Below.cell (p := ⟨Gr, 0, none⟩) he (Nat.lt_trans hr h.l7)).trans h.cr,
  (Below.frozen (p := ⟨G6, 0, none⟩) he (Nat.lt_trans h6 h.l7)).trans h.f6, (Below.frozen (p := ⟨G7, 0, none⟩) he h.l7).trans h.f7, (Below.frozen (p := ⟨Gr, 0, none⟩) he (Nat.lt_trans hr h.l7)).trans h.fr, ext_lt he _ h.l7⟩
end Go.Proofs.YtfdmhefjmnlllaaGreatDoor
end
section
/- Words of the library's: powers. -/
namespace Go.Proofs.YtfdmhefjmnlllaaGreatDoor
open Go.RowKit
attribute [local go_sem] sz2 sz3 sz4 sz5 sz6 sz7 sz8
set_option maxHeartbeats 4000000
set_option maxRecDepth 100000
theorem pow_halves (b n i : Nat) : b ^ (n / 2 ^ i) = b ^ (n / 2 ^ (i + 1)) * b ^ (n / 2 ^ (i + 1)) * b ^ (n / 2 ^ i % 2) := by
 rw [← Nat.pow_add, ← Nat.pow_add]
 congr 1
 have e : n / 2 ^ (i + 1) = n / 2 ^ i / 2 := by rw [Nat.pow_succ, ← Nat.div_div_eq_div_mul]
 omega
theorem pow_part {b n i : Nat} (hb : 2 ≤ b) : b ^ (n / 2 ^ i) ≤ b ^ n := Nat.pow_le_pow_right (by omega) (Nat.div_le_self _ _)
theorem word_row (w : World) (x : Nat) (h0 : 0 < x) (hx : x < 4294967296) : Rd (w.alloc (Obj.cells #[.int .u32 (x : Int)] 47)) (some ⟨w.heap.size, 0, none⟩) 1 1 (lim x) := by
 have e : lim x = [x] := by rw [lim_pos (by omega), Nat.mod_eq_of_lt hx, Nat.div_eq_of_lt hx, lim_zero]
 rw [e]
 exact Rd.made w #[.int .u32 (x : Int)] 47 [x] (by intro y hy; simp at hy; rw [hy]; exact hx) (by simp [u32V]) (by simp) rfl (by simp)
theorem bit_i64 (n i : Nat) (h : n / 2 ^ i < 9223372036854775808) {d : Nat} (hd : n / 2 ^ i % 2 = d) : (bits BinOp.and IntKind.i64 ((n : Int) / 2 ^ i) 1 == 1) = decide (d = 1) := by
 have e : (n : Int) / 2 ^ i = ((n / 2 ^ i : Nat) : Int) := by rw [Int.natCast_ediv, Int.natCast_pow]; rfl
 rw [e, and_one _ h, hd]
 rcases (show d = 0 ∨ d = 1 by omega) with rfl | rfl <;> rfl
attribute [local irreducible] Calls
theorem bw_power (b n : Nat) (hb : 2 ≤ b) (hb2 : b < 4294967296) (hn : n < 9223372036854775808) (hl : (lim (b ^ n)).length ≤ 90000) (w : World) :
  Calls Tryz.prog 152 #[.int .i64 (b : Int), .int .i64 (n : Int)] w (WPost w (b ^ n)) := by
 have HL := Lib.hid hl
 clear hl
 go_enter Tryz.func152, Tryz.ntmps152
 go_wp2
 go_loopg [5, 6] 63 (fun j vo vi wr => ∃ (x : Nat) (A : Option Addr) (k c : Nat), j ≤ 63 ∧ vi = .int .i64 ((j : Int) - 1) ∧ vo = .slice A k c ∧ Hid (x = b ^ (n / 2 ^ j)) ∧ Hid (Rd wr A k c (lim x) ∧ Fr w A) ∧ Hid (Ext w wr))
 case atStart =>
  refine ⟨1, _, 1, 1, Nat.le_refl _, rfl, rfl, ?_, ⟨one_row w, fun a ha => by cases ha; exact Nat.le_refl _⟩, jA (jR _) _⟩
  show 1 = b ^ (n / 2 ^ 63)
  rw [Nat.div_eq_of_lt (show n < 2 ^ 63 by omega)]; rfl
 case round =>
  obtain ⟨x, A, k, c, hj, rfl, rfl, hx, hR, hext⟩ := hrel
  by_cases h0 : 0 < gk
  ·obtain ⟨i, rfl⟩ : ∃ i, gk = i + 1 := ⟨gk - 1, by omega⟩
   have e1 : ((i + 1 : Nat) : Int) - 1 = (i : Int) := by omega
   rw [e1]
   have hxp : 0 < x := by rw [hx.out]; exact Nat.pow_pos (by omega)
   have hkx : (lim x).length = k := hR.out.1.len
   have hk1 : 1 ≤ k := by
    rcases Nat.eq_zero_or_pos k with e | e
    ·rw [e] at hkx; have := lim_nil.1 (List.eq_nil_of_length_eq_zero hkx); omega
    ·exact e
   have hkb : k ≤ 90000 := by
    have h1 := lim_mono (pow_part (n := n) (i := i + 1) hb)
    rw [← hx.out, hkx] at h1
    exact Nat.le_trans h1 HL.out
   have hcap := hR.out.1.cap
   have hmx := hR.out.1.mx
   have hsq : ∀ w', Ext wr w' → Calls Tryz.prog 121 #[.slice A k c, .slice A k c] w' (WPost w' (x * x)) := fun w' he => bw_mul (k + k) A A k c k c x x rfl (by omega) w' (hR.out.1.ext he) (hR.out.1.ext he)
   have hbm : ∀ (A1 : Option Addr) (k1 c1 : Nat) (w1 : World), Ext wr w1 → Hid (Rd w1 A1 k1 c1 (lim (x * x))) → Calls Tryz.prog 121 #[.slice A1 k1 c1, .slice (some ⟨w1.heap.size, 0, none⟩) 1 1] (w1.alloc (Obj.cells #[.int .u32 (b : Int)] 47)) (WPost (w1.alloc (Obj.cells #[.int .u32 (b : Int)] 47)) (x * x * b)) := fun A1 k1 c1 w1 he h1 => by
    have hk1' : k1 ≤ 90000 := by
     have h2 := lim_mono (pow_part (n := n) (i := i) hb)
     have h3 : (lim (x * x)).length ≤ (lim (b ^ (n / 2 ^ i))).length := lim_mono (by
      rw [pow_halves, ← hx.out]
      exact Nat.le_mul_of_pos_right _ (Nat.pow_pos (by omega)))
     rw [h1.out.len] at h3
     have := HL.out
     omega
    exact bw_mul (k1 + 1) A1 _ k1 c1 1 1 (x * x) b rfl (by omega) _ (h1.out.ext (jA (jR _) _)) (word_row w1 b (by omega) hb2)
   have hst : x * x * b ^ (n / 2 ^ i % 2) = b ^ (n / 2 ^ i) := by rw [hx.out]; exact (pow_halves b n i).symm
   have HST := Lib.hid hst
   have HSQ := Lib.hid hsq
   have hbit : n / 2 ^ i % 2 = 0 ∨ n / 2 ^ i % 2 = 1 := by omega
   have hsh : n / 2 ^ i < 9223372036854775808 := Nat.lt_of_le_of_lt (Nat.div_le_self _ _) hn
   clear hst hsq hxp
   by_cases hk2 : 1 < k
   ·skip
    rcases hbit with hbit | hbit
    ·have hb1 := bit_i64 n i hsh hbit
     simp at hb1
     go_wp2_with (first
      | (go_at_call 121; (with_reducible refine (HSQ.out _ (jR _)).mono ?_); rintro e w1 ⟨A1, k1, c1, rfl, hR1, xb1⟩; obtain ⟨xc1, xf1, xl1, xz1⟩ := jU xb1; (try simp at xz1))
      )
     go_roundg i
     case rel => exact ⟨x * x, A1, k1, c1, by omega, rfl, rfl, by rw [← HST.out, hbit, Nat.pow_zero, Nat.mul_one]; exact rfl, ⟨hR1.out.1, hR1.out.2.mono hext.out⟩, jT hext.out xb1⟩
     case measure => omega
    ·have hb1 := bit_i64 n i hsh hbit
     simp at hb1
     go_wp2_with (first
      | (go_at_call 121; (with_reducible refine (HSQ.out _ (jR _)).mono ?_); rintro e w1 ⟨A1, k1, c1, rfl, hR1, xb1⟩; obtain ⟨xc1, xf1, xl1, xz1⟩ := jU xb1; (try simp at xz1))
      | (go_at_call 121; (with_reducible refine (hbm A1 k1 c1 w1 xb1 (Lib.hid hR1.out.1)).mono ?_); rintro e w2 ⟨A2, k2, c2, rfl, hR2, xb2⟩; obtain ⟨xc2, xf2, xl2, xz2⟩ := jU xb2; (try simp at xz2))
      )
     go_roundg i
     case rel => exact ⟨x * x * b, A2, k2, c2, by omega, rfl, rfl, by rw [← HST.out, hbit, Nat.pow_one]; exact rfl, ⟨hR2.out.1, hR2.out.2.mono (jT hext.out (jT xb1 (jA (jR _) _)))⟩, jT hext.out (jT xb1 (jT (jA (jR _) _) xb2))⟩
     case measure => omega
   ·obtain rfl : k = 1 := by omega
    obtain ⟨bb, off, rfl⟩ : ∃ bb off, A = some ⟨bb, off, none⟩ := by
     rcases hR.out.1.shape with ⟨_, h, _⟩ | h
     ·omega
     ·exact h
    obtain ⟨y, hy, hyb, hc⟩ := hR.out.1.get 0 (by omega)
    have hxy : x = y := by
     have h1 := hy.out
     have h2 : x < Bs := by have := lim_lt x; rw [hkx, Nat.pow_one] at this; exact this
     have h3 : x ≠ 0 := by intro e; rw [e, lim_zero] at hkx; simp at hkx
     rw [lim_pos h3] at h1
     rw [← h1]
     exact (Nat.mod_eq_of_lt h2).symm
    subst hxy
    rw [Nat.add_zero] at hc
    have hx0 : 1 ≤ x := by
     rcases Nat.eq_zero_or_pos x with e | e
     ·rw [e, lim_zero] at hkx; simp at hkx
     ·exact e
    by_cases hx1 : 1 < x
    ·skip
     rcases hbit with hbit | hbit
     ·have hb1 := bit_i64 n i hsh hbit
      simp at hb1
      go_wp2_with (first
       | (go_at_call 121; (with_reducible refine (HSQ.out _ (jR _)).mono ?_); rintro e w1 ⟨A1, k1, c1, rfl, hR1, xb1⟩; obtain ⟨xc1, xf1, xl1, xz1⟩ := jU xb1; (try simp at xz1))
       )
      go_roundg i
      case rel => exact ⟨x * x, A1, k1, c1, by omega, rfl, rfl, by rw [← HST.out, hbit, Nat.pow_zero, Nat.mul_one]; exact rfl, ⟨hR1.out.1, hR1.out.2.mono hext.out⟩, jT hext.out xb1⟩
      case measure => omega
     ·have hb1 := bit_i64 n i hsh hbit
      simp at hb1
      go_wp2_with (first
       | (go_at_call 121; (with_reducible refine (HSQ.out _ (jR _)).mono ?_); rintro e w1 ⟨A1, k1, c1, rfl, hR1, xb1⟩; obtain ⟨xc1, xf1, xl1, xz1⟩ := jU xb1; (try simp at xz1))
       | (go_at_call 121; (with_reducible refine (hbm A1 k1 c1 w1 xb1 (Lib.hid hR1.out.1)).mono ?_); rintro e w2 ⟨A2, k2, c2, rfl, hR2, xb2⟩; obtain ⟨xc2, xf2, xl2, xz2⟩ := jU xb2; (try simp at xz2))
       )
      go_roundg i
      case rel => exact ⟨x * x * b, A2, k2, c2, by omega, rfl, rfl, by rw [← HST.out, hbit, Nat.pow_one]; exact rfl, ⟨hR2.out.1, hR2.out.2.mono (jT hext.out (jT xb1 (jA (jR _) _)))⟩, jT hext.out (jT xb1 (jT (jA (jR _) _) xb2))⟩
      case measure => omega
    ·obtain rfl : x = 1 := by omega
     have H1x : Hid (Rd wr (some ⟨bb, off, none⟩) 1 c (lim (1 * 1))) := Lib.hid hR.out.1
     rcases hbit with hbit | hbit
     ·have hb1 := bit_i64 n i hsh hbit
      simp at hb1
      go_wp2
      go_roundg i
      case rel => exact ⟨1, _, 1, c, by omega, rfl, rfl, by rw [← HST.out, hbit, Nat.pow_zero]; exact rfl, hR, hext⟩
      case measure => omega
     ·have hb1 := bit_i64 n i hsh hbit
      simp at hb1
      go_wp2_with (first
       | (go_at_call 121; (with_reducible refine (hbm _ 1 c wr (jR _) H1x).mono ?_); rintro e w2 ⟨A2, k2, c2, rfl, hR2, xb2⟩; obtain ⟨xc2, xf2, xl2, xz2⟩ := jU xb2; (try simp at xz2))
       )
      go_roundg i
      case rel => exact ⟨1 * 1 * b, A2, k2, c2, by omega, rfl, rfl, by rw [← HST.out, hbit, Nat.pow_one]; exact rfl, ⟨hR2.out.1, hR2.out.2.mono (jT hext.out (jT (jR _) (jA (jR _) _)))⟩, jT hext.out (jT (jR _) (jT (jA (jR _) _) xb2))⟩
      case measure => omega
  ·obtain rfl : gk = 0 := by omega
   have hfin : x = b ^ n := by rw [hx.out, Nat.pow_zero, Nat.div_one]
   clear h0
   go_wp2
   refine bodyPost_ret (v := .slice A k c) ?h rfl ⟨A, k, c, rfl, ⟨by rw [← hfin]; exact hR.out.1, hR.out.2⟩, hext.out⟩
   case h => simp [results, Tryz.results152, go_sem]
end Go.Proofs.YtfdmhefjmnlllaaGreatDoor
end
section
/- Words of the library's: texts of digits are read. -/
namespace Go.Proofs.YtfdmhefjmnlllaaGreatDoor
open Go.RowKit
attribute [local go_sem] bs_size bs_extract bs_get bs_append bs_toList const_get
attribute [local go_sem] sz2 sz3 sz4 sz5 sz6 sz7 sz8
set_option maxHeartbeats 4000000
set_option maxRecDepth 100000
attribute [local irreducible] Calls
theorem bw_worth (c : Nat) (h1 : 48 ≤ c) (h2 : c ≤ 57) (w : World) : Calls Tryz.prog 153 #[.int .u8 (c : Int)] w fun e w' => e = .returned (.int .u32 ((c - 48 : Nat) : Int)) ∧ Ext w w' := by
 go_enter Tryz.func153, Tryz.ntmps153
 go_wp2
 have e : (c : Int) - 48 = ((c - 48 : Nat) : Int) := by omega
 refine bodyPost_ret (v := .int .u32 ↑(c - 48)) ?h rfl ⟨rfl, jR _⟩
 case h => simp [results, Tryz.results153, go_sem, e]
abbrev ReadPost (w : World) (v : Nat) : Ending → World → Prop := fun e w' => ∃ (A : Option Addr) (k c : Nat), e = .returned (.tuple #[.slice A k c, .bool true]) ∧ Hid (Rd w' A k c (lim v) ∧ Fr w A) ∧ Ext w w'
theorem read_small (l : List UInt8) (hd : digsB l = true) (hl : l.length ≤ 300) (w : World) : Calls Tryz.prog 119 #[.string (bs l), .int .i64 10] w (ReadPost w (dval l)) := by
 have HD := Lib.hid hd
 clear hd
 go_enter Tryz.func119, Tryz.ntmps119
 go_wp2
 go_loopg [11, 12, 13, 14] l.length (fun g vw vt vs vi wr => ∃ (n x T N i : Nat), g = l.length - i ∧ i ≤ l.length ∧ vt = .int .u32 (T : Int) ∧ vs = .int .u32 (N : Int) ∧ vi = .int .i64 (i : Int) ∧ (T ≤ 100000000 ∧ 0 < T ∧ N < T) ∧ (i = l.length → T = 1 ∧ N = 0) ∧
   Hid (∃ q, q ≤ 8 ∧ T = 10 ^ q) ∧ Hid (x * T + N = dval (l.take i)) ∧ Hid (wr.ownsRow w.heap.size 47 1 vw n ((lim x).map u32V)) ∧ Hid (Ext w wr))
 case atStart =>
  exact ⟨0, 0, 1, 0, 0, rfl, Nat.zero_le _, rfl, rfl, rfl, by omega, fun _ => ⟨rfl, rfl⟩, ⟨0, by omega, rfl⟩, Lib.hid (show 0 * 1 + 0 = dval (l.take 0) by simp [dval]), Lib.hid (by rw [lim_zero]; exact World.ownsRow_nil _ _ _ _), jR _⟩
 case round =>
  obtain ⟨n, x, T, N, i, rfl, hi, rfl, rfl, rfl, ⟨hT1, hT2, hNT⟩, hend, hq, hx, hown, hext⟩ := hrel
  by_cases hgo : i < l.length
  ·obtain ⟨hb1, hb2⟩ := digs_at HD.out i hgo
   have hkn : (lim x).length = n := by have := hown.out.1; simpa using this
   have hnb : n ≤ 100 := by
    have h1 := dval_lt _ (digs_take HD.out i)
    rw [List.length_take, Nat.min_eq_left hi] at h1
    have h2 : x * 1 ≤ x * T := Nat.mul_le_mul_left _ hT2
    have h3 := hx.out
    rw [← hkn]
    exact lim_fits (n := i) (by omega) (by omega) (by decide)
   obtain ⟨d, hdd⟩ : ∃ d, d = l[i].toNat - 48 := ⟨_, rfl⟩
   have hd9 : d ≤ 9 := by omega
   have hwt := fun w' => bw_worth l[i].toNat hb1 hb2 w'
   rw [← hdd] at hwt
   have hstep : Hid (dval (l.take (i + 1)) = x * (T * 10) + (N * 10 + d)) := Lib.hid (by
    have e1 : l.take (i + 1) = l.take i ++ [l[i]] := List.take_succ_eq_append_getElem hgo
    rw [e1, dval_snoc, ← hx.out, ← hdd, ← Nat.mul_assoc]; omega)
   have hms : ∀ w', Ext wr w' → Calls Tryz.prog 154 #[u11, .int .u32 ((T : Int) * 10), .int .u32 ((N : Int) * 10 + (d : Int))] w' fun e w'' => ∃ (v' : Value) (n' : Nat), e = .returned v' ∧ Hid (w''.ownsRow w.heap.size 47 1 v' n' ((lim (dval (l.take (i + 1)))).map u32V)) ∧ n' ≤ n + 1 ∧ Ext w w'' := fun w' he => by
    have e1 : (T : Int) * 10 = ((T * 10 : Nat) : Int) := by omega
    have e2 : (N : Int) * 10 + (d : Int) = ((N * 10 + d : Nat) : Int) := by omega
    rw [e1, e2]
    have := bw_mulSmall w u11 n x (T * 10) (N * 10 + d) (by omega) (by omega) (by omega) (by omega) w' (jT hext.out he) (own_ext hown.out he)
    rw [← hstep.out] at this
    exact this
   have hq8 : T = 100000000 ∨ T ≤ 10000000 := by
    obtain ⟨q, hq1, hq2⟩ := hq.out
    rcases Nat.lt_or_ge q 8 with h | h
    ·right
     rw [hq2]
     exact Nat.le_trans (Nat.pow_le_pow_right (by decide) (show q ≤ 7 by omega)) (by decide)
    ·left
     obtain rfl : q = 8 := by omega
     exact hq2
   have HH := Lib.hid (And.intro hms hwt)
   have HQ8 := Lib.hid hq8
   have HI := Lib.hid (And.intro hb1 hb2)
   clear hms hwt hdd hq8 hend hb1 hb2 hT2
   by_cases hfl : (429496729 : Int) < (T : Int) * 10
   ·have hfd : decide ((429496729 : Int) < (T : Int) * 10) = true := decide_eq_true hfl
    go_wp2_with (first
     | (go_at_call 153; (with_reducible refine (HH.out.2 _).mono ?_); rintro e w1 ⟨rfl, xb1⟩; obtain ⟨xc1, xf1, xl1, xz1⟩ := jU xb1; (try simp at xz1))
     | (go_at_call 154; (with_reducible refine (HH.out.1 _ xb1).mono ?_); rintro e w2 ⟨v2, n2, rfl, hR2, hn2, xb2⟩; obtain ⟨xc2, xf2, xl2, xz2⟩ := jU xb2; (try simp at xz2))
     )
    go_roundg (l.length - (i + 1))
    case rel => exact ⟨n2, dval (l.take (i + 1)), 1, 0, i + 1, rfl, by omega, rfl, rfl, by simp, by omega, fun _ => ⟨rfl, rfl⟩, ⟨0, by omega, rfl⟩, Lib.hid (by omega), hR2, Lib.hid xb2⟩
    case measure => omega
   ·have hfd : decide ((429496729 : Int) < (T : Int) * 10) = false := decide_eq_false hfl
    by_cases hie : i = l.length - 1
    ·have hed : ((i : Int) == (l.length : Int) - 1) = true := by rw [beq_iff_eq]; omega
     have HIE := Lib.hid hie
     clear hie
     go_wp2_with (first
      | (go_at_call 153; (with_reducible refine (HH.out.2 _).mono ?_); rintro e w1 ⟨rfl, xb1⟩; obtain ⟨xc1, xf1, xl1, xz1⟩ := jU xb1; (try simp at xz1))
      | (go_at_call 154; (with_reducible refine (HH.out.1 _ xb1).mono ?_); rintro e w2 ⟨v2, n2, rfl, hR2, hn2, xb2⟩; obtain ⟨xc2, xf2, xl2, xz2⟩ := jU xb2; (try simp at xz2))
      )
     go_roundg (l.length - (i + 1))
     case rel => exact ⟨n2, dval (l.take (i + 1)), 1, 0, i + 1, rfl, by omega, rfl, rfl, by simp, by omega, fun _ => ⟨rfl, rfl⟩, ⟨0, by omega, rfl⟩, Lib.hid (by omega), hR2, Lib.hid xb2⟩
     case measure => omega
    ·have hed : ((i : Int) == (l.length : Int) - 1) = false := by rw [beq_eq_false_iff_ne]; omega
     have hed' : ¬ (i : Int) = (l.length : Int) - 1 := by omega
     have hT7 : Hid (T ≤ 10000000) := Lib.hid (by rcases HQ8.out with h | h <;> omega)
     go_wp2_with (first
      | (go_at_call 153; (with_reducible refine (HH.out.2 _).mono ?_); rintro e w1 ⟨rfl, xb1⟩; obtain ⟨xc1, xf1, xl1, xz1⟩ := jU xb1; (try simp at xz1))
      )
     go_roundg (l.length - (i + 1))
     case rel =>
      have h7 := hT7.out
      refine ⟨n, x, T * 10, N * 10 + d, i + 1, rfl, by omega, by simp, by simp, by simp, by omega, fun h => by omega, ?_, Lib.hid hstep.out.symm, Lib.hid (own_ext hown.out xb1), Lib.hid (jT hext.out xb1)⟩
      obtain ⟨q, hq1, hq2⟩ := hq.out
      refine ⟨q + 1, ?_, by rw [hq2, Nat.pow_succ]⟩
      rcases Nat.lt_or_ge q 8 with h | h
      ·exact h
      ·obtain rfl : q = 8 := by omega
       omega
     case measure => omega
  ·obtain rfl : i = l.length := by omega
   obtain ⟨rfl, rfl⟩ := hend rfl
   obtain ⟨A, c, rfl, hR⟩ := Rd.own hown.out (lb_lim x)
   have hv : x = dval l := by have := hx.out; rw [List.take_length] at this; omega
   have HR : Hid (Rd wr A n c (lim (dval l)) ∧ Fr w A) := ⟨by rw [← hv]; exact hR, own_fr hown.out⟩
   have hcap := hR.cap
   have hmx := hR.mx
   clear hgo hv hR hend
   go_wp2
   refine bodyPost_ret (v := .tuple #[.slice A n c, .bool true]) ?h rfl ⟨A, n, c, rfl, HR, hext.out⟩
   case h => simp [results, Tryz.results119, go_sem]
end Go.Proofs.YtfdmhefjmnlllaaGreatDoor
end
section
/- Words of the library's: long texts of digits are read by halves. -/
namespace Go.Proofs.YtfdmhefjmnlllaaGreatDoor
open Go.RowKit
attribute [local go_sem] bs_size bs_extract bs_get bs_append bs_toList const_get
attribute [local go_sem] sz2 sz3 sz4 sz5 sz6 sz7 sz8
set_option maxHeartbeats 4000000
set_option maxRecDepth 100000
theorem read_halves {l : List UInt8} {k h : Nat} (hk : k + h = l.length) : dval (l.take k) * 10 ^ h + dval (l.drop k) = dval l := by
 conv => rhs; rw [← List.take_append_drop k l]
 rw [dval_append, List.length_drop]
 congr 3; omega
theorem dval_words {l : List UInt8} (hd : digsB l = true) (hl : l.length ≤ 70000) : (lim (dval l)).length ≤ 17500 := lim_fits (n := l.length) (Nat.le_of_lt (dval_lt l hd)) (by omega) (by decide)
theorem ten_words {h : Nat} (hl : h ≤ 70000) : (lim (10 ^ h)).length ≤ 17500 := lim_fits (n := h) (Nat.le_refl _) (by omega) (by decide)
attribute [local irreducible] Calls
theorem bw_read : ∀ (N : Nat) (l : List UInt8), l.length = N → N ≤ 70000 → digsB l = true → ∀ w, Calls Tryz.prog 119 #[.string (bs l), .int .i64 10] w (ReadPost w (dval l)) := by
 intro N
 induction N using Nat.strongRecOn with
 | _ N ih =>
  intro l hl hN hd w
  by_cases hs : l.length ≤ 300
  ·exact read_small l hd hs w
  ·obtain ⟨h, hh⟩ : ∃ h, h = l.length / 2 := ⟨_, rfl⟩
   obtain ⟨k, hk⟩ : ∃ k, k = l.length - h := ⟨_, rfl⟩
   have k1 : ∀ w', Calls Tryz.prog 119 #[.string (bs (l.take k)), .int .i64 10] w' (ReadPost w' (dval (l.take k))) := fun w' => ih k (by omega) _ (by rw [List.length_take]; omega) (by omega) (digs_take hd k) w'
   have k2 : ∀ w', Calls Tryz.prog 119 #[.string (bs (l.drop k)), .int .i64 10] w' (ReadPost w' (dval (l.drop k))) := fun w' => ih h (by omega) _ (by rw [List.length_drop]; omega) (by omega) (digs_drop hd k) w'
   have k3 : ∀ w', Calls Tryz.prog 152 #[.int .i64 10, .int .i64 (h : Int)] w' (WPost w' (10 ^ h)) := fun w' => bw_power 10 h (by decide) (by decide) (by omega) (Nat.le_trans (ten_words (by omega)) (by decide)) w'
   have b1 := dval_words (digs_take hd k) (by rw [List.length_take]; omega)
   have b2 := dval_words (digs_drop hd k) (by rw [List.length_drop]; omega)
   have b3 := ten_words (h := h) (by omega)
   have hv := read_halves (l := l) (k := k) (h := h) (by omega)
   have k4 : ∀ (A : Option Addr) (n c : Nat) (B : Option Addr) (m d : Nat) (w' : World), Rd w' A n c (lim (dval (l.take k))) → Rd w' B m d (lim (10 ^ h)) → Calls Tryz.prog 121 #[.slice A n c, .slice B m d] w' (WPost w' (dval (l.take k) * 10 ^ h)) := fun A n c B m d w' g1 g2 =>
    bw_mulA A B n c m d _ _ (by rw [← g1.len, ← g2.len]; omega) w' g1 g2
   have k5 : ∀ (A : Option Addr) (n c : Nat) (B : Option Addr) (m d : Nat) (w' : World), Rd w' A n c (lim (dval (l.take k) * 10 ^ h)) → Rd w' B m d (lim (dval (l.drop k))) → Calls Tryz.prog 151 #[.slice A n c, .slice B m d] w' (WPost w' (dval l)) := fun A n c B m d w' g1 g2 => by
    have g3 := lim_mul_len (dval (l.take k)) (10 ^ h)
    have := bw_add A B n c m d _ _ (by rw [← g1.len]; omega) (by rw [← g2.len]; omega) w' g1 g2
    rw [hv] at this
    exact this.mono fun e w'' ⟨A', k', c', q1, q2, q3⟩ => ⟨A', k', c', q1, ⟨q2.out.1, q2.out.2.1⟩, q3⟩
   have hkh : (l.length : Int) - (h : Int) = (k : Int) := by omega
   have hl2 : (l.length : Int) / 2 = (h : Int) := by omega
   have hbig : (300 : Int) < (l.length : Int) := by omega
   have hkl : k ≤ l.length := by omega
   have hlb : l.length ≤ 70000 := by omega
   have HK := Lib.hid (And.intro k1 (And.intro k2 (And.intro k3 (And.intro k4 k5))))
   have HHH := Lib.hid (And.intro hh hk)
   clear k1 k2 k3 k4 k5 b1 b2 b3 hv hh hk ih hl hN hd hs
   generalize dval (l.take k) = x at *
   generalize dval (l.drop k) = y at *
   generalize dval l = z at *
   generalize 10 ^ h = p at *
   go_enter Tryz.func119, Tryz.ntmps119
   go_wp2_with (first
    | (go_at_call 119; (with_reducible refine (HK.out.1 _).mono ?_); rintro e w1 ⟨A1, n1, c1, rfl, hR1, xb1⟩; obtain ⟨xc1, xf1, xl1, xz1⟩ := jU xb1; (try simp at xz1))
    | (go_at_call 119; (with_reducible refine (HK.out.2.1 _).mono ?_); rintro e w2 ⟨A2, n2, c2, rfl, hR2, xb2⟩; obtain ⟨xc2, xf2, xl2, xz2⟩ := jU xb2; (try simp at xz2))
    | (go_at_call 152; (with_reducible refine (HK.out.2.2.1 _).mono ?_); rintro e w3 ⟨A3, n3, c3, rfl, hR3, xb3⟩; obtain ⟨xc3, xf3, xl3, xz3⟩ := jU xb3; (try simp at xz3))
    | (go_at_call 121; (with_reducible refine (HK.out.2.2.2.1 _ _ _ _ _ _ _ (hR1.out.1.ext (jT xb2 xb3)) hR3.out.1).mono ?_); rintro e w4 ⟨A4, n4, c4, rfl, hR4, xb4⟩; obtain ⟨xc4, xf4, xl4, xz4⟩ := jU xb4; (try simp at xz4))
    | (go_at_call 151; (with_reducible refine (HK.out.2.2.2.2 _ _ _ _ _ _ _ hR4.out.1 (hR2.out.1.ext (jT xb3 xb4))).mono ?_); rintro e w5 ⟨A5, n5, c5, rfl, hR5, xb5⟩; obtain ⟨xc5, xf5, xl5, xz5⟩ := jU xb5; (try simp at xz5))
    )
   refine bodyPost_ret (v := .tuple #[.slice A5 n5 c5, .bool true]) ?h rfl ⟨A5, n5, c5, rfl, ⟨hR5.out.1, hR5.out.2.mono (jT xb1 (jT xb2 (jT xb3 xb4)))⟩, jT xb1 (jT xb2 (jT xb3 (jT xb4 xb5)))⟩
   case h => simp [results, Tryz.results119, go_sem]
end Go.Proofs.YtfdmhefjmnlllaaGreatDoor
end
section
/- The order of two fractions, plainly. -/
namespace Go.Proofs.YtfdmhefjmnlllaaGreatDoor
theorem sign_pos_mul (x : Int) {q : Nat} (hq : q ≠ 0) : (x * (q : Int)).sign = x.sign := by
 rw [Int.sign_mul, Int.sign_eq_one_of_pos (show (0 : Int) < q by omega), Int.mul_one]
theorem sign_three (z : Int) : (z < 0 ∧ z.sign = -1) ∨ (z = 0 ∧ z.sign = 0) ∨ (0 < z ∧ z.sign = 1) := by
 rcases Int.lt_trichotomy z 0 with h | h | h
 ·exact .inl ⟨h, Int.sign_eq_neg_one_of_neg h⟩
 ·exact .inr (.inl ⟨h, by rw [h]; rfl⟩)
 ·exact .inr (.inr ⟨h, Int.sign_eq_one_of_pos h⟩)
theorem rcmp_far {x y : Int} {p q : Nat} (hp : p ≠ 0) (hq : q ≠ 0) (h : x.sign ≠ y.sign) : (x * (q : Int) - y * (p : Int)).sign = if x.sign < y.sign then -1 else 1 := by
 have a := sign_pos_mul x hq
 have b := sign_pos_mul y hp
 generalize x * (q : Int) = X at a ⊢
 generalize y * (p : Int) = Y at b ⊢
 rw [← a, ← b] at h ⊢
 rcases sign_three X with ⟨h1, h2⟩ | ⟨h1, h2⟩ | ⟨h1, h2⟩ <;> rcases sign_three Y with ⟨k1, k2⟩ | ⟨k1, k2⟩ | ⟨k1, k2⟩ <;> rw [h2, k2] at h ⊢ <;>
  first
   | exact absurd rfl h
   | (rw [if_pos (by decide)]; exact Int.sign_eq_neg_one_of_neg (by omega))
   | (rw [if_neg (by decide)]; exact Int.sign_eq_one_of_pos (by omega))
theorem rcmp_nil {x y : Int} {p q : Nat} (hx : x = 0) (hy : y = 0) : (x * (q : Int) - y * (p : Int)).sign = 0 := by
 rw [hx, hy]; simp
theorem rcmp_near {x y : Int} {p q : Nat} (h : x.sign = y.sign) (h0 : x ≠ 0) :
  (x * (q : Int) - y * (p : Int)).sign = if x < 0 then - cmpN (x.natAbs * q) (y.natAbs * p) else cmpN (x.natAbs * q) (y.natAbs * p) := by
 rw [cmpN_sign]
 rcases sign_three x with ⟨h1, h2⟩ | ⟨h1, h2⟩ | ⟨h1, h2⟩
 ·rcases sign_three y with ⟨k1, k2⟩ | ⟨k1, k2⟩ | ⟨k1, k2⟩
  ·rw [if_pos h1, ← Int.sign_neg]
   congr 1
   obtain ⟨a, rfl⟩ : ∃ a : Nat, x = -(a : Int) := ⟨x.natAbs, by omega⟩
   obtain ⟨b, rfl⟩ : ∃ b : Nat, y = -(b : Int) := ⟨y.natAbs, by omega⟩
   simp only [Int.natAbs_neg, Int.natAbs_natCast, Int.natCast_mul]
   grind
  ·rw [h2, k2] at h; exact absurd h (by decide)
  ·rw [h2, k2] at h; exact absurd h (by decide)
 ·exact absurd h1 h0
 ·rcases sign_three y with ⟨k1, k2⟩ | ⟨k1, k2⟩ | ⟨k1, k2⟩
  ·rw [h2, k2] at h; exact absurd h (by decide)
  ·rw [h2, k2] at h; exact absurd h (by decide)
  ·rw [if_neg (by omega)]
   congr 1
   obtain ⟨a, rfl⟩ : ∃ a : Nat, x = (a : Int) := ⟨x.natAbs, by omega⟩
   obtain ⟨b, rfl⟩ : ∃ b : Nat, y = (b : Int) := ⟨y.natAbs, by omega⟩
   simp only [Int.natAbs_natCast, Int.natCast_mul]
theorem wrap_neg_cmp (a b : Nat) : IntKind.i64.wrap (-(cmpN a b)) = -(cmpN a b) := by
 unfold cmpN
 split
 ·decide
 ·split <;> decide
end Go.Proofs.YtfdmhefjmnlllaaGreatDoor
end
section
/- (The document's library.) Whole numbers of the library's: order, sums. -/

namespace Go.Proofs.YtfdmhefjmnlllaaGreatDoor.NB
open Go.RowKit
attribute [local go_sem] sz2 sz3 sz4 sz5 sz6 sz7 sz8
set_option maxHeartbeats 4000000
set_option maxRecDepth 100000
attribute [local irreducible] Calls
theorem bi_Cmp (b o g p : Nat) (x y : Int) (A : Option Addr) (n c : Nat) (B : Option Addr) (m d : Nat) (w : World) (hx : IntIs w b o x A n c) (hy : IntIs w g p y B m d) :
  Calls Tryz.prog 58 #[.pointer (some ⟨b, o, none⟩), .pointer (some ⟨g, p, none⟩)] w fun e w' => e = .returned (.int .i64 (x - y).sign) ∧ Ext w w' := by
 have HX := Lib.hid hx
 have HY := Lib.hid hy
 have lx := hx.room.lt
 have x0 := hx.neg
 have x1 := hx.words
 have ly := hy.room.lt
 have y0 := hy.neg
 have y1 := hy.words
 have kc : ∀ w', Ext w w' → Calls Tryz.prog 106 #[.slice A n c, .slice B m d] w' fun e w'' => e = .returned (.int .i64 (cmpN x.natAbs y.natAbs)) ∧ Ext w' w'' := fun w' he => bw_cmp A B n c m d _ _ w' (HX.out.rd.ext he) (HY.out.rd.ext he)
 clear hx hy HX HY
 by_cases hs : x < 0
 ·rw [decide_eq_true hs] at x0
  by_cases ht : y < 0
  ·rw [decide_eq_true ht] at y0
   have e1 : -(cmpN x.natAbs y.natAbs) = (x - y).sign := by
    rw [cmpN_sign, ← Int.sign_neg]; congr 1; omega
   have e2 : IntKind.i64.wrap (-(cmpN x.natAbs y.natAbs)) = (x - y).sign := by
    rw [e1]
    have : (x - y).sign = -1 ∨ (x - y).sign = 0 ∨ (x - y).sign = 1 := by
     rcases Int.lt_trichotomy (x - y) 0 with h | h | h
     ·exact .inl (Int.sign_eq_neg_one_of_neg h)
     ·rw [h]; exact .inr (.inl rfl)
     ·exact .inr (.inr (Int.sign_eq_one_of_pos h))
    rcases this with h | h | h <;> rw [h] <;> decide
   generalize cmpN x.natAbs y.natAbs = C at kc e1 e2
   generalize (x - y).sign = R at e1 e2 ⊢
   clear hs ht e1
   go_enter Tryz.func58, Tryz.ntmps58
   go_wp2
   refine wp_aft (by kernel_rfl) (by kernel_rfl) (fun hq hqf => ?_)
   repeat (go_big_quiet_step (first | fail
    ))
   refine wpQuiet_nil ?_
   rintro _ ⟨nq, rfl⟩
   have xl := ext_lt nq.use
   have xz := ext_size nq.use
   try simp at xz
   have hE1 := Lib.hid nq.use
   have z0 := (Below.cell (p := ⟨b, o, none⟩) nq.use lx).trans x0
   have z1 := (Below.cell (p := ⟨b, o + 1, none⟩) nq.use lx).trans x1
   have z2 := (Below.cell (p := ⟨g, p + 1, none⟩) nq.use ly).trans y1
   go_wp2
   have lx2 := xl b lx
   have ly2 := xl g ly
   refine wp_aft (by kernel_rfl) (by kernel_rfl) (fun hq hqf => ?_)
   repeat (go_big_quiet_step (first
    | (go_at_call 106; exact aft_of (kc _ (jT hE1.out (Aft.use _))))
    ))
   refine wpQuiet_nil ?_
   rintro _ ⟨nq, rfl⟩
   have xl := ext_lt nq.use
   have xz := ext_size nq.use
   try simp at xz
   go_wp2
   refine bodyPost_ret (v := .int .i64 R) ?h rfl ⟨rfl, jT hE1.out nq.use⟩
   case h => simp [results, Tryz.results58, go_sem]
  ·rw [decide_eq_false ht] at y0
   have e1 : (x - y).sign = -1 := Int.sign_eq_neg_one_of_neg (by omega)
   rw [e1]
   clear hs ht e1 kc
   go_enter Tryz.func58, Tryz.ntmps58
   go_wp2
   refine wp_aft (by kernel_rfl) (by kernel_rfl) (fun hq hqf => ?_)
   repeat (go_big_quiet_step (first | fail
    ))
   refine wpQuiet_nil ?_
   rintro _ ⟨nq, rfl⟩
   have xl := ext_lt nq.use
   have xz := ext_size nq.use
   try simp at xz
   have hE1 := Lib.hid nq.use
   have z0 := (Below.cell (p := ⟨b, o, none⟩) nq.use lx).trans x0
   go_wp2
   refine bodyPost_ret (v := .int .i64 (-1)) ?h rfl ⟨rfl, hE1.out⟩
   case h => simp [results, Tryz.results58, go_sem]
 ·rw [decide_eq_false hs] at x0
  by_cases ht : y < 0
  ·rw [decide_eq_true ht] at y0
   have e1 : (x - y).sign = 1 := Int.sign_eq_one_of_pos (by omega)
   rw [e1]
   clear hs ht e1 kc
   go_enter Tryz.func58, Tryz.ntmps58
   go_wp2
   refine wp_aft (by kernel_rfl) (by kernel_rfl) (fun hq hqf => ?_)
   repeat (go_big_quiet_step (first | fail
    ))
   refine wpQuiet_nil ?_
   rintro _ ⟨nq, rfl⟩
   have xl := ext_lt nq.use
   have xz := ext_size nq.use
   try simp at xz
   have hE1 := Lib.hid nq.use
   have z0 := (Below.cell (p := ⟨b, o, none⟩) nq.use lx).trans x0
   go_wp2
   refine bodyPost_ret (v := .int .i64 1) ?h rfl ⟨rfl, hE1.out⟩
   case h => simp [results, Tryz.results58, go_sem]
  ·rw [decide_eq_false ht] at y0
   have e1 : cmpN x.natAbs y.natAbs = (x - y).sign := by
    rw [cmpN_sign]; congr 1; omega
   generalize cmpN x.natAbs y.natAbs = C at kc e1
   generalize (x - y).sign = R at e1 ⊢
   subst e1
   clear hs ht
   go_enter Tryz.func58, Tryz.ntmps58
   go_wp2
   refine wp_aft (by kernel_rfl) (by kernel_rfl) (fun hq hqf => ?_)
   repeat (go_big_quiet_step (first | fail
    ))
   refine wpQuiet_nil ?_
   rintro _ ⟨nq, rfl⟩
   have xl := ext_lt nq.use
   have xz := ext_size nq.use
   try simp at xz
   have hE1 := Lib.hid nq.use
   have z0 := (Below.cell (p := ⟨b, o, none⟩) nq.use lx).trans x0
   have z1 := (Below.cell (p := ⟨b, o + 1, none⟩) nq.use lx).trans x1
   have z2 := (Below.cell (p := ⟨g, p + 1, none⟩) nq.use ly).trans y1
   go_wp2
   have lx2 := xl b lx
   have ly2 := xl g ly
   refine wp_aft (by kernel_rfl) (by kernel_rfl) (fun hq hqf => ?_)
   repeat (go_big_quiet_step (first
    | (go_at_call 106; exact aft_of (kc _ (jT hE1.out (Aft.use _))))
    ))
   refine wpQuiet_nil ?_
   rintro _ ⟨nq, rfl⟩
   have xl := ext_lt nq.use
   have xz := ext_size nq.use
   try simp at xz
   go_wp2
   refine bodyPost_ret (v := .int .i64 C) ?h rfl ⟨rfl, jT hE1.out nq.use⟩
   case h => simp [results, Tryz.results58, go_sem]
end Go.Proofs.YtfdmhefjmnlllaaGreatDoor.NB
end
section
/- (The document's library.) Whole numbers of the library's: sums. -/

namespace Go.Proofs.YtfdmhefjmnlllaaGreatDoor.NB
open Go.RowKit
attribute [local go_sem] sz2 sz3 sz4 sz5 sz6 sz7 sz8
set_option maxHeartbeats 4000000
set_option maxRecDepth 100000
attribute [local irreducible] Calls
theorem bi_added (b o : Nat) (A : Option Addr) (n c a : Nat) (s : Bool) (B : Option Addr) (m d x : Nat) (t : Bool) (hn : n ≤ 1000000) (hm : m ≤ 1000000) (w : World) (hr : Room w b o) (hA : Rd w A n c (lim a)) (hB : Rd w B m d (lim x)) :
  Calls Tryz.prog 133 #[.pointer (some ⟨b, o, none⟩), .slice A n c, .bool s, .slice B m d, .bool t] w (IPost w b o (sgn s a + sgn t x)) := by
 have HA := Lib.hid hA
 have HB := Lib.hid hB
 have HR := Lib.hid hr
 have hbl := hr.lt
 clear hA hB hr
 by_cases hst : s = t
 ·subst hst
  have e := sgn_add_same s a x
  rw [← e]
  clear e
  go_enter Tryz.func133, Tryz.ntmps133
  go_wp2_with (first
   | (go_at_call 171; (with_reducible refine (bw_add A B n c m d a x hn hm _ HA.out HB.out).mono ?_); rintro e w2 ⟨A2, k2, c2, rfl, hR2, xb2⟩; have hF2 : Fr w A2 := hR2.out.2.1; have hO2 := hF2.off hbl k2)
   | (go_at_call 96; (with_reducible refine (bi_set b o s A2 k2 c2 (a + x) _ (HR.out.ext xb2) hR2.out.1 hO2).mono ?_); rintro e w3 ⟨rfl, hI3, xt3⟩)
   )
  refine bodyPost_ret (v := .pointer (some ⟨b, o, none⟩)) ?h rfl ⟨rfl, A2, k2, c2, ⟨hI3.out, hF2⟩, (Tch.of xb2).trans xt3⟩
  case h => simp [results, Tryz.results133, go_sem]
 ·have hst' : (s == t) = false := by rw [beq_eq_false_iff_ne]; exact hst
  by_cases hax : x ≤ a
  ·have e := sgn_add_ge s t a x hst hax
   rw [← e]
   have hc : (0 : Int) ≤ cmpN a x := by unfold cmpN; rw [if_neg (by omega)]; split <;> decide
   clear e hst
   go_enter Tryz.func133, Tryz.ntmps133
   go_wp2_with (first
    | (go_at_call 106; (with_reducible refine (bw_cmp A B n c m d a x _ HA.out HB.out).mono ?_); rintro e w1 ⟨rfl, xb1⟩)
    | (go_at_call 97; (with_reducible refine (bw_sub A B n c m d a x hax hn _ (HA.out.ext xb1) (HB.out.ext xb1)).mono ?_); rintro e w2 ⟨A2, k2, c2, rfl, hR2, xb2⟩; have hF2 : Fr w A2 := Fr.mono hR2.out.2 xb1; have hO2 := hF2.off hbl k2)
    | (go_at_call 96; (with_reducible refine (bi_set b o s A2 k2 c2 (a - x) _ ((HR.out.ext xb1).ext xb2) hR2.out.1 hO2).mono ?_); rintro e w3 ⟨rfl, hI3, xt3⟩)
    )
   refine bodyPost_ret (v := .pointer (some ⟨b, o, none⟩)) ?h rfl ⟨rfl, A2, k2, c2, ⟨hI3.out, hF2⟩, (Tch.of (jT xb1 xb2)).trans xt3⟩
   case h => simp [results, Tryz.results133, go_sem]
  ·have e := sgn_add_lt s t a x hst (by omega)
   rw [← e]
   have hc : ¬ (0 : Int) ≤ cmpN a x := by unfold cmpN; rw [if_pos (by omega)]; decide
   have hxa : a ≤ x := by omega
   clear e hst hax
   go_enter Tryz.func133, Tryz.ntmps133
   go_wp2_with (first
    | (go_at_call 106; (with_reducible refine (bw_cmp A B n c m d a x _ HA.out HB.out).mono ?_); rintro e w1 ⟨rfl, xb1⟩)
    | (go_at_call 97; (with_reducible refine (bw_sub B A m d n c x a hxa hm _ (HB.out.ext xb1) (HA.out.ext xb1)).mono ?_); rintro e w2 ⟨A2, k2, c2, rfl, hR2, xb2⟩; have hF2 : Fr w A2 := Fr.mono hR2.out.2 xb1; have hO2 := hF2.off hbl k2)
    | (go_at_call 96; (with_reducible refine (bi_set b o t A2 k2 c2 (x - a) _ ((HR.out.ext xb1).ext xb2) hR2.out.1 hO2).mono ?_); rintro e w3 ⟨rfl, hI3, xt3⟩)
    )
   refine bodyPost_ret (v := .pointer (some ⟨b, o, none⟩)) ?h rfl ⟨rfl, A2, k2, c2, ⟨hI3.out, hF2⟩, (Tch.of (jT xb1 xb2)).trans xt3⟩
   case h => simp [results, Tryz.results133, go_sem]
end Go.Proofs.YtfdmhefjmnlllaaGreatDoor.NB
end
