/- Lemmas of this proof, laid together: IntN, RatL, RatT, RatU, RatK, RatM, TwRatL, TwIntN, TwRatT, TwRatK, TwRatU. -/
import Derived.Test.YtfdmhefjmnlllaaGreatDoorMg23
import Derived.Test.YtfdmhefjmnlllaaGreatDoorMg21
import Derived.Deep.DeepCutAuto
import Derived.Deep.RegionWith
import Derived.Deep.LoopGhost
import Derived.Test.YtfdmhefjmnlllaaGreatDoorMg22
import Derived.Test.YtfdmhefjmnlllaaGreatDoorMg13
import Derived.Test.YtfdmhefjmnlllaaGreatDoorMg20
set_option linter.unusedSimpArgs false
set_option linter.unusedVariables false
section
/- Whole numbers of the library's: powers. -/
namespace Go.Proofs.YtfdmhefjmnlllaaGreatDoor
open Go.RowKit
attribute [local go_sem] sz2 sz3 sz4 sz5 sz6 sz7 sz8
set_option maxHeartbeats 4000000
set_option maxRecDepth 100000
theorem bit_u32 (n i : Nat) (h : n / 2 ^ i < 4294967296) {d : Nat} (hd : n / 2 ^ i % 2 = d) : (bits BinOp.and IntKind.u32 ((n : Int) / 2 ^ i) 1 == 1) = decide (d = 1) := by
 have e : (n : Int) / 2 ^ i = ((n / 2 ^ i : Nat) : Int) := by rw [Int.natCast_ediv, Int.natCast_pow]; rfl
 rw [e, and_one32 _ h, hd]
 rcases (show d = 0 ∨ d = 1 by omega) with rfl | rfl <;> rfl
attribute [local irreducible] Calls
theorem bi_Exp (b bx b2 : Nat) (B e : Nat) (hB : 1 ≤ B) (he0 : 1 ≤ e) (he : e < 4294967296) (A : Option Addr) (n c : Nat) (D : Option Addr) (m d : Nat) (hL : (lim (B ^ e)).length ≤ 20000) (hn : n ≤ 1000000) (w : World) (hr : Room w b 0) (hx : IntIs w bx 0 (B : Int) A n c) (hy : IntIs w b2 0 (e : Int) D m d) :
  Calls Tryz.prog 69 #[.pointer (some ⟨b, 0, none⟩), .pointer (some ⟨bx, 0, none⟩), .pointer (some ⟨b2, 0, none⟩), .pointer none] w (IPost w b 0 (B ^ e : Nat)) := by
 have HX := Lib.hid hx
 have HY := Lib.hid hy
 have HR := Lib.hid hr
 have HL := Lib.hid hL
 have lb := hr.lt
 have ly := hy.room.lt
 have y1 := hy.words
 simp only [Nat.zero_add] at y1
 have hm1 : m = 1 := by
  have h1 := hy.rd.len
  rw [Int.natAbs_natCast, lim_pos (by omega), Nat.div_eq_of_lt he, lim_zero] at h1
  simpa using h1.symm
 subst hm1
 have hsg : Hid ((e : Int).sign = 1) := Lib.hid (Int.sign_eq_one_of_pos (by omega))
 have kS : ∀ w', Ext w w' → Calls Tryz.prog 44 #[.pointer (some ⟨b2, 0, none⟩)] w' fun e w'' => e = .returned (.int .i64 1) ∧ Ext w' w'' := fun w' he => by
  have := bi_Sign b2 0 (e : Int) D 1 d w' (HY.out.ext he)
  rwa [hsg.out] at this
 clear hx hy hr hL
 go_enter Tryz.func69, Tryz.ntmps69
 go_upto_region 7 with (first
  | (go_at_call 70; (with_reducible refine (bi_NewInt 1 (by decide) (by decide) _).mono ?_); rintro e w1 ⟨p1, P1, k1, l1, rfl, hI1, hp1, xb1⟩)
  | (go_at_call 87; (with_reducible refine (bi_Set w1.heap.size 0 bx 0 A n c (B : Int) hn _ (int_room w1) ((HX.out.ext (jT (jA (jR _) _) xb1)).ext (jA (jR _) _))).mono ?_); rintro e w2 ⟨rfl, A2, n2, c2, hI2, xt2⟩)
  )
 have hE1 : Ext w w1 := jT (jA (jR _) _) xb1
 have hE2 : Hid (Ext w w2) := Lib.hid (xt2.ext (jA hE1 _) hE1.size)
 have hz1 : w.heap.size < w1.heap.size := by have := xb1.size; simp at this; omega
 have hp1' : w.heap.size + 1 ≤ p1 := by simpa using hp1
 have hlp1 : p1 < w1.heap.size := hI1.out.1.room.lt
 have hz2 : w1.heap.size + 1 ≤ w2.heap.size := by have := xt2.size; simpa using this
 have HI1 : Hid (IntIs w2 p1 0 1 P1 k1 l1) := Lib.hid ((hI1.out.1.ext (jA (jR _) _)).tch xt2 (by omega) (hI1.out.1.rd.off (Nat.le_refl _)))
 have hby : w2.cell? ⟨w.heap.size, 1, none⟩ = some (.slice none 0 0) := by
  rw [xt2.cell (by simp; omega) (by simp; omega)]
  rw [(Below.cell (p := ⟨w.heap.size, 1, none⟩) (jA (jR w1) _) (by simp; omega))]
  rw [(Below.cell (p := ⟨w.heap.size, 1, none⟩) xb1 (by simp))]
  rw [World.cell?_alloc_at _ _ _ _ rfl]; rfl
 have hfA2 : Off A2 n2 p1 := hI2.out.2.off (by simp; omega) n2
 have HI2 := Lib.hid (And.intro hI2.out.1 hfA2)
 clear hI1 hI2 xt2 xb1 hp1 hE1
 have g1 : w2.cell? ⟨b2, 1, none⟩ = some (.slice D 1 d) := (Below.cell (p := ⟨b2, 1, none⟩) hE2.out ly).trans y1
 have lb2 := ext_lt hE2.out _ ly
 have lw2 : w.heap.size < w2.heap.size := by omega
 clear y1
 go_upto_region 12 with (first
  | (go_at_call 44; (with_reducible refine (kS _ hE2.out).mono ?_); rintro e w3 ⟨rfl, xb3⟩; obtain ⟨xc3, xf3, xl3, xz3⟩ := jU xb3; (try simp at xz3); obtain ⟨l3_0, r3_0, f3_0, r3_0_1, f3_0_1⟩ := kq2 xb3 (b2); obtain ⟨l3_1, r3_1, f3_1, r3_1_1, f3_1_1⟩ := kq2 xb3 (w.heap.size))
  | (go_at_call 89; (with_reducible refine (bw_copied D 1 d (lim e) (by decide) _ ((HY.out.rd.ext hE2.out).ext xb3)).mono ?_); rintro e' w4 ⟨rfl, hR4, xb4⟩)
  )
 have hE34 : Hid (Ext w2 w4) := Lib.hid (jT xb3 xb4)
 have hby4 : w4.cell? ⟨w.heap.size, 1, none⟩ = some (.slice none 0 0) := (Below.cell (p := ⟨w.heap.size, 1, none⟩) hE34.out lw2).trans hby
 have lw4 := ext_lt hE34.out _ lw2
 have hfr4 : Fr w2 (some ⟨w3.heap.size, 0, none⟩) := fun a ha => by cases ha; exact xb3.size
 have lp2 : p1 < w2.heap.size := by omega
 have hOw := hfr4.off lp2 1
 have hI4 := Lib.hid (And.intro (HI1.out.ext hE34.out) (HI2.out.1.ext hE34.out))
 have HOW := Lib.hid hOw
 have hE4 : Hid (Ext w w4) := Lib.hid (jT hE2.out hE34.out)
 have hby0 : Hid (b ≠ p1 ∧ w.heap.size ≠ p1 ∧ w1.heap.size ≠ p1) := Lib.hid ⟨by omega, by omega, by omega⟩
 have HFA := Lib.hid hfA2
 clear xb3 xb4 hby hfr4 hOw hfA2 HI1 HI2 g1 hE34 hz1 hz2 xc3 xf3 xl3 xz3 l3_0 r3_0 f3_0 r3_0_1 f3_0_1 l3_1 r3_1 f3_1 r3_1_1 f3_1_1
 have hwc : w4.cell? ⟨w3.heap.size, 0, none⟩ = some (.int .u32 (e : Int)) := by
  obtain ⟨x, h1, _, h2⟩ := hR4.out.get 0 (by omega)
  have h3 := h1.out
  rw [lim_pos (by omega), Nat.mod_eq_of_lt he] at h3
  simp at h3
  rw [h3]; simpa using h2
 have hlw3 : w3.heap.size < w4.heap.size := World.block_lt_of_cell? w4 _ hwc
 have hpw : w3.heap.size ≠ p1 := by
  have := HOW.out _ rfl (by decide)
  simpa using this
 obtain ⟨gb, hgb⟩ : ∃ gb, gb = w1.heap.size := ⟨_, rfl⟩
 obtain ⟨gw, hgw⟩ : ∃ gw, gw = w3.heap.size := ⟨_, rfl⟩
 rw [← hgb] at hI4 hby0 ⊢
 rw [← hgw] at hwc hlw3 hpw ⊢
 have hby1 := Lib.hid (And.intro hby0.out hpw)
 have HC4 := Lib.hid (And.intro hby4 hwc)
 have hlp4 : p1 < w4.heap.size := hI4.out.1.room.lt
 have hlb4 : gb < w4.heap.size := hI4.out.2.room.lt
 have hpw1 : w.heap.size ≤ p1 := by omega
 clear hgb hgw hby4 hwc hby0 hpw HOW hR4 hlp1 hE2 lb2 lw2 lp2 hp1'
 go_wp2
 go_loopg [13] 32 (fun j vi wr => ∃ (x : Nat) (A : Option Addr) (n c : Nat), j ≤ 32 ∧ vi = .int .i64 ((j : Int) - 1) ∧ Hid (x = B ^ (e / 2 ^ j)) ∧ Hid (IntIs wr p1 0 (x : Int) A n c) ∧ Hid (IntIs wr gb 0 (B : Int) A2 n2 c2) ∧
   Hid (wr.cell? ⟨w.heap.size, 1, none⟩ = some (.slice none 0 0) ∧ wr.cell? ⟨gw, 0, none⟩ = some (.int .u32 (e : Int))) ∧ w4.heap.size ≤ wr.heap.size ∧ Hid (Ext w wr))
 case atStart => exact ⟨1, P1, k1, l1, Nat.le_refl _, rfl, Lib.hid (by rw [Nat.div_eq_of_lt (show e < 2 ^ 32 by omega)]; rfl), Lib.hid hI4.out.1, Lib.hid hI4.out.2, HC4, Nat.le_refl _, hE4⟩
 case round =>
  clear hI4 HC4 hE4
  obtain ⟨x, A, n, c, hj, rfl, hx, hI, hB', hC, hsz, hE⟩ := hrel
  by_cases h0 : 0 < gk
  ·obtain ⟨i, rfl⟩ : ∃ i, gk = i + 1 := ⟨gk - 1, by omega⟩
   have e1 : ((i + 1 : Nat) : Int) - 1 = (i : Int) := by omega
   rw [e1]
   have hnl : n ≤ 20000 := by
    have h1 := hI.out.rd.len
    rw [Int.natAbs_natCast, hx.out] at h1
    have h2 := lim_mono (Nat.pow_le_pow_right hB (Nat.div_le_self e (2 ^ (i + 1))))
    have := HL.out
    omega
   have hsq : Calls Tryz.prog 114 #[.pointer (some ⟨p1, 0, none⟩), .pointer (some ⟨p1, 0, none⟩), .pointer (some ⟨p1, 0, none⟩)] wr (IPost wr p1 0 ((x * x : Nat) : Int)) := by
    have := bi_Mul p1 0 p1 0 p1 0 (x : Int) (x : Int) A n c A n c (by omega) (by omega) wr hI.out.room hI.out hI.out
    rwa [← Int.natCast_mul] at this
   go_upto_region 16 with (first
    | (go_at_call 114; (with_reducible refine hsq.mono ?_); rintro e' w5 ⟨rfl, A5, n5, c5, hI5, xt5⟩)
    )
   have hB5 := Lib.hid (hB'.out.tch xt5 hby1.out.1.2.2 HFA.out)
   have c51 : w5.cell? ⟨w.heap.size, 1, none⟩ = some (.slice none 0 0) := (xt5.cell (by simp; omega) hby1.out.1.2.1).trans hC.out.1
   have c52 : w5.cell? ⟨gw, 0, none⟩ = some (.int .u32 (e : Int)) := (xt5.cell (by simp; omega) hby1.out.2).trans hC.out.2
   have hsz5 : w4.heap.size ≤ w5.heap.size := Nat.le_trans hsz xt5.size
   have hE5 : Hid (Ext w w5) := Lib.hid (xt5.ext hE.out hpw1)
   have hlw5 : gw < w5.heap.size := by omega
   have hlz5 : w.heap.size < w5.heap.size := by have := World.block_lt_of_cell? w5 _ c51; exact this
   have hi0 : (i : Int) / 32 = 0 := by omega
   have hi1 : (i : Int) % 32 = (i : Int) := by omega
   have hst : Hid (x * x * B ^ (e / 2 ^ i % 2) = B ^ (e / 2 ^ i)) := Lib.hid (by rw [hx.out]; exact (pow_halves B e i).symm)
   have hsh : e / 2 ^ i < 4294967296 := Nat.lt_of_le_of_lt (Nat.div_le_self _ _) he
   have HT5 := Lib.hid xt5
   have hC5 := Lib.hid (And.intro c51 c52)
   have hml : n5 ≤ 100000 := by
    have h1 := hI5.out.1.rd.len
    rw [Int.natAbs_natCast] at h1
    have h2 : (lim (x * x)).length ≤ (lim (B ^ (e / 2 ^ i))).length := lim_mono (by
     rw [← hst.out]; exact Nat.le_mul_of_pos_right _ (Nat.pow_pos hB))
    have h3 := lim_mono (Nat.pow_le_pow_right hB (Nat.div_le_self e (2 ^ i)))
    have := HL.out
    omega
   have hbl : n2 ≤ 100000 := by
    have h1 := hB5.out.rd.len
    rw [Int.natAbs_natCast] at h1
    have h2 : B ≤ B ^ e := Nat.le_self_pow (by omega) B
    have h3 := lim_mono h2
    have := HL.out
    omega
   rcases (show e / 2 ^ i % 2 = 0 ∨ e / 2 ^ i % 2 = 1 by omega) with hbit | hbit
   ·have hb1 := bit_u32 e i hsh hbit
    simp at hb1
    have HBIT := Lib.hid hbit
    clear hbit xt5 hsq hj h0
    go_wp2
    go_roundg i
    case rel => exact ⟨x * x, A5, n5, c5, by omega, rfl, Lib.hid (by rw [← hst.out, HBIT.out, Nat.pow_zero, Nat.mul_one]), Lib.hid hI5.out.1, hB5, hC5, hsz5, hE5⟩
    case measure => omega
   ·have hb1 := bit_u32 e i hsh hbit
    simp at hb1
    have HBIT := Lib.hid hbit
    have hmb : Calls Tryz.prog 114 #[.pointer (some ⟨p1, 0, none⟩), .pointer (some ⟨p1, 0, none⟩), .pointer (some ⟨gb, 0, none⟩)] w5 (IPost w5 p1 0 ((x * x * B : Nat) : Int)) := by
     have := bi_Mul p1 0 p1 0 gb 0 ((x * x : Nat) : Int) (B : Int) A5 n5 c5 A2 n2 c2 hml hbl w5 hI5.out.1.room hI5.out.1 hB5.out
     rwa [← Int.natCast_mul] at this
    clear hbit xt5 hsq hj h0
    go_upto_region 18 with (first
     | (go_at_call 114; (with_reducible refine hmb.mono ?_); rintro e' w6 ⟨rfl, A6, n6, c6, hI6, xt6⟩)
     )
    have hB6 := Lib.hid (hB5.out.tch xt6 hby1.out.1.2.2 HFA.out)
    have c61 : w6.cell? ⟨w.heap.size, 1, none⟩ = some (.slice none 0 0) := (xt6.cell hlz5 hby1.out.1.2.1).trans hC5.out.1
    have c62 : w6.cell? ⟨gw, 0, none⟩ = some (.int .u32 (e : Int)) := (xt6.cell hlw5 hby1.out.2).trans hC5.out.2
    have hlz6 : w.heap.size < w6.heap.size := World.block_lt_of_cell? w6 _ c61
    have hsz6 : w4.heap.size ≤ w6.heap.size := Nat.le_trans hsz5 xt6.size
    have hE6 : Hid (Ext w w6) := Lib.hid (xt6.ext hE5.out hpw1)
    have hC6 := Lib.hid (And.intro c61 c62)
    clear c51 c52 xt6
    go_wp2
    go_roundg i
    case rel => exact ⟨x * x * B, A6, n6, c6, by omega, rfl, Lib.hid (by rw [← hst.out, HBIT.out, Nat.pow_one]), Lib.hid hI6.out.1, hB6, hC6, hsz6, hE6⟩
    case measure => omega
  ·obtain rfl : gk = 0 := by omega
   have hxe : x = B ^ e := by rw [hx.out, Nat.pow_zero, Nat.div_one]
   have hnl : n ≤ 1000000 := by
    have h1 := hI.out.rd.len
    rw [Int.natAbs_natCast, hxe] at h1
    have := HL.out
    omega
   have kF := bi_Set b 0 p1 0 A n c (x : Int) hnl wr (HR.out.ext hE.out) hI.out
   have HXE := Lib.hid hxe
   clear hxe h0
   go_wp2_with (first
    | (go_at_call 87; (with_reducible refine kF.mono ?_); rintro e' w7 ⟨rfl, A7, n7, c7, hI7, xt7⟩)
    )
   refine bodyPost_ret (v := .pointer (some ⟨b, 0, none⟩)) ?h rfl ⟨rfl, A7, n7, c7, ⟨by have := hI7.out.1; rwa [HXE.out] at this, hI7.out.2.mono hE.out⟩, (Tch.of hE.out).trans xt7⟩
   case h => simp [results, Tryz.results69, go_sem]
end Go.Proofs.YtfdmhefjmnlllaaGreatDoor
end
section
/- Fractions of the library's: sums. -/
namespace Go.Proofs.YtfdmhefjmnlllaaGreatDoor
open Go.RowKit
attribute [local go_sem] sz2 sz3 sz4 sz5 sz6 sz7 sz8
set_option maxHeartbeats 4000000
set_option maxRecDepth 100000
attribute [local irreducible] Calls
attribute [local go_sem] D2.Oper.detAt D2.detUpon D2.relUpon
theorem br_belowO (r g : Nat) (z : Int) (A : Option Addr) (n c d : Nat) (D : Option Addr) (m e : Nat) (w : World) (hr : r < w.heap.size) (hx : RatIs w g z A n c d D m e) (ho : Off D m r) (hm : m ≤ 50000) :
  Calls Tryz.prog 90 #[.pointer (some ⟨g, 0, none⟩)] w fun e' w' => ∃ (B : Option Addr) (k l : Nat), (e' = .returned (.slice B k l) ∧ k ≤ 50000) ∧ Hid (Rd w' B k l (lim (denOf d)) ∧ Off B k r) ∧ Ext w w' := by
 by_cases hd : d = 0
 ·subst hd
  refine (br_below_new g z A n c D m e w hx).mono ?_
  rintro e' w' ⟨rfl, h1, h2⟩
  exact ⟨_, 1, 1, ⟨rfl, by decide⟩, ⟨h1.out, fun a ha _ => by cases ha; simp only; omega⟩, h2⟩
 ·refine (br_below_old g z A n c d hd D m e w hx).mono ?_
  rintro e' w' ⟨rfl, h2⟩
  exact ⟨D, m, e, ⟨rfl, hm⟩, ⟨by rw [show denOf d = d from if_neg hd]; exact hx.rd.ext h2, ho⟩, h2⟩
theorem sum_len {a b n : Nat} (ha : (lim a).length ≤ n) (hb : (lim b).length ≤ n) : (lim (a + b)).length ≤ n + 1 := by
 refine lim_le ?_
 have h1 : a < Bs ^ n := Nat.lt_of_lt_of_le (lim_lt a) (Nat.pow_le_pow_right (by decide) ha)
 have h2 : b < Bs ^ n := Nat.lt_of_lt_of_le (lim_lt b) (Nat.pow_le_pow_right (by decide) hb)
 rw [Nat.pow_succ]
 have : (2 : Nat) ≤ Bs := by decide
 generalize Bs ^ n = P at *
 generalize Bs = Q at *
 have := Nat.mul_le_mul_left P this
 omega
theorem sum_len' {X Y : Int} {n : Nat} (ha : (lim X.natAbs).length ≤ n) (hb : (lim Y.natAbs).length ≤ n) : (lim (X + Y).natAbs).length ≤ n + 1 :=
 Nat.le_trans (lim_mono (Int.natAbs_add_le X Y)) (sum_len ha hb)
theorem turned_sgn (t : Bool) (y : Int) (k : Nat) : sgn (!(decide (y < 0) == t)) (y.natAbs * k : Nat) = (if t then -y else y) * (k : Int) := by
 have h : ∀ (s : Bool) (a : Nat), sgn s (a * k : Nat) = sgn s a * (k : Int) := fun s a => by cases s <;> simp [sgn, Int.natCast_mul, Int.neg_mul]
 rw [h]
 congr 1
 cases t with
 | false =>
  rw [show (!(decide (y < 0) == false)) = decide (y < 0) by cases decide (y < 0) <;> rfl, if_neg (by decide)]; exact sgn_self y
 | true =>
  rw [show (!(decide (y < 0) == true)) = !decide (y < 0) by cases decide (y < 0) <;> rfl, if_pos rfl]; exact sgn_neg y
theorem plain_sgn (y : Int) (k : Nat) : sgn (decide (y < 0)) (y.natAbs * k : Nat) = y * (k : Int) := by
 have h : ∀ (s : Bool) (a : Nat), sgn s (a * k : Nat) = sgn s a * (k : Int) := fun s a => by cases s <;> simp [sgn, Int.natCast_mul, Int.neg_mul]
 rw [h, sgn_self]
theorem br_set_nought (g : Nat) (w : World) (hr : RatRoom w g) : Calls Tryz.prog 111 #[.pointer (some ⟨g, 0, none⟩), .bool false, .slice none 0 0, .slice (some ⟨w.heap.size, 0, none⟩) 1 1] (w.alloc (Obj.cells #[.int .u32 1] 47)) (FPost w g 0 0) := by
 have kz : Calls Tryz.prog 111 #[.pointer (some ⟨g, 0, none⟩), .bool false, .slice none 0 0, .slice (some ⟨w.heap.size, 0, none⟩) 1 1] (w.alloc (Obj.cells #[.int .u32 1] 47)) (SPost (w.alloc (Obj.cells #[.int .u32 1] 47)) g 0 0 none (some ⟨w.heap.size, 0, none⟩)) :=
  br_set_zero g false none 0 0 (some ⟨w.heap.size, 0, none⟩) 1 1 1 _ (hr.ext (jA (jR _) _)) (by rw [lim_zero]; exact Rd.nil _) (one_row w)
 refine kz.mono ?_
 rintro e w' ⟨rfl, A', n', c', D', m', k', h1, h2⟩
 have h3 := h1.out.2 w (jA (jR _) _) (Fr.none _) (fun x hx => by cases hx; exact Nat.le_refl _)
 exact ⟨rfl, A', n', c', D', m', k', ⟨h1.out.1, h3.1, h3.2⟩, (Tch.of (jA (jR _) _)).trans h2⟩
theorem add_made (x y : Int) (P Q G : Nat) (hP : G ∣ P) (hQ : G ∣ Q) : (x * ((Q / G : Nat) : Int) + y * ((P / G : Nat) : Int)) * (G : Int) = x * (Q : Int) + y * (P : Int) := by
 obtain ⟨u, rfl⟩ := hP
 obtain ⟨v, rfl⟩ := hQ
 rcases Nat.eq_zero_or_pos G with h | h
 ·subst h; simp
 ·rw [Nat.mul_div_cancel_left _ h, Nat.mul_div_cancel_left _ h, Int.natCast_mul, Int.natCast_mul]; grind
theorem br_added (t : Bool) (g bx b2 : Nat) (x y : Int) (p q : Nat) (hxp : Nat.gcd x.natAbs (denOf p) = 1) (hyq : Nat.gcd y.natAbs (denOf q) = 1) (A : Option Addr) (n c : Nat) (D : Option Addr) (m e : Nat) (B : Option Addr) (n2 c2 : Nat) (C : Option Addr) (m2 e2 : Nat)
  (hn : n ≤ 50000) (hm : m ≤ 50000) (hn2 : n2 ≤ 50000) (hm2 : m2 ≤ 50000) (w : World) (hT : Tz w) (hr : RatRoom w g) (hx : RatIs w bx x A n c p D m e) (hy : RatIs w b2 y B n2 c2 q C m2 e2) (hoD : Off D m g) (hoC : Off C m2 g) :
  Calls Tryz.prog 83 #[.pointer (some ⟨g, 0, none⟩), .pointer (some ⟨bx, 0, none⟩), .pointer (some ⟨b2, 0, none⟩), .bool t] w
   (FPost w g (canN (x * denOf q + (if t then -y else y) * denOf p) (denOf p * denOf q)) (canW (x * denOf q + (if t then -y else y) * denOf p) (denOf p * denOf q))) := by
 have HX := Lib.hid hx
 have HY := Lib.hid hy
 have HR := Lib.hid hr
 have HT := Lib.hid hT
 have lx := hx.int.room.lt
 have x0 := hx.int.neg
 have x1 := hx.int.words
 have ly := hy.int.room.lt
 have y0 := hy.int.neg
 have y1 := hy.int.words
 have hgl := hr.int.lt
 simp only [Nat.zero_add] at x1 y1
 have hlx : (lim x.natAbs).length ≤ 50000 := by rw [hx.int.rd.len]; exact hn
 have hly : (lim y.natAbs).length ≤ 50000 := by rw [hy.int.rd.len]; exact hn2
 have kX : ∀ w', Ext w w' → Calls Tryz.prog 90 #[.pointer (some ⟨bx, 0, none⟩)] w' fun e' w'' => ∃ (B : Option Addr) (k l : Nat), (e' = .returned (.slice B k l) ∧ k ≤ 50000) ∧ Hid (Rd w'' B k l (lim (denOf p)) ∧ Off B k g) ∧ Ext w' w'' := fun w' he => br_belowO g bx x A n c p D m e w' (Nat.lt_of_lt_of_le hgl he.size) (HX.out.ext he) hoD hm
 have kY : ∀ w', Ext w w' → Calls Tryz.prog 90 #[.pointer (some ⟨b2, 0, none⟩)] w' fun e' w'' => ∃ (B : Option Addr) (k l : Nat), (e' = .returned (.slice B k l) ∧ k ≤ 50000) ∧ Hid (Rd w'' B k l (lim (denOf q)) ∧ Off B k g) ∧ Ext w' w'' := fun w' he => br_belowO g b2 y B n2 c2 q C m2 e2 w' (Nat.lt_of_lt_of_le hgl he.size) (HY.out.ext he) hoC hm2
 have hlP := den_len hx hm (by decide)
 have hlQ := den_len hy hm2 (by decide)
 have hp0 := denOf_ne p
 have hq0 := denOf_ne q
 have HoD := Lib.hid hoD
 have HoC := Lib.hid hoC
 clear hx hy hr hT hoD hoC
 generalize denOf p = P at *
 generalize denOf q = Q at *
 obtain ⟨G, hG⟩ : ∃ G, G = Nat.gcd P Q := ⟨_, rfl⟩
 have hG0 : G ≠ 0 := by rw [hG]; intro h; exact hp0 (Nat.eq_zero_of_gcd_eq_zero_left h)
 have kG : ∀ P1 k1 l1 Q1 k2 l2 w', Ext w w' → k1 ≤ 50000 → k2 ≤ 50000 → Rd w' P1 k1 l1 (lim P) → Rd w' Q1 k2 l2 (lim Q) → Calls Tryz.prog 124 #[.slice P1 k1 l1, .slice Q1 k2 l2] w' (WPost w' G) := fun P1 k1 l1 Q1 k2 l2 w' he h1 h2 h3 h4 => by rw [hG]; exact bw_commonA P1 Q1 k1 l1 k2 l2 P Q (by omega) (by omega) w' (HT.out.ext he) h3 h4
 have hdp : G ∣ P := by rw [hG]; exact Nat.gcd_dvd_left P Q
 have hdq : G ∣ Q := by rw [hG]; exact Nat.gcd_dvd_right P Q
 have hyt : Nat.gcd (if t then -y else y).natAbs Q = 1 := by cases t; exact hyq; rw [if_pos rfl, Int.natAbs_neg]; exact hyq
 obtain ⟨S, hS⟩ : ∃ S, S = x * ((Q / G : Nat) : Int) + (if t then -y else y) * ((P / G : Nat) : Int) := ⟨_, rfl⟩
 obtain ⟨H, hH⟩ : ∃ H, H = Nat.gcd S.natAbs G := ⟨_, rfl⟩
 have hcan := can_add hp0 hq0 hxp hyt G hG S hS H hH
 have hSG : S * (G : Int) = x * (Q : Int) + (if t then -y else y) * (P : Int) := by rw [hS]; exact add_made _ _ _ _ _ hdp hdq
 have hsum : sgn (decide (x < 0)) (x.natAbs * (Q / G) : Nat) + sgn (!(decide (y < 0) == t)) (y.natAbs * (P / G) : Nat) = S := by rw [turned_sgn, plain_sgn, hS]
 have hl1 : (lim (x.natAbs * (Q / G))).length ≤ 100000 := Nat.le_trans (lim_mul_len _ _) (by have := lim_mono (Nat.div_le_self Q G); omega)
 have hl2 : (lim (y.natAbs * (P / G))).length ≤ 100000 := Nat.le_trans (lim_mul_len _ _) (by have := lim_mono (Nat.div_le_self P G); omega)
 have hH0 : H ≠ 0 := by rw [hH]; intro h; exact hG0 (Nat.eq_zero_of_gcd_eq_zero_right h)
 have f0 : S = 0 → canN (x * Q + (if t then -y else y) * P) (P * Q) = 0 ∧ canW (x * Q + (if t then -y else y) * P) (P * Q) = 0 := fun h => by
  rw [← hSG, h, Int.zero_mul, canN_zero, canW_zero]; exact ⟨rfl, rfl⟩
 have f1 : S ≠ 0 → canN (x * Q + (if t then -y else y) * P) (P * Q) = sgn (decide (S < 0)) (S.natAbs / H : Nat) ∧ canW (x * Q + (if t then -y else y) * P) (P * Q) = (P / G) * (Q / H) := fun h => by
  refine ⟨hcan.1.symm, ?_⟩
  rw [hcan.2]
  unfold canW
  rw [if_neg]
  rw [← hSG]; exact Int.mul_ne_zero h (by omega)
 have hlS : (lim S.natAbs).length ≤ 100001 := by rw [← hsum]; exact sum_len' (by rw [sgn_abs]; exact hl1) (by rw [sgn_abs]; exact hl2)
 generalize canN (x * Q + (if t then -y else y) * P) (P * Q) = ZN at f0 f1 ⊢
 generalize canW (x * Q + (if t then -y else y) * P) (P * Q) = ZD at f0 f1 ⊢
 have kH : ∀ S1 k1 l1 G1 k2 l2 w', Ext w w' → k1 ≤ 100001 → k2 ≤ 400000 → Rd w' S1 k1 l1 (lim S.natAbs) → Rd w' G1 k2 l2 (lim G) → Calls Tryz.prog 124 #[.slice S1 k1 l1, .slice G1 k2 l2] w' (WPost w' H) := fun S1 k1 l1 G1 k2 l2 w' he h1 h2 h3 h4 => by rw [hH]; exact bw_commonA S1 G1 k1 l1 k2 l2 _ _ (by omega) h2 w' (HT.out.ext he) h3 h4
 have hGP : (lim G).length ≤ 50000 := Nat.le_trans (lim_mono (Nat.le_of_dvd (Nat.pos_of_ne_zero hp0) hdp)) hlP
 have kM1 : ∀ Q1 k l w', Ext w w' → k ≤ 50000 → Rd w' Q1 k l (lim (Q / G)) → Calls Tryz.prog 121 #[.slice A n c, .slice Q1 k l] w' (WPost w' (x.natAbs * (Q / G))) := fun Q1 k l w' he h1 h2 => bw_mulA A Q1 n c k l _ _ (by omega) w' (HX.out.int.rd.ext he) h2
 have kM2 : ∀ Q1 k l w', Ext w w' → k ≤ 50000 → Rd w' Q1 k l (lim (P / G)) → Calls Tryz.prog 121 #[.slice B n2 c2, .slice Q1 k l] w' (WPost w' (y.natAbs * (P / G))) := fun Q1 k l w' he h1 h2 => bw_mulA B Q1 n2 c2 k l _ _ (by omega) w' (HY.out.int.rd.ext he) h2
 have kB : ∀ Q1 k l G1 k2 l2 V W w', W ≠ 0 → k ≤ 400000 → Rd w' Q1 k l (lim V) → Rd w' G1 k2 l2 (lim W) → Calls Tryz.prog 125 #[.slice Q1 k l, .slice G1 k2 l2] w' fun e w'' => ∃ (A' : Option Addr) (k' c' : Nat), e = .returned (.slice A' k' c') ∧ Hid (Rd w'' A' k' c' (lim (V / W))) ∧ Ext w' w'' := fun Q1 k l G1 k2 l2 V W w' h0 h1 h2 h3 => (bw_by Q1 G1 k l k2 l2 V W h0 h1 w' h2 h3).mono fun _ _ ⟨A', k', c', h4, h5, h6⟩ => ⟨A', k', c', h4.1, h5, h6⟩
 have kS : ∀ b s V A' n' c' wz w', Room wz b 0 → Ext wz w' → Rd w' A' n' c' (lim V) → Fr wz A' → Calls Tryz.prog 88 #[.pointer (some ⟨b, 0, none⟩), .bool s, .slice A' n' c'] w' fun e w'' => e = .returned (.pointer (some ⟨b, 0, none⟩)) ∧ Hid (IntIs w'' b 0 (sgn s V) A' n' c') ∧ Tch b w' w'' := fun b s V A' n' c' wz w' h1 h2 h3 h4 => bi_set b 0 s A' n' c' V w' (h1.ext h2) h3 (h4.off h1.lt n')
 have HP := Lib.hid (And.intro hp0 (And.intro hq0 (And.intro hxp hyq)))
 have HS := Lib.hid hS
 have HGG := Lib.hid hG
 have HHH := Lib.hid hH
 clear hcan hSG hdp hdq hyt hp0 hq0 hxp hyq hG hH hS
 go_enter Tryz.func83, Tryz.ntmps83
 go_upto_region 5 with (first
  | (go_at_call 90; (with_reducible refine (kX _ xcl).mono ?_); rintro e w1 ⟨P1, k1, l1, ⟨rfl, hk1⟩, hR1, xb1⟩; obtain ⟨xc1, xf1, xl1, xz1⟩ := jU xb1; (try simp at xz1); obtain ⟨l1_0, r1_0, f1_0, r1_0_1, f1_0_1⟩ := kq2 xb1 (bx))
  | (go_at_call 90; (with_reducible refine (kY _ xcl).mono ?_); rintro e w2 ⟨Q1, k2, l2, ⟨rfl, hk2⟩, hR2, xb2⟩; obtain ⟨xc2, xf2, xl2, xz2⟩ := jU xb2; (try simp at xz2); obtain ⟨l2_0, r2_0, f2_0, r2_0_1, f2_0_1⟩ := kq2 xb2 (bx))
  | (go_at_call 124; (with_reducible refine (kG _ _ _ _ _ _ _ xcl hk1 hk2 (hR1.out.1.ext xb2) hR2.out.1).mono ?_); rintro e w3 ⟨G1, k3, l3, rfl, hR3, xb3⟩; obtain ⟨xc3, xf3, xl3, xz3⟩ := jU xb3; (try simp at xz3); obtain ⟨l3_0, r3_0, f3_0, r3_0_1, f3_0_1⟩ := kq2 xb3 (bx))
  )
 have hE3 : Hid (Ext w w3) := by show Ext w w3; exact xcl
 have hP3 := Lib.hid (hR1.out.1.ext (jT xb2 xb3))
 have hQ3 := Lib.hid (hR2.out.1.ext xb3)
 have hk3 : k3 ≤ 50000 := by rw [← hR3.out.1.len]; exact hGP
 have hoG : Off G1 k3 g := hR3.out.2.off (ext_lt (jT xb1 xb2) g hgl) k3
 have HOG := Lib.hid (And.intro hoG (And.intro hR1.out.2 hR2.out.2))
 clear kX kY kG hoG
 go_cut [13] (fun v wn => v = .pointer (some ⟨w3.heap.size + 1, 0, none⟩) ∧ Hid (Room wn w3.heap.size 0 ∧ Room wn (w3.heap.size + 1) 0) ∧ Hid (Ext w3 wn))
 case first =>
  go_wp2
  go_meet
  case rel =>
   refine ⟨rfl, ⟨(int_room w3).ext (jA (jR _) _), ?_⟩, jA (jA (jR _) _) _⟩
   have h := int_room (w3.alloc (Obj.cells #[.bool false, .slice none 0 0] 66))
   have e : (w3.alloc (Obj.cells #[.bool false, .slice none 0 0] 66)).heap.size = w3.heap.size + 1 := by simp
   rw [e] at h; exact h
 case rest =>
 obtain ⟨wz, rfl⟩ : ∃ wz, wz = wc := ⟨wc, rfl⟩
 obtain ⟨rfl, hRo, hEz⟩ := hcut
 have hE4 := Lib.hid (jT hE3.out hEz.out)
 have x0 := (Below.cell (p := ⟨bx, 0, none⟩) hE4.out lx).trans x0
 have x1 := (Below.cell (p := ⟨bx, 1, none⟩) hE4.out lx).trans x1
 have ltbx := ext_lt hE4.out bx lx
 clear xb1 xb2 xb3
 go_upto_region 6 with (fail)
 go_cut [12] (fun v wn => ∃ (A6 : Option Addr) (n6 c6 : Nat), (v = .pointer (some ⟨w3.heap.size, 0, none⟩) ∧ n6 ≤ 100000) ∧ Hid (IntIs wn w3.heap.size 0 (sgn (decide (x < 0)) (x.natAbs * (Q / G) : Nat)) A6 n6 c6 ∧ Off A6 n6 (w3.heap.size + 1) ∧ Room wn (w3.heap.size + 1) 0) ∧ Hid (Ext w3 wn))
 case first =>
  have z0 := x0
  have z1 := x1
  refine D2.wp_drawn_tail 15 (D2.tab [(13, D2.RRow (Q / G)), (14, RWord wz.heap.size (x.natAbs * (Q / G)))]) (by kernel_rfl) (by kernel_rfl) (by kernel_rfl) (D2.tab_stays (by simp [D2.stays_row, D2.stays_word])) (fun hq hqf => ?_)
  simp only [List.take_succ_cons, List.take_zero, List.drop_succ_cons, List.drop_zero]
  have z0 := fun nq => (hq nq bx 0 ltbx).trans x0
  have z1 := fun nq => (hq nq bx 1 ltbx).trans x1
  iterate 13
   (refine D2.wpK_det rfl (fun K hK => ?_)
    go_simp
    first
     | (refine hK _ ?_; clear hK K)
     | (apply Exists.intro; refine ⟨fun x => ?_, hK _ ?_⟩; (first | exact z0 x | exact z1 x); clear hK K))
  refine D2.wpK_rel _ rfl rfl ?_ ?_
  ·rintro _ ⟨nn, rfl⟩ _
   unfold D2.Oper.relAt
   go_simp
   exact D2.rel_row (kB Q1 k2 l2 G1 k3 l3 Q G _ hG0 (Nat.le_trans hk2 (by decide)) (hQ3.out.ext (jT hEz.out nn.use)) (hR3.out.1.ext (jT hEz.out nn.use)))
  rintro v ⟨_, ⟨nn, rfl⟩, hr⟩
  obtain ⟨A4, n4, c4, rfl, hr4⟩ := hr
  have hn4 : n4 ≤ 50000 := by rw [← hr4.len]; exact Nat.le_trans (lim_mono (Nat.div_le_self _ _)) hlQ
  clear nn hr4
  refine D2.wpK_rel _ rfl rfl ?_ ?_
  ·rintro _ ⟨nn, rfl⟩ hdep
   have q1 := hdep 13 (by kernel_rfl)
   simp only [D2.Facts.put] at q1
   have q2 := D2.row_at (vals := []) q1
   unfold D2.Oper.relAt
   go_simp
   exact D2.rel_wpost (ext_size nn.use) (kM1 _ _ _ _ (jT hE4.out nn.use) hn4 q2)
  rintro v ⟨_, ⟨nn, rfl⟩, hr⟩
  obtain ⟨A5, n5, c5, rfl, hr5, -⟩ := hr
  have hn5 : n5 ≤ 100000 := by rw [← hr5.len]; exact hl1
  clear nn hr5
  refine D2.wpK_nil ?_
  intro nq hGG
  have r5 : RWord wz.heap.size (x.natAbs * (Q / G)) [] (.slice A5 n5 c5) nq.out := by have := hGG.fact 14; simp [D2.Facts.put] at this; exact this
  have hR5 := Lib.hid (rword_at r5)
  have hE := Lib.hid nq.use
  have hF5 : Fr wz A5 := hR5.out.2
  clear r5 hGG
  go_wp2_with (first
   | (go_at_call 88; (with_reducible refine (kS _ _ _ A5 n5 c5 wz _ hRo.out.1 hE.out hR5.out.1 hF5).mono ?_); rintro e w6 ⟨rfl, hI6, xt6⟩)
   )
  go_meet
  case rel =>
   exact ⟨A5, n5, c5, ⟨rfl, hn5⟩, ⟨hI6.out, hF5.off hRo.out.2.lt n5, (hRo.out.2.ext hE.out).tch xt6 (by omega)⟩, xt6.ext (jT hEz.out hE.out) (Nat.le_refl _)⟩
 case rest =>
 obtain ⟨wy, rfl⟩ : ∃ wy, wy = wc := ⟨wc, rfl⟩
 obtain ⟨A6, n6, c6, ⟨rfl, hn6⟩, hI6, hEy⟩ := hcut
 have hE5 := Lib.hid (jT hE3.out hEy.out)
 clear x0 x1
 have x0 := (Below.cell (p := ⟨b2, 0, none⟩) hE5.out ly).trans y0
 have x1 := (Below.cell (p := ⟨b2, 1, none⟩) hE5.out ly).trans y1
 have ltb2 := ext_lt hE5.out b2 ly
 go_upto_region 7 with (fail)
 go_cut [12] (fun v wn => ∃ (A7 : Option Addr) (n7 c7 : Nat), (v = .pointer (some ⟨w3.heap.size, 0, none⟩) ∧ n7 ≤ 100000) ∧ Hid (IntIs wn w3.heap.size 0 (sgn (decide (x < 0)) (x.natAbs * (Q / G) : Nat)) A6 n6 c6 ∧ IntIs wn (w3.heap.size + 1) 0 (sgn (!(decide (y < 0) == t)) (y.natAbs * (P / G) : Nat)) A7 n7 c7) ∧ Hid (Ext w3 wn))
 case first =>
  refine D2.wp_drawn_tail 17 (D2.tab [(15, D2.RRow (P / G)), (16, RWord wy.heap.size (y.natAbs * (P / G)))]) (by kernel_rfl) (by kernel_rfl) (by kernel_rfl) (D2.tab_stays (by simp [D2.stays_row, D2.stays_word])) (fun hq hqf => ?_)
  simp only [List.take_succ_cons, List.take_zero, List.drop_succ_cons, List.drop_zero]
  have z0 := fun nq => (hq nq b2 0 ltb2).trans x0
  have z1 := fun nq => (hq nq b2 1 ltb2).trans x1
  iterate 15
   (refine D2.wpK_det rfl (fun K hK => ?_)
    go_simp
    first
     | (refine hK _ ?_; clear hK K)
     | (apply Exists.intro; refine ⟨fun x => ?_, hK _ ?_⟩; (first | exact z0 x | exact z1 x); clear hK K))
  refine D2.wpK_rel _ rfl rfl ?_ ?_
  ·rintro _ ⟨nn, rfl⟩ _
   unfold D2.Oper.relAt
   go_simp
   exact D2.rel_row (kB P1 k1 l1 G1 k3 l3 P G _ hG0 (Nat.le_trans hk1 (by decide)) (hP3.out.ext (jT hEy.out nn.use)) (hR3.out.1.ext (jT hEy.out nn.use)))
  rintro v ⟨_, ⟨nn, rfl⟩, hr⟩
  obtain ⟨A4, n4, c4, rfl, hr4⟩ := hr
  have hn4 : n4 ≤ 50000 := by rw [← hr4.len]; exact Nat.le_trans (lim_mono (Nat.div_le_self _ _)) hlP
  clear nn hr4
  refine D2.wpK_rel _ rfl rfl ?_ ?_
  ·rintro _ ⟨nn, rfl⟩ hdep
   have q1 := hdep 15 (by kernel_rfl)
   simp only [D2.Facts.put] at q1
   have q2 := D2.row_at (vals := []) q1
   unfold D2.Oper.relAt
   go_simp
   exact D2.rel_wpost (ext_size nn.use) (kM2 _ _ _ _ (jT hE5.out nn.use) hn4 q2)
  rintro v ⟨_, ⟨nn, rfl⟩, hr⟩
  obtain ⟨A5, n5, c5, rfl, hr5, -⟩ := hr
  have hn5 : n5 ≤ 100000 := by rw [← hr5.len]; exact hl2
  clear nn hr5
  refine D2.wpK_nil ?_
  intro nq hGG
  have r5 : RWord wy.heap.size (y.natAbs * (P / G)) [] (.slice A5 n5 c5) nq.out := by have := hGG.fact 16; simp [D2.Facts.put] at this; exact this
  have hR5 := Lib.hid (rword_at r5)
  have hE := Lib.hid nq.use
  have hF5 : Fr wy A5 := hR5.out.2
  clear r5 hGG
  go_wp2_with (first
   | (go_at_call 88; (with_reducible refine (kS _ _ _ A5 n5 c5 wy _ hI6.out.2.2 hE.out hR5.out.1 hF5).mono ?_); rintro e w7 ⟨rfl, hI7, xt7⟩)
   )
  go_meet
  case rel =>
   exact ⟨A5, n5, c5, ⟨rfl, hn5⟩, ⟨(hI6.out.1.ext hE.out).tch xt7 (by omega) hI6.out.2.1, hI7.out⟩, xt7.ext (jT hEy.out hE.out) (by omega)⟩
 case rest =>
 obtain ⟨wx, rfl⟩ : ∃ wx, wx = wc := ⟨wc, rfl⟩
 obtain ⟨A7, n7, c7, ⟨rfl, hn7⟩, hI7, hEx⟩ := hcut
 have hE6 := Lib.hid (jT hE3.out hEx.out)
 clear x0 x1 kM1 kM2
 go_upto_region 9 with (first
  | (go_at_call 126; (with_reducible refine (bi_Add _ 0 _ 0 _ 0 _ _ A6 n6 c6 A7 n7 c7 (Nat.le_trans hn6 (by decide)) (Nat.le_trans hn7 (by decide)) _ hI7.out.1.room hI7.out.1 hI7.out.2).mono ?_); rintro e w8 ⟨rfl, A8, n8, c8, hI8, xt8⟩)
  )
 rw [hsum] at hI8
 have hE8 := Lib.hid (xt8.ext hEx.out (Nat.le_refl _))
 have hE9 := Lib.hid (jT hE3.out hE8.out)
 have s0 := hI8.out.1.neg
 have s1 := hI8.out.1.words
 have ls := hI8.out.1.room.lt
 simp only [Nat.zero_add] at s1
 have hRg := Lib.hid (HR.out.ext hE9.out)
 have hn8 : n8 ≤ 100001 := by rw [← hI8.out.1.rd.len]; exact hlS
 by_cases hS0 : S = 0
 ·obtain rfl : n8 = 0 := hI8.out.1.rd.nil_of (by rw [hS0]; rfl)
  obtain ⟨rfl, rfl⟩ := f0 hS0
  clear kH kB kS
  go_wp2_with (first
   | (go_at_call 111; (with_reducible refine (br_set_nought g _ hRg.out).mono ?_); rintro e w9 ⟨rfl, A9, n9, c9, D9, m9, k9, hI9, xt9⟩)
   )
  refine bodyPost_ret (v := .pointer (some ⟨g, 0, none⟩)) ?h rfl ⟨rfl, A9, n9, c9, D9, m9, k9, ⟨hI9.out.1, hI9.out.2.1.mono hE9.out, hI9.out.2.2.mono hE9.out⟩, (Tch.of hE9.out).trans xt9⟩
  case h => simp [results, Tryz.results83, go_sem]
 ·have hn0 : ((n8 : Int) == 0) = false := by
   rw [beq_eq_false_iff_ne]; have := hI8.out.1.rd.len; intro h; exact hS0 (Int.natAbs_eq_zero.1 (lim_nil.1 (List.eq_nil_of_length_eq_zero (by omega))))
  obtain ⟨rfl, rfl⟩ := f1 hS0
  go_upto_region 12 with (first
   | (go_at_call 124; (with_reducible refine (kH A8 n8 c8 G1 k3 l3 _ hE9.out hn8 (Nat.le_trans hk3 (by decide)) hI8.out.1.rd (hR3.out.1.ext hE8.out)).mono ?_); rintro e w9 ⟨H1, k9, l9, rfl, hR9, xb9⟩)
   )
  have hEa := Lib.hid (jT hE8.out xb9)
  have hEb := Lib.hid (jT hE3.out hEa.out)
  have s0' := (Below.cell (p := ⟨w3.heap.size, 0, none⟩) xb9 ls).trans s0
  have s1' := (Below.cell (p := ⟨w3.heap.size, 1, none⟩) xb9 ls).trans s1
  have ls' := ext_lt xb9 _ ls
  have hRh := Lib.hid (HR.out.ext hEb.out)
  have hlg := ext_lt hEb.out g hgl
  obtain ⟨v2, hv2⟩ := hRh.out.c2
  clear s0 s1 kH
  go_cut [14] (fun v wn => ∃ (A12 : Option Addr) (n12 c12 : Nat), v = .slice H1 k9 l9 ∧ Hid (IntIs wn g 0 (sgn (decide (S < 0)) (S.natAbs / H : Nat)) A12 n12 c12 ∧ Fr w A12) ∧ Hid (wn.cell? ⟨g, 2, none⟩ = some v2 ∧ wn.frozen? ⟨g, 2, none⟩ = false) ∧ Hid (Tch g w9 wn))
  case first =>
   refine D2.wp_drawn_tail 14 (D2.tab [(12, D2.RRow (S.natAbs / H)), (13, RWord w9.heap.size (S.natAbs / H))]) (by kernel_rfl) (by kernel_rfl) (by kernel_rfl) (D2.tab_stays (by simp [D2.stays_row, D2.stays_word])) (fun hq hqf => ?_)
   simp only [List.take_succ_cons, List.take_zero, List.drop_succ_cons, List.drop_zero]
   have z0 := fun nq => (hq nq w3.heap.size 0 ls').trans s0'
   have z1 := fun nq => (hq nq w3.heap.size 1 ls').trans s1'
   iterate 12
    (refine D2.wpK_det rfl (fun K hK => ?_)
     go_simp
     first
      | (refine hK _ ?_; clear hK K)
      | (apply Exists.intro; refine ⟨fun x => ?_, hK _ ?_⟩; (first | exact z0 x | exact z1 x); clear hK K))
   refine D2.wpK_rel _ rfl rfl ?_ ?_
   ·rintro _ ⟨nn, rfl⟩ _
    unfold D2.Oper.relAt
    go_simp
    exact D2.rel_row (kB A8 n8 c8 H1 k9 l9 S.natAbs H _ hH0 (Nat.le_trans hn8 (by decide)) (hI8.out.1.rd.ext (jT xb9 nn.use)) (hR9.out.1.ext nn.use))
   rintro v ⟨_, ⟨nn, rfl⟩, hr⟩
   obtain ⟨A4, n4, c4, rfl, hr4⟩ := hr
   have hn4 : n4 ≤ 1000000 := by rw [← hr4.len]; exact Nat.le_trans (lim_mono (Nat.div_le_self _ _)) (Nat.le_trans hlS (by decide))
   clear nn hr4
   refine D2.wpK_rel _ rfl rfl ?_ ?_
   ·rintro _ ⟨nn, rfl⟩ hdep
    have q1 := hdep 12 (by kernel_rfl)
    simp only [D2.Facts.put] at q1
    have q2 := D2.row_at (vals := []) q1
    unfold D2.Oper.relAt
    go_simp
    exact (rel_copied _ _ _ _ _ hn4 _ _ (ext_size nn.use) q2).mono (fun e w' ⟨u, h1, h2, h3, h4⟩ => ⟨u, h1, h2, (by obtain ⟨A, k, c, rfl, -⟩ := h4; exact D2.fresh_row), h4⟩)
   rintro v ⟨_, ⟨nn, rfl⟩, hr⟩
   obtain ⟨A5, n5, c5, rfl, -, -⟩ := hr
   clear nn
   refine D2.wpK_nil ?_
   intro nq hGG
   have r5 : RWord w9.heap.size (S.natAbs / H) [] (.slice A5 n5 c5) nq.out := by have := hGG.fact 13; simp [D2.Facts.put] at this; exact this
   have hR5 := Lib.hid (rword_at r5)
   have hE := Lib.hid nq.use
   have hF5 : Fr w9 A5 := hR5.out.2
   clear r5 hGG
   go_wp2_with (first
    | (go_at_call 88; (with_reducible refine (bi_setx g 0 _ A5 n5 c5 _ _ (hRh.out.int.ext hE.out) hR5.out.1 (hF5.off hlg n5)).mono ?_); rintro e w10 ⟨rfl, hI10, xt10, hq10⟩)
    )
   go_meet
   case rel =>
    exact ⟨A5, n5, c5, rfl, ⟨hI10.out, hF5.mono hEb.out⟩, ⟨((hq10.out 2 (by omega) (by omega)).1.trans (Below.cell (p := ⟨g, 2, none⟩) hE.out hlg)).trans hv2, ((hq10.out 2 (by omega) (by omega)).2.trans (Below.frozen (p := ⟨g, 2, none⟩) hE.out hlg)).trans hRh.out.f2⟩, (Tch.of hE.out).trans xt10⟩
  case rest =>
  obtain ⟨wv, rfl⟩ : ∃ wv, wv = wc := ⟨wc, rfl⟩
  obtain ⟨A12, n12, c12, rfl, hI12, hv12, xt12⟩ := hcut
  have cv := hv12.out.1
  have cf := hv12.out.2
  have lgv := hI12.out.1.room.lt
  have hP9 := Lib.hid ((hP3.out.ext hEa.out).tch xt12.out HOG.out.2.1)
  have hQ9 := Lib.hid ((hQ3.out.ext hEa.out).tch xt12.out HOG.out.2.2)
  have hG9 := Lib.hid ((hR3.out.1.ext hEa.out).tch xt12.out HOG.out.1)
  have hH9 := Lib.hid (hR9.out.1.tch xt12.out (hR9.out.2.off (ext_lt hE9.out g hgl) k9))
  clear s0' s1'
  go_wp2_with (first
   | (go_at_call 125; (with_reducible refine (bw_by P1 G1 k1 l1 k3 l3 P G hG0 (Nat.le_trans hk1 (by decide)) _ hP9.out hG9.out).mono ?_); rintro e wa ⟨Aa, na, ca, ⟨rfl, hka⟩, hRa, xba⟩)
   | (go_at_call 125; (with_reducible refine (bw_by Q1 H1 k2 l2 k9 l9 Q H hH0 (Nat.le_trans hk2 (by decide)) _ (hQ9.out.ext xba) (hH9.out.ext xba)).mono ?_); rintro e wb ⟨Ab, nb, cb, ⟨rfl, hkb⟩, hRb, xbb⟩; have hsb : na + nb ≤ 200000 := Nat.le_trans (Nat.add_le_add (Nat.le_trans hka hk1) (Nat.le_trans hkb hk2)) (by decide))
   | (go_at_call 121; (with_reducible refine (bw_mulA Aa Ab na ca nb cb _ _ hsb _ (hRa.out.ext xbb) hRb.out).mono ?_); rintro e wd ⟨Ad, nd, cd, rfl, hRd, xbd⟩; have hEd := Lib.hid (jT xba (jT xbb xbd)); have cvd := (Below.cell (p := ⟨g, 2, none⟩) hEd.out lgv).trans cv; have cfd := (Below.frozen (p := ⟨g, 2, none⟩) hEd.out lgv).trans cf; have hFd := Lib.hid (hRd.out.2.mono (jT xba xbb)))
   )
  have hFw : Fr w Ad := hFd.out.szmono (Nat.le_trans (ext_size hEb.out) xt12.out.size)
  refine bodyPost_ret (v := .pointer (some ⟨g, 0, none⟩)) ?h rfl ⟨rfl, A12, n12, c12, Ad, nd, cd, ⟨rat_made (hI12.out.1.ext hEd.out) ⟨_, cvd⟩ cfd hRd.out.1 (hFd.out.off lgv nd), hI12.out.2, hFw⟩, (((Tch.of hEb.out).trans xt12.out).trans (Tch.of hEd.out)).set 2 _⟩
  case h => simp [results, Tryz.results83, go_sem]
theorem br_Add (g bx b2 : Nat) (x y : Int) (p q : Nat) (hxp : Nat.gcd x.natAbs (denOf p) = 1) (hyq : Nat.gcd y.natAbs (denOf q) = 1) (A : Option Addr) (n c : Nat) (D : Option Addr) (m e : Nat) (B : Option Addr) (n2 c2 : Nat) (C : Option Addr) (m2 e2 : Nat)
  (hn : n ≤ 50000) (hm : m ≤ 50000) (hn2 : n2 ≤ 50000) (hm2 : m2 ≤ 50000) (w : World) (hT : Tz w) (hr : RatRoom w g) (hx : RatIs w bx x A n c p D m e) (hy : RatIs w b2 y B n2 c2 q C m2 e2) (hoD : Off D m g) (hoC : Off C m2 g) :
  Calls Tryz.prog 39 #[.pointer (some ⟨g, 0, none⟩), .pointer (some ⟨bx, 0, none⟩), .pointer (some ⟨b2, 0, none⟩)] w
   (FPost w g (canN (x * denOf q + y * denOf p) (denOf p * denOf q)) (canW (x * denOf q + y * denOf p) (denOf p * denOf q))) := by
 have k := br_added false g bx b2 x y p q hxp hyq A n c D m e B n2 c2 C m2 e2 hn hm hn2 hm2 w hT hr hx hy hoD hoC
 simp only [Bool.false_eq_true, if_false] at k
 generalize canN (x * denOf q + y * denOf p) (denOf p * denOf q) = ZN at k ⊢
 generalize canW (x * denOf q + y * denOf p) (denOf p * denOf q) = ZD at k ⊢
 clear hT hr hx hy hoD hoC hxp hyq
 go_enter Tryz.func39, Tryz.ntmps39
 go_wp2_with (first
  | (go_at_call 83; (with_reducible refine k.mono ?_); rintro e w9 ⟨rfl, A9, n9, c9, D9, m9, k9, hI9, xt9⟩)
  )
 refine bodyPost_ret (v := .pointer (some ⟨g, 0, none⟩)) ?h rfl ⟨rfl, A9, n9, c9, D9, m9, k9, hI9, xt9⟩
 case h => simp [results, Tryz.results39, go_sem]
end Go.Proofs.YtfdmhefjmnlllaaGreatDoor
end
section
/- Fractions of the library's: out of whole numbers; differences, quotients. -/
namespace Go.Proofs.YtfdmhefjmnlllaaGreatDoor
open Go.RowKit
attribute [local go_sem] sz2 sz3 sz4 sz5 sz6 sz7 sz8
set_option maxHeartbeats 4000000
set_option maxRecDepth 100000
attribute [local irreducible] Calls
section
attribute [local go_sem] Oper.detAt detUpon relUpon
theorem bi_Setx (b o bx ox : Nat) (A : Option Addr) (n c : Nat) (z : Int) (hn : n ≤ 1000000) (w : World) (hr : Room w b o) (hx : IntIs w bx ox z A n c) :
  Calls Tryz.prog 87 #[.pointer (some ⟨b, o, none⟩), .pointer (some ⟨bx, ox, none⟩)] w fun e w' => e = .returned (.pointer (some ⟨b, o, none⟩)) ∧ ∃ (A : Option Addr) (n c : Nat), Hid (IntIs w' b o z A n c ∧ Fr w A) ∧ Tch b w w' ∧ Hid (∀ p, p ≠ o → p ≠ o + 1 → w'.cell? ⟨b, p, none⟩ = w.cell? ⟨b, p, none⟩ ∧ w'.frozen? ⟨b, p, none⟩ = w.frozen? ⟨b, p, none⟩) := by
 have HX := Lib.hid hx
 have HR := Lib.hid hr
 have lx := hx.room.lt
 have x0 := hx.neg
 have x1 := hx.words
 clear hx hr
 go_enter Tryz.func87, Tryz.ntmps87
 go_wp2
 refine wp_drawn_tail 10 (tab [(9, RWord w.heap.size z.natAbs)]) (by kernel_rfl) (by kernel_rfl) (by kernel_rfl) (tab_stays (by simp [stays_word])) (fun hq hqf => ?_)
 simp only [List.take_succ_cons, List.take_zero, List.drop_succ_cons, List.drop_zero]
 have y0 := fun nq => (hq nq bx ox lx).trans x0
 have y1 := fun nq => (hq nq bx (ox + 1) lx).trans x1
 iterate 9
  (refine wpK_det rfl (fun K hK => ?_)
   go_simp
   first
    | (refine hK _ ?_; clear hK K)
    | (apply Exists.intro; refine ⟨fun x => ?_, hK _ ?_⟩; (first | exact y0 x | exact y1 x | (simp [y0, y1]; rfl)); clear hK K))
 refine wpK_rel _ rfl rfl ?_ ?_
 ·rintro _ ⟨nn, rfl⟩ _
  unfold Oper.relAt
  go_simp
  exact rel_copied _ _ _ _ _ hn _ _ (ext_size nn.use) (HX.out.rd.ext nn.use)
 rintro v ⟨_, ⟨nn, rfl⟩, hr⟩
 obtain ⟨A9, k9, c9, rfl, -, -⟩ := hr
 clear nn
 refine wpK_nil ?_
 intro nq2 hG
 have r9 : RWord w.heap.size z.natAbs [] (.slice A9 k9 c9) nq2.out := by have := hG.fact 9; simp [Facts.put] at this; exact this
 have hR9 := Lib.hid (rword_at r9)
 have hF9 : Fr w A9 := hR9.out.2
 have hO9 := hF9.off HR.out.lt k9
 clear r9 hG
 go_wp2_with (first
  | (go_at_call 88; (with_reducible refine (bi_setx b o _ A9 k9 c9 z.natAbs _ (HR.out.ext nq2.use) hR9.out.1 hO9).mono ?_); rintro e w3 ⟨rfl, hI3, xt3, hP3⟩)
  )
 refine bodyPost_ret (v := .pointer (some ⟨b, o, none⟩)) ?h rfl ⟨rfl, A9, k9, c9, ⟨by have := hI3.out; rwa [sgn_self] at this, hF9⟩, (Tch.of nq2.use).trans xt3, Lib.hid fun p h1 h2 => ⟨(hP3.out p h1 h2).1.trans (Below.cell (p := ⟨b, p, none⟩) nq2.use HR.out.lt), (hP3.out p h1 h2).2.trans (Below.frozen (p := ⟨b, p, none⟩) nq2.use HR.out.lt)⟩⟩
 case h => simp [results, Tryz.results87, go_sem]
end
section
attribute [local go_sem] D2.Oper.detAt D2.detUpon D2.relUpon
end
theorem br_Sub (g bx b2 : Nat) (x y : Int) (p q : Nat) (hxp : Nat.gcd x.natAbs (denOf p) = 1) (hyq : Nat.gcd y.natAbs (denOf q) = 1) (A : Option Addr) (n c : Nat) (D : Option Addr) (m e : Nat) (B : Option Addr) (n2 c2 : Nat) (C : Option Addr) (m2 e2 : Nat)
  (hn : n ≤ 50000) (hm : m ≤ 50000) (hn2 : n2 ≤ 50000) (hm2 : m2 ≤ 50000) (w : World) (hT : Tz w) (hr : RatRoom w g) (hx : RatIs w bx x A n c p D m e) (hy : RatIs w b2 y B n2 c2 q C m2 e2) (hoD : Off D m g) (hoC : Off C m2 g) :
  Calls Tryz.prog 37 #[.pointer (some ⟨g, 0, none⟩), .pointer (some ⟨bx, 0, none⟩), .pointer (some ⟨b2, 0, none⟩)] w
   (FPost w g (canN (x * denOf q - y * denOf p) (denOf p * denOf q)) (canW (x * denOf q - y * denOf p) (denOf p * denOf q))) := by
 have k := br_added true g bx b2 x y p q hxp hyq A n c D m e B n2 c2 C m2 e2 hn hm hn2 hm2 w hT hr hx hy hoD hoC
 simp only [if_true] at k
 rw [show x * (denOf q : Int) + -y * (denOf p : Int) = x * denOf q - y * denOf p by rw [Int.neg_mul]; rfl] at k
 generalize canN (x * denOf q - y * denOf p) (denOf p * denOf q) = ZN at k ⊢
 generalize canW (x * denOf q - y * denOf p) (denOf p * denOf q) = ZD at k ⊢
 clear hT hr hx hy hoD hoC hxp hyq
 go_enter Tryz.func37, Tryz.ntmps37
 go_wp2_with (first
  | (go_at_call 83; (with_reducible refine k.mono ?_); rintro e w9 ⟨rfl, A9, n9, c9, D9, m9, k9, hI9, xt9⟩)
  )
 refine bodyPost_ret (v := .pointer (some ⟨g, 0, none⟩)) ?h rfl ⟨rfl, A9, n9, c9, D9, m9, k9, hI9, xt9⟩
 case h => simp [results, Tryz.results37, go_sem]
theorem br_SetInt (g bx : Nat) (z : Int) (A : Option Addr) (n c : Nat) (hn : n ≤ 1000000) (w : World) (hr : RatRoom w g) (hx : IntIs w bx 0 z A n c) :
  Calls Tryz.prog 68 #[.pointer (some ⟨g, 0, none⟩), .pointer (some ⟨bx, 0, none⟩)] w (FPost w g z 0) := by
 have HR := Lib.hid hr
 have kS := bi_Setx g 0 bx 0 A n c z hn w hr.int hx
 have hlt := hr.int.lt
 obtain ⟨v2, h2⟩ := hr.c2
 have f2 := hr.f2
 clear hx hr
 go_enter Tryz.func68, Tryz.ntmps68
 go_wp2_with (first
  | (go_at_call 87; (with_reducible refine kS.mono ?_); rintro e w3 ⟨rfl, A3, n3, c3, hI3, xt3, hP3⟩; have g2 := (hP3.out 2 (by decide) (by decide)).1.trans h2; have g3 := (hP3.out 2 (by decide) (by decide)).2.trans f2; have g4 := hI3.out.1.room.lt; have HT3 := Lib.hid xt3; clear xt3)
  )
 have hM := Lib.hid (rat_made (D := none) (m := 0) (k := 0) (d := 0) hI3.out.1 ⟨_, g2⟩ g3 (by rw [lim_zero]; exact Rd.nil w3) (fun x hx => by cases hx))
 refine bodyPost_ret (v := .pointer (some ⟨g, 0, none⟩)) ?h rfl ⟨rfl, A3, n3, c3, none, 0, 0, ⟨hM.out, hI3.out.2, fun a ha => by cases ha⟩, HT3.out.set _ _⟩
 case h => simp [results, Tryz.results68, go_sem]
theorem br_SetInt64 (g : Nat) (x : Int) (h1 : -9223372036854775808 ≤ x) (h2 : x ≤ 9223372036854775807) (w : World) (hr : RatRoom w g) :
  Calls Tryz.prog 76 #[.pointer (some ⟨g, 0, none⟩), .int .i64 x] w (FPost w g x 0) := by
 have HR := Lib.hid hr
 have kS : ∀ (b : Nat) (A : Option Addr) (n c : Nat) (w' : World), Ext w w' → IntIs w' b 0 x A n c → Calls Tryz.prog 68 #[.pointer (some ⟨g, 0, none⟩), .pointer (some ⟨b, 0, none⟩)] w' (FPost w' g x 0) := fun b A n c w' he hI => by
  have h3 := hI.rd.len
  have h4 : (lim x.natAbs).length ≤ 2 := lim_le (by show x.natAbs < 4294967296 ^ 2; omega)
  exact br_SetInt g b x A n c (by omega) w' (HR.out.ext he) hI
 clear hr
 go_enter Tryz.func76, Tryz.ntmps76
 go_wp2_with (first
  | (go_at_call 70; (with_reducible refine (bi_NewInt x h1 h2 _).mono ?_); rintro e w1 ⟨p1, P1, k1, l1, rfl, hI1, hp1, xb1⟩)
  | (go_at_call 68; (with_reducible refine (kS _ _ _ _ _ xb1 hI1.out.1).mono ?_); rintro e w9 ⟨rfl, A9, n9, c9, D9, m9, k9, hI9, xt9⟩)
  )
 refine bodyPost_ret (v := .pointer (some ⟨g, 0, none⟩)) ?h rfl ⟨rfl, A9, n9, c9, D9, m9, k9, ⟨hI9.out.1, hI9.out.2.1.mono xb1, hI9.out.2.2.mono xb1⟩, (Tch.of xb1).trans xt9⟩
 case h => simp [results, Tryz.results76, go_sem]
end Go.Proofs.YtfdmhefjmnlllaaGreatDoor
end
section
/- Fractions of the library's: their texts; turned over. -/
namespace Go.Proofs.YtfdmhefjmnlllaaGreatDoor
open Go.RowKit
attribute [local go_sem] bs_size bs_extract bs_get bs_append bs_toList const_get
attribute [local go_sem] sz2 sz3 sz4 sz5 sz6 sz7 sz8
set_option maxHeartbeats 4000000
set_option maxRecDepth 100000
def rtext (z : Int) (d : Nat) : List UInt8 := if d = 1 then itext z else itext z ++ 47 :: dtext d
theorem itext_nat (d : Nat) : itext ((d : Nat) : Int) = dtext d := by
 unfold itext; rw [if_neg (by omega), Int.natAbs_natCast]; rfl
attribute [local irreducible] Calls
theorem br_IsInt (g : Nat) (z : Int) (A : Option Addr) (n c d : Nat) (D : Option Addr) (m e : Nat) (w : World) (hx : RatIs w g z A n c d D m e) :
  Calls Tryz.prog 101 #[.pointer (some ⟨g, 0, none⟩)] w fun e' w' => e' = .returned (.bool (decide (denOf d = 1))) ∧ Ext w w' := by
 have c2 := hx.c2
 have hl := hx.int.room.lt
 have hmd := hx.rd.len
 have hcap := hx.rd.cap
 have hmx := hx.rd.mx
 have HR := Lib.hid hx.rd
 clear hx
 by_cases h0 : d = 0
 ·subst h0
  rw [lim_zero] at hmd
  simp at hmd
  subst hmd
  have e1 : decide (denOf 0 = 1) = true := rfl
  rw [e1]
  clear e1
  go_enter Tryz.func101, Tryz.ntmps101
  go_wp2
  refine bodyPost_ret (v := .bool true) ?h rfl ⟨rfl, ?_⟩
  case h => simp [results, Tryz.results101, go_sem]
  exact xcl
 ·have e1 : denOf d = d := by unfold denOf; rw [if_neg h0]
  rw [e1]
  by_cases h1 : m = 1
  ·subst h1
   obtain ⟨bb, off, rfl⟩ : ∃ bb off, D = some ⟨bb, off, none⟩ := by
    rcases HR.out.shape with ⟨_, h, _⟩ | h
    ·omega
    ·exact h
   obtain ⟨y, hy, hyb, hc⟩ := HR.out.get 0 (by omega)
   have hdy : d = y := by
    have h2 : d < Bs := by have := lim_lt d; rw [hmd, Nat.pow_one] at this; exact this
    have h3 := hy.out
    rw [lim_pos h0] at h3
    rw [← h3]
    exact (Nat.mod_eq_of_lt h2).symm
   subst hdy
   rw [Nat.add_zero] at hc
   have hbl : bb < w.heap.size := World.block_lt_of_cell? w _ hc
   clear e1 hmd
   by_cases hd1 : d = 1
   ·subst hd1
    go_enter Tryz.func101, Tryz.ntmps101
    go_wp2
    refine bodyPost_ret (v := .bool true) ?h rfl ⟨rfl, ?_⟩
    case h => simp [results, Tryz.results101, go_sem]
    exact xcl
   ·rw [decide_eq_false hd1]
    have hne : ((d : Int) == 1) = false := by rw [beq_eq_false_iff_ne]; omega
    go_enter Tryz.func101, Tryz.ntmps101
    go_wp2
    refine bodyPost_ret (v := .bool false) ?h rfl ⟨rfl, ?_⟩
    case h => simp [results, Tryz.results101, go_sem]
    exact xcl
  ·have hd1 : d ≠ 1 := by
    intro e; subst e
    have : (lim 1).length = 1 := by kernel_rfl
    omega
   have hm0 : m ≠ 0 := by
    intro e; subst e
    exact h0 (lim_nil.1 (List.eq_nil_of_length_eq_zero hmd))
   rw [decide_eq_false hd1]
   have hne0 : ((m : Int) == 0) = false := by rw [beq_eq_false_iff_ne]; omega
   have hne1 : ((m : Int) == 1) = false := by rw [beq_eq_false_iff_ne]; omega
   clear e1 hmd
   go_enter Tryz.func101, Tryz.ntmps101
   go_wp2
   refine bodyPost_ret (v := .bool false) ?h rfl ⟨rfl, ?_⟩
   case h => simp [results, Tryz.results101, go_sem]
   exact xcl
theorem br_String (g : Nat) (z : Int) (A : Option Addr) (n c d : Nat) (D : Option Addr) (m e : Nat) (hn : n ≤ 18000) (hm : m ≤ 18000) (w : World) (hx : RatIs w g z A n c d D m e) :
  Calls Tryz.prog 103 #[.pointer (some ⟨g, 0, none⟩)] w fun e' w' => e' = .returned (.string (bs (itext z ++ 47 :: dtext (denOf d)))) ∧ Ext w w' := by
 have HX := Lib.hid hx
 have hl := hx.int.room.lt
 have k1 := bi_String g z A n c (by omega) w hx.int
 have k2 : ∀ w', Ext w w' → Calls Tryz.prog 43 #[.pointer (some ⟨g, 0, none⟩)] w' (NPost w' (denOf d : Nat)) := fun w' he => br_Denom g z A n c d D m e (by omega) w' (HX.out.ext he)
 have k3 : ∀ (b : Nat) (B : Option Addr) (k l : Nat) (w' : World), IntIs w' b 0 (denOf d : Nat) B k l → Calls Tryz.prog 102 #[.pointer (some ⟨b, 0, none⟩)] w' fun e' w'' => e' = .returned (.string (bs (dtext (denOf d)))) ∧ Ext w' w'' := fun b B k l w' hI => by
  have h1 := hI.rd.len
  have h2 := denOf_len hx.rd.len
  rw [Int.natAbs_natCast] at h1
  have := bi_String b (denOf d : Nat) B k l (by omega) w' hI
  rwa [itext_nat] at this
 have l1 : (itext z).length ≤ 600002 := by
  have h1 := hx.int.rd.len
  unfold itext dtext
  rw [List.length_append]
  have h2 : (digs z.natAbs).length ≤ 32 * 18000 := digs_lim' (k := 18000) (by omega)
  split <;> split <;> simp <;> omega
 have l2 : (dtext (denOf d)).length ≤ 600002 := by
  have h1 := denOf_len hx.rd.len
  unfold dtext
  have h2 : (digs (denOf d)).length ≤ 32 * 18001 := digs_lim' (k := 18001) (by omega)
  split
  ·simp
  ·omega
 clear hx
 generalize itext z = a at *
 generalize dtext (denOf d) = b at *
 go_enter Tryz.func103, Tryz.ntmps103
 go_wp2_with (first
  | (go_at_call 102; (with_reducible refine k1.mono ?_); rintro e' w1 ⟨rfl, xb1⟩)
  | (go_at_call 43; (with_reducible refine (k2 _ xb1).mono ?_); rintro e w2 ⟨b2, B2, n2, c2, rfl, hI2, hb2, xb2⟩; obtain ⟨xc2, xf2, xl2, xz2⟩ := jU xb2; (try simp at xz2))
  | (go_at_call 102; (with_reducible refine (k3 _ _ _ _ _ hI2.out.1).mono ?_); rintro e' w3 ⟨rfl, xb3⟩)
  )
 have e1 : bs a ++ ({ data := #[47] } : ByteArray) ++ bs b = bs (a ++ 47 :: b) := by
  show bs a ++ bs [47] ++ bs b = _
  rw [bs_append, bs_append, List.append_assoc]; rfl
 refine bodyPost_ret (v := .string (bs (a ++ 47 :: b))) ?h rfl ⟨rfl, jT xb1 (jT xb2 xb3)⟩
 case h => simp [results, Tryz.results103, go_sem, e1]
theorem br_RatString (g : Nat) (z : Int) (A : Option Addr) (n c d : Nat) (D : Option Addr) (m e : Nat) (hn : n ≤ 18000) (hm : m ≤ 18000) (w : World) (hx : RatIs w g z A n c d D m e) :
  Calls Tryz.prog 52 #[.pointer (some ⟨g, 0, none⟩)] w fun e' w' => e' = .returned (.string (bs (rtext z (denOf d)))) ∧ Ext w w' := by
 have HX := Lib.hid hx
 have hl := hx.int.room.lt
 have k1 := br_IsInt g z A n c d D m e w hx
 have k2 : ∀ w', Ext w w' → Calls Tryz.prog 102 #[.pointer (some ⟨g, 0, none⟩)] w' fun e' w'' => e' = .returned (.string (bs (itext z))) ∧ Ext w' w'' := fun w' he => bi_String g z A n c (by omega) w' (HX.out.ext he).int
 have k3 : ∀ w', Ext w w' → Calls Tryz.prog 103 #[.pointer (some ⟨g, 0, none⟩)] w' fun e' w'' => e' = .returned (.string (bs (itext z ++ 47 :: dtext (denOf d)))) ∧ Ext w' w'' := fun w' he => br_String g z A n c d D m e hn hm w' (HX.out.ext he)
 clear hx
 by_cases h1 : denOf d = 1
 ·rw [decide_eq_true h1] at k1
  have e1 : rtext z (denOf d) = itext z := by unfold rtext; rw [if_pos h1]
  rw [e1]
  clear h1 e1 k3
  generalize itext z = a at *
  go_enter Tryz.func52, Tryz.ntmps52
  go_wp2_with (first
   | (go_at_call 101; (with_reducible refine (k1).mono ?_); rintro e w1 ⟨rfl, xb1⟩; obtain ⟨xc1, xf1, xl1, xz1⟩ := jU xb1; (try simp at xz1))
   | (go_at_call 102; (with_reducible refine (k2 _ xb1).mono ?_); rintro e w2 ⟨rfl, xb2⟩; obtain ⟨xc2, xf2, xl2, xz2⟩ := jU xb2; (try simp at xz2))
   )
  refine bodyPost_ret (v := .string (bs a)) ?h rfl ⟨rfl, jT xb1 xb2⟩
  case h => simp [results, Tryz.results52, go_sem]
 ·rw [decide_eq_false h1] at k1
  have e1 : rtext z (denOf d) = itext z ++ 47 :: dtext (denOf d) := by unfold rtext; rw [if_neg h1]
  rw [e1]
  clear h1 e1 k2
  generalize itext z ++ 47 :: dtext (denOf d) = a at *
  go_enter Tryz.func52, Tryz.ntmps52
  go_wp2_with (first
   | (go_at_call 101; (with_reducible refine (k1).mono ?_); rintro e w1 ⟨rfl, xb1⟩; obtain ⟨xc1, xf1, xl1, xz1⟩ := jU xb1; (try simp at xz1))
   | (go_at_call 103; (with_reducible refine (k3 _ xb1).mono ?_); rintro e w2 ⟨rfl, xb2⟩; obtain ⟨xc2, xf2, xl2, xz2⟩ := jU xb2; (try simp at xz2))
   )
  refine bodyPost_ret (v := .string (bs a)) ?h rfl ⟨rfl, jT xb1 xb2⟩
  case h => simp [results, Tryz.results52, go_sem]
end Go.Proofs.YtfdmhefjmnlllaaGreatDoor
end
section
/- Fractions of the library's: the order. -/
namespace Go.Proofs.YtfdmhefjmnlllaaGreatDoor
open Go.RowKit
attribute [local go_sem] sz2 sz3 sz4 sz5 sz6 sz7 sz8
set_option maxHeartbeats 4000000
set_option maxRecDepth 100000
attribute [local irreducible] Calls
attribute [local go_sem] D2.Oper.detAt D2.detUpon D2.relUpon
theorem br_Cmp_far (bx b2 : Nat) (x y : Int) (p q : Nat) (h : x.sign ≠ y.sign) (A : Option Addr) (n c : Nat) (D : Option Addr) (m e : Nat) (B : Option Addr) (n2 c2 : Nat) (C : Option Addr) (m2 e2 : Nat)
  (w : World) (hx : RatIs w bx x A n c p D m e) (hy : RatIs w b2 y B n2 c2 q C m2 e2) :
  Calls Tryz.prog 77 #[.pointer (some ⟨bx, 0, none⟩), .pointer (some ⟨b2, 0, none⟩)] w
   fun e w' => e = .returned (.int .i64 (x * (denOf q : Int) - y * (denOf p : Int)).sign) ∧ Ext w w' := by
 have kX : ∀ w', Ext w w' → Calls Tryz.prog 66 #[.pointer (some ⟨bx, 0, none⟩)] w' fun e w'' => e = .returned (.int .i64 x.sign) ∧ Ext w' w'' := fun w' he => br_Sign _ _ _ _ _ w' (hx.int.ext he)
 have kY : ∀ w', Ext w w' → Calls Tryz.prog 66 #[.pointer (some ⟨b2, 0, none⟩)] w' fun e w'' => e = .returned (.int .i64 y.sign) ∧ Ext w' w'' := fun w' he => br_Sign _ _ _ _ _ w' (hy.int.ext he)
 rw [rcmp_far (denOf_ne p) (denOf_ne q) h]
 have hb : (x.sign == y.sign) = false := by rw [beq_eq_false_iff_ne]; exact h
 have hgt : ¬ x.sign < y.sign → y.sign < x.sign := by omega
 generalize x.sign = X at *
 generalize y.sign = Y at *
 clear hx hy h
 by_cases hlt : X < Y
 ·rw [if_pos hlt]
  clear hgt
  go_enter Tryz.func77, Tryz.ntmps77
  go_wp2_with (first
   | (go_at_call 66; (with_reducible refine (kX _ xcl).mono ?_); rintro e w1 ⟨rfl, xb1⟩)
   | (go_at_call 66; (with_reducible refine (kY _ xcl).mono ?_); rintro e w2 ⟨rfl, xb2⟩)
   | (go_at_call 66; (with_reducible refine (kX _ xcl).mono ?_); rintro e w3 ⟨rfl, xb3⟩)
   | (go_at_call 66; (with_reducible refine (kY _ xcl).mono ?_); rintro e w4 ⟨rfl, xb4⟩)
   )
  refine bodyPost_ret (v := .int .i64 (-1)) ?h rfl ⟨rfl, ?_⟩
  case h => simp [results, Tryz.results77, go_sem]
  exact xcl
 ·rw [if_neg hlt]
  have hgt := hgt hlt
  go_enter Tryz.func77, Tryz.ntmps77
  go_wp2_with (first
   | (go_at_call 66; (with_reducible refine (kX _ xcl).mono ?_); rintro e w1 ⟨rfl, xb1⟩)
   | (go_at_call 66; (with_reducible refine (kY _ xcl).mono ?_); rintro e w2 ⟨rfl, xb2⟩)
   )
  refine bodyPost_ret (v := .int .i64 1) ?h rfl ⟨rfl, ?_⟩
  case h => simp [results, Tryz.results77, go_sem]
  exact xcl
theorem br_Cmp_nil (bx b2 : Nat) (x y : Int) (p q : Nat) (h1 : x = 0) (h2 : y = 0) (A : Option Addr) (n c : Nat) (D : Option Addr) (m e : Nat) (B : Option Addr) (n2 c2 : Nat) (C : Option Addr) (m2 e2 : Nat)
  (w : World) (hx : RatIs w bx x A n c p D m e) (hy : RatIs w b2 y B n2 c2 q C m2 e2) :
  Calls Tryz.prog 77 #[.pointer (some ⟨bx, 0, none⟩), .pointer (some ⟨b2, 0, none⟩)] w
   fun e w' => e = .returned (.int .i64 (x * (denOf q : Int) - y * (denOf p : Int)).sign) ∧ Ext w w' := by
 rw [rcmp_nil h1 h2]
 subst h1; subst h2
 have kX : ∀ w', Ext w w' → Calls Tryz.prog 66 #[.pointer (some ⟨bx, 0, none⟩)] w' fun e w'' => e = .returned (.int .i64 0) ∧ Ext w' w'' := fun w' he => br_Sign _ _ _ _ _ w' (hx.int.ext he)
 have kY : ∀ w', Ext w w' → Calls Tryz.prog 66 #[.pointer (some ⟨b2, 0, none⟩)] w' fun e w'' => e = .returned (.int .i64 0) ∧ Ext w' w'' := fun w' he => br_Sign _ _ _ _ _ w' (hy.int.ext he)
 clear hx hy
 go_enter Tryz.func77, Tryz.ntmps77
 go_wp2_with (first
  | (go_at_call 66; (with_reducible refine (kX _ xcl).mono ?_); rintro e w1 ⟨rfl, xb1⟩)
  | (go_at_call 66; (with_reducible refine (kY _ xcl).mono ?_); rintro e w2 ⟨rfl, xb2⟩)
  )
 refine bodyPost_ret (v := .int .i64 0) ?h rfl ⟨rfl, ?_⟩
 case h => simp [results, Tryz.results77, go_sem]
 exact xcl
theorem br_Cmp_near (bx b2 : Nat) (x y : Int) (p q : Nat) (h : x.sign = y.sign) (h0 : x ≠ 0) (A : Option Addr) (n c : Nat) (D : Option Addr) (m e : Nat) (B : Option Addr) (n2 c2 : Nat) (C : Option Addr) (m2 e2 : Nat)
  (hn : n ≤ 100000) (hm : m ≤ 100000) (hn2 : n2 ≤ 100000) (hm2 : m2 ≤ 100000) (w : World) (hx : RatIs w bx x A n c p D m e) (hy : RatIs w b2 y B n2 c2 q C m2 e2) :
  Calls Tryz.prog 77 #[.pointer (some ⟨bx, 0, none⟩), .pointer (some ⟨b2, 0, none⟩)] w
   fun e w' => e = .returned (.int .i64 (x * (denOf q : Int) - y * (denOf p : Int)).sign) ∧ Ext w w' := by
 have HX := Lib.hid hx
 have HY := Lib.hid hy
 have lx := hx.int.room.lt
 have x0 := hx.int.neg
 have x1 := hx.int.words
 have ly := hy.int.room.lt
 have y1 := hy.int.words
 simp only [Nat.zero_add] at x1 y1
 have kX : ∀ w', Ext w w' → Calls Tryz.prog 66 #[.pointer (some ⟨bx, 0, none⟩)] w' fun e w'' => e = .returned (.int .i64 x.sign) ∧ Ext w' w'' := fun w' he => br_Sign _ _ _ _ _ w' (hx.int.ext he)
 have kY : ∀ w', Ext w w' → Calls Tryz.prog 66 #[.pointer (some ⟨b2, 0, none⟩)] w' fun e w'' => e = .returned (.int .i64 x.sign) ∧ Ext w' w'' := fun w' he => by rw [h]; exact br_Sign _ _ _ _ _ w' (hy.int.ext he)
 have dl := den_len hx hm (by decide)
 have dl2 := den_len hy hm2 (by decide)
 have bX : ∀ w', Ext w w' → Calls Tryz.prog 90 #[.pointer (some ⟨bx, 0, none⟩)] w' fun e' w'' => ∃ (B : Option Addr) (k l : Nat), e' = .returned (.slice B k l) ∧ Hid (Rd w'' B k l (lim (denOf p))) ∧ Ext w' w'' := fun w' he => (br_below _ _ _ _ _ _ _ _ _ w' (HX.out.ext he)).mono fun _ _ ⟨B, k, l, h1, h2, h3⟩ => ⟨B, k, l, h1, h2.out.1, h3⟩
 have bY : ∀ w', Ext w w' → Calls Tryz.prog 90 #[.pointer (some ⟨b2, 0, none⟩)] w' fun e' w'' => ∃ (B : Option Addr) (k l : Nat), e' = .returned (.slice B k l) ∧ Hid (Rd w'' B k l (lim (denOf q))) ∧ Ext w' w'' := fun w' he => (br_below _ _ _ _ _ _ _ _ _ w' (HY.out.ext he)).mono fun _ _ ⟨B, k, l, h1, h2, h3⟩ => ⟨B, k, l, h1, h2.out.1, h3⟩
 have mX : ∀ P1 k l w', Ext w w' → Rd w' P1 k l (lim (denOf q)) → Calls Tryz.prog 121 #[.slice A n c, .slice P1 k l] w' (WPost w' (x.natAbs * denOf q)) := fun P1 k l w' he h1 => bw_mulA A P1 n c k l _ _ (by have := h1.len; omega) w' (HX.out.int.rd.ext he) h1
 have mY : ∀ P1 k l w', Ext w w' → Rd w' P1 k l (lim (denOf p)) → Calls Tryz.prog 121 #[.slice B n2 c2, .slice P1 k l] w' (WPost w' (y.natAbs * denOf p)) := fun P1 k l w' he h1 => bw_mulA B P1 n2 c2 k l _ _ (by have := h1.len; omega) w' (HY.out.int.rd.ext he) h1
 have hs0 : (x.sign == 0) = false := by
  rw [beq_eq_false_iff_ne]; intro h2; exact h0 (Int.sign_eq_zero_iff_zero.1 h2)
 generalize denOf p = p at *
 generalize denOf q = q at *
 rw [rcmp_near h h0]
 have hwr := wrap_neg_cmp (x.natAbs * q) (y.natAbs * p)
 have hcm : ∀ P1 k1 l1 Q1 k2 l2 w', Rd w' P1 k1 l1 (lim (x.natAbs * q)) → Rd w' Q1 k2 l2 (lim (y.natAbs * p)) → Calls Tryz.prog 120 #[.slice P1 k1 l1, .slice Q1 k2 l2] w' fun e w'' => e = .returned (.int .i64 (cmpN (x.natAbs * q) (y.natAbs * p))) ∧ Ext w' w'' := fun P1 k1 l1 Q1 k2 l2 w' h1 h2 => bw_cmp P1 Q1 k1 l1 k2 l2 _ _ w' h1 h2
 clear hx hy h h0
 generalize x.natAbs * q = U at *
 generalize y.natAbs * p = V at *
 generalize cmpN U V = K at *
 generalize x.sign = X at *
 by_cases hneg : x < 0
 ·rw [if_pos hneg]
  rw [decide_eq_true hneg] at x0
  go_enter Tryz.func77, Tryz.ntmps77
  go_upto_region 7 with (first
   | (go_at_call 66; (with_reducible refine (kX _ (jT xb1 xb2)).mono ?_); rintro e w3 ⟨rfl, xb3⟩)
   | (go_at_call 66; (with_reducible refine (kX _ xcl).mono ?_); rintro e w1 ⟨rfl, xb1⟩)
   | (go_at_call 66; (with_reducible refine (kY _ xcl).mono ?_); rintro e w2 ⟨rfl, xb2⟩)
   )
  have hE3 : Hid (Ext w w3) := by show Ext w w3; exact xcl
  have x0' := (Below.cell (p := ⟨bx, 0, none⟩) hE3.out lx).trans x0
  have x1' := (Below.cell (p := ⟨bx, 1, none⟩) hE3.out lx).trans x1
  have y1' := (Below.cell (p := ⟨b2, 1, none⟩) hE3.out ly).trans y1
  have lx' := ext_lt hE3.out bx lx
  have ly' := ext_lt hE3.out b2 ly
  clear kX kY xb1 xb2 xb3
  refine D2.wp_drawn_tail 16 (D2.tab [(6, D2.RRow q), (7, RWord w3.heap.size U), (14, D2.RRow p), (15, RWord w3.heap.size V)]) (by kernel_rfl) (by kernel_rfl) (by kernel_rfl) (D2.tab_stays (by simp [D2.stays_row, D2.stays_word])) (fun hq hqf => ?_)
  simp only [List.take_succ_cons, List.take_zero, List.drop_succ_cons, List.drop_zero]
  have z1 := fun nq => (hq nq bx 1 lx').trans x1'
  have z3 := fun nq => (hq nq b2 1 ly').trans y1'
  iterate 6
   (refine D2.wpK_det rfl (fun K hK => ?_)
    go_simp
    first
     | (refine hK _ ?_; clear hK K)
     | (apply Exists.intro; refine ⟨fun x => ?_, hK _ ?_⟩; (first | exact z1 x | exact z3 x); clear hK K))
  refine D2.wpK_rel _ rfl rfl ?_ ?_
  ·rintro _ ⟨nn, rfl⟩ _
   unfold D2.Oper.relAt
   go_simp
   exact D2.rel_row (bY _ (jT hE3.out nn.use))
  rintro v ⟨_, ⟨nn, rfl⟩, hr⟩
  obtain ⟨A5, k5, c5, rfl, -⟩ := hr
  clear nn
  refine D2.wpK_rel _ rfl rfl ?_ ?_
  ·rintro _ ⟨nn, rfl⟩ hdep
   have q1 := hdep 6 (by kernel_rfl)
   simp only [D2.Facts.put] at q1
   have q2 := D2.row_at (vals := []) q1
   unfold D2.Oper.relAt
   go_simp
   exact D2.rel_wpost (ext_size nn.use) (mX _ _ _ _ (jT hE3.out nn.use) q2)
  rintro v ⟨_, ⟨nn, rfl⟩, hr⟩
  obtain ⟨A6, k6, c6, rfl, -, -⟩ := hr
  clear nn
  iterate 6
   (refine D2.wpK_det rfl (fun K hK => ?_)
    go_simp
    first
     | (refine hK _ ?_; clear hK K)
     | (apply Exists.intro; refine ⟨fun x => ?_, hK _ ?_⟩; (first | exact z1 x | exact z3 x); clear hK K))
  refine D2.wpK_rel _ rfl rfl ?_ ?_
  ·rintro _ ⟨nn, rfl⟩ _
   unfold D2.Oper.relAt
   go_simp
   exact D2.rel_row (bX _ (jT hE3.out nn.use))
  rintro v ⟨_, ⟨nn, rfl⟩, hr⟩
  obtain ⟨A7, k7, c7, rfl, -⟩ := hr
  clear nn
  refine D2.wpK_rel _ rfl rfl ?_ ?_
  ·rintro _ ⟨nn, rfl⟩ hdep
   have q1 := hdep 14 (by kernel_rfl)
   simp only [D2.Facts.put] at q1
   have q2 := D2.row_at (vals := []) q1
   unfold D2.Oper.relAt
   go_simp
   exact D2.rel_wpost (ext_size nn.use) (mY _ _ _ _ (jT hE3.out nn.use) q2)
  rintro v ⟨_, ⟨nn, rfl⟩, hr⟩
  obtain ⟨A8, k8, c8, rfl, -, -⟩ := hr
  clear nn
  refine D2.wpK_nil ?_
  intro nq hG
  have r6 : RWord w3.heap.size U [] (.slice A6 k6 c6) nq.out := by have := hG.fact 7; simp [D2.Facts.put] at this; exact this
  have r8 : RWord w3.heap.size V [] (.slice A8 k8 c8) nq.out := by have := hG.fact 15; simp [D2.Facts.put] at this; exact this
  have hR6 := Lib.hid (rword_at r6)
  have hR8 := Lib.hid (rword_at r8)
  have hE := Lib.hid (jT hE3.out nq.use)
  have x0q := (Below.cell (p := ⟨bx, 0, none⟩) nq.use lx').trans x0'
  have lxq := ext_lt nq.use bx lx'
  clear r6 r8 hG
  go_wp2_with (first
   | (go_at_call 120; (with_reducible refine (hcm _ _ _ _ _ _ _ hR6.out.1 hR8.out.1).mono ?_); rintro e w9 ⟨rfl, xb9⟩; obtain ⟨xc9, xf9, xl9, xz9⟩ := jU xb9; (try simp at xz9); obtain ⟨l9_0, r9_0, f9_0, r9_0_1, f9_0_1⟩ := kq2 xb9 (bx))
   )
  refine bodyPost_ret (v := .int .i64 (-K)) ?h rfl ⟨rfl, jT hE.out xb9⟩
  case h => simp [results, Tryz.results77, go_sem]
 ·rw [if_neg hneg]
  rw [decide_eq_false hneg] at x0
  go_enter Tryz.func77, Tryz.ntmps77
  go_upto_region 7 with (first
   | (go_at_call 66; (with_reducible refine (kX _ (jT xb1 xb2)).mono ?_); rintro e w3 ⟨rfl, xb3⟩)
   | (go_at_call 66; (with_reducible refine (kX _ xcl).mono ?_); rintro e w1 ⟨rfl, xb1⟩)
   | (go_at_call 66; (with_reducible refine (kY _ xcl).mono ?_); rintro e w2 ⟨rfl, xb2⟩)
   )
  have hE3 : Hid (Ext w w3) := by show Ext w w3; exact xcl
  have x0' := (Below.cell (p := ⟨bx, 0, none⟩) hE3.out lx).trans x0
  have x1' := (Below.cell (p := ⟨bx, 1, none⟩) hE3.out lx).trans x1
  have y1' := (Below.cell (p := ⟨b2, 1, none⟩) hE3.out ly).trans y1
  have lx' := ext_lt hE3.out bx lx
  have ly' := ext_lt hE3.out b2 ly
  clear kX kY xb1 xb2 xb3
  refine D2.wp_drawn_tail 16 (D2.tab [(6, D2.RRow q), (7, RWord w3.heap.size U), (14, D2.RRow p), (15, RWord w3.heap.size V)]) (by kernel_rfl) (by kernel_rfl) (by kernel_rfl) (D2.tab_stays (by simp [D2.stays_row, D2.stays_word])) (fun hq hqf => ?_)
  simp only [List.take_succ_cons, List.take_zero, List.drop_succ_cons, List.drop_zero]
  have z1 := fun nq => (hq nq bx 1 lx').trans x1'
  have z3 := fun nq => (hq nq b2 1 ly').trans y1'
  iterate 6
   (refine D2.wpK_det rfl (fun K hK => ?_)
    go_simp
    first
     | (refine hK _ ?_; clear hK K)
     | (apply Exists.intro; refine ⟨fun x => ?_, hK _ ?_⟩; (first | exact z1 x | exact z3 x); clear hK K))
  refine D2.wpK_rel _ rfl rfl ?_ ?_
  ·rintro _ ⟨nn, rfl⟩ _
   unfold D2.Oper.relAt
   go_simp
   exact D2.rel_row (bY _ (jT hE3.out nn.use))
  rintro v ⟨_, ⟨nn, rfl⟩, hr⟩
  obtain ⟨A5, k5, c5, rfl, -⟩ := hr
  clear nn
  refine D2.wpK_rel _ rfl rfl ?_ ?_
  ·rintro _ ⟨nn, rfl⟩ hdep
   have q1 := hdep 6 (by kernel_rfl)
   simp only [D2.Facts.put] at q1
   have q2 := D2.row_at (vals := []) q1
   unfold D2.Oper.relAt
   go_simp
   exact D2.rel_wpost (ext_size nn.use) (mX _ _ _ _ (jT hE3.out nn.use) q2)
  rintro v ⟨_, ⟨nn, rfl⟩, hr⟩
  obtain ⟨A6, k6, c6, rfl, -, -⟩ := hr
  clear nn
  iterate 6
   (refine D2.wpK_det rfl (fun K hK => ?_)
    go_simp
    first
     | (refine hK _ ?_; clear hK K)
     | (apply Exists.intro; refine ⟨fun x => ?_, hK _ ?_⟩; (first | exact z1 x | exact z3 x); clear hK K))
  refine D2.wpK_rel _ rfl rfl ?_ ?_
  ·rintro _ ⟨nn, rfl⟩ _
   unfold D2.Oper.relAt
   go_simp
   exact D2.rel_row (bX _ (jT hE3.out nn.use))
  rintro v ⟨_, ⟨nn, rfl⟩, hr⟩
  obtain ⟨A7, k7, c7, rfl, -⟩ := hr
  clear nn
  refine D2.wpK_rel _ rfl rfl ?_ ?_
  ·rintro _ ⟨nn, rfl⟩ hdep
   have q1 := hdep 14 (by kernel_rfl)
   simp only [D2.Facts.put] at q1
   have q2 := D2.row_at (vals := []) q1
   unfold D2.Oper.relAt
   go_simp
   exact D2.rel_wpost (ext_size nn.use) (mY _ _ _ _ (jT hE3.out nn.use) q2)
  rintro v ⟨_, ⟨nn, rfl⟩, hr⟩
  obtain ⟨A8, k8, c8, rfl, -, -⟩ := hr
  clear nn
  refine D2.wpK_nil ?_
  intro nq hG
  have r6 : RWord w3.heap.size U [] (.slice A6 k6 c6) nq.out := by have := hG.fact 7; simp [D2.Facts.put] at this; exact this
  have r8 : RWord w3.heap.size V [] (.slice A8 k8 c8) nq.out := by have := hG.fact 15; simp [D2.Facts.put] at this; exact this
  have hR6 := Lib.hid (rword_at r6)
  have hR8 := Lib.hid (rword_at r8)
  have hE := Lib.hid (jT hE3.out nq.use)
  have x0q := (Below.cell (p := ⟨bx, 0, none⟩) nq.use lx').trans x0'
  have lxq := ext_lt nq.use bx lx'
  clear r6 r8 hG
  go_wp2_with (first
   | (go_at_call 120; (with_reducible refine (hcm _ _ _ _ _ _ _ hR6.out.1 hR8.out.1).mono ?_); rintro e w9 ⟨rfl, xb9⟩; obtain ⟨xc9, xf9, xl9, xz9⟩ := jU xb9; (try simp at xz9); obtain ⟨l9_0, r9_0, f9_0, r9_0_1, f9_0_1⟩ := kq2 xb9 (bx))
   )
  refine bodyPost_ret (v := .int .i64 K) ?h rfl ⟨rfl, jT hE.out xb9⟩
  case h => simp [results, Tryz.results77, go_sem]
theorem br_Cmp (bx b2 : Nat) (x y : Int) (p q : Nat) (A : Option Addr) (n c : Nat) (D : Option Addr) (m e : Nat) (B : Option Addr) (n2 c2 : Nat) (C : Option Addr) (m2 e2 : Nat)
  (hn : n ≤ 100000) (hm : m ≤ 100000) (hn2 : n2 ≤ 100000) (hm2 : m2 ≤ 100000) (w : World) (hx : RatIs w bx x A n c p D m e) (hy : RatIs w b2 y B n2 c2 q C m2 e2) :
  Calls Tryz.prog 77 #[.pointer (some ⟨bx, 0, none⟩), .pointer (some ⟨b2, 0, none⟩)] w
   fun e w' => e = .returned (.int .i64 (x * (denOf q : Int) - y * (denOf p : Int)).sign) ∧ Ext w w' := by
 by_cases h : x.sign = y.sign
 ·by_cases h0 : x = 0
  ·have hy0 : y = 0 := by rw [h0] at h; exact Int.sign_eq_zero_iff_zero.1 h.symm
   exact br_Cmp_nil bx b2 x y p q h0 hy0 A n c D m e B n2 c2 C m2 e2 w hx hy
  ·exact br_Cmp_near bx b2 x y p q h h0 A n c D m e B n2 c2 C m2 e2 hn hm hn2 hm2 w hx hy
 ·exact br_Cmp_far bx b2 x y p q h A n c D m e B n2 c2 C m2 e2 w hx hy
end Go.Proofs.YtfdmhefjmnlllaaGreatDoor
end
section
/- The program's fractions: sums, products, order. -/
namespace Go.Proofs.YtfdmhefjmnlllaaGreatDoor
open Go.RowKit
attribute [local go_sem] sz2 sz3 sz4 sz5 sz6 sz7 sz8
set_option maxHeartbeats 4000000
set_option maxRecDepth 100000
attribute [local irreducible] Calls
theorem run_makeFunc'' (P : Program) (fn : Fn) (first cap : Array Value) (w : World) : (Instr.makeFunc fn first cap).run P w = .ok (.func fn first cap) w := rfl
attribute [local go_sem] run_makeFunc''
theorem tch_set3 {g : Nat} {w W : World} (h : Tch g w W) {b : Nat} (hb : w.heap.size ≤ b) (v0 v1 v2 : Value) : Tch g w (((W.setCell ⟨b, 0, none⟩ v0).setCell ⟨b, 1, none⟩ v1).setCell ⟨b, 2, none⟩ v2) := by
 have one : ∀ {U : World} (o : Nat) (v : Value), Tch g w U → Tch g w (U.setCell ⟨b, o, none⟩ v) := fun o v h =>
  ⟨h.os, h.tape, h.output, by simpa using h.size, fun i hi hg => (Below.heap_setCell _ ⟨b, o, none⟩ v i (by simp only; omega)).trans (h.block i hi hg)⟩
 exact one 2 v2 (one 1 v1 (one 0 v0 h))
abbrev OPost (g : Nat) (w : World) (z : Int) (d : Nat) : Ending → World → Prop := fun e w' => ∃ (A : Option Addr) (n c : Nat) (D : Option Addr) (m k : Nat), e = .returned (.tuple #[ratV (decide (z < 0)) A n c D m k, .int .i64 0]) ∧
 Hid (RdO w' A n c (lim z.natAbs) none ∧ Fr w A ∧ RdO w' D m k (lim d) A ∧ Fr w D) ∧ Tch g w w'
theorem ra_of_Add (g : Nat) (zn : Int) (zd : Nat) (hz1 : (lim zn.natAbs).length ≤ 16384) (hz2 : (lim zd).length ≤ 16384) (hz3 : (lim (denOf zd)).length ≤ 16384)
  (neg : Bool) (A : Option Addr) (n c a : Nat) (D : Option Addr) (m k d : Nat) (hd : d ≠ 0) (hn : n ≤ 16384) (hm : m ≤ 16384) (hg : Nat.gcd a d = 1) (hng : neg = true → a ≠ 0)
  (neg2 : Bool) (B : Option Addr) (n2 c2 b : Nat) (C : Option Addr) (m2 k2 q : Nat) (hq : q ≠ 0) (hn2 : n2 ≤ 16384) (hm2 : m2 ≤ 16384) (hg2 : Nat.gcd b q = 1) (hng2 : neg2 = true → b ≠ 0)
  (w : World) (hT : Tz w) (hr : RatRoom w g) (hA : Rd w A n c (lim a)) (hD : Rd w D m k (lim d)) (hB : Rd w B n2 c2 (lim b)) (hC : Rd w C m2 k2 (lim q))
  (hop : ∀ bx X n' c' Y m' k' b2 X2 n2' c2' Y2 m2' k2' w', Ext w w' → RatIs w' bx (sgn neg a) X n' c' (lowD a d) Y m' k' → RatIs w' b2 (sgn neg2 b) X2 n2' c2' (lowD b q) Y2 m2' k2' → Off Y m' g → Off Y2 m2' g → Calls Tryz.prog 39 #[.pointer (some ⟨g, 0, none⟩), .pointer (some ⟨bx, 0, none⟩), .pointer (some ⟨b2, 0, none⟩)] w' (FPost w' g zn zd)) :
  Calls Tryz.prog 36 #[ratV neg A n c D m k, ratV neg2 B n2 c2 C m2 k2, .func (.func 39) #[.pointer (some ⟨g, 0, none⟩)] #[]] w (OPost g w zn (denOf zd)) := by
 have HT := Lib.hid hT
 have hgl := hr.int.lt
 have kA : ∀ w', Ext w w' → Calls Tryz.prog 40 #[ratV neg A n c D m k] w' (KPost w' (sgn neg a) (lowD a d)) := fun w' he => ra_taken neg A n c a D m k d hd hn hm hg hng w' (hT.ext he) (hA.ext he) (hD.ext he)
 have kB : ∀ w', Ext w w' → Calls Tryz.prog 40 #[ratV neg2 B n2 c2 C m2 k2] w' (KPost w' (sgn neg2 b) (lowD b q)) := fun w' he => ra_taken neg2 B n2 c2 b C m2 k2 q hq hn2 hm2 hg2 hng2 w' (hT.ext he) (hB.ext he) (hC.ext he)
 clear hA hB hC hD hT hr hng hng2 hg hg2 hd hq
 generalize lowD a d = da at *
 generalize lowD b q = db at *
 generalize sgn neg a = za at *
 generalize sgn neg2 b = zb at *
 have HZ := Lib.hid (And.intro hz1 (And.intro hz2 hz3))
 clear hz1 hz2 hz3
 go_enter Tryz.func36, Tryz.ntmps36
 go_upto_region 7 with (first
  | (go_at_call 40; (with_reducible refine (kA _ xcl).mono ?_); rintro e w1 ⟨b1, A1, n1, c1, D1, m1, k1, rfl, hR1, hb1, xb1⟩; obtain ⟨xc1, xf1, xl1, xz1⟩ := jU xb1; (try simp at xz1); obtain ⟨l1_0, r1_0, f1_0, r1_0_1, f1_0_1, r1_0_2, f1_0_2⟩ := kq3 xb1 (w.heap.size); obtain ⟨l1_1, r1_1, f1_1, r1_1_1, f1_1_1, r1_1_2, f1_1_2⟩ := kq3 xb1 (w.heap.size + 1); obtain ⟨l1_2, r1_2, f1_2, r1_2_1, f1_2_1, r1_2_2, f1_2_2⟩ := kq3 xb1 (w.heap.size + 1 + 1))
  | (go_at_call 40; (with_reducible refine (kB _ xcl).mono ?_); rintro e w2 ⟨b2, A2, n2, c2, D2, m2, k2, rfl, hR2, hb2, xb2⟩; obtain ⟨xc2, xf2, xl2, xz2⟩ := jU xb2; (try simp at xz2); obtain ⟨l2_0, r2_0, f2_0, r2_0_1, f2_0_1, r2_0_2, f2_0_2⟩ := kq3 xb2 (w.heap.size); obtain ⟨l2_1, r2_1, f2_1, r2_1_1, f2_1_1, r2_1_2, f2_1_2⟩ := kq3 xb2 (w.heap.size + 1); obtain ⟨l2_2, r2_2, f2_2, r2_2_1, f2_2_1, r2_2_2, f2_2_2⟩ := kq3 xb2 (w.heap.size + 1 + 1))
  )
 have hEw : Hid (Ext w w2) := by show Ext w w2; exact xcl
 have hR1' := Lib.hid (hR1.out.1.ext (show Ext w1 w2 by exact xcl))
 have l1 := hR1'.out.int.room.lt
 have hO1 : Off D1 m1 g := hR1.out.2.2.off (by simp; omega) m1
 have hO2 : Off D2 m2 g := hR2.out.2.2.off (by have := ext_lt xb1 g (by simp; omega); simpa using this) m2
 have kop := hop b1 A1 n1 c1 D1 m1 k1 b2 A2 n2 c2 D2 m2 k2 w2 hEw.out hR1'.out hR2.out.1 hO1 hO2
 have z0 : w2.cell? ⟨w.heap.size + 1 + 1, 0, none⟩ = some (.bool false) := by simp [go_sem, *]
 have z1 : w2.cell? ⟨w.heap.size + 1 + 1, 1, none⟩ = some (.slice none 0 0) := by simp [go_sem, *]
 have z2 : w2.cell? ⟨w.heap.size + 1 + 1, 2, none⟩ = some (.slice none 0 0) := by simp [go_sem, *]
 have f0 : w2.frozen? ⟨w.heap.size + 1 + 1, 0, none⟩ = false := by simp [go_sem, *]
 have f1 : w2.frozen? ⟨w.heap.size + 1 + 1, 1, none⟩ = false := by simp [go_sem, *]
 have f2 : w2.frozen? ⟨w.heap.size + 1 + 1, 2, none⟩ = false := by simp [go_sem, *]
 have zl : w.heap.size + 1 + 1 < w2.heap.size := by assumption
 clear hop kA kB hO1 hO2
 go_wp2_with (first
  | (go_at_call 39; (with_reducible refine kop.mono ?_); rintro e w3 ⟨rfl, A3, n3, c3, D3, m3, k3, hR3, xt3⟩)
  )
 have g0 := (xt3.cell (p := ⟨w.heap.size + 1 + 1, 0, none⟩) zl (by simp only; omega)).trans z0
 have g1 := (xt3.cell (p := ⟨w.heap.size + 1 + 1, 1, none⟩) zl (by simp only; omega)).trans z1
 have g2 := (xt3.cell (p := ⟨w.heap.size + 1 + 1, 2, none⟩) zl (by simp only; omega)).trans z2
 have e0 := (xt3.frozen (p := ⟨w.heap.size + 1 + 1, 0, none⟩) zl (by simp only; omega)).trans f0
 have e1 := (xt3.frozen (p := ⟨w.heap.size + 1 + 1, 1, none⟩) zl (by simp only; omega)).trans f1
 have e2 := (xt3.frozen (p := ⟨w.heap.size + 1 + 1, 2, none⟩) zl (by simp only; omega)).trans f2
 have gl := Nat.lt_of_lt_of_le zl xt3.size
 have hl3 : n3 ≤ 16384 := by rw [← hR3.out.1.int.rd.len]; exact HZ.out.1
 have hm3 : m3 ≤ 100000 := by rw [← hR3.out.1.rd.len]; exact Nat.le_trans HZ.out.2.1 (by decide)
 clear z0 z1 z2 f0 f1 f2 xb1 xb2
 go_wp2_with (first
  | (go_at_call 64; (with_reducible refine (ra_told_ok g zn A3 n3 c3 zd D3 m3 k3 hl3 hm3 HZ.out.2.2 _ hR3.out.1).mono ?_); rintro e w4 ⟨A4, n4, c4, D4, m4, k4, rfl, hI4, xb4⟩; obtain ⟨xc4, xf4, xl4, xz4⟩ := jU xb4; (try simp at xz4); obtain ⟨l4_0, r4_0, f4_0, r4_0_1, f4_0_1, r4_0_2, f4_0_2⟩ := kq3 xb4 (w.heap.size + 1 + 1))
  )
 have hlt4 : w.heap.size + 1 + 1 < w3.heap.size := gl
 have n5 : ∀ x, A4 = some x → w.heap.size + 1 + 1 < x.block := fun x hx => by have := hI4.out.2.1 x hx; omega
 have n6 : ∀ x, D4 = some x → w.heap.size + 1 + 1 < x.block := fun x hx => by have := hI4.out.2.2.2 x hx; omega
 have z0 : w4.cell? ⟨w.heap.size + 1 + 1, 0, none⟩ = some (.bool false) := by simp [go_sem, *]
 have z1 : w4.cell? ⟨w.heap.size + 1 + 1, 1, none⟩ = some (.slice none 0 0) := by simp [go_sem, *]
 have z2 : w4.cell? ⟨w.heap.size + 1 + 1, 2, none⟩ = some (.slice none 0 0) := by simp [go_sem, *]
 obtain ⟨q0, q1, q2⟩ := set3 (b := w.heap.size + 1 + 1) z0 z1 z2 (.bool (decide (zn < 0))) (.slice A4 n4 c4) (.slice D4 m4 k4)
 have hTT : Tch g w w4 := ((Tch.of hEw.out).trans xt3).trans (Tch.of xb4)
 refine bodyPost_ret (v := .tuple #[ratV (decide (zn < 0)) A4 n4 c4 D4 m4 k4, .int .i64 0]) ?h rfl ⟨A4, n4, c4, D4, m4, k4, rfl, ⟨hI4.out.1.set3 n5 _ _ _, fun x hx => Nat.le_of_lt (by have := n5 x hx; omega), hI4.out.2.2.1.set3 n6 _ _ _, fun x hx => Nat.le_of_lt (by have := n6 x hx; omega)⟩, tch_set3 hTT (by omega) _ _ _⟩
 case h => simp [results, Tryz.results36, go_sem, q0, q1, q2]
theorem canN_le (z : Int) (d : Nat) : (canN z d).natAbs ≤ z.natAbs := by unfold canN; rw [sgn_abs]; exact Nat.div_le_self _ _
theorem canD_le (z : Int) (d : Nat) : canD z d ≤ d := by unfold canD; exact Nat.div_le_self _ _
theorem canW_le (z : Int) (d : Nat) : canW z d ≤ d := by unfold canW; split; exact Nat.zero_le _; exact canD_le z d
theorem den_low {a d : Nat} (hd : d ≠ 0) (hg : Nat.gcd a d = 1) : denOf (lowD a d) = d := by
 unfold denOf lowD
 by_cases h0 : a = 0
 ·rw [if_pos h0, if_pos rfl]; subst h0; rw [Nat.gcd_zero_left] at hg; exact hg.symm
 ·rw [if_neg h0, hg, Nat.div_one, if_neg hd]
theorem lowD_le (a d : Nat) : lowD a d ≤ d := by unfold lowD; split; exact Nat.zero_le _; exact Nat.div_le_self _ _
theorem sum_room {x y : Int} {d q n : Nat} (h1 : (lim x.natAbs).length ≤ n) (h2 : (lim y.natAbs).length ≤ n) (h3 : (lim d).length ≤ n) (h4 : (lim q).length ≤ n) : (lim (x * (q : Int) + y * (d : Int)).natAbs).length ≤ 2 * n + 1 := by
 refine sum_len' ?_ ?_
 ·rw [Int.natAbs_mul, Int.natAbs_natCast]; exact Nat.le_trans (lim_mul_len _ _) (by omega)
 ·rw [Int.natAbs_mul, Int.natAbs_natCast]; exact Nat.le_trans (lim_mul_len _ _) (by omega)
theorem ra_Add (neg : Bool) (A : Option Addr) (n c a : Nat) (D : Option Addr) (m k d : Nat) (hd : d ≠ 0) (hn : n ≤ 4000) (hm : m ≤ 4000) (hg : Nat.gcd a d = 1) (hng : neg = true → a ≠ 0)
  (neg2 : Bool) (B : Option Addr) (n2 c2 b : Nat) (C : Option Addr) (m2 k2 q : Nat) (hq : q ≠ 0) (hn2 : n2 ≤ 4000) (hm2 : m2 ≤ 4000) (hg2 : Nat.gcd b q = 1) (hng2 : neg2 = true → b ≠ 0)
  (w : World) (hT : Tz w) (hA : Rd w A n c (lim a)) (hD : Rd w D m k (lim d)) (hB : Rd w B n2 c2 (lim b)) (hC : Rd w C m2 k2 (lim q)) :
  Calls Tryz.prog 24 #[ratV neg A n c D m k, ratV neg2 B n2 c2 C m2 k2] w (TPost w (canN (sgn neg a * (q : Int) + sgn neg2 b * (d : Int)) (d * q)) (canD (sgn neg a * (q : Int) + sgn neg2 b * (d : Int)) (d * q))) := by
 have h1 : (lim (sgn neg a).natAbs).length ≤ 4000 := by rw [sgn_abs, hA.len]; exact hn
 have h2 : (lim (sgn neg2 b).natAbs).length ≤ 4000 := by rw [sgn_abs, hB.len]; exact hn2
 have h3 : (lim d).length ≤ 4000 := by rw [hD.len]; exact hm
 have h4 : (lim q).length ≤ 4000 := by rw [hC.len]; exact hm2
 have hdq : (lim (d * q)).length ≤ 8001 := Nat.le_trans (lim_mul_len _ _) (by omega)
 have hz : (lim (sgn neg a * (q : Int) + sgn neg2 b * (d : Int)).natAbs).length ≤ 8001 := sum_room h1 h2 h3 h4
 rw [← canW_den (Nat.mul_ne_zero hd hq)]
 have kO : ∀ G W, RatRoom W G → Ext w W → Calls Tryz.prog 36 #[ratV neg A n c D m k, ratV neg2 B n2 c2 C m2 k2, .func (.func 39) #[.pointer (some ⟨G, 0, none⟩)] #[]] W (OPost G W (canN (sgn neg a * (q : Int) + sgn neg2 b * (d : Int)) (d * q)) (denOf (canW (sgn neg a * (q : Int) + sgn neg2 b * (d : Int)) (d * q)))) := fun G W hr hW => by
  refine ra_of_Add G _ _ (Nat.le_trans (lim_mono (canN_le _ _)) (by omega)) (Nat.le_trans (lim_mono (canW_le _ _)) (by omega)) ?_ neg A n c a D m k d hd (by omega) (by omega) hg hng neg2 B n2 c2 b C m2 k2 q hq (by omega) (by omega) hg2 hng2 W (hT.ext hW) hr (hA.ext hW) (hD.ext hW) (hB.ext hW) (hC.ext hW) ?_
  ·rw [canW_den (Nat.mul_ne_zero hd hq)]; exact Nat.le_trans (lim_mono (canD_le _ _)) (by omega)
  ·intro bx X n' c' Y m' k' b2 X2 n2' c2' Y2 m2' k2' w' he h5 h6 h7 h8
   have l1 := h5.int.rd.len
   have l2 := h5.rd.len
   have l3 := h6.int.rd.len
   have l4 := h6.rd.len
   have l5 := lim_mono (lowD_le a d)
   have l6 := lim_mono (lowD_le b q)
   have := br_Add G bx b2 (sgn neg a) (sgn neg2 b) (lowD a d) (lowD b q) (by rw [sgn_abs, den_low hd hg]; exact hg) (by rw [sgn_abs, den_low hq hg2]; exact hg2) X n' c' Y m' k' X2 n2' c2' Y2 m2' k2' (by omega) (by omega) (by omega) (by omega) w' ((hT.ext hW).ext he) (hr.ext he) h5 h6 h7 h8
   rwa [den_low hd hg, den_low hq hg2] at this
 clear hT hA hB hC hD hng hng2 hg hg2 hd hq h1 h2 h3 h4 hz hdq
 generalize canN (sgn neg a * (q : Int) + sgn neg2 b * (d : Int)) (d * q) = zn at kO ⊢
 generalize canW (sgn neg a * (q : Int) + sgn neg2 b * (d : Int)) (d * q) = zd at kO ⊢
 have kO' : Calls Tryz.prog 36 #[ratV neg A n c D m k, ratV neg2 B n2 c2 C m2 k2, .func (.func 39) #[.pointer (some ⟨w.heap.size + 1 + 1 + 1, 0, none⟩)] #[]] ((((w.alloc (Obj.cells #[.bool neg, .slice A n c, .slice D m k] 26)).alloc (Obj.cells #[.bool neg2, .slice B n2 c2, .slice C m2 k2] 26)).alloc (Obj.cells #[.bool false, .slice none 0 0, .slice none 0 0] 26)).alloc (Obj.cells #[.bool false, .slice none 0 0, .slice none 0 0] 68))
   fun e w' => ∃ (A : Option Addr) (n c : Nat) (D : Option Addr) (m k : Nat), e = .returned (.tuple #[ratV (decide (zn < 0)) A n c D m k, .int .i64 0]) ∧ Hid (RdO w' A n c (lim zn.natAbs) none ∧ (∀ x, A = some x → w.heap.size + 1 + 1 < x.block) ∧ RdO w' D m k (lim (denOf zd)) A ∧ (∀ x, D = some x → w.heap.size + 1 + 1 < x.block)) ∧
    w'.cell? ⟨w.heap.size + 1 + 1, 0, none⟩ = some (.bool false) ∧ w'.cell? ⟨w.heap.size + 1 + 1, 1, none⟩ = some (.slice none 0 0) ∧ w'.cell? ⟨w.heap.size + 1 + 1, 2, none⟩ = some (.slice none 0 0) ∧
    w'.frozen? ⟨w.heap.size + 1 + 1, 0, none⟩ = false ∧ w'.frozen? ⟨w.heap.size + 1 + 1, 1, none⟩ = false ∧ w'.frozen? ⟨w.heap.size + 1 + 1, 2, none⟩ = false ∧ w.heap.size + 1 + 1 < w'.heap.size ∧ Hid (Ext w w') := by
  have hr := rat_room (((w.alloc (Obj.cells #[.bool neg, .slice A n c, .slice D m k] 26)).alloc (Obj.cells #[.bool neg2, .slice B n2 c2, .slice C m2 k2] 26)).alloc (Obj.cells #[.bool false, .slice none 0 0, .slice none 0 0] 26))
  have e0 : (((w.alloc (Obj.cells #[.bool neg, .slice A n c, .slice D m k] 26)).alloc (Obj.cells #[.bool neg2, .slice B n2 c2, .slice C m2 k2] 26)).alloc (Obj.cells #[.bool false, .slice none 0 0, .slice none 0 0] 26)).heap.size = w.heap.size + 1 + 1 + 1 := by simp
  rw [e0] at hr
  have hEx : Ext w ((((w.alloc (Obj.cells #[.bool neg, .slice A n c, .slice D m k] 26)).alloc (Obj.cells #[.bool neg2, .slice B n2 c2, .slice C m2 k2] 26)).alloc (Obj.cells #[.bool false, .slice none 0 0, .slice none 0 0] 26)).alloc (Obj.cells #[.bool false, .slice none 0 0, .slice none 0 0] 68)) := jA (jA (jA (jA (jR _) _) _) _) _
  refine (kO _ _ hr hEx).mono ?_
  rintro e w' ⟨A1, n1, c1, D1, m1, k1, rfl, h1, h2⟩
  have hsz := hr.int.lt
  have hs2 := h2.size
  have lt : ∀ o, (⟨w.heap.size + 1 + 1, o, none⟩ : Addr).block ≠ w.heap.size + 1 + 1 + 1 := fun o => by simp
  have lb : w.heap.size + 1 + 1 < ((((w.alloc (Obj.cells #[.bool neg, .slice A n c, .slice D m k] 26)).alloc (Obj.cells #[.bool neg2, .slice B n2 c2, .slice C m2 k2] 26)).alloc (Obj.cells #[.bool false, .slice none 0 0, .slice none 0 0] 26)).alloc (Obj.cells #[.bool false, .slice none 0 0, .slice none 0 0] 68)).heap.size := by simp
  refine ⟨A1, n1, c1, D1, m1, k1, rfl, ⟨h1.out.1, fun x hx => by have := h1.out.2.1 x hx; omega, h1.out.2.2.1, fun x hx => by have := h1.out.2.2.2 x hx; omega⟩,
   (h2.cell (p := ⟨w.heap.size + 1 + 1, 0, none⟩) lb (lt 0)).trans (by simp [go_sem]), (h2.cell (p := ⟨w.heap.size + 1 + 1, 1, none⟩) lb (lt 1)).trans (by simp [go_sem]), (h2.cell (p := ⟨w.heap.size + 1 + 1, 2, none⟩) lb (lt 2)).trans (by simp [go_sem]),
   (h2.frozen (p := ⟨w.heap.size + 1 + 1, 0, none⟩) lb (lt 0)).trans (by simp [go_sem]), (h2.frozen (p := ⟨w.heap.size + 1 + 1, 1, none⟩) lb (lt 1)).trans (by simp [go_sem]), (h2.frozen (p := ⟨w.heap.size + 1 + 1, 2, none⟩) lb (lt 2)).trans (by simp [go_sem]), Nat.lt_of_lt_of_le lb hs2, h2.ext hEx (by omega)⟩
 clear kO
 go_enter Tryz.func24, Tryz.ntmps24
 go_wp2_with (first
  | (go_at_call 36; (with_reducible refine kO'.mono ?_); rintro e w1 ⟨A1, n1, c1, D1, m1, k1, rfl, hI1, z0, z1, z2, f0, f1, f2, zl, hE1⟩)
  )
 obtain ⟨q0, q1, q2⟩ := set3 (b := w.heap.size + 1 + 1) z0 z1 z2 (.bool (decide (zn < 0))) (.slice A1 n1 c1) (.slice D1 m1 k1)
 have n5 := hI1.out.2.1
 have n6 := hI1.out.2.2.2
 refine bodyPost_ret (v := .tuple #[ratV (decide (zn < 0)) A1 n1 c1 D1 m1 k1, .int .i64 0]) ?h rfl ⟨A1, n1, c1, D1, m1, k1, rfl, ⟨hI1.out.1.set3 n5 _ _ _, fun x hx => Nat.le_of_lt (by have := n5 x hx; omega), hI1.out.2.2.1.set3 n6 _ _ _, fun x hx => Nat.le_of_lt (by have := n6 x hx; omega)⟩, ext_set3 hE1.out (by omega) _ _ _⟩
 case h => simp [results, Tryz.results24, go_sem, q0, q1, q2]
end Go.Proofs.YtfdmhefjmnlllaaGreatDoor
end
