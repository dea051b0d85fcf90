/- Lemmas of this proof, laid together: TwIntJ, TwIntK, TwIntL, TwIntM, TwIntN, TwRatT. -/
import Derived.Test.YtchbefambnhjjaaGreatDoorMg26
import Derived.Test.YtchbefambnhjjaaGreatDoorMg23
import Derived.Deep.DeepCutAuto
import Derived.Deep.RegionWith
import Derived.Deep.LoopGhost
import Derived.Test.YtchbefambnhjjaaGreatDoorMg25
import Derived.Test.YtchbefambnhjjaaGreatDoorMg13
import Derived.Test.YtchbefambnhjjaaGreatDoorMg21
set_option linter.unusedSimpArgs false
set_option linter.unusedVariables false
section
/- (The document's library.) Whole numbers of the library's: products, differences, quotients. -/

namespace Go.Proofs.YtchbefambnhjjaaGreatDoor.NB
open Go.RowKit
attribute [local go_sem] sz2 sz3 sz4 sz5 sz6 sz7 sz8
set_option maxHeartbeats 4000000
set_option maxRecDepth 100000
attribute [local irreducible] Calls
attribute [local go_sem] D2.Oper.detAt D2.detUpon D2.relUpon
namespace D2
end D2
theorem bi_Mul (b o g p h q : Nat) (x y : Int) (A : Option Addr) (n c : Nat) (B : Option Addr) (m d : Nat) (hn : n ≤ 100000) (hm : m ≤ 100000) (w : World) (hr : Room w b o) (hx : IntIs w g p x A n c) (hy : IntIs w h q y B m d) :
  Calls Tryz.prog 157 #[.pointer (some ⟨b, o, none⟩), .pointer (some ⟨g, p, none⟩), .pointer (some ⟨h, q, none⟩)] w (IPost w b o (x * y)) := by
 have HX := Lib.hid hx
 have HY := Lib.hid hy
 have HR := Lib.hid hr
 have lx := hx.room.lt
 have x0 := hx.neg
 have x1 := hx.words
 have ly := hy.room.lt
 have y0 := hy.neg
 have y1 := hy.words
 have hbl := hr.lt
 have kM : ∀ w', Ext w w' → Calls Tryz.prog 148 #[.slice A n c, .slice B m d] w' (WPost w' (x.natAbs * y.natAbs)) := fun w' he => bw_mul (n + m) A B n c m d _ _ rfl (by omega) w' (HX.out.rd.ext he) (HY.out.rd.ext he)
 clear hx hy hr
 go_enter Tryz.func157, Tryz.ntmps157
 go_wp2
 refine D2.wp_drawn_tail 19 (D2.tab [(18, RWord w.heap.size (x.natAbs * y.natAbs))]) (by kernel_rfl) (by kernel_rfl) (by kernel_rfl) (D2.tab_stays (by simp [D2.stays_word])) (fun hq hqf => ?_)
 simp only [List.take_succ_cons, List.take_zero, List.drop_succ_cons, List.drop_zero]
 have z0 := fun nq => (hq nq g p lx).trans x0
 have z1 := fun nq => (hq nq g (p + 1) lx).trans x1
 have z2 := fun nq => (hq nq h q ly).trans y0
 have z3 := fun nq => (hq nq h (q + 1) ly).trans y1
 iterate 18
  (refine D2.wpK_det rfl (fun K hK => ?_)
   go_simp
   first
    | (refine hK _ ?_; clear hK K)
    | (apply Exists.intro; refine ⟨fun x => ?_, hK _ ?_⟩; (first | exact z0 x | exact z1 x | exact z2 x | exact z3 x | (simp [z0, z1, z2, z3]; rfl)); clear hK K))
 refine D2.wpK_rel _ rfl rfl ?_ ?_
 ·rintro _ ⟨nn, rfl⟩ _
  unfold D2.Oper.relAt
  go_simp
  exact D2.rel_wpost (ext_size nn.use) (kM _ nn.use)
 rintro v ⟨_, ⟨nn, rfl⟩, hr⟩
 obtain ⟨A9, k9, c9, rfl, -, -⟩ := hr
 clear nn
 refine D2.wpK_nil ?_
 intro nq2 hG
 have r9 : RWord w.heap.size (x.natAbs * y.natAbs) [] (.slice A9 k9 c9) nq2.out := by have := hG.fact 18; simp [D2.Facts.put] at this; exact this
 have hR9 := Lib.hid (rword_at r9)
 have hF9 : Fr w A9 := hR9.out.2
 have hO9 := hF9.off HR.out.lt k9
 clear r9 hG
 go_wp2_with (first
  | (go_at_call 111; (with_reducible refine (bi_set b o _ A9 k9 c9 (x.natAbs * y.natAbs) _ (HR.out.ext nq2.use) hR9.out.1 hO9).mono ?_); rintro e w3 ⟨rfl, hI3, xt3⟩)
  )
 refine bodyPost_ret (v := .pointer (some ⟨b, o, none⟩)) ?h rfl ⟨rfl, A9, k9, c9, ⟨by have := hI3.out; rwa [sgn_both] at this, hF9⟩, (Tch.of nq2.use).trans xt3⟩
 case h => simp [results, Tryz.results157, go_sem]
end Go.Proofs.YtchbefambnhjjaaGreatDoor.NB
end
section
/- (The document's library.) Whole numbers of the library's: powers. -/

namespace Go.Proofs.YtchbefambnhjjaaGreatDoor.NB
open Go.RowKit
attribute [local go_sem] sz2 sz3 sz4 sz5 sz6 sz7 sz8
set_option maxHeartbeats 4000000
set_option maxRecDepth 100000
attribute [local irreducible] Calls
theorem bi_Exp (b bx b2 : Nat) (B e : Nat) (hB : 1 ≤ B) (he0 : 1 ≤ e) (he : e < 4294967296) (A : Option Addr) (n c : Nat) (D : Option Addr) (m d : Nat) (hL : (lim (B ^ e)).length ≤ 20000) (hn : n ≤ 1000000) (w : World) (hr : Room w b 0) (hx : IntIs w bx 0 (B : Int) A n c) (hy : IntIs w b2 0 (e : Int) D m d) :
  Calls Tryz.prog 109 #[.pointer (some ⟨b, 0, none⟩), .pointer (some ⟨bx, 0, none⟩), .pointer (some ⟨b2, 0, none⟩), .pointer none] w (IPost w b 0 (B ^ e : Nat)) := by
 have HX := Lib.hid hx
 have HY := Lib.hid hy
 have HR := Lib.hid hr
 have HL := Lib.hid hL
 have lb := hr.lt
 have ly := hy.room.lt
 have y1 := hy.words
 simp only [Nat.zero_add] at y1
 have hm1 : m = 1 := by
  have h1 := hy.rd.len
  rw [Int.natAbs_natCast, lim_pos (by omega), Nat.div_eq_of_lt he, lim_zero] at h1
  simpa using h1.symm
 subst hm1
 have hsg : Hid ((e : Int).sign = 1) := Lib.hid (Int.sign_eq_one_of_pos (by omega))
 have kS : ∀ w', Ext w w' → Calls Tryz.prog 51 #[.pointer (some ⟨b2, 0, none⟩)] w' fun e w'' => e = .returned (.int .i64 1) ∧ Ext w' w'' := fun w' he => by
  have := bi_Sign b2 0 (e : Int) D 1 d w' (HY.out.ext he)
  rwa [hsg.out] at this
 clear hx hy hr hL
 go_enter Tryz.func109, Tryz.ntmps109
 go_upto_region 7 with (first
  | (go_at_call 50; (with_reducible refine (bi_NewInt 1 (by decide) (by decide) _).mono ?_); rintro e w1 ⟨p1, P1, k1, l1, rfl, hI1, hp1, xb1⟩)
  | (go_at_call 135; (with_reducible refine (bi_Set w1.heap.size 0 bx 0 A n c (B : Int) hn _ (int_room w1) ((HX.out.ext (jT (jA (jR _) _) xb1)).ext (jA (jR _) _))).mono ?_); rintro e w2 ⟨rfl, A2, n2, c2, hI2, xt2⟩)
  )
 have hE1 : Ext w w1 := jT (jA (jR _) _) xb1
 have hE2 : Hid (Ext w w2) := Lib.hid (xt2.ext (jA hE1 _) hE1.size)
 have hz1 : w.heap.size < w1.heap.size := by have := xb1.size; simp at this; omega
 have hp1' : w.heap.size + 1 ≤ p1 := by simpa using hp1
 have hlp1 : p1 < w1.heap.size := hI1.out.1.room.lt
 have hz2 : w1.heap.size + 1 ≤ w2.heap.size := by have := xt2.size; simpa using this
 have HI1 : Hid (IntIs w2 p1 0 1 P1 k1 l1) := Lib.hid ((hI1.out.1.ext (jA (jR _) _)).tch xt2 (by omega) (hI1.out.1.rd.off (Nat.le_refl _)))
 have hby : w2.cell? ⟨w.heap.size, 1, none⟩ = some (.slice none 0 0) := by
  rw [xt2.cell (by simp; omega) (by simp; omega)]
  rw [(Below.cell (p := ⟨w.heap.size, 1, none⟩) (jA (jR w1) _) (by simp; omega))]
  rw [(Below.cell (p := ⟨w.heap.size, 1, none⟩) xb1 (by simp))]
  rw [World.cell?_alloc_at _ _ _ _ rfl]; rfl
 have hfA2 : Off A2 n2 p1 := hI2.out.2.off (by simp; omega) n2
 have HI2 := Lib.hid (And.intro hI2.out.1 hfA2)
 clear hI1 hI2 xt2 xb1 hp1 hE1
 have g1 : w2.cell? ⟨b2, 1, none⟩ = some (.slice D 1 d) := (Below.cell (p := ⟨b2, 1, none⟩) hE2.out ly).trans y1
 have lb2 := ext_lt hE2.out _ ly
 have lw2 : w.heap.size < w2.heap.size := by omega
 clear y1
 go_upto_region 12 with (first
  | (go_at_call 51; (with_reducible refine (kS _ hE2.out).mono ?_); rintro e w3 ⟨rfl, xb3⟩; obtain ⟨xc3, xf3, xl3, xz3⟩ := jU xb3; (try simp at xz3); obtain ⟨l3_0, r3_0, f3_0, r3_0_1, f3_0_1⟩ := kq2 xb3 (b2); obtain ⟨l3_1, r3_1, f3_1, r3_1_1, f3_1_1⟩ := kq2 xb3 (w.heap.size))
  | (go_at_call 115; (with_reducible refine (bw_copied D 1 d (lim e) (by decide) _ ((HY.out.rd.ext hE2.out).ext xb3)).mono ?_); rintro e' w4 ⟨rfl, hR4, xb4⟩)
  )
 have hE34 : Hid (Ext w2 w4) := Lib.hid (jT xb3 xb4)
 have hby4 : w4.cell? ⟨w.heap.size, 1, none⟩ = some (.slice none 0 0) := (Below.cell (p := ⟨w.heap.size, 1, none⟩) hE34.out lw2).trans hby
 have lw4 := ext_lt hE34.out _ lw2
 have hfr4 : Fr w2 (some ⟨w3.heap.size, 0, none⟩) := fun a ha => by cases ha; exact xb3.size
 have lp2 : p1 < w2.heap.size := by omega
 have hOw := hfr4.off lp2 1
 have hI4 := Lib.hid (And.intro (HI1.out.ext hE34.out) (HI2.out.1.ext hE34.out))
 have HOW := Lib.hid hOw
 have hE4 : Hid (Ext w w4) := Lib.hid (jT hE2.out hE34.out)
 have hby0 : Hid (b ≠ p1 ∧ w.heap.size ≠ p1 ∧ w1.heap.size ≠ p1) := Lib.hid ⟨by omega, by omega, by omega⟩
 have HFA := Lib.hid hfA2
 clear xb3 xb4 hby hfr4 hOw hfA2 HI1 HI2 g1 hE34 hz1 hz2 xc3 xf3 xl3 xz3 l3_0 r3_0 f3_0 r3_0_1 f3_0_1 l3_1 r3_1 f3_1 r3_1_1 f3_1_1
 have hwc : w4.cell? ⟨w3.heap.size, 0, none⟩ = some (.int .u32 (e : Int)) := by
  obtain ⟨x, h1, _, h2⟩ := hR4.out.get 0 (by omega)
  have h3 := h1.out
  rw [lim_pos (by omega), Nat.mod_eq_of_lt he] at h3
  simp at h3
  rw [h3]; simpa using h2
 have hlw3 : w3.heap.size < w4.heap.size := World.block_lt_of_cell? w4 _ hwc
 have hpw : w3.heap.size ≠ p1 := by
  have := HOW.out _ rfl (by decide)
  simpa using this
 obtain ⟨gb, hgb⟩ : ∃ gb, gb = w1.heap.size := ⟨_, rfl⟩
 obtain ⟨gw, hgw⟩ : ∃ gw, gw = w3.heap.size := ⟨_, rfl⟩
 rw [← hgb] at hI4 hby0 ⊢
 rw [← hgw] at hwc hlw3 hpw ⊢
 have hby1 := Lib.hid (And.intro hby0.out hpw)
 have HC4 := Lib.hid (And.intro hby4 hwc)
 have hlp4 : p1 < w4.heap.size := hI4.out.1.room.lt
 have hlb4 : gb < w4.heap.size := hI4.out.2.room.lt
 have hpw1 : w.heap.size ≤ p1 := by omega
 clear hgb hgw hby4 hwc hby0 hpw HOW hR4 hlp1 hE2 lb2 lw2 lp2 hp1'
 go_wp2
 go_loopg [13] 32 (fun j vi wr => ∃ (x : Nat) (A : Option Addr) (n c : Nat), j ≤ 32 ∧ vi = .int .i64 ((j : Int) - 1) ∧ Hid (x = B ^ (e / 2 ^ j)) ∧ Hid (IntIs wr p1 0 (x : Int) A n c) ∧ Hid (IntIs wr gb 0 (B : Int) A2 n2 c2) ∧
   Hid (wr.cell? ⟨w.heap.size, 1, none⟩ = some (.slice none 0 0) ∧ wr.cell? ⟨gw, 0, none⟩ = some (.int .u32 (e : Int))) ∧ w4.heap.size ≤ wr.heap.size ∧ Hid (Ext w wr))
 case atStart => exact ⟨1, P1, k1, l1, Nat.le_refl _, rfl, Lib.hid (by rw [Nat.div_eq_of_lt (show e < 2 ^ 32 by omega)]; rfl), Lib.hid hI4.out.1, Lib.hid hI4.out.2, HC4, Nat.le_refl _, hE4⟩
 case round =>
  clear hI4 HC4 hE4
  obtain ⟨x, A, n, c, hj, rfl, hx, hI, hB', hC, hsz, hE⟩ := hrel
  by_cases h0 : 0 < gk
  ·obtain ⟨i, rfl⟩ : ∃ i, gk = i + 1 := ⟨gk - 1, by omega⟩
   have e1 : ((i + 1 : Nat) : Int) - 1 = (i : Int) := by omega
   rw [e1]
   have hnl : n ≤ 20000 := by
    have h1 := hI.out.rd.len
    rw [Int.natAbs_natCast, hx.out] at h1
    have h2 := lim_mono (Nat.pow_le_pow_right hB (Nat.div_le_self e (2 ^ (i + 1))))
    have := HL.out
    omega
   have hsq : Calls Tryz.prog 157 #[.pointer (some ⟨p1, 0, none⟩), .pointer (some ⟨p1, 0, none⟩), .pointer (some ⟨p1, 0, none⟩)] wr (IPost wr p1 0 ((x * x : Nat) : Int)) := by
    have := bi_Mul p1 0 p1 0 p1 0 (x : Int) (x : Int) A n c A n c (by omega) (by omega) wr hI.out.room hI.out hI.out
    rwa [← Int.natCast_mul] at this
   go_upto_region 16 with (first
    | (go_at_call 157; (with_reducible refine hsq.mono ?_); rintro e' w5 ⟨rfl, A5, n5, c5, hI5, xt5⟩)
    )
   have hB5 := Lib.hid (hB'.out.tch xt5 hby1.out.1.2.2 HFA.out)
   have c51 : w5.cell? ⟨w.heap.size, 1, none⟩ = some (.slice none 0 0) := (xt5.cell (by simp; omega) hby1.out.1.2.1).trans hC.out.1
   have c52 : w5.cell? ⟨gw, 0, none⟩ = some (.int .u32 (e : Int)) := (xt5.cell (by simp; omega) hby1.out.2).trans hC.out.2
   have hsz5 : w4.heap.size ≤ w5.heap.size := Nat.le_trans hsz xt5.size
   have hE5 : Hid (Ext w w5) := Lib.hid (xt5.ext hE.out hpw1)
   have hlw5 : gw < w5.heap.size := by omega
   have hlz5 : w.heap.size < w5.heap.size := by have := World.block_lt_of_cell? w5 _ c51; exact this
   have hi0 : (i : Int) / 32 = 0 := by omega
   have hi1 : (i : Int) % 32 = (i : Int) := by omega
   have hst : Hid (x * x * B ^ (e / 2 ^ i % 2) = B ^ (e / 2 ^ i)) := Lib.hid (by rw [hx.out]; exact (pow_halves B e i).symm)
   have hsh : e / 2 ^ i < 4294967296 := Nat.lt_of_le_of_lt (Nat.div_le_self _ _) he
   have HT5 := Lib.hid xt5
   have hC5 := Lib.hid (And.intro c51 c52)
   have hml : n5 ≤ 100000 := by
    have h1 := hI5.out.1.rd.len
    rw [Int.natAbs_natCast] at h1
    have h2 : (lim (x * x)).length ≤ (lim (B ^ (e / 2 ^ i))).length := lim_mono (by
     rw [← hst.out]; exact Nat.le_mul_of_pos_right _ (Nat.pow_pos hB))
    have h3 := lim_mono (Nat.pow_le_pow_right hB (Nat.div_le_self e (2 ^ i)))
    have := HL.out
    omega
   have hbl : n2 ≤ 100000 := by
    have h1 := hB5.out.rd.len
    rw [Int.natAbs_natCast] at h1
    have h2 : B ≤ B ^ e := Nat.le_self_pow (by omega) B
    have h3 := lim_mono h2
    have := HL.out
    omega
   rcases (show e / 2 ^ i % 2 = 0 ∨ e / 2 ^ i % 2 = 1 by omega) with hbit | hbit
   ·have hb1 := bit_u32 e i hsh hbit
    simp at hb1
    have HBIT := Lib.hid hbit
    clear hbit xt5 hsq hj h0
    go_wp2
    go_roundg i
    case rel => exact ⟨x * x, A5, n5, c5, by omega, rfl, Lib.hid (by rw [← hst.out, HBIT.out, Nat.pow_zero, Nat.mul_one]), Lib.hid hI5.out.1, hB5, hC5, hsz5, hE5⟩
    case measure => omega
   ·have hb1 := bit_u32 e i hsh hbit
    simp at hb1
    have HBIT := Lib.hid hbit
    have hmb : Calls Tryz.prog 157 #[.pointer (some ⟨p1, 0, none⟩), .pointer (some ⟨p1, 0, none⟩), .pointer (some ⟨gb, 0, none⟩)] w5 (IPost w5 p1 0 ((x * x * B : Nat) : Int)) := by
     have := bi_Mul p1 0 p1 0 gb 0 ((x * x : Nat) : Int) (B : Int) A5 n5 c5 A2 n2 c2 hml hbl w5 hI5.out.1.room hI5.out.1 hB5.out
     rwa [← Int.natCast_mul] at this
    clear hbit xt5 hsq hj h0
    go_upto_region 18 with (first
     | (go_at_call 157; (with_reducible refine hmb.mono ?_); rintro e' w6 ⟨rfl, A6, n6, c6, hI6, xt6⟩)
     )
    have hB6 := Lib.hid (hB5.out.tch xt6 hby1.out.1.2.2 HFA.out)
    have c61 : w6.cell? ⟨w.heap.size, 1, none⟩ = some (.slice none 0 0) := (xt6.cell hlz5 hby1.out.1.2.1).trans hC5.out.1
    have c62 : w6.cell? ⟨gw, 0, none⟩ = some (.int .u32 (e : Int)) := (xt6.cell hlw5 hby1.out.2).trans hC5.out.2
    have hlz6 : w.heap.size < w6.heap.size := World.block_lt_of_cell? w6 _ c61
    have hsz6 : w4.heap.size ≤ w6.heap.size := Nat.le_trans hsz5 xt6.size
    have hE6 : Hid (Ext w w6) := Lib.hid (xt6.ext hE5.out hpw1)
    have hC6 := Lib.hid (And.intro c61 c62)
    clear c51 c52 xt6
    go_wp2
    go_roundg i
    case rel => exact ⟨x * x * B, A6, n6, c6, by omega, rfl, Lib.hid (by rw [← hst.out, HBIT.out, Nat.pow_one]), Lib.hid hI6.out.1, hB6, hC6, hsz6, hE6⟩
    case measure => omega
  ·obtain rfl : gk = 0 := by omega
   have hxe : x = B ^ e := by rw [hx.out, Nat.pow_zero, Nat.div_one]
   have hnl : n ≤ 1000000 := by
    have h1 := hI.out.rd.len
    rw [Int.natAbs_natCast, hxe] at h1
    have := HL.out
    omega
   have kF := bi_Set b 0 p1 0 A n c (x : Int) hnl wr (HR.out.ext hE.out) hI.out
   have HXE := Lib.hid hxe
   clear hxe h0
   go_wp2_with (first
    | (go_at_call 135; (with_reducible refine kF.mono ?_); rintro e' w7 ⟨rfl, A7, n7, c7, hI7, xt7⟩)
    )
   refine bodyPost_ret (v := .pointer (some ⟨b, 0, none⟩)) ?h rfl ⟨rfl, A7, n7, c7, ⟨by have := hI7.out.1; rwa [HXE.out] at this, hI7.out.2.mono hE.out⟩, (Tch.of hE.out).trans xt7⟩
   case h => simp [results, Tryz.results109, go_sem]
end Go.Proofs.YtchbefambnhjjaaGreatDoor.NB
end
section
/- (The document's library.) Fractions of the library's: out of whole numbers; differences, quotients. -/

namespace Go.Proofs.YtchbefambnhjjaaGreatDoor.NB
open Go.RowKit
attribute [local go_sem] sz2 sz3 sz4 sz5 sz6 sz7 sz8
set_option maxHeartbeats 4000000
set_option maxRecDepth 100000
attribute [local irreducible] Calls
section
attribute [local go_sem] Oper.detAt detUpon relUpon
theorem bi_Setx (b o bx ox : Nat) (A : Option Addr) (n c : Nat) (z : Int) (hn : n ≤ 1000000) (w : World) (hr : Room w b o) (hx : IntIs w bx ox z A n c) :
  Calls Tryz.prog 135 #[.pointer (some ⟨b, o, none⟩), .pointer (some ⟨bx, ox, none⟩)] w fun e w' => e = .returned (.pointer (some ⟨b, o, none⟩)) ∧ ∃ (A : Option Addr) (n c : Nat), Hid (IntIs w' b o z A n c ∧ Fr w A) ∧ Tch b w w' ∧ Hid (∀ p, p ≠ o → p ≠ o + 1 → w'.cell? ⟨b, p, none⟩ = w.cell? ⟨b, p, none⟩ ∧ w'.frozen? ⟨b, p, none⟩ = w.frozen? ⟨b, p, none⟩) := by
 have HX := Lib.hid hx
 have HR := Lib.hid hr
 have lx := hx.room.lt
 have x0 := hx.neg
 have x1 := hx.words
 clear hx hr
 go_enter Tryz.func135, Tryz.ntmps135
 go_wp2
 refine wp_drawn_tail 10 (tab [(9, RWord w.heap.size z.natAbs)]) (by kernel_rfl) (by kernel_rfl) (by kernel_rfl) (tab_stays (by simp [stays_word])) (fun hq hqf => ?_)
 simp only [List.take_succ_cons, List.take_zero, List.drop_succ_cons, List.drop_zero]
 have y0 := fun nq => (hq nq bx ox lx).trans x0
 have y1 := fun nq => (hq nq bx (ox + 1) lx).trans x1
 iterate 9
  (refine wpK_det rfl (fun K hK => ?_)
   go_simp
   first
    | (refine hK _ ?_; clear hK K)
    | (apply Exists.intro; refine ⟨fun x => ?_, hK _ ?_⟩; (first | exact y0 x | exact y1 x | (simp [y0, y1]; rfl)); clear hK K))
 refine wpK_rel _ rfl rfl ?_ ?_
 ·rintro _ ⟨nn, rfl⟩ _
  unfold Oper.relAt
  go_simp
  exact rel_copied _ _ _ _ _ hn _ _ (ext_size nn.use) (HX.out.rd.ext nn.use)
 rintro v ⟨_, ⟨nn, rfl⟩, hr⟩
 obtain ⟨A9, k9, c9, rfl, -, -⟩ := hr
 clear nn
 refine wpK_nil ?_
 intro nq2 hG
 have r9 : RWord w.heap.size z.natAbs [] (.slice A9 k9 c9) nq2.out := by have := hG.fact 9; simp [Facts.put] at this; exact this
 have hR9 := Lib.hid (rword_at r9)
 have hF9 : Fr w A9 := hR9.out.2
 have hO9 := hF9.off HR.out.lt k9
 clear r9 hG
 go_wp2_with (first
  | (go_at_call 111; (with_reducible refine (bi_setx b o _ A9 k9 c9 z.natAbs _ (HR.out.ext nq2.use) hR9.out.1 hO9).mono ?_); rintro e w3 ⟨rfl, hI3, xt3, hP3⟩)
  )
 refine bodyPost_ret (v := .pointer (some ⟨b, o, none⟩)) ?h rfl ⟨rfl, A9, k9, c9, ⟨by have := hI3.out; rwa [sgn_self] at this, hF9⟩, (Tch.of nq2.use).trans xt3, Lib.hid fun p h1 h2 => ⟨(hP3.out p h1 h2).1.trans (Below.cell (p := ⟨b, p, none⟩) nq2.use HR.out.lt), (hP3.out p h1 h2).2.trans (Below.frozen (p := ⟨b, p, none⟩) nq2.use HR.out.lt)⟩⟩
 case h => simp [results, Tryz.results135, go_sem]
end
section
attribute [local go_sem] D2.Oper.detAt D2.detUpon D2.relUpon
theorem br_Quo (g bx b2 : Nat) (x y : Int) (p q : Nat) (hy0 : y ≠ 0) (hxp : Nat.gcd x.natAbs (denOf p) = 1) (hyq : Nat.gcd y.natAbs (denOf q) = 1) (A : Option Addr) (n c : Nat) (D : Option Addr) (m e : Nat) (B : Option Addr) (n2 c2 : Nat) (C : Option Addr) (m2 e2 : Nat)
  (hn : n ≤ 100000) (hm : m ≤ 100000) (hn2 : n2 ≤ 100000) (hm2 : m2 ≤ 100000) (w : World) (hT : Tz w) (hr : RatRoom w g) (hx : RatIs w bx x A n c p D m e) (hy : RatIs w b2 y B n2 c2 q C m2 e2) :
  Calls Tryz.prog 100 #[.pointer (some ⟨g, 0, none⟩), .pointer (some ⟨bx, 0, none⟩), .pointer (some ⟨b2, 0, none⟩)] w
   (FPost w g (canN (sgn (!(decide (x < 0) == decide (y < 0))) (x.natAbs * denOf q : Nat)) (denOf p * y.natAbs)) (canW (sgn (!(decide (x < 0) == decide (y < 0))) (x.natAbs * denOf q : Nat)) (denOf p * y.natAbs))) := by
 have HX := Lib.hid hx
 have HY := Lib.hid hy
 have HR := Lib.hid hr
 have HT := Lib.hid hT
 have lx := hx.int.room.lt
 have x0 := hx.int.neg
 have x1 := hx.int.words
 have ly := hy.int.room.lt
 have y0 := hy.int.neg
 have y1 := hy.int.words
 simp only [Nat.zero_add] at x1 y1
 have dl := den_len hx hm (by decide)
 have dl2 := den_len hy hm2 (by decide)
 have kX : ∀ w', Ext w w' → Calls Tryz.prog 136 #[.pointer (some ⟨bx, 0, none⟩)] w' fun e' w'' => ∃ (B : Option Addr) (k l : Nat), e' = .returned (.slice B k l) ∧ Hid (Rd w'' B k l (lim (denOf p))) ∧ Ext w' w'' := fun w' he => (br_below _ _ _ _ _ _ _ _ _ w' (HX.out.ext he)).mono fun _ _ ⟨B, k, l, h1, h2, h3⟩ => ⟨B, k, l, h1, h2.out.1, h3⟩
 have kY : ∀ w', Ext w w' → Calls Tryz.prog 136 #[.pointer (some ⟨b2, 0, none⟩)] w' fun e' w'' => ∃ (B : Option Addr) (k l : Nat), e' = .returned (.slice B k l) ∧ Hid (Rd w'' B k l (lim (denOf q))) ∧ Ext w' w'' := fun w' he => (br_below _ _ _ _ _ _ _ _ _ w' (HY.out.ext he)).mono fun _ _ ⟨B, k, l, h1, h2, h3⟩ => ⟨B, k, l, h1, h2.out.1, h3⟩
 have kT : ∀ w' P k l Q k2 l2, Ext w w' → Rd w' P k l (lim (denOf p)) → Rd w' Q k2 l2 (lim (denOf q)) → Calls Tryz.prog 151 #[.pointer (some ⟨g, 0, none⟩), .bool (!(decide (x < 0) == decide (y < 0))), .slice A n c, .slice P k l, .slice Q k2 l2, .slice B n2 c2] w' (FPost w g (canN (sgn (!(decide (x < 0) == decide (y < 0))) (x.natAbs * denOf q : Nat)) (denOf p * y.natAbs)) (canW (sgn (!(decide (x < 0) == decide (y < 0))) (x.natAbs * denOf q : Nat)) (denOf p * y.natAbs))) := fun w' P k l Q k2 l2 he h1 h2 => by
  have := br_timesX g (!(decide (x < 0) == decide (y < 0))) A P Q B n c k l k2 l2 n2 c2 _ _ _ _ (denOf_ne p) (by omega) hxp (by rw [Nat.gcd_comm]; exact hyq) hn (by rw [← h1.len]; exact dl) (by rw [← h2.len]; exact dl2) hn2 w' (HT.out.ext he) (HR.out.ext he) (HX.out.int.rd.ext he) h1 h2 (HY.out.int.rd.ext he)
  refine this.mono ?_
  rintro e w'' ⟨rfl, A', n', c', D', m', k', h3, h4⟩
  exact ⟨rfl, A', n', c', D', m', k', ⟨h3.out.1, h3.out.2.1.mono he, h3.out.2.2.mono he⟩, (Tch.of he).trans h4⟩
 clear hx hy hr hT
 go_enter Tryz.func100, Tryz.ntmps100
 go_wp2
 refine D2.wp_drawn_tail 26 (D2.tab [(18, D2.RRow (denOf p)), (20, D2.RRow (denOf q))]) (by kernel_rfl) (by kernel_rfl) (by kernel_rfl) (D2.tab_stays (by simp [D2.stays_row])) (fun hq hqf => ?_)
 simp only [List.take_succ_cons, List.take_zero, List.drop_succ_cons, List.drop_zero]
 have z0 := fun nq => (hq nq bx 0 lx).trans x0
 have z1 := fun nq => (hq nq bx 1 lx).trans x1
 have z2 := fun nq => (hq nq b2 0 ly).trans y0
 have z3 := fun nq => (hq nq b2 1 ly).trans y1
 iterate 18
  (refine D2.wpK_det rfl (fun K hK => ?_)
   go_simp
   first
    | (refine hK _ ?_; clear hK K)
    | (apply Exists.intro; refine ⟨fun x => ?_, hK _ ?_⟩; (first | exact z0 x | exact z1 x | exact z2 x | exact z3 x); clear hK K))
 refine D2.wpK_rel _ rfl rfl ?_ ?_
 ·rintro _ ⟨nn, rfl⟩ _
  unfold D2.Oper.relAt
  go_simp
  exact D2.rel_row (kX _ nn.use)
 rintro v ⟨_, ⟨nn, rfl⟩, hr⟩
 obtain ⟨A5, k5, c5, rfl, -⟩ := hr
 clear nn
 iterate 1
  (refine D2.wpK_det rfl (fun K hK => ?_)
   go_simp
   first
    | (refine hK _ ?_; clear hK K)
    | (apply Exists.intro; refine ⟨fun x => ?_, hK _ ?_⟩; (first | exact z0 x | exact z1 x | exact z2 x | exact z3 x); clear hK K))
 refine D2.wpK_rel _ rfl rfl ?_ ?_
 ·rintro _ ⟨nn, rfl⟩ _
  unfold D2.Oper.relAt
  go_simp
  exact D2.rel_row (kY _ nn.use)
 rintro v ⟨_, ⟨nn, rfl⟩, hr⟩
 obtain ⟨A6, k6, c6, rfl, -⟩ := hr
 clear nn
 iterate 5
  (refine D2.wpK_det rfl (fun K hK => ?_)
   go_simp
   first
    | (refine hK _ ?_; clear hK K)
    | (apply Exists.intro; refine ⟨fun x => ?_, hK _ ?_⟩; (first | exact z0 x | exact z1 x | exact z2 x | exact z3 x); clear hK K))
 refine D2.wpK_nil ?_
 intro nq hG
 have r5 : D2.RRow (denOf p) [] (.slice A5 k5 c5) nq.out := by have := hG.fact 18; simp [D2.Facts.put] at this; exact this
 have r6 : D2.RRow (denOf q) [] (.slice A6 k6 c6) nq.out := by have := hG.fact 20; simp [D2.Facts.put] at this; exact this
 have hR5 := Lib.hid (D2.row_at r5)
 have hR6 := Lib.hid (D2.row_at r6)
 have hE := Lib.hid nq.use
 clear r5 r6 hG
 go_wp2_with (first
  | (go_at_call 151; (with_reducible refine (kT _ A5 k5 c5 A6 k6 c6 hE.out hR5.out hR6.out).mono ?_); rintro e w9 ⟨rfl, A9, n9, c9, D9, m9, k9, hI9, xt9⟩)
  )
 refine bodyPost_ret (v := .pointer (some ⟨g, 0, none⟩)) ?h rfl ⟨rfl, A9, n9, c9, D9, m9, k9, hI9, xt9⟩
 case h => simp [results, Tryz.results100, go_sem]
end
theorem br_SetInt (g bx : Nat) (z : Int) (A : Option Addr) (n c : Nat) (hn : n ≤ 1000000) (w : World) (hr : RatRoom w g) (hx : IntIs w bx 0 z A n c) :
  Calls Tryz.prog 108 #[.pointer (some ⟨g, 0, none⟩), .pointer (some ⟨bx, 0, none⟩)] w (FPost w g z 0) := by
 have HR := Lib.hid hr
 have kS := bi_Setx g 0 bx 0 A n c z hn w hr.int hx
 have hlt := hr.int.lt
 obtain ⟨v2, h2⟩ := hr.c2
 have f2 := hr.f2
 clear hx hr
 go_enter Tryz.func108, Tryz.ntmps108
 go_wp2_with (first
  | (go_at_call 135; (with_reducible refine kS.mono ?_); rintro e w3 ⟨rfl, A3, n3, c3, hI3, xt3, hP3⟩; have g2 := (hP3.out 2 (by decide) (by decide)).1.trans h2; have g3 := (hP3.out 2 (by decide) (by decide)).2.trans f2; have g4 := hI3.out.1.room.lt; have HT3 := Lib.hid xt3; clear xt3)
  )
 have hM := Lib.hid (rat_made (D := none) (m := 0) (k := 0) (d := 0) hI3.out.1 ⟨_, g2⟩ g3 (by rw [lim_zero]; exact Rd.nil w3) (fun x hx => by cases hx))
 refine bodyPost_ret (v := .pointer (some ⟨g, 0, none⟩)) ?h rfl ⟨rfl, A3, n3, c3, none, 0, 0, ⟨hM.out, hI3.out.2, fun a ha => by cases ha⟩, HT3.out.set _ _⟩
 case h => simp [results, Tryz.results108, go_sem]
theorem br_SetInt64 (g : Nat) (x : Int) (h1 : -9223372036854775808 ≤ x) (h2 : x ≤ 9223372036854775807) (w : World) (hr : RatRoom w g) :
  Calls Tryz.prog 90 #[.pointer (some ⟨g, 0, none⟩), .int .i64 x] w (FPost w g x 0) := by
 have HR := Lib.hid hr
 have kS : ∀ (b : Nat) (A : Option Addr) (n c : Nat) (w' : World), Ext w w' → IntIs w' b 0 x A n c → Calls Tryz.prog 108 #[.pointer (some ⟨g, 0, none⟩), .pointer (some ⟨b, 0, none⟩)] w' (FPost w' g x 0) := fun b A n c w' he hI => by
  have h3 := hI.rd.len
  have h4 : (lim x.natAbs).length ≤ 2 := lim_le (by show x.natAbs < 4294967296 ^ 2; omega)
  exact br_SetInt g b x A n c (by omega) w' (HR.out.ext he) hI
 clear hr
 go_enter Tryz.func90, Tryz.ntmps90
 go_wp2_with (first
  | (go_at_call 50; (with_reducible refine (bi_NewInt x h1 h2 _).mono ?_); rintro e w1 ⟨p1, P1, k1, l1, rfl, hI1, hp1, xb1⟩)
  | (go_at_call 108; (with_reducible refine (kS _ _ _ _ _ xb1 hI1.out.1).mono ?_); rintro e w9 ⟨rfl, A9, n9, c9, D9, m9, k9, hI9, xt9⟩)
  )
 refine bodyPost_ret (v := .pointer (some ⟨g, 0, none⟩)) ?h rfl ⟨rfl, A9, n9, c9, D9, m9, k9, ⟨hI9.out.1, hI9.out.2.1.mono xb1, hI9.out.2.2.mono xb1⟩, (Tch.of xb1).trans xt9⟩
 case h => simp [results, Tryz.results90, go_sem]
end Go.Proofs.YtchbefambnhjjaaGreatDoor.NB
end
