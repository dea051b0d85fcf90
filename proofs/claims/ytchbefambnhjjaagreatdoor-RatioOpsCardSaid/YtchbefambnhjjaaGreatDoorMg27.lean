/- Lemmas of this proof, laid together: TwIntI, TwIntJ, TwIntK, TwIntL, TwIntM, TwRatL, TwIntN, TwRatT, TwRatK. -/
import Derived.Test.YtchbefambnhjjaaGreatDoorMg22
import Derived.Test.YtchbefambnhjjaaGreatDoorMg26
import Derived.Deep.DeepCutAuto
import Derived.Deep.RegionWith
import Derived.Deep.LoopGhost
import Derived.Test.YtchbefambnhjjaaGreatDoorMg23
import Derived.Test.YtchbefambnhjjaaGreatDoorMg25
import Derived.Test.YtchbefambnhjjaaGreatDoorMg13
import Derived.Test.YtchbefambnhjjaaGreatDoorMg21
set_option linter.unusedSimpArgs false
set_option linter.unusedVariables false
section
/- (The document's library.) Whole numbers of the library's: out of machine numbers; without a sign; products, differences. -/

namespace Go.Proofs.YtchbefambnhjjaaGreatDoor.NB
open Go.RowKit
attribute [local go_sem] sz2 sz3 sz4 sz5 sz6 sz7 sz8
set_option maxHeartbeats 4000000
set_option maxRecDepth 100000
attribute [local irreducible] Calls
attribute [local go_sem] Oper.detAt detUpon relUpon
theorem bi_SetInt64 (b o : Nat) (x : Int) (h1 : -9223372036854775808 ≤ x) (h2 : x ≤ 9223372036854775807) (w : World) (hr : Room w b o) :
  Calls Tryz.prog 112 #[.pointer (some ⟨b, o, none⟩), .int .i64 x] w (IPost w b o x) := by
 have HR := Lib.hid hr
 have hlt := hr.lt
 clear hr
 by_cases h0 : x < 0
 ·obtain ⟨n, rfl⟩ : ∃ n : Nat, x = -(n : Int) := ⟨x.natAbs, by omega⟩
  have hn : n < 18446744073709551616 := by omega
  have h0' : -(n : Int) < 0 := h0
  have hF : ∀ w', Calls Tryz.prog 163 #[.int .u64 (IntKind.u64.wrap (-IntKind.u64.wrap (-(n : Int))))] w' fun e w'' => ∃ (A : Option Addr) (k c : Nat), e = .returned (.slice A k c) ∧ Hid (Rd w'' A k c (lim n) ∧ Fr w' A) ∧ Ext w' w'' := fun w' => by
   have e1 : IntKind.u64.wrap (-IntKind.u64.wrap (-(n : Int))) = (n : Int) := by rw [IntKind.wrap_u64, IntKind.wrap_u64]; omega
   rw [e1]
   exact bw_fromUint n hn w'
  have hsg : Hid (sgn true n = -(n : Int)) := Lib.hid rfl
  go_enter Tryz.func112, Tryz.ntmps112
  go_wp2_with (first
   | (go_at_call 163; (with_reducible refine (hF _).mono ?_); rintro e w1 ⟨A1, k1, c1, rfl, hR1, xb1⟩; obtain ⟨xc1, xf1, xl1, xz1⟩ := jU xb1; (try simp at xz1))
   | (go_at_call 111; (with_reducible refine (bi_set b o true A1 k1 c1 n _ (HR.out.ext xb1) hR1.out.1 (hR1.out.2.off hlt k1)).mono ?_); rintro e w3 ⟨rfl, hI3, xt3⟩)
   )
  refine bodyPost_ret (v := .pointer (some ⟨b, o, none⟩)) ?h rfl ⟨rfl, A1, k1, c1, ⟨by have := hI3.out; rwa [hsg.out] at this, hR1.out.2⟩, (Tch.of xb1).trans xt3⟩
  case h => simp [results, Tryz.results112, go_sem]
 ·obtain ⟨n, rfl⟩ : ∃ n : Nat, x = (n : Int) := ⟨x.natAbs, by omega⟩
  have hF : ∀ w', Calls Tryz.prog 163 #[.int .u64 (n : Int)] w' fun e w'' => ∃ (A : Option Addr) (k c : Nat), e = .returned (.slice A k c) ∧ Hid (Rd w'' A k c (lim n) ∧ Fr w' A) ∧ Ext w' w'' := fun w' => bw_fromUint n (by omega) w'
  have hsg : Hid (sgn false n = (n : Int)) := Lib.hid rfl
  go_enter Tryz.func112, Tryz.ntmps112
  go_wp2_with (first
   | (go_at_call 163; (with_reducible refine (hF _).mono ?_); rintro e w1 ⟨A1, k1, c1, rfl, hR1, xb1⟩; obtain ⟨xc1, xf1, xl1, xz1⟩ := jU xb1; (try simp at xz1))
   | (go_at_call 111; (with_reducible refine (bi_set b o false A1 k1 c1 n _ (HR.out.ext xb1) hR1.out.1 (hR1.out.2.off hlt k1)).mono ?_); rintro e w3 ⟨rfl, hI3, xt3⟩)
   )
  refine bodyPost_ret (v := .pointer (some ⟨b, o, none⟩)) ?h rfl ⟨rfl, A1, k1, c1, ⟨by have := hI3.out; rwa [hsg.out] at this, hR1.out.2⟩, (Tch.of xb1).trans xt3⟩
  case h => simp [results, Tryz.results112, go_sem]
theorem bi_NewInt (x : Int) (h1 : -9223372036854775808 ≤ x) (h2 : x ≤ 9223372036854775807) (w : World) :
  Calls Tryz.prog 50 #[.int .i64 x] w (NPost w x) := by
 have hrm := Lib.hid (int_room w)
 go_enter Tryz.func50, Tryz.ntmps50
 go_wp2_with (first
  | (go_at_call 112; (with_reducible refine (bi_SetInt64 w.heap.size 0 x h1 h2 _ hrm.out).mono ?_); rintro e w3 ⟨rfl, A3, n3, c3, hI3, xt3⟩)
  )
 have hEE := Lib.hid (xt3.ext (jA (jR w) _) (Nat.le_refl _))
 refine bodyPost_ret (v := .pointer (some ⟨w.heap.size, 0, none⟩)) ?h rfl ⟨_, A3, n3, c3, rfl, ⟨hI3.out.1, Fr.mono hI3.out.2 (jA (jR w) _)⟩, Nat.le_refl _, hEE.out⟩
 case h => simp [results, Tryz.results50, go_sem]
end Go.Proofs.YtchbefambnhjjaaGreatDoor.NB
end
section
/- (The document's library.) Whole numbers of the library's: products, differences, quotients. -/

namespace Go.Proofs.YtchbefambnhjjaaGreatDoor.NB
open Go.RowKit
attribute [local go_sem] sz2 sz3 sz4 sz5 sz6 sz7 sz8
set_option maxHeartbeats 4000000
set_option maxRecDepth 100000
attribute [local irreducible] Calls
attribute [local go_sem] D2.Oper.detAt D2.detUpon D2.relUpon
namespace D2
end D2
theorem bi_Sub (b o g p h q : Nat) (x y : Int) (A : Option Addr) (n c : Nat) (B : Option Addr) (m d : Nat) (hn : n ≤ 1000000) (hm : m ≤ 1000000) (w : World) (hr : Room w b o) (hx : IntIs w g p x A n c) (hy : IntIs w h q y B m d) :
  Calls Tryz.prog 133 #[.pointer (some ⟨b, o, none⟩), .pointer (some ⟨g, p, none⟩), .pointer (some ⟨h, q, none⟩)] w (IPost w b o (x - y)) := by
 have HX := Lib.hid hx
 have HY := Lib.hid hy
 have HR := Lib.hid hr
 have lx := hx.room.lt
 have x0 := hx.neg
 have x1 := hx.words
 have ly := hy.room.lt
 have y0 := hy.neg
 have y1 := hy.words
 have hbl := hr.lt
 clear hx hy hr
 go_enter Tryz.func133, Tryz.ntmps133
 go_wp2
 refine wp_aft_tail 18 (by kernel_rfl) (by kernel_rfl) (by kernel_rfl) (fun hq hqf => ?_)
 simp only [List.take_succ_cons, List.take_zero, List.drop_succ_cons, List.drop_zero]
 repeat (go_big_quiet_step (first | fail
  ))
 refine wpQuiet_nil ?_
 rintro _ ⟨nq, rfl⟩
 have xl := ext_lt nq.use
 have xz := ext_size nq.use
 try simp at xz
 have hE := Lib.hid nq.use
 go_wp2_with (first
  | (go_at_call 184; (with_reducible refine (bi_added b o A n c x.natAbs _ B m d y.natAbs _ hn hm _ (HR.out.ext hE.out) (HX.out.rd.ext hE.out) (HY.out.rd.ext hE.out)).mono ?_); rintro e w3 ⟨rfl, A3, n3, c3, hI3, xt3⟩)
  )
 refine bodyPost_ret (v := .pointer (some ⟨b, o, none⟩)) ?h rfl ⟨rfl, A3, n3, c3, ⟨by have := hI3.out.1; rwa [sgn_self, sgn_turn, ← Int.sub_eq_add_neg] at this, hI3.out.2.mono hE.out⟩, (Tch.of hE.out).trans xt3⟩
 case h => simp [results, Tryz.results133, go_sem]
theorem bi_QuoRem (b g bx b2 : Nat) (x y : Int) (hy0 : y ≠ 0) (hbg : b ≠ g) (A : Option Addr) (n c : Nat) (B : Option Addr) (m d : Nat) (hn : n ≤ 400000) (w : World) (hr : Room w b 0) (hr2 : Room w g 0) (hx : IntIs w bx 0 x A n c) (hy : IntIs w b2 0 y B m d) :
  Calls Tryz.prog 131 #[.pointer (some ⟨b, 0, none⟩), .pointer (some ⟨bx, 0, none⟩), .pointer (some ⟨b2, 0, none⟩), .pointer (some ⟨g, 0, none⟩)] w
   (QRPost w b g (sgn (!(decide (x < 0) == decide (y < 0))) (x.natAbs / y.natAbs)) (sgn (decide (x < 0)) (x.natAbs % y.natAbs))) := by
 have HX := Lib.hid hx
 have HY := Lib.hid hy
 have HR := Lib.hid hr
 have HR2 := Lib.hid hr2
 have lx := hx.room.lt
 have x0 := hx.neg
 have x1 := hx.words
 have ly := hy.room.lt
 have y0 := hy.neg
 have y1 := hy.words
 simp only [Nat.zero_add] at x1 y1
 have kD : ∀ w', Ext w w' → Calls Tryz.prog 183 #[.slice A n c, .slice B m d] w' (QPost w' (x.natAbs / y.natAbs) (x.natAbs % y.natAbs)) := fun w' he => bw_div A B n c m d _ _ (by omega) hn w' (HX.out.rd.ext he) (HY.out.rd.ext he)
 clear hx hy hr hr2
 go_enter Tryz.func131, Tryz.ntmps131
 go_wp2
 refine wp_aft (by kernel_rfl) (by kernel_rfl) (fun hq hqf => ?_)
 repeat (go_big_quiet_step (first | fail
  ))
 refine wpQuiet_nil ?_
 rintro _ ⟨nq, rfl⟩
 have xl := ext_lt nq.use
 have xz := ext_size nq.use
 try simp at xz
 have hE := Lib.hid nq.use
 clear hq hqf
 have z0 := (Below.cell (p := ⟨bx, 0, none⟩) hE.out lx).trans x0
 have z1 := (Below.cell (p := ⟨bx, 1, none⟩) hE.out lx).trans x1
 have z2 := (Below.cell (p := ⟨b2, 0, none⟩) hE.out ly).trans y0
 have z3 := (Below.cell (p := ⟨b2, 1, none⟩) hE.out ly).trans y1
 have lx' := ext_lt hE.out _ lx
 have ly' := ext_lt hE.out _ ly
 generalize nq.out = W at *
 clear nq x0 x1 y0 y1
 go_upto_region 3 with (fail)
 refine D2.wp_drawn (D2.tab [(8, D2.RQuo W.heap.size (x.natAbs / y.natAbs) (x.natAbs % y.natAbs))]) (by kernel_rfl) (by kernel_rfl) (D2.tab_stays (by simp [D2.stays_quo])) (fun hq hqf => ?_)
 have u1 := fun nq => (hq nq bx 1 lx').trans z1
 have u3 := fun nq => (hq nq b2 1 ly').trans z3
 iterate 8
  (refine D2.wpK_det rfl (fun K hK => ?_)
   go_simp
   first
    | (refine hK _ ?_; clear hK K)
    | (apply Exists.intro; refine ⟨fun x => ?_, hK _ ?_⟩; (first | exact u1 x | exact u3 x | (simp [u1, u3]; rfl)); clear hK K))
 refine D2.wpK_rel _ rfl rfl ?_ ?_
 ·rintro _ ⟨nn, rfl⟩ _
  unfold D2.Oper.relAt
  go_simp
  exact D2.rel_quo (ext_size nn.use) (kD _ (jT hE.out nn.use))
 rintro v ⟨_, ⟨nn, rfl⟩, hr⟩
 obtain ⟨A5, k5, c5, B5, m5, d5, rfl, -⟩ := hr
 clear nn
 iterate 5
  (refine D2.wpK_det rfl (fun K hK => ?_)
   go_simp
   refine hK _ ?_; clear hK K)
 refine D2.wpK_nil ?_
 intro nq hG
 have r5 : D2.RQuo W.heap.size (x.natAbs / y.natAbs) (x.natAbs % y.natAbs) [] (.tuple #[.slice A5 k5 c5, .slice B5 m5 d5]) nq.out := by have := hG.fact 8; simp [D2.Facts.put] at this; exact this
 have hR5 := Lib.hid (D2.quo_at r5)
 have hE2 := Lib.hid (jT hE.out nq.use)
 have fA : Fr w A5 := fun a ha => Nat.le_trans hE.out.size (hR5.out.1.2 a ha)
 have fB : Fr w B5 := fun a ha => Nat.le_trans hE.out.size (hR5.out.2.2 a ha)
 have oAb := fA.off HR.out.lt k5
 have oAg := fA.off HR2.out.lt k5
 have oBb := fB.off HR.out.lt m5
 have oBg := fB.off HR2.out.lt m5
 clear r5 hG u1 u3 hq hqf kD
 generalize nq.out = W2 at *
 clear nq
 clear z0 z1 z2 z3
 have HG := Lib.hid hbg
 have HY0 := Lib.hid hy0
 clear hbg hy0
 go_upto_region 5 with (first
  | (go_at_call 111; (with_reducible refine (bi_set g 0 _ B5 m5 d5 (x.natAbs % y.natAbs) _ (HR2.out.ext hE2.out) hR5.out.2.1 oBg).mono ?_); rintro e w3 ⟨rfl, hI3, xt3⟩)
  )
 have HI3 := Lib.hid (hI3.out)
 have HT3 := Lib.hid xt3
 clear hI3 xt3
 go_wp2_with (first
  | (go_at_call 111; (with_reducible refine (bi_set b 0 _ A5 k5 c5 (x.natAbs / y.natAbs) _ ((HR.out.ext hE2.out).tch HT3.out HG.out) (hR5.out.1.1.tch HT3.out oAg) oAb).mono ?_); rintro e w4 ⟨rfl, hI4, xt4⟩)
  )
 refine bodyPost_ret (v := .tuple #[.pointer (some ⟨b, 0, none⟩), .pointer (some ⟨g, 0, none⟩)]) ?h rfl ⟨rfl, A5, k5, c5, B5, m5, d5, w3, ⟨hI4.out, fA, HI3.out.tch xt4 (Ne.symm HG.out) oBb, fB⟩, (Tch.of hE2.out).trans HT3.out, xt4⟩
 case h => simp [results, Tryz.results131, go_sem]
end Go.Proofs.YtchbefambnhjjaaGreatDoor.NB
end
section
/- (The document's library.) Fractions of the library's: sums. -/

namespace Go.Proofs.YtchbefambnhjjaaGreatDoor.NB
open Go.RowKit
attribute [local go_sem] sz2 sz3 sz4 sz5 sz6 sz7 sz8
set_option maxHeartbeats 4000000
set_option maxRecDepth 100000
attribute [local irreducible] Calls
attribute [local go_sem] D2.Oper.detAt D2.detUpon D2.relUpon
theorem br_belowO (r g : Nat) (z : Int) (A : Option Addr) (n c d : Nat) (D : Option Addr) (m e : Nat) (w : World) (hr : r < w.heap.size) (hx : RatIs w g z A n c d D m e) (ho : Off D m r) (hm : m ≤ 50000) :
  Calls Tryz.prog 136 #[.pointer (some ⟨g, 0, none⟩)] w fun e' w' => ∃ (B : Option Addr) (k l : Nat), (e' = .returned (.slice B k l) ∧ k ≤ 50000) ∧ Hid (Rd w' B k l (lim (denOf d)) ∧ Off B k r) ∧ Ext w w' := by
 by_cases hd : d = 0
 ·subst hd
  refine (br_below_new g z A n c D m e w hx).mono ?_
  rintro e' w' ⟨rfl, h1, h2⟩
  exact ⟨_, 1, 1, ⟨rfl, by decide⟩, ⟨h1.out, fun a ha _ => by cases ha; simp only; omega⟩, h2⟩
 ·refine (br_below_old g z A n c d hd D m e w hx).mono ?_
  rintro e' w' ⟨rfl, h2⟩
  exact ⟨D, m, e, ⟨rfl, hm⟩, ⟨by rw [show denOf d = d from if_neg hd]; exact hx.rd.ext h2, ho⟩, h2⟩
theorem br_set_nought (g : Nat) (w : World) (hr : RatRoom w g) : Calls Tryz.prog 114 #[.pointer (some ⟨g, 0, none⟩), .bool false, .slice none 0 0, .slice (some ⟨w.heap.size, 0, none⟩) 1 1] (w.alloc (Obj.cells #[.int .u32 1] 54)) (FPost w g 0 0) := by
 have kz : Calls Tryz.prog 114 #[.pointer (some ⟨g, 0, none⟩), .bool false, .slice none 0 0, .slice (some ⟨w.heap.size, 0, none⟩) 1 1] (w.alloc (Obj.cells #[.int .u32 1] 54)) (SPost (w.alloc (Obj.cells #[.int .u32 1] 54)) g 0 0 none (some ⟨w.heap.size, 0, none⟩)) :=
  br_set_zero g false none 0 0 (some ⟨w.heap.size, 0, none⟩) 1 1 1 _ (hr.ext (jA (jR _) _)) (by rw [lim_zero]; exact Rd.nil _) (one_row w)
 refine kz.mono ?_
 rintro e w' ⟨rfl, A', n', c', D', m', k', h1, h2⟩
 have h3 := h1.out.2 w (jA (jR _) _) (Fr.none _) (fun x hx => by cases hx; exact Nat.le_refl _)
 exact ⟨rfl, A', n', c', D', m', k', ⟨h1.out.1, h3.1, h3.2⟩, (Tch.of (jA (jR _) _)).trans h2⟩
theorem br_added (t : Bool) (g bx b2 : Nat) (x y : Int) (p q : Nat) (hxp : Nat.gcd x.natAbs (denOf p) = 1) (hyq : Nat.gcd y.natAbs (denOf q) = 1) (A : Option Addr) (n c : Nat) (D : Option Addr) (m e : Nat) (B : Option Addr) (n2 c2 : Nat) (C : Option Addr) (m2 e2 : Nat)
  (hn : n ≤ 50000) (hm : m ≤ 50000) (hn2 : n2 ≤ 50000) (hm2 : m2 ≤ 50000) (w : World) (hT : Tz w) (hr : RatRoom w g) (hx : RatIs w bx x A n c p D m e) (hy : RatIs w b2 y B n2 c2 q C m2 e2) (hoD : Off D m g) (hoC : Off C m2 g) :
  Calls Tryz.prog 149 #[.pointer (some ⟨g, 0, none⟩), .pointer (some ⟨bx, 0, none⟩), .pointer (some ⟨b2, 0, none⟩), .bool t] w
   (FPost w g (canN (x * denOf q + (if t then -y else y) * denOf p) (denOf p * denOf q)) (canW (x * denOf q + (if t then -y else y) * denOf p) (denOf p * denOf q))) := by
 have HX := Lib.hid hx
 have HY := Lib.hid hy
 have HR := Lib.hid hr
 have HT := Lib.hid hT
 have lx := hx.int.room.lt
 have x0 := hx.int.neg
 have x1 := hx.int.words
 have ly := hy.int.room.lt
 have y0 := hy.int.neg
 have y1 := hy.int.words
 have hgl := hr.int.lt
 simp only [Nat.zero_add] at x1 y1
 have hlx : (lim x.natAbs).length ≤ 50000 := by rw [hx.int.rd.len]; exact hn
 have hly : (lim y.natAbs).length ≤ 50000 := by rw [hy.int.rd.len]; exact hn2
 have kX : ∀ w', Ext w w' → Calls Tryz.prog 136 #[.pointer (some ⟨bx, 0, none⟩)] w' fun e' w'' => ∃ (B : Option Addr) (k l : Nat), (e' = .returned (.slice B k l) ∧ k ≤ 50000) ∧ Hid (Rd w'' B k l (lim (denOf p)) ∧ Off B k g) ∧ Ext w' w'' := fun w' he => br_belowO g bx x A n c p D m e w' (Nat.lt_of_lt_of_le hgl he.size) (HX.out.ext he) hoD hm
 have kY : ∀ w', Ext w w' → Calls Tryz.prog 136 #[.pointer (some ⟨b2, 0, none⟩)] w' fun e' w'' => ∃ (B : Option Addr) (k l : Nat), (e' = .returned (.slice B k l) ∧ k ≤ 50000) ∧ Hid (Rd w'' B k l (lim (denOf q)) ∧ Off B k g) ∧ Ext w' w'' := fun w' he => br_belowO g b2 y B n2 c2 q C m2 e2 w' (Nat.lt_of_lt_of_le hgl he.size) (HY.out.ext he) hoC hm2
 have hlP := den_len hx hm (by decide)
 have hlQ := den_len hy hm2 (by decide)
 have hp0 := denOf_ne p
 have hq0 := denOf_ne q
 have HoD := Lib.hid hoD
 have HoC := Lib.hid hoC
 clear hx hy hr hT hoD hoC
 generalize denOf p = P at *
 generalize denOf q = Q at *
 obtain ⟨G, hG⟩ : ∃ G, G = Nat.gcd P Q := ⟨_, rfl⟩
 have hG0 : G ≠ 0 := by rw [hG]; intro h; exact hp0 (Nat.eq_zero_of_gcd_eq_zero_left h)
 have kG : ∀ P1 k1 l1 Q1 k2 l2 w', Ext w w' → k1 ≤ 50000 → k2 ≤ 50000 → Rd w' P1 k1 l1 (lim P) → Rd w' Q1 k2 l2 (lim Q) → Calls Tryz.prog 144 #[.slice P1 k1 l1, .slice Q1 k2 l2] w' (WPost w' G) := fun P1 k1 l1 Q1 k2 l2 w' he h1 h2 h3 h4 => by rw [hG]; exact bw_commonA P1 Q1 k1 l1 k2 l2 P Q (by omega) (by omega) w' (HT.out.ext he) h3 h4
 have hdp : G ∣ P := by rw [hG]; exact Nat.gcd_dvd_left P Q
 have hdq : G ∣ Q := by rw [hG]; exact Nat.gcd_dvd_right P Q
 have hyt : Nat.gcd (if t then -y else y).natAbs Q = 1 := by cases t; exact hyq; rw [if_pos rfl, Int.natAbs_neg]; exact hyq
 obtain ⟨S, hS⟩ : ∃ S, S = x * ((Q / G : Nat) : Int) + (if t then -y else y) * ((P / G : Nat) : Int) := ⟨_, rfl⟩
 obtain ⟨H, hH⟩ : ∃ H, H = Nat.gcd S.natAbs G := ⟨_, rfl⟩
 have hcan := can_add hp0 hq0 hxp hyt G hG S hS H hH
 have hSG : S * (G : Int) = x * (Q : Int) + (if t then -y else y) * (P : Int) := by rw [hS]; exact add_made _ _ _ _ _ hdp hdq
 have hsum : sgn (decide (x < 0)) (x.natAbs * (Q / G) : Nat) + sgn (!(decide (y < 0) == t)) (y.natAbs * (P / G) : Nat) = S := by rw [turned_sgn, plain_sgn, hS]
 have hl1 : (lim (x.natAbs * (Q / G))).length ≤ 100000 := Nat.le_trans (lim_mul_len _ _) (by have := lim_mono (Nat.div_le_self Q G); omega)
 have hl2 : (lim (y.natAbs * (P / G))).length ≤ 100000 := Nat.le_trans (lim_mul_len _ _) (by have := lim_mono (Nat.div_le_self P G); omega)
 have hH0 : H ≠ 0 := by rw [hH]; intro h; exact hG0 (Nat.eq_zero_of_gcd_eq_zero_right h)
 have f0 : S = 0 → canN (x * Q + (if t then -y else y) * P) (P * Q) = 0 ∧ canW (x * Q + (if t then -y else y) * P) (P * Q) = 0 := fun h => by
  rw [← hSG, h, Int.zero_mul, canN_zero, canW_zero]; exact ⟨rfl, rfl⟩
 have f1 : S ≠ 0 → canN (x * Q + (if t then -y else y) * P) (P * Q) = sgn (decide (S < 0)) (S.natAbs / H : Nat) ∧ canW (x * Q + (if t then -y else y) * P) (P * Q) = (P / G) * (Q / H) := fun h => by
  refine ⟨hcan.1.symm, ?_⟩
  rw [hcan.2]
  unfold canW
  rw [if_neg]
  rw [← hSG]; exact Int.mul_ne_zero h (by omega)
 have hlS : (lim S.natAbs).length ≤ 100001 := by rw [← hsum]; exact sum_len' (by rw [sgn_abs]; exact hl1) (by rw [sgn_abs]; exact hl2)
 generalize canN (x * Q + (if t then -y else y) * P) (P * Q) = ZN at f0 f1 ⊢
 generalize canW (x * Q + (if t then -y else y) * P) (P * Q) = ZD at f0 f1 ⊢
 have kH : ∀ S1 k1 l1 G1 k2 l2 w', Ext w w' → k1 ≤ 100001 → k2 ≤ 400000 → Rd w' S1 k1 l1 (lim S.natAbs) → Rd w' G1 k2 l2 (lim G) → Calls Tryz.prog 144 #[.slice S1 k1 l1, .slice G1 k2 l2] w' (WPost w' H) := fun S1 k1 l1 G1 k2 l2 w' he h1 h2 h3 h4 => by rw [hH]; exact bw_commonA S1 G1 k1 l1 k2 l2 _ _ (by omega) h2 w' (HT.out.ext he) h3 h4
 have hGP : (lim G).length ≤ 50000 := Nat.le_trans (lim_mono (Nat.le_of_dvd (Nat.pos_of_ne_zero hp0) hdp)) hlP
 have kM1 : ∀ Q1 k l w', Ext w w' → k ≤ 50000 → Rd w' Q1 k l (lim (Q / G)) → Calls Tryz.prog 148 #[.slice A n c, .slice Q1 k l] w' (WPost w' (x.natAbs * (Q / G))) := fun Q1 k l w' he h1 h2 => bw_mulA A Q1 n c k l _ _ (by omega) w' (HX.out.int.rd.ext he) h2
 have kM2 : ∀ Q1 k l w', Ext w w' → k ≤ 50000 → Rd w' Q1 k l (lim (P / G)) → Calls Tryz.prog 148 #[.slice B n2 c2, .slice Q1 k l] w' (WPost w' (y.natAbs * (P / G))) := fun Q1 k l w' he h1 h2 => bw_mulA B Q1 n2 c2 k l _ _ (by omega) w' (HY.out.int.rd.ext he) h2
 have kB : ∀ Q1 k l G1 k2 l2 V W w', W ≠ 0 → k ≤ 400000 → Rd w' Q1 k l (lim V) → Rd w' G1 k2 l2 (lim W) → Calls Tryz.prog 165 #[.slice Q1 k l, .slice G1 k2 l2] w' fun e w'' => ∃ (A' : Option Addr) (k' c' : Nat), e = .returned (.slice A' k' c') ∧ Hid (Rd w'' A' k' c' (lim (V / W))) ∧ Ext w' w'' := fun Q1 k l G1 k2 l2 V W w' h0 h1 h2 h3 => (bw_by Q1 G1 k l k2 l2 V W h0 h1 w' h2 h3).mono fun _ _ ⟨A', k', c', h4, h5, h6⟩ => ⟨A', k', c', h4.1, h5, h6⟩
 have kS : ∀ b s V A' n' c' wz w', Room wz b 0 → Ext wz w' → Rd w' A' n' c' (lim V) → Fr wz A' → Calls Tryz.prog 111 #[.pointer (some ⟨b, 0, none⟩), .bool s, .slice A' n' c'] w' fun e w'' => e = .returned (.pointer (some ⟨b, 0, none⟩)) ∧ Hid (IntIs w'' b 0 (sgn s V) A' n' c') ∧ Tch b w' w'' := fun b s V A' n' c' wz w' h1 h2 h3 h4 => bi_set b 0 s A' n' c' V w' (h1.ext h2) h3 (h4.off h1.lt n')
 have HP := Lib.hid (And.intro hp0 (And.intro hq0 (And.intro hxp hyq)))
 have HS := Lib.hid hS
 have HGG := Lib.hid hG
 have HHH := Lib.hid hH
 clear hcan hSG hdp hdq hyt hp0 hq0 hxp hyq hG hH hS
 go_enter Tryz.func149, Tryz.ntmps149
 go_upto_region 5 with (first
  | (go_at_call 136; (with_reducible refine (kX _ xcl).mono ?_); rintro e w1 ⟨P1, k1, l1, ⟨rfl, hk1⟩, hR1, xb1⟩; obtain ⟨xc1, xf1, xl1, xz1⟩ := jU xb1; (try simp at xz1); obtain ⟨l1_0, r1_0, f1_0, r1_0_1, f1_0_1⟩ := kq2 xb1 (bx))
  | (go_at_call 136; (with_reducible refine (kY _ xcl).mono ?_); rintro e w2 ⟨Q1, k2, l2, ⟨rfl, hk2⟩, hR2, xb2⟩; obtain ⟨xc2, xf2, xl2, xz2⟩ := jU xb2; (try simp at xz2); obtain ⟨l2_0, r2_0, f2_0, r2_0_1, f2_0_1⟩ := kq2 xb2 (bx))
  | (go_at_call 144; (with_reducible refine (kG _ _ _ _ _ _ _ xcl hk1 hk2 (hR1.out.1.ext xb2) hR2.out.1).mono ?_); rintro e w3 ⟨G1, k3, l3, rfl, hR3, xb3⟩; obtain ⟨xc3, xf3, xl3, xz3⟩ := jU xb3; (try simp at xz3); obtain ⟨l3_0, r3_0, f3_0, r3_0_1, f3_0_1⟩ := kq2 xb3 (bx))
  )
 have hE3 : Hid (Ext w w3) := by show Ext w w3; exact xcl
 have hP3 := Lib.hid (hR1.out.1.ext (jT xb2 xb3))
 have hQ3 := Lib.hid (hR2.out.1.ext xb3)
 have hk3 : k3 ≤ 50000 := by rw [← hR3.out.1.len]; exact hGP
 have hoG : Off G1 k3 g := hR3.out.2.off (ext_lt (jT xb1 xb2) g hgl) k3
 have HOG := Lib.hid (And.intro hoG (And.intro hR1.out.2 hR2.out.2))
 clear kX kY kG hoG
 go_cut [13] (fun v wn => v = .pointer (some ⟨w3.heap.size + 1, 0, none⟩) ∧ Hid (Room wn w3.heap.size 0 ∧ Room wn (w3.heap.size + 1) 0) ∧ Hid (Ext w3 wn))
 case first =>
  go_wp2
  go_meet
  case rel =>
   refine ⟨rfl, ⟨(int_room w3).ext (jA (jR _) _), ?_⟩, jA (jA (jR _) _) _⟩
   have h := int_room (w3.alloc (Obj.cells #[.bool false, .slice none 0 0] 67))
   have e : (w3.alloc (Obj.cells #[.bool false, .slice none 0 0] 67)).heap.size = w3.heap.size + 1 := by simp
   rw [e] at h; exact h
 case rest =>
 obtain ⟨wz, rfl⟩ : ∃ wz, wz = wc := ⟨wc, rfl⟩
 obtain ⟨rfl, hRo, hEz⟩ := hcut
 have hE4 := Lib.hid (jT hE3.out hEz.out)
 have x0 := (Below.cell (p := ⟨bx, 0, none⟩) hE4.out lx).trans x0
 have x1 := (Below.cell (p := ⟨bx, 1, none⟩) hE4.out lx).trans x1
 have ltbx := ext_lt hE4.out bx lx
 clear xb1 xb2 xb3
 go_upto_region 6 with (fail)
 go_cut [12] (fun v wn => ∃ (A6 : Option Addr) (n6 c6 : Nat), (v = .pointer (some ⟨w3.heap.size, 0, none⟩) ∧ n6 ≤ 100000) ∧ Hid (IntIs wn w3.heap.size 0 (sgn (decide (x < 0)) (x.natAbs * (Q / G) : Nat)) A6 n6 c6 ∧ Off A6 n6 (w3.heap.size + 1) ∧ Room wn (w3.heap.size + 1) 0) ∧ Hid (Ext w3 wn))
 case first =>
  have z0 := x0
  have z1 := x1
  refine D2.wp_drawn_tail 15 (D2.tab [(13, D2.RRow (Q / G)), (14, RWord wz.heap.size (x.natAbs * (Q / G)))]) (by kernel_rfl) (by kernel_rfl) (by kernel_rfl) (D2.tab_stays (by simp [D2.stays_row, D2.stays_word])) (fun hq hqf => ?_)
  simp only [List.take_succ_cons, List.take_zero, List.drop_succ_cons, List.drop_zero]
  have z0 := fun nq => (hq nq bx 0 ltbx).trans x0
  have z1 := fun nq => (hq nq bx 1 ltbx).trans x1
  iterate 13
   (refine D2.wpK_det rfl (fun K hK => ?_)
    go_simp
    first
     | (refine hK _ ?_; clear hK K)
     | (apply Exists.intro; refine ⟨fun x => ?_, hK _ ?_⟩; (first | exact z0 x | exact z1 x); clear hK K))
  refine D2.wpK_rel _ rfl rfl ?_ ?_
  ·rintro _ ⟨nn, rfl⟩ _
   unfold D2.Oper.relAt
   go_simp
   exact D2.rel_row (kB Q1 k2 l2 G1 k3 l3 Q G _ hG0 (Nat.le_trans hk2 (by decide)) (hQ3.out.ext (jT hEz.out nn.use)) (hR3.out.1.ext (jT hEz.out nn.use)))
  rintro v ⟨_, ⟨nn, rfl⟩, hr⟩
  obtain ⟨A4, n4, c4, rfl, hr4⟩ := hr
  have hn4 : n4 ≤ 50000 := by rw [← hr4.len]; exact Nat.le_trans (lim_mono (Nat.div_le_self _ _)) hlQ
  clear nn hr4
  refine D2.wpK_rel _ rfl rfl ?_ ?_
  ·rintro _ ⟨nn, rfl⟩ hdep
   have q1 := hdep 13 (by kernel_rfl)
   simp only [D2.Facts.put] at q1
   have q2 := D2.row_at (vals := []) q1
   unfold D2.Oper.relAt
   go_simp
   exact D2.rel_wpost (ext_size nn.use) (kM1 _ _ _ _ (jT hE4.out nn.use) hn4 q2)
  rintro v ⟨_, ⟨nn, rfl⟩, hr⟩
  obtain ⟨A5, n5, c5, rfl, hr5, -⟩ := hr
  have hn5 : n5 ≤ 100000 := by rw [← hr5.len]; exact hl1
  clear nn hr5
  refine D2.wpK_nil ?_
  intro nq hGG
  have r5 : RWord wz.heap.size (x.natAbs * (Q / G)) [] (.slice A5 n5 c5) nq.out := by have := hGG.fact 14; simp [D2.Facts.put] at this; exact this
  have hR5 := Lib.hid (rword_at r5)
  have hE := Lib.hid nq.use
  have hF5 : Fr wz A5 := hR5.out.2
  clear r5 hGG
  go_wp2_with (first
   | (go_at_call 111; (with_reducible refine (kS _ _ _ A5 n5 c5 wz _ hRo.out.1 hE.out hR5.out.1 hF5).mono ?_); rintro e w6 ⟨rfl, hI6, xt6⟩)
   )
  go_meet
  case rel =>
   exact ⟨A5, n5, c5, ⟨rfl, hn5⟩, ⟨hI6.out, hF5.off hRo.out.2.lt n5, (hRo.out.2.ext hE.out).tch xt6 (by omega)⟩, xt6.ext (jT hEz.out hE.out) (Nat.le_refl _)⟩
 case rest =>
 obtain ⟨wy, rfl⟩ : ∃ wy, wy = wc := ⟨wc, rfl⟩
 obtain ⟨A6, n6, c6, ⟨rfl, hn6⟩, hI6, hEy⟩ := hcut
 have hE5 := Lib.hid (jT hE3.out hEy.out)
 clear x0 x1
 have x0 := (Below.cell (p := ⟨b2, 0, none⟩) hE5.out ly).trans y0
 have x1 := (Below.cell (p := ⟨b2, 1, none⟩) hE5.out ly).trans y1
 have ltb2 := ext_lt hE5.out b2 ly
 go_upto_region 7 with (fail)
 go_cut [12] (fun v wn => ∃ (A7 : Option Addr) (n7 c7 : Nat), (v = .pointer (some ⟨w3.heap.size, 0, none⟩) ∧ n7 ≤ 100000) ∧ Hid (IntIs wn w3.heap.size 0 (sgn (decide (x < 0)) (x.natAbs * (Q / G) : Nat)) A6 n6 c6 ∧ IntIs wn (w3.heap.size + 1) 0 (sgn (!(decide (y < 0) == t)) (y.natAbs * (P / G) : Nat)) A7 n7 c7) ∧ Hid (Ext w3 wn))
 case first =>
  refine D2.wp_drawn_tail 17 (D2.tab [(15, D2.RRow (P / G)), (16, RWord wy.heap.size (y.natAbs * (P / G)))]) (by kernel_rfl) (by kernel_rfl) (by kernel_rfl) (D2.tab_stays (by simp [D2.stays_row, D2.stays_word])) (fun hq hqf => ?_)
  simp only [List.take_succ_cons, List.take_zero, List.drop_succ_cons, List.drop_zero]
  have z0 := fun nq => (hq nq b2 0 ltb2).trans x0
  have z1 := fun nq => (hq nq b2 1 ltb2).trans x1
  iterate 15
   (refine D2.wpK_det rfl (fun K hK => ?_)
    go_simp
    first
     | (refine hK _ ?_; clear hK K)
     | (apply Exists.intro; refine ⟨fun x => ?_, hK _ ?_⟩; (first | exact z0 x | exact z1 x); clear hK K))
  refine D2.wpK_rel _ rfl rfl ?_ ?_
  ·rintro _ ⟨nn, rfl⟩ _
   unfold D2.Oper.relAt
   go_simp
   exact D2.rel_row (kB P1 k1 l1 G1 k3 l3 P G _ hG0 (Nat.le_trans hk1 (by decide)) (hP3.out.ext (jT hEy.out nn.use)) (hR3.out.1.ext (jT hEy.out nn.use)))
  rintro v ⟨_, ⟨nn, rfl⟩, hr⟩
  obtain ⟨A4, n4, c4, rfl, hr4⟩ := hr
  have hn4 : n4 ≤ 50000 := by rw [← hr4.len]; exact Nat.le_trans (lim_mono (Nat.div_le_self _ _)) hlP
  clear nn hr4
  refine D2.wpK_rel _ rfl rfl ?_ ?_
  ·rintro _ ⟨nn, rfl⟩ hdep
   have q1 := hdep 15 (by kernel_rfl)
   simp only [D2.Facts.put] at q1
   have q2 := D2.row_at (vals := []) q1
   unfold D2.Oper.relAt
   go_simp
   exact D2.rel_wpost (ext_size nn.use) (kM2 _ _ _ _ (jT hE5.out nn.use) hn4 q2)
  rintro v ⟨_, ⟨nn, rfl⟩, hr⟩
  obtain ⟨A5, n5, c5, rfl, hr5, -⟩ := hr
  have hn5 : n5 ≤ 100000 := by rw [← hr5.len]; exact hl2
  clear nn hr5
  refine D2.wpK_nil ?_
  intro nq hGG
  have r5 : RWord wy.heap.size (y.natAbs * (P / G)) [] (.slice A5 n5 c5) nq.out := by have := hGG.fact 16; simp [D2.Facts.put] at this; exact this
  have hR5 := Lib.hid (rword_at r5)
  have hE := Lib.hid nq.use
  have hF5 : Fr wy A5 := hR5.out.2
  clear r5 hGG
  go_wp2_with (first
   | (go_at_call 111; (with_reducible refine (kS _ _ _ A5 n5 c5 wy _ hI6.out.2.2 hE.out hR5.out.1 hF5).mono ?_); rintro e w7 ⟨rfl, hI7, xt7⟩)
   )
  go_meet
  case rel =>
   exact ⟨A5, n5, c5, ⟨rfl, hn5⟩, ⟨(hI6.out.1.ext hE.out).tch xt7 (by omega) hI6.out.2.1, hI7.out⟩, xt7.ext (jT hEy.out hE.out) (by omega)⟩
 case rest =>
 obtain ⟨wx, rfl⟩ : ∃ wx, wx = wc := ⟨wc, rfl⟩
 obtain ⟨A7, n7, c7, ⟨rfl, hn7⟩, hI7, hEx⟩ := hcut
 have hE6 := Lib.hid (jT hE3.out hEx.out)
 clear x0 x1 kM1 kM2
 go_upto_region 9 with (first
  | (go_at_call 132; (with_reducible refine (bi_Add _ 0 _ 0 _ 0 _ _ A6 n6 c6 A7 n7 c7 (Nat.le_trans hn6 (by decide)) (Nat.le_trans hn7 (by decide)) _ hI7.out.1.room hI7.out.1 hI7.out.2).mono ?_); rintro e w8 ⟨rfl, A8, n8, c8, hI8, xt8⟩)
  )
 rw [hsum] at hI8
 have hE8 := Lib.hid (xt8.ext hEx.out (Nat.le_refl _))
 have hE9 := Lib.hid (jT hE3.out hE8.out)
 have s0 := hI8.out.1.neg
 have s1 := hI8.out.1.words
 have ls := hI8.out.1.room.lt
 simp only [Nat.zero_add] at s1
 have hRg := Lib.hid (HR.out.ext hE9.out)
 have hn8 : n8 ≤ 100001 := by rw [← hI8.out.1.rd.len]; exact hlS
 by_cases hS0 : S = 0
 ·obtain rfl : n8 = 0 := hI8.out.1.rd.nil_of (by rw [hS0]; rfl)
  obtain ⟨rfl, rfl⟩ := f0 hS0
  clear kH kB kS
  go_wp2_with (first
   | (go_at_call 114; (with_reducible refine (br_set_nought g _ hRg.out).mono ?_); rintro e w9 ⟨rfl, A9, n9, c9, D9, m9, k9, hI9, xt9⟩)
   )
  refine bodyPost_ret (v := .pointer (some ⟨g, 0, none⟩)) ?h rfl ⟨rfl, A9, n9, c9, D9, m9, k9, ⟨hI9.out.1, hI9.out.2.1.mono hE9.out, hI9.out.2.2.mono hE9.out⟩, (Tch.of hE9.out).trans xt9⟩
  case h => simp [results, Tryz.results149, go_sem]
 ·have hn0 : ((n8 : Int) == 0) = false := by
   rw [beq_eq_false_iff_ne]; have := hI8.out.1.rd.len; intro h; exact hS0 (Int.natAbs_eq_zero.1 (lim_nil.1 (List.eq_nil_of_length_eq_zero (by omega))))
  obtain ⟨rfl, rfl⟩ := f1 hS0
  go_upto_region 12 with (first
   | (go_at_call 144; (with_reducible refine (kH A8 n8 c8 G1 k3 l3 _ hE9.out hn8 (Nat.le_trans hk3 (by decide)) hI8.out.1.rd (hR3.out.1.ext hE8.out)).mono ?_); rintro e w9 ⟨H1, k9, l9, rfl, hR9, xb9⟩)
   )
  have hEa := Lib.hid (jT hE8.out xb9)
  have hEb := Lib.hid (jT hE3.out hEa.out)
  have s0' := (Below.cell (p := ⟨w3.heap.size, 0, none⟩) xb9 ls).trans s0
  have s1' := (Below.cell (p := ⟨w3.heap.size, 1, none⟩) xb9 ls).trans s1
  have ls' := ext_lt xb9 _ ls
  have hRh := Lib.hid (HR.out.ext hEb.out)
  have hlg := ext_lt hEb.out g hgl
  obtain ⟨v2, hv2⟩ := hRh.out.c2
  clear s0 s1 kH
  go_cut [14] (fun v wn => ∃ (A12 : Option Addr) (n12 c12 : Nat), v = .slice H1 k9 l9 ∧ Hid (IntIs wn g 0 (sgn (decide (S < 0)) (S.natAbs / H : Nat)) A12 n12 c12 ∧ Fr w A12) ∧ Hid (wn.cell? ⟨g, 2, none⟩ = some v2 ∧ wn.frozen? ⟨g, 2, none⟩ = false) ∧ Hid (Tch g w9 wn))
  case first =>
   refine D2.wp_drawn_tail 14 (D2.tab [(12, D2.RRow (S.natAbs / H)), (13, RWord w9.heap.size (S.natAbs / H))]) (by kernel_rfl) (by kernel_rfl) (by kernel_rfl) (D2.tab_stays (by simp [D2.stays_row, D2.stays_word])) (fun hq hqf => ?_)
   simp only [List.take_succ_cons, List.take_zero, List.drop_succ_cons, List.drop_zero]
   have z0 := fun nq => (hq nq w3.heap.size 0 ls').trans s0'
   have z1 := fun nq => (hq nq w3.heap.size 1 ls').trans s1'
   iterate 12
    (refine D2.wpK_det rfl (fun K hK => ?_)
     go_simp
     first
      | (refine hK _ ?_; clear hK K)
      | (apply Exists.intro; refine ⟨fun x => ?_, hK _ ?_⟩; (first | exact z0 x | exact z1 x); clear hK K))
   refine D2.wpK_rel _ rfl rfl ?_ ?_
   ·rintro _ ⟨nn, rfl⟩ _
    unfold D2.Oper.relAt
    go_simp
    exact D2.rel_row (kB A8 n8 c8 H1 k9 l9 S.natAbs H _ hH0 (Nat.le_trans hn8 (by decide)) (hI8.out.1.rd.ext (jT xb9 nn.use)) (hR9.out.1.ext nn.use))
   rintro v ⟨_, ⟨nn, rfl⟩, hr⟩
   obtain ⟨A4, n4, c4, rfl, hr4⟩ := hr
   have hn4 : n4 ≤ 1000000 := by rw [← hr4.len]; exact Nat.le_trans (lim_mono (Nat.div_le_self _ _)) (Nat.le_trans hlS (by decide))
   clear nn hr4
   refine D2.wpK_rel _ rfl rfl ?_ ?_
   ·rintro _ ⟨nn, rfl⟩ hdep
    have q1 := hdep 12 (by kernel_rfl)
    simp only [D2.Facts.put] at q1
    have q2 := D2.row_at (vals := []) q1
    unfold D2.Oper.relAt
    go_simp
    exact (rel_copied _ _ _ _ _ hn4 _ _ (ext_size nn.use) q2).mono (fun e w' ⟨u, h1, h2, h3, h4⟩ => ⟨u, h1, h2, (by obtain ⟨A, k, c, rfl, -⟩ := h4; exact D2.fresh_row), h4⟩)
   rintro v ⟨_, ⟨nn, rfl⟩, hr⟩
   obtain ⟨A5, n5, c5, rfl, -, -⟩ := hr
   clear nn
   refine D2.wpK_nil ?_
   intro nq hGG
   have r5 : RWord w9.heap.size (S.natAbs / H) [] (.slice A5 n5 c5) nq.out := by have := hGG.fact 13; simp [D2.Facts.put] at this; exact this
   have hR5 := Lib.hid (rword_at r5)
   have hE := Lib.hid nq.use
   have hF5 : Fr w9 A5 := hR5.out.2
   clear r5 hGG
   go_wp2_with (first
    | (go_at_call 111; (with_reducible refine (bi_setx g 0 _ A5 n5 c5 _ _ (hRh.out.int.ext hE.out) hR5.out.1 (hF5.off hlg n5)).mono ?_); rintro e w10 ⟨rfl, hI10, xt10, hq10⟩)
    )
   go_meet
   case rel =>
    exact ⟨A5, n5, c5, rfl, ⟨hI10.out, hF5.mono hEb.out⟩, ⟨((hq10.out 2 (by omega) (by omega)).1.trans (Below.cell (p := ⟨g, 2, none⟩) hE.out hlg)).trans hv2, ((hq10.out 2 (by omega) (by omega)).2.trans (Below.frozen (p := ⟨g, 2, none⟩) hE.out hlg)).trans hRh.out.f2⟩, (Tch.of hE.out).trans xt10⟩
  case rest =>
  obtain ⟨wv, rfl⟩ : ∃ wv, wv = wc := ⟨wc, rfl⟩
  obtain ⟨A12, n12, c12, rfl, hI12, hv12, xt12⟩ := hcut
  have cv := hv12.out.1
  have cf := hv12.out.2
  have lgv := hI12.out.1.room.lt
  have hP9 := Lib.hid ((hP3.out.ext hEa.out).tch xt12.out HOG.out.2.1)
  have hQ9 := Lib.hid ((hQ3.out.ext hEa.out).tch xt12.out HOG.out.2.2)
  have hG9 := Lib.hid ((hR3.out.1.ext hEa.out).tch xt12.out HOG.out.1)
  have hH9 := Lib.hid (hR9.out.1.tch xt12.out (hR9.out.2.off (ext_lt hE9.out g hgl) k9))
  clear s0' s1'
  go_wp2_with (first
   | (go_at_call 165; (with_reducible refine (bw_by P1 G1 k1 l1 k3 l3 P G hG0 (Nat.le_trans hk1 (by decide)) _ hP9.out hG9.out).mono ?_); rintro e wa ⟨Aa, na, ca, ⟨rfl, hka⟩, hRa, xba⟩)
   | (go_at_call 165; (with_reducible refine (bw_by Q1 H1 k2 l2 k9 l9 Q H hH0 (Nat.le_trans hk2 (by decide)) _ (hQ9.out.ext xba) (hH9.out.ext xba)).mono ?_); rintro e wb ⟨Ab, nb, cb, ⟨rfl, hkb⟩, hRb, xbb⟩; have hsb : na + nb ≤ 200000 := Nat.le_trans (Nat.add_le_add (Nat.le_trans hka hk1) (Nat.le_trans hkb hk2)) (by decide))
   | (go_at_call 148; (with_reducible refine (bw_mulA Aa Ab na ca nb cb _ _ hsb _ (hRa.out.ext xbb) hRb.out).mono ?_); rintro e wd ⟨Ad, nd, cd, rfl, hRd, xbd⟩; have hEd := Lib.hid (jT xba (jT xbb xbd)); have cvd := (Below.cell (p := ⟨g, 2, none⟩) hEd.out lgv).trans cv; have cfd := (Below.frozen (p := ⟨g, 2, none⟩) hEd.out lgv).trans cf; have hFd := Lib.hid (hRd.out.2.mono (jT xba xbb)))
   )
  have hFw : Fr w Ad := hFd.out.szmono (Nat.le_trans (ext_size hEb.out) xt12.out.size)
  refine bodyPost_ret (v := .pointer (some ⟨g, 0, none⟩)) ?h rfl ⟨rfl, A12, n12, c12, Ad, nd, cd, ⟨rat_made (hI12.out.1.ext hEd.out) ⟨_, cvd⟩ cfd hRd.out.1 (hFd.out.off lgv nd), hI12.out.2, hFw⟩, (((Tch.of hEb.out).trans xt12.out).trans (Tch.of hEd.out)).set 2 _⟩
  case h => simp [results, Tryz.results149, go_sem]
theorem br_Add (g bx b2 : Nat) (x y : Int) (p q : Nat) (hxp : Nat.gcd x.natAbs (denOf p) = 1) (hyq : Nat.gcd y.natAbs (denOf q) = 1) (A : Option Addr) (n c : Nat) (D : Option Addr) (m e : Nat) (B : Option Addr) (n2 c2 : Nat) (C : Option Addr) (m2 e2 : Nat)
  (hn : n ≤ 50000) (hm : m ≤ 50000) (hn2 : n2 ≤ 50000) (hm2 : m2 ≤ 50000) (w : World) (hT : Tz w) (hr : RatRoom w g) (hx : RatIs w bx x A n c p D m e) (hy : RatIs w b2 y B n2 c2 q C m2 e2) (hoD : Off D m g) (hoC : Off C m2 g) :
  Calls Tryz.prog 94 #[.pointer (some ⟨g, 0, none⟩), .pointer (some ⟨bx, 0, none⟩), .pointer (some ⟨b2, 0, none⟩)] w
   (FPost w g (canN (x * denOf q + y * denOf p) (denOf p * denOf q)) (canW (x * denOf q + y * denOf p) (denOf p * denOf q))) := by
 have k := br_added false g bx b2 x y p q hxp hyq A n c D m e B n2 c2 C m2 e2 hn hm hn2 hm2 w hT hr hx hy hoD hoC
 simp only [Bool.false_eq_true, if_false] at k
 generalize canN (x * denOf q + y * denOf p) (denOf p * denOf q) = ZN at k ⊢
 generalize canW (x * denOf q + y * denOf p) (denOf p * denOf q) = ZD at k ⊢
 clear hT hr hx hy hoD hoC hxp hyq
 go_enter Tryz.func94, Tryz.ntmps94
 go_wp2_with (first
  | (go_at_call 149; (with_reducible refine k.mono ?_); rintro e w9 ⟨rfl, A9, n9, c9, D9, m9, k9, hI9, xt9⟩)
  )
 refine bodyPost_ret (v := .pointer (some ⟨g, 0, none⟩)) ?h rfl ⟨rfl, A9, n9, c9, D9, m9, k9, hI9, xt9⟩
 case h => simp [results, Tryz.results94, go_sem]
end Go.Proofs.YtchbefambnhjjaaGreatDoor.NB
end
section
/- (The document's library.) Fractions of the library's: out of whole numbers; differences, quotients. -/

namespace Go.Proofs.YtchbefambnhjjaaGreatDoor.NB
open Go.RowKit
attribute [local go_sem] sz2 sz3 sz4 sz5 sz6 sz7 sz8
set_option maxHeartbeats 4000000
set_option maxRecDepth 100000
attribute [local irreducible] Calls
section
attribute [local go_sem] Oper.detAt detUpon relUpon
end
section
attribute [local go_sem] D2.Oper.detAt D2.detUpon D2.relUpon
theorem br_Quo (g bx b2 : Nat) (x y : Int) (p q : Nat) (hy0 : y ≠ 0) (hxp : Nat.gcd x.natAbs (denOf p) = 1) (hyq : Nat.gcd y.natAbs (denOf q) = 1) (A : Option Addr) (n c : Nat) (D : Option Addr) (m e : Nat) (B : Option Addr) (n2 c2 : Nat) (C : Option Addr) (m2 e2 : Nat)
  (hn : n ≤ 100000) (hm : m ≤ 100000) (hn2 : n2 ≤ 100000) (hm2 : m2 ≤ 100000) (w : World) (hT : Tz w) (hr : RatRoom w g) (hx : RatIs w bx x A n c p D m e) (hy : RatIs w b2 y B n2 c2 q C m2 e2) :
  Calls Tryz.prog 100 #[.pointer (some ⟨g, 0, none⟩), .pointer (some ⟨bx, 0, none⟩), .pointer (some ⟨b2, 0, none⟩)] w
   (FPost w g (canN (sgn (!(decide (x < 0) == decide (y < 0))) (x.natAbs * denOf q : Nat)) (denOf p * y.natAbs)) (canW (sgn (!(decide (x < 0) == decide (y < 0))) (x.natAbs * denOf q : Nat)) (denOf p * y.natAbs))) := by
 have HX := Lib.hid hx
 have HY := Lib.hid hy
 have HR := Lib.hid hr
 have HT := Lib.hid hT
 have lx := hx.int.room.lt
 have x0 := hx.int.neg
 have x1 := hx.int.words
 have ly := hy.int.room.lt
 have y0 := hy.int.neg
 have y1 := hy.int.words
 simp only [Nat.zero_add] at x1 y1
 have dl := den_len hx hm (by decide)
 have dl2 := den_len hy hm2 (by decide)
 have kX : ∀ w', Ext w w' → Calls Tryz.prog 136 #[.pointer (some ⟨bx, 0, none⟩)] w' fun e' w'' => ∃ (B : Option Addr) (k l : Nat), e' = .returned (.slice B k l) ∧ Hid (Rd w'' B k l (lim (denOf p))) ∧ Ext w' w'' := fun w' he => (br_below _ _ _ _ _ _ _ _ _ w' (HX.out.ext he)).mono fun _ _ ⟨B, k, l, h1, h2, h3⟩ => ⟨B, k, l, h1, h2.out.1, h3⟩
 have kY : ∀ w', Ext w w' → Calls Tryz.prog 136 #[.pointer (some ⟨b2, 0, none⟩)] w' fun e' w'' => ∃ (B : Option Addr) (k l : Nat), e' = .returned (.slice B k l) ∧ Hid (Rd w'' B k l (lim (denOf q))) ∧ Ext w' w'' := fun w' he => (br_below _ _ _ _ _ _ _ _ _ w' (HY.out.ext he)).mono fun _ _ ⟨B, k, l, h1, h2, h3⟩ => ⟨B, k, l, h1, h2.out.1, h3⟩
 have kT : ∀ w' P k l Q k2 l2, Ext w w' → Rd w' P k l (lim (denOf p)) → Rd w' Q k2 l2 (lim (denOf q)) → Calls Tryz.prog 151 #[.pointer (some ⟨g, 0, none⟩), .bool (!(decide (x < 0) == decide (y < 0))), .slice A n c, .slice P k l, .slice Q k2 l2, .slice B n2 c2] w' (FPost w g (canN (sgn (!(decide (x < 0) == decide (y < 0))) (x.natAbs * denOf q : Nat)) (denOf p * y.natAbs)) (canW (sgn (!(decide (x < 0) == decide (y < 0))) (x.natAbs * denOf q : Nat)) (denOf p * y.natAbs))) := fun w' P k l Q k2 l2 he h1 h2 => by
  have := br_timesX g (!(decide (x < 0) == decide (y < 0))) A P Q B n c k l k2 l2 n2 c2 _ _ _ _ (denOf_ne p) (by omega) hxp (by rw [Nat.gcd_comm]; exact hyq) hn (by rw [← h1.len]; exact dl) (by rw [← h2.len]; exact dl2) hn2 w' (HT.out.ext he) (HR.out.ext he) (HX.out.int.rd.ext he) h1 h2 (HY.out.int.rd.ext he)
  refine this.mono ?_
  rintro e w'' ⟨rfl, A', n', c', D', m', k', h3, h4⟩
  exact ⟨rfl, A', n', c', D', m', k', ⟨h3.out.1, h3.out.2.1.mono he, h3.out.2.2.mono he⟩, (Tch.of he).trans h4⟩
 clear hx hy hr hT
 go_enter Tryz.func100, Tryz.ntmps100
 go_wp2
 refine D2.wp_drawn_tail 26 (D2.tab [(18, D2.RRow (denOf p)), (20, D2.RRow (denOf q))]) (by kernel_rfl) (by kernel_rfl) (by kernel_rfl) (D2.tab_stays (by simp [D2.stays_row])) (fun hq hqf => ?_)
 simp only [List.take_succ_cons, List.take_zero, List.drop_succ_cons, List.drop_zero]
 have z0 := fun nq => (hq nq bx 0 lx).trans x0
 have z1 := fun nq => (hq nq bx 1 lx).trans x1
 have z2 := fun nq => (hq nq b2 0 ly).trans y0
 have z3 := fun nq => (hq nq b2 1 ly).trans y1
 iterate 18
  (refine D2.wpK_det rfl (fun K hK => ?_)
   go_simp
   first
    | (refine hK _ ?_; clear hK K)
    | (apply Exists.intro; refine ⟨fun x => ?_, hK _ ?_⟩; (first | exact z0 x | exact z1 x | exact z2 x | exact z3 x); clear hK K))
 refine D2.wpK_rel _ rfl rfl ?_ ?_
 ·rintro _ ⟨nn, rfl⟩ _
  unfold D2.Oper.relAt
  go_simp
  exact D2.rel_row (kX _ nn.use)
 rintro v ⟨_, ⟨nn, rfl⟩, hr⟩
 obtain ⟨A5, k5, c5, rfl, -⟩ := hr
 clear nn
 iterate 1
  (refine D2.wpK_det rfl (fun K hK => ?_)
   go_simp
   first
    | (refine hK _ ?_; clear hK K)
    | (apply Exists.intro; refine ⟨fun x => ?_, hK _ ?_⟩; (first | exact z0 x | exact z1 x | exact z2 x | exact z3 x); clear hK K))
 refine D2.wpK_rel _ rfl rfl ?_ ?_
 ·rintro _ ⟨nn, rfl⟩ _
  unfold D2.Oper.relAt
  go_simp
  exact D2.rel_row (kY _ nn.use)
 rintro v ⟨_, ⟨nn, rfl⟩, hr⟩
 obtain ⟨A6, k6, c6, rfl, -⟩ := hr
 clear nn
 iterate 5
  (refine D2.wpK_det rfl (fun K hK => ?_)
   go_simp
   first
    | (refine hK _ ?_; clear hK K)
    | (apply Exists.intro; refine ⟨fun x => ?_, hK _ ?_⟩; (first | exact z0 x | exact z1 x | exact z2 x | exact z3 x); clear hK K))
 refine D2.wpK_nil ?_
 intro nq hG
 have r5 : D2.RRow (denOf p) [] (.slice A5 k5 c5) nq.out := by have := hG.fact 18; simp [D2.Facts.put] at this; exact this
 have r6 : D2.RRow (denOf q) [] (.slice A6 k6 c6) nq.out := by have := hG.fact 20; simp [D2.Facts.put] at this; exact this
 have hR5 := Lib.hid (D2.row_at r5)
 have hR6 := Lib.hid (D2.row_at r6)
 have hE := Lib.hid nq.use
 clear r5 r6 hG
 go_wp2_with (first
  | (go_at_call 151; (with_reducible refine (kT _ A5 k5 c5 A6 k6 c6 hE.out hR5.out hR6.out).mono ?_); rintro e w9 ⟨rfl, A9, n9, c9, D9, m9, k9, hI9, xt9⟩)
  )
 refine bodyPost_ret (v := .pointer (some ⟨g, 0, none⟩)) ?h rfl ⟨rfl, A9, n9, c9, D9, m9, k9, hI9, xt9⟩
 case h => simp [results, Tryz.results100, go_sem]
end
theorem br_Sub (g bx b2 : Nat) (x y : Int) (p q : Nat) (hxp : Nat.gcd x.natAbs (denOf p) = 1) (hyq : Nat.gcd y.natAbs (denOf q) = 1) (A : Option Addr) (n c : Nat) (D : Option Addr) (m e : Nat) (B : Option Addr) (n2 c2 : Nat) (C : Option Addr) (m2 e2 : Nat)
  (hn : n ≤ 50000) (hm : m ≤ 50000) (hn2 : n2 ≤ 50000) (hm2 : m2 ≤ 50000) (w : World) (hT : Tz w) (hr : RatRoom w g) (hx : RatIs w bx x A n c p D m e) (hy : RatIs w b2 y B n2 c2 q C m2 e2) (hoD : Off D m g) (hoC : Off C m2 g) :
  Calls Tryz.prog 95 #[.pointer (some ⟨g, 0, none⟩), .pointer (some ⟨bx, 0, none⟩), .pointer (some ⟨b2, 0, none⟩)] w
   (FPost w g (canN (x * denOf q - y * denOf p) (denOf p * denOf q)) (canW (x * denOf q - y * denOf p) (denOf p * denOf q))) := by
 have k := br_added true g bx b2 x y p q hxp hyq A n c D m e B n2 c2 C m2 e2 hn hm hn2 hm2 w hT hr hx hy hoD hoC
 simp only [if_true] at k
 rw [show x * (denOf q : Int) + -y * (denOf p : Int) = x * denOf q - y * denOf p by rw [Int.neg_mul]; rfl] at k
 generalize canN (x * denOf q - y * denOf p) (denOf p * denOf q) = ZN at k ⊢
 generalize canW (x * denOf q - y * denOf p) (denOf p * denOf q) = ZD at k ⊢
 clear hT hr hx hy hoD hoC hxp hyq
 go_enter Tryz.func95, Tryz.ntmps95
 go_wp2_with (first
  | (go_at_call 149; (with_reducible refine k.mono ?_); rintro e w9 ⟨rfl, A9, n9, c9, D9, m9, k9, hI9, xt9⟩)
  )
 refine bodyPost_ret (v := .pointer (some ⟨g, 0, none⟩)) ?h rfl ⟨rfl, A9, n9, c9, D9, m9, k9, hI9, xt9⟩
 case h => simp [results, Tryz.results95, go_sem]
end Go.Proofs.YtchbefambnhjjaaGreatDoor.NB
end
section
/- (The document's library.) Fractions of the library's: the order. -/

namespace Go.Proofs.YtchbefambnhjjaaGreatDoor.NB
open Go.RowKit
attribute [local go_sem] sz2 sz3 sz4 sz5 sz6 sz7 sz8
set_option maxHeartbeats 4000000
set_option maxRecDepth 100000
attribute [local irreducible] Calls
attribute [local go_sem] D2.Oper.detAt D2.detUpon D2.relUpon
theorem br_Cmp_far (bx b2 : Nat) (x y : Int) (p q : Nat) (h : x.sign ≠ y.sign) (A : Option Addr) (n c : Nat) (D : Option Addr) (m e : Nat) (B : Option Addr) (n2 c2 : Nat) (C : Option Addr) (m2 e2 : Nat)
  (w : World) (hx : RatIs w bx x A n c p D m e) (hy : RatIs w b2 y B n2 c2 q C m2 e2) :
  Calls Tryz.prog 93 #[.pointer (some ⟨bx, 0, none⟩), .pointer (some ⟨b2, 0, none⟩)] w
   fun e w' => e = .returned (.int .i64 (x * (denOf q : Int) - y * (denOf p : Int)).sign) ∧ Ext w w' := by
 have kX : ∀ w', Ext w w' → Calls Tryz.prog 99 #[.pointer (some ⟨bx, 0, none⟩)] w' fun e w'' => e = .returned (.int .i64 x.sign) ∧ Ext w' w'' := fun w' he => br_Sign _ _ _ _ _ w' (hx.int.ext he)
 have kY : ∀ w', Ext w w' → Calls Tryz.prog 99 #[.pointer (some ⟨b2, 0, none⟩)] w' fun e w'' => e = .returned (.int .i64 y.sign) ∧ Ext w' w'' := fun w' he => br_Sign _ _ _ _ _ w' (hy.int.ext he)
 rw [rcmp_far (denOf_ne p) (denOf_ne q) h]
 have hb : (x.sign == y.sign) = false := by rw [beq_eq_false_iff_ne]; exact h
 have hgt : ¬ x.sign < y.sign → y.sign < x.sign := by omega
 generalize x.sign = X at *
 generalize y.sign = Y at *
 clear hx hy h
 by_cases hlt : X < Y
 ·rw [if_pos hlt]
  clear hgt
  go_enter Tryz.func93, Tryz.ntmps93
  go_wp2_with (first
   | (go_at_call 99; (with_reducible refine (kX _ xcl).mono ?_); rintro e w1 ⟨rfl, xb1⟩)
   | (go_at_call 99; (with_reducible refine (kY _ xcl).mono ?_); rintro e w2 ⟨rfl, xb2⟩)
   | (go_at_call 99; (with_reducible refine (kX _ xcl).mono ?_); rintro e w3 ⟨rfl, xb3⟩)
   | (go_at_call 99; (with_reducible refine (kY _ xcl).mono ?_); rintro e w4 ⟨rfl, xb4⟩)
   )
  refine bodyPost_ret (v := .int .i64 (-1)) ?h rfl ⟨rfl, ?_⟩
  case h => simp [results, Tryz.results93, go_sem]
  exact xcl
 ·rw [if_neg hlt]
  have hgt := hgt hlt
  go_enter Tryz.func93, Tryz.ntmps93
  go_wp2_with (first
   | (go_at_call 99; (with_reducible refine (kX _ xcl).mono ?_); rintro e w1 ⟨rfl, xb1⟩)
   | (go_at_call 99; (with_reducible refine (kY _ xcl).mono ?_); rintro e w2 ⟨rfl, xb2⟩)
   )
  refine bodyPost_ret (v := .int .i64 1) ?h rfl ⟨rfl, ?_⟩
  case h => simp [results, Tryz.results93, go_sem]
  exact xcl
theorem br_Cmp_nil (bx b2 : Nat) (x y : Int) (p q : Nat) (h1 : x = 0) (h2 : y = 0) (A : Option Addr) (n c : Nat) (D : Option Addr) (m e : Nat) (B : Option Addr) (n2 c2 : Nat) (C : Option Addr) (m2 e2 : Nat)
  (w : World) (hx : RatIs w bx x A n c p D m e) (hy : RatIs w b2 y B n2 c2 q C m2 e2) :
  Calls Tryz.prog 93 #[.pointer (some ⟨bx, 0, none⟩), .pointer (some ⟨b2, 0, none⟩)] w
   fun e w' => e = .returned (.int .i64 (x * (denOf q : Int) - y * (denOf p : Int)).sign) ∧ Ext w w' := by
 rw [rcmp_nil h1 h2]
 subst h1; subst h2
 have kX : ∀ w', Ext w w' → Calls Tryz.prog 99 #[.pointer (some ⟨bx, 0, none⟩)] w' fun e w'' => e = .returned (.int .i64 0) ∧ Ext w' w'' := fun w' he => br_Sign _ _ _ _ _ w' (hx.int.ext he)
 have kY : ∀ w', Ext w w' → Calls Tryz.prog 99 #[.pointer (some ⟨b2, 0, none⟩)] w' fun e w'' => e = .returned (.int .i64 0) ∧ Ext w' w'' := fun w' he => br_Sign _ _ _ _ _ w' (hy.int.ext he)
 clear hx hy
 go_enter Tryz.func93, Tryz.ntmps93
 go_wp2_with (first
  | (go_at_call 99; (with_reducible refine (kX _ xcl).mono ?_); rintro e w1 ⟨rfl, xb1⟩)
  | (go_at_call 99; (with_reducible refine (kY _ xcl).mono ?_); rintro e w2 ⟨rfl, xb2⟩)
  )
 refine bodyPost_ret (v := .int .i64 0) ?h rfl ⟨rfl, ?_⟩
 case h => simp [results, Tryz.results93, go_sem]
 exact xcl
theorem br_Cmp_near (bx b2 : Nat) (x y : Int) (p q : Nat) (h : x.sign = y.sign) (h0 : x ≠ 0) (A : Option Addr) (n c : Nat) (D : Option Addr) (m e : Nat) (B : Option Addr) (n2 c2 : Nat) (C : Option Addr) (m2 e2 : Nat)
  (hn : n ≤ 100000) (hm : m ≤ 100000) (hn2 : n2 ≤ 100000) (hm2 : m2 ≤ 100000) (w : World) (hx : RatIs w bx x A n c p D m e) (hy : RatIs w b2 y B n2 c2 q C m2 e2) :
  Calls Tryz.prog 93 #[.pointer (some ⟨bx, 0, none⟩), .pointer (some ⟨b2, 0, none⟩)] w
   fun e w' => e = .returned (.int .i64 (x * (denOf q : Int) - y * (denOf p : Int)).sign) ∧ Ext w w' := by
 have HX := Lib.hid hx
 have HY := Lib.hid hy
 have lx := hx.int.room.lt
 have x0 := hx.int.neg
 have x1 := hx.int.words
 have ly := hy.int.room.lt
 have y1 := hy.int.words
 simp only [Nat.zero_add] at x1 y1
 have kX : ∀ w', Ext w w' → Calls Tryz.prog 99 #[.pointer (some ⟨bx, 0, none⟩)] w' fun e w'' => e = .returned (.int .i64 x.sign) ∧ Ext w' w'' := fun w' he => br_Sign _ _ _ _ _ w' (hx.int.ext he)
 have kY : ∀ w', Ext w w' → Calls Tryz.prog 99 #[.pointer (some ⟨b2, 0, none⟩)] w' fun e w'' => e = .returned (.int .i64 x.sign) ∧ Ext w' w'' := fun w' he => by rw [h]; exact br_Sign _ _ _ _ _ w' (hy.int.ext he)
 have dl := den_len hx hm (by decide)
 have dl2 := den_len hy hm2 (by decide)
 have bX : ∀ w', Ext w w' → Calls Tryz.prog 136 #[.pointer (some ⟨bx, 0, none⟩)] w' fun e' w'' => ∃ (B : Option Addr) (k l : Nat), e' = .returned (.slice B k l) ∧ Hid (Rd w'' B k l (lim (denOf p))) ∧ Ext w' w'' := fun w' he => (br_below _ _ _ _ _ _ _ _ _ w' (HX.out.ext he)).mono fun _ _ ⟨B, k, l, h1, h2, h3⟩ => ⟨B, k, l, h1, h2.out.1, h3⟩
 have bY : ∀ w', Ext w w' → Calls Tryz.prog 136 #[.pointer (some ⟨b2, 0, none⟩)] w' fun e' w'' => ∃ (B : Option Addr) (k l : Nat), e' = .returned (.slice B k l) ∧ Hid (Rd w'' B k l (lim (denOf q))) ∧ Ext w' w'' := fun w' he => (br_below _ _ _ _ _ _ _ _ _ w' (HY.out.ext he)).mono fun _ _ ⟨B, k, l, h1, h2, h3⟩ => ⟨B, k, l, h1, h2.out.1, h3⟩
 have mX : ∀ P1 k l w', Ext w w' → Rd w' P1 k l (lim (denOf q)) → Calls Tryz.prog 148 #[.slice A n c, .slice P1 k l] w' (WPost w' (x.natAbs * denOf q)) := fun P1 k l w' he h1 => bw_mulA A P1 n c k l _ _ (by have := h1.len; omega) w' (HX.out.int.rd.ext he) h1
 have mY : ∀ P1 k l w', Ext w w' → Rd w' P1 k l (lim (denOf p)) → Calls Tryz.prog 148 #[.slice B n2 c2, .slice P1 k l] w' (WPost w' (y.natAbs * denOf p)) := fun P1 k l w' he h1 => bw_mulA B P1 n2 c2 k l _ _ (by have := h1.len; omega) w' (HY.out.int.rd.ext he) h1
 have hs0 : (x.sign == 0) = false := by
  rw [beq_eq_false_iff_ne]; intro h2; exact h0 (Int.sign_eq_zero_iff_zero.1 h2)
 generalize denOf p = p at *
 generalize denOf q = q at *
 rw [rcmp_near h h0]
 have hwr := wrap_neg_cmp (x.natAbs * q) (y.natAbs * p)
 have hcm : ∀ P1 k1 l1 Q1 k2 l2 w', Rd w' P1 k1 l1 (lim (x.natAbs * q)) → Rd w' Q1 k2 l2 (lim (y.natAbs * p)) → Calls Tryz.prog 143 #[.slice P1 k1 l1, .slice Q1 k2 l2] w' fun e w'' => e = .returned (.int .i64 (cmpN (x.natAbs * q) (y.natAbs * p))) ∧ Ext w' w'' := fun P1 k1 l1 Q1 k2 l2 w' h1 h2 => bw_cmp P1 Q1 k1 l1 k2 l2 _ _ w' h1 h2
 clear hx hy h h0
 generalize x.natAbs * q = U at *
 generalize y.natAbs * p = V at *
 generalize cmpN U V = K at *
 generalize x.sign = X at *
 by_cases hneg : x < 0
 ·rw [if_pos hneg]
  rw [decide_eq_true hneg] at x0
  go_enter Tryz.func93, Tryz.ntmps93
  go_upto_region 7 with (first
   | (go_at_call 99; (with_reducible refine (kX _ (jT xb1 xb2)).mono ?_); rintro e w3 ⟨rfl, xb3⟩)
   | (go_at_call 99; (with_reducible refine (kX _ xcl).mono ?_); rintro e w1 ⟨rfl, xb1⟩)
   | (go_at_call 99; (with_reducible refine (kY _ xcl).mono ?_); rintro e w2 ⟨rfl, xb2⟩)
   )
  have hE3 : Hid (Ext w w3) := by show Ext w w3; exact xcl
  have x0' := (Below.cell (p := ⟨bx, 0, none⟩) hE3.out lx).trans x0
  have x1' := (Below.cell (p := ⟨bx, 1, none⟩) hE3.out lx).trans x1
  have y1' := (Below.cell (p := ⟨b2, 1, none⟩) hE3.out ly).trans y1
  have lx' := ext_lt hE3.out bx lx
  have ly' := ext_lt hE3.out b2 ly
  clear kX kY xb1 xb2 xb3
  refine D2.wp_drawn_tail 16 (D2.tab [(6, D2.RRow q), (7, RWord w3.heap.size U), (14, D2.RRow p), (15, RWord w3.heap.size V)]) (by kernel_rfl) (by kernel_rfl) (by kernel_rfl) (D2.tab_stays (by simp [D2.stays_row, D2.stays_word])) (fun hq hqf => ?_)
  simp only [List.take_succ_cons, List.take_zero, List.drop_succ_cons, List.drop_zero]
  have z1 := fun nq => (hq nq bx 1 lx').trans x1'
  have z3 := fun nq => (hq nq b2 1 ly').trans y1'
  iterate 6
   (refine D2.wpK_det rfl (fun K hK => ?_)
    go_simp
    first
     | (refine hK _ ?_; clear hK K)
     | (apply Exists.intro; refine ⟨fun x => ?_, hK _ ?_⟩; (first | exact z1 x | exact z3 x); clear hK K))
  refine D2.wpK_rel _ rfl rfl ?_ ?_
  ·rintro _ ⟨nn, rfl⟩ _
   unfold D2.Oper.relAt
   go_simp
   exact D2.rel_row (bY _ (jT hE3.out nn.use))
  rintro v ⟨_, ⟨nn, rfl⟩, hr⟩
  obtain ⟨A5, k5, c5, rfl, -⟩ := hr
  clear nn
  refine D2.wpK_rel _ rfl rfl ?_ ?_
  ·rintro _ ⟨nn, rfl⟩ hdep
   have q1 := hdep 6 (by kernel_rfl)
   simp only [D2.Facts.put] at q1
   have q2 := D2.row_at (vals := []) q1
   unfold D2.Oper.relAt
   go_simp
   exact D2.rel_wpost (ext_size nn.use) (mX _ _ _ _ (jT hE3.out nn.use) q2)
  rintro v ⟨_, ⟨nn, rfl⟩, hr⟩
  obtain ⟨A6, k6, c6, rfl, -, -⟩ := hr
  clear nn
  iterate 6
   (refine D2.wpK_det rfl (fun K hK => ?_)
    go_simp
    first
     | (refine hK _ ?_; clear hK K)
     | (apply Exists.intro; refine ⟨fun x => ?_, hK _ ?_⟩; (first | exact z1 x | exact z3 x); clear hK K))
  refine D2.wpK_rel _ rfl rfl ?_ ?_
  ·rintro _ ⟨nn, rfl⟩ _
   unfold D2.Oper.relAt
   go_simp
   exact D2.rel_row (bX _ (jT hE3.out nn.use))
  rintro v ⟨_, ⟨nn, rfl⟩, hr⟩
  obtain ⟨A7, k7, c7, rfl, -⟩ := hr
  clear nn
  refine D2.wpK_rel _ rfl rfl ?_ ?_
  ·rintro _ ⟨nn, rfl⟩ hdep
   have q1 := hdep 14 (by kernel_rfl)
   simp only [D2.Facts.put] at q1
   have q2 := D2.row_at (vals := []) q1
   unfold D2.Oper.relAt
   go_simp
   exact D2.rel_wpost (ext_size nn.use) (mY _ _ _ _ (jT hE3.out nn.use) q2)
  rintro v ⟨_, ⟨nn, rfl⟩, hr⟩
  obtain ⟨A8, k8, c8, rfl, -, -⟩ := hr
  clear nn
  refine D2.wpK_nil ?_
  intro nq hG
  have r6 : RWord w3.heap.size U [] (.slice A6 k6 c6) nq.out := by have := hG.fact 7; simp [D2.Facts.put] at this; exact this
  have r8 : RWord w3.heap.size V [] (.slice A8 k8 c8) nq.out := by have := hG.fact 15; simp [D2.Facts.put] at this; exact this
  have hR6 := Lib.hid (rword_at r6)
  have hR8 := Lib.hid (rword_at r8)
  have hE := Lib.hid (jT hE3.out nq.use)
  have x0q := (Below.cell (p := ⟨bx, 0, none⟩) nq.use lx').trans x0'
  have lxq := ext_lt nq.use bx lx'
  clear r6 r8 hG
  go_wp2_with (first
   | (go_at_call 143; (with_reducible refine (hcm _ _ _ _ _ _ _ hR6.out.1 hR8.out.1).mono ?_); rintro e w9 ⟨rfl, xb9⟩; obtain ⟨xc9, xf9, xl9, xz9⟩ := jU xb9; (try simp at xz9); obtain ⟨l9_0, r9_0, f9_0, r9_0_1, f9_0_1⟩ := kq2 xb9 (bx))
   )
  refine bodyPost_ret (v := .int .i64 (-K)) ?h rfl ⟨rfl, jT hE.out xb9⟩
  case h => simp [results, Tryz.results93, go_sem]
 ·rw [if_neg hneg]
  rw [decide_eq_false hneg] at x0
  go_enter Tryz.func93, Tryz.ntmps93
  go_upto_region 7 with (first
   | (go_at_call 99; (with_reducible refine (kX _ (jT xb1 xb2)).mono ?_); rintro e w3 ⟨rfl, xb3⟩)
   | (go_at_call 99; (with_reducible refine (kX _ xcl).mono ?_); rintro e w1 ⟨rfl, xb1⟩)
   | (go_at_call 99; (with_reducible refine (kY _ xcl).mono ?_); rintro e w2 ⟨rfl, xb2⟩)
   )
  have hE3 : Hid (Ext w w3) := by show Ext w w3; exact xcl
  have x0' := (Below.cell (p := ⟨bx, 0, none⟩) hE3.out lx).trans x0
  have x1' := (Below.cell (p := ⟨bx, 1, none⟩) hE3.out lx).trans x1
  have y1' := (Below.cell (p := ⟨b2, 1, none⟩) hE3.out ly).trans y1
  have lx' := ext_lt hE3.out bx lx
  have ly' := ext_lt hE3.out b2 ly
  clear kX kY xb1 xb2 xb3
  refine D2.wp_drawn_tail 16 (D2.tab [(6, D2.RRow q), (7, RWord w3.heap.size U), (14, D2.RRow p), (15, RWord w3.heap.size V)]) (by kernel_rfl) (by kernel_rfl) (by kernel_rfl) (D2.tab_stays (by simp [D2.stays_row, D2.stays_word])) (fun hq hqf => ?_)
  simp only [List.take_succ_cons, List.take_zero, List.drop_succ_cons, List.drop_zero]
  have z1 := fun nq => (hq nq bx 1 lx').trans x1'
  have z3 := fun nq => (hq nq b2 1 ly').trans y1'
  iterate 6
   (refine D2.wpK_det rfl (fun K hK => ?_)
    go_simp
    first
     | (refine hK _ ?_; clear hK K)
     | (apply Exists.intro; refine ⟨fun x => ?_, hK _ ?_⟩; (first | exact z1 x | exact z3 x); clear hK K))
  refine D2.wpK_rel _ rfl rfl ?_ ?_
  ·rintro _ ⟨nn, rfl⟩ _
   unfold D2.Oper.relAt
   go_simp
   exact D2.rel_row (bY _ (jT hE3.out nn.use))
  rintro v ⟨_, ⟨nn, rfl⟩, hr⟩
  obtain ⟨A5, k5, c5, rfl, -⟩ := hr
  clear nn
  refine D2.wpK_rel _ rfl rfl ?_ ?_
  ·rintro _ ⟨nn, rfl⟩ hdep
   have q1 := hdep 6 (by kernel_rfl)
   simp only [D2.Facts.put] at q1
   have q2 := D2.row_at (vals := []) q1
   unfold D2.Oper.relAt
   go_simp
   exact D2.rel_wpost (ext_size nn.use) (mX _ _ _ _ (jT hE3.out nn.use) q2)
  rintro v ⟨_, ⟨nn, rfl⟩, hr⟩
  obtain ⟨A6, k6, c6, rfl, -, -⟩ := hr
  clear nn
  iterate 6
   (refine D2.wpK_det rfl (fun K hK => ?_)
    go_simp
    first
     | (refine hK _ ?_; clear hK K)
     | (apply Exists.intro; refine ⟨fun x => ?_, hK _ ?_⟩; (first | exact z1 x | exact z3 x); clear hK K))
  refine D2.wpK_rel _ rfl rfl ?_ ?_
  ·rintro _ ⟨nn, rfl⟩ _
   unfold D2.Oper.relAt
   go_simp
   exact D2.rel_row (bX _ (jT hE3.out nn.use))
  rintro v ⟨_, ⟨nn, rfl⟩, hr⟩
  obtain ⟨A7, k7, c7, rfl, -⟩ := hr
  clear nn
  refine D2.wpK_rel _ rfl rfl ?_ ?_
  ·rintro _ ⟨nn, rfl⟩ hdep
   have q1 := hdep 14 (by kernel_rfl)
   simp only [D2.Facts.put] at q1
   have q2 := D2.row_at (vals := []) q1
   unfold D2.Oper.relAt
   go_simp
   exact D2.rel_wpost (ext_size nn.use) (mY _ _ _ _ (jT hE3.out nn.use) q2)
  rintro v ⟨_, ⟨nn, rfl⟩, hr⟩
  obtain ⟨A8, k8, c8, rfl, -, -⟩ := hr
  clear nn
  refine D2.wpK_nil ?_
  intro nq hG
  have r6 : RWord w3.heap.size U [] (.slice A6 k6 c6) nq.out := by have := hG.fact 7; simp [D2.Facts.put] at this; exact this
  have r8 : RWord w3.heap.size V [] (.slice A8 k8 c8) nq.out := by have := hG.fact 15; simp [D2.Facts.put] at this; exact this
  have hR6 := Lib.hid (rword_at r6)
  have hR8 := Lib.hid (rword_at r8)
  have hE := Lib.hid (jT hE3.out nq.use)
  have x0q := (Below.cell (p := ⟨bx, 0, none⟩) nq.use lx').trans x0'
  have lxq := ext_lt nq.use bx lx'
  clear r6 r8 hG
  go_wp2_with (first
   | (go_at_call 143; (with_reducible refine (hcm _ _ _ _ _ _ _ hR6.out.1 hR8.out.1).mono ?_); rintro e w9 ⟨rfl, xb9⟩; obtain ⟨xc9, xf9, xl9, xz9⟩ := jU xb9; (try simp at xz9); obtain ⟨l9_0, r9_0, f9_0, r9_0_1, f9_0_1⟩ := kq2 xb9 (bx))
   )
  refine bodyPost_ret (v := .int .i64 K) ?h rfl ⟨rfl, jT hE.out xb9⟩
  case h => simp [results, Tryz.results93, go_sem]
theorem br_Cmp (bx b2 : Nat) (x y : Int) (p q : Nat) (A : Option Addr) (n c : Nat) (D : Option Addr) (m e : Nat) (B : Option Addr) (n2 c2 : Nat) (C : Option Addr) (m2 e2 : Nat)
  (hn : n ≤ 100000) (hm : m ≤ 100000) (hn2 : n2 ≤ 100000) (hm2 : m2 ≤ 100000) (w : World) (hx : RatIs w bx x A n c p D m e) (hy : RatIs w b2 y B n2 c2 q C m2 e2) :
  Calls Tryz.prog 93 #[.pointer (some ⟨bx, 0, none⟩), .pointer (some ⟨b2, 0, none⟩)] w
   fun e w' => e = .returned (.int .i64 (x * (denOf q : Int) - y * (denOf p : Int)).sign) ∧ Ext w w' := by
 by_cases h : x.sign = y.sign
 ·by_cases h0 : x = 0
  ·have hy0 : y = 0 := by rw [h0] at h; exact Int.sign_eq_zero_iff_zero.1 h.symm
   exact br_Cmp_nil bx b2 x y p q h0 hy0 A n c D m e B n2 c2 C m2 e2 w hx hy
  ·exact br_Cmp_near bx b2 x y p q h h0 A n c D m e B n2 c2 C m2 e2 hn hm hn2 hm2 w hx hy
 ·exact br_Cmp_far bx b2 x y p q h A n c D m e B n2 c2 C m2 e2 w hx hy
end Go.Proofs.YtchbefambnhjjaaGreatDoor.NB
end
