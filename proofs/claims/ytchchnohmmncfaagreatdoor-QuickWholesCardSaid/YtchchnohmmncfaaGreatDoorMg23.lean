/- Lemmas of this proof, laid together: TwRatU, TwRatK, TwIntO, TwIntQ, R5P. -/
import Derived.Test.YtchchnohmmncfaaGreatDoorMg21
import Derived.Test.YtchchnohmmncfaaGreatDoorMg18
import Derived.Deep.DeepCutAuto
import Derived.Deep.RegionWith
import Derived.Deep.LoopGhost
import Derived.Test.YtchchnohmmncfaaGreatDoorMg20
import Derived.Test.YtchchnohmmncfaaGreatDoorMg13
set_option linter.unusedSimpArgs false
set_option linter.unusedVariables false
section
/- (The document's library.) Fractions of the library's: their texts; turned over. -/

namespace Go.Proofs.YtchchnohmmncfaaGreatDoor.NB
open Go.RowKit
attribute [local go_sem] bs_size bs_extract bs_get bs_append bs_toList const_get
attribute [local go_sem] sz2 sz3 sz4 sz5 sz6 sz7 sz8
set_option maxHeartbeats 4000000
set_option maxRecDepth 100000
attribute [local irreducible] Calls
theorem br_Inv (g : Nat) (z : Int) (hz : z ≠ 0) (A : Option Addr) (n c d : Nat) (D : Option Addr) (m e : Nat) (hn : n ≤ 900000) (hm : m ≤ 900000) (w : World) (hx : RatIs w g z A n c d D m e) :
    Calls Tryz.prog 112 #[.pointer (some ⟨g, 0, none⟩), .pointer (some ⟨g, 0, none⟩)] w (FPost w g (sgn (decide (z < 0)) (denOf d)) z.natAbs) := by
  have HX := Lib.hid hx
  have hl := hx.int.room.lt
  have x0 := hx.int.neg
  have x1 := hx.int.words
  simp only [Nat.zero_add] at x1
  have c2 := hx.c2
  have f2 := hx.f2
  have k1 := br_below g z A n c d D m e w hx
  have hdl := denOf_len hx.rd.len
  clear hx
  go_enter Tryz.func112, Tryz.ntmps112
  have k2 : ∀ (B : Option Addr) (k l : Nat) (w' : World), Rd w' B k l (lim (denOf d)) → Calls Tryz.prog 78 #[.slice B k l] w' fun e w'' => ∃ k', e = .returned (.slice (some ⟨w'.heap.size, 0, none⟩) k' k') ∧ Hid (Rd w'' (some ⟨w'.heap.size, 0, none⟩) k' k' (lim (denOf d))) ∧ Ext w' w'' := fun B k l w' h =>
    (bw_copied B k l (lim (denOf d)) (by rw [← h.len]; omega) w' h).mono fun e w'' ⟨h1, h2, h3⟩ => ⟨k, h1, h2, h3⟩
  have k3 : ∀ w', Ext w w' → Calls Tryz.prog 78 #[.slice A n c] w' fun e w'' => e = .returned (.slice (some ⟨w'.heap.size, 0, none⟩) n n) ∧ Hid (Rd w'' (some ⟨w'.heap.size, 0, none⟩) n n (lim z.natAbs)) ∧ Ext w' w'' := fun w' he =>
    bw_copied A n c (lim z.natAbs) (by omega) w' (HX.out.int.rd.ext he)
  go_upto_region 3 with (first
    | (go_at_call 75; (with_reducible refine (k1).mono ?_); rintro e w1 ⟨B1, k1', l1, rfl, hR1, xb1⟩; obtain ⟨xc1, xf1, xl1, xz1⟩ := ext_use xb1; (try simp at xz1); obtain ⟨l1_0, gc, gf⟩ := kp xb1 (g) (by first | omega | (simp; try omega)); have r1_0 := gc 0; have f1_0 := gf 0; have r1_0_1 := gc 1; have f1_0_1 := gf 1; have r1_0_2 := gc 2; have f1_0_2 := gf 2; clear gc gf)
    | (go_at_call 78; (with_reducible refine (k2 _ _ _ _ hR1.out.1).mono ?_); rintro e w2 ⟨k2', rfl, hR2, xb2⟩; obtain ⟨xc2, xf2, xl2, xz2⟩ := ext_use xb2; (try simp at xz2); obtain ⟨l2_0, gc, gf⟩ := kp xb2 (g) (by first | omega | (simp; try omega)); have r2_0 := gc 0; have f2_0 := gf 0; have r2_0_1 := gc 1; have f2_0_1 := gf 1; have r2_0_2 := gc 2; have f2_0_2 := gf 2; clear gc gf)
   )
  have HK2 := Lib.hid k2
  clear k2
  go_upto_region 4 with (first
    | (go_at_call 78; (with_reducible refine (k3 _ (ext_trans xb1 xb2)).mono ?_); rintro e w3 ⟨rfl, hR3, xb3⟩; obtain ⟨xc3, xf3, xl3, xz3⟩ := ext_use xb3; (try simp at xz3); obtain ⟨l3_0, gc, gf⟩ := kp xb3 (g) (by first | omega | (simp; try omega)); have r3_0 := gc 0; have f3_0 := gf 0; have r3_0_1 := gc 1; have f3_0_1 := gf 1; have r3_0_2 := gc 2; have f3_0_2 := gf 2; clear gc gf)
   )
  have hE : Hid (Ext w w3) := Lib.hid (ext_trans xb1 (ext_trans xb2 xb3))
  have hRm : Hid (RatRoom w3 g) := Lib.hid (RatRoom.ext ⟨HX.out.int.room, ⟨_, HX.out.c2⟩, HX.out.f2⟩ hE.out)
  have hA2 := Lib.hid (hR2.out.ext xb3)
  have f1 : Fr w (some ⟨w1.heap.size, 0, none⟩) := fun a ha => by cases ha; exact xb1.size
  have f3 : Fr w (some ⟨w2.heap.size, 0, none⟩) := fun a ha => by cases ha; exact (ext_trans xb1 xb2).size
  have o1 := f1.off hl k2'
  have o3 := f3.off hl n
  have HF := Lib.hid (And.intro f1 f3)
  have hR3' := hR3
  obtain ⟨v2, h2⟩ := hRm.out.c2
  have h3 := hRm.out.f2
  clear f1 f3 k3
  go_wp2_with (first
    | (go_at_call 63; (with_reducible refine (bi_setx g 0 _ _ _ _ (denOf d) _ hRm.out.int hA2.out o1).mono ?_); rintro e' w4 ⟨rfl, hI4, xt4, hP4⟩; have g2 := (hP4.out 2 (by decide) (by decide)).1.trans h2; have g3 := (hP4.out 2 (by decide) (by decide)).2.trans h3; have g4 := hI4.out.room.lt; have HT4 := Lib.hid xt4; clear xt4)
   )
  have hM := Lib.hid (rat_made (D := some ⟨w2.heap.size, 0, none⟩) (m := n) (k := n) (d := z.natAbs) hI4.out ⟨_, g2⟩ g3 (hR3'.out.tch HT4.out o3) o3)
  refine bodyPost_ret (v := .pointer (some ⟨g, 0, none⟩)) ?h rfl ⟨rfl, _, _, _, _, _, _, ⟨hM.out, HF.out.1, HF.out.2⟩, ((Tch.of hE.out).trans HT4.out).set _ _⟩
  case h => simp [results, Tryz.results112, go_sem]
end Go.Proofs.YtchchnohmmncfaaGreatDoor.NB
end
section
/- (The document's library.) Fractions of the library's: the order. -/

namespace Go.Proofs.YtchchnohmmncfaaGreatDoor.NB
open Go.RowKit
attribute [local go_sem] sz2 sz3 sz4 sz5 sz6 sz7 sz8
set_option maxHeartbeats 4000000
set_option maxRecDepth 100000
attribute [local irreducible] Calls
attribute [local go_sem] D2.Oper.detAt D2.detUpon D2.relUpon
theorem br_Cmp_far (bx b2 : Nat) (x y : Int) (p q : Nat) (h : x.sign ≠ y.sign) (A : Option Addr) (n c : Nat) (D : Option Addr) (m e : Nat) (B : Option Addr) (n2 c2 : Nat) (C : Option Addr) (m2 e2 : Nat)
    (w : World) (hx : RatIs w bx x A n c p D m e) (hy : RatIs w b2 y B n2 c2 q C m2 e2) :
    Calls Tryz.prog 40 #[.pointer (some ⟨bx, 0, none⟩), .pointer (some ⟨b2, 0, none⟩)] w
      fun e w' => e = .returned (.int .i64 (x * (denOf q : Int) - y * (denOf p : Int)).sign) ∧ Ext w w' := by
  have kX : ∀ w', Ext w w' → Calls Tryz.prog 34 #[.pointer (some ⟨bx, 0, none⟩)] w' fun e w'' => e = .returned (.int .i64 x.sign) ∧ Ext w' w'' := fun w' he => br_Sign _ _ _ _ _ w' (hx.int.ext he)
  have kY : ∀ w', Ext w w' → Calls Tryz.prog 34 #[.pointer (some ⟨b2, 0, none⟩)] w' fun e w'' => e = .returned (.int .i64 y.sign) ∧ Ext w' w'' := fun w' he => br_Sign _ _ _ _ _ w' (hy.int.ext he)
  rw [rcmp_far (denOf_ne p) (denOf_ne q) h]
  have hb : (x.sign == y.sign) = false := by rw [beq_eq_false_iff_ne]; exact h
  have hgt : ¬ x.sign < y.sign → y.sign < x.sign := by omega
  generalize x.sign = X at *
  generalize y.sign = Y at *
  clear hx hy h
  by_cases hlt : X < Y
  · rw [if_pos hlt]
    clear hgt
    go_enter Tryz.func40, Tryz.ntmps40
    go_wp2_with (first
      | (go_at_call 34; (with_reducible refine (kX _ (by (repeat (first | exact ext_refl _ | assumption | refine ext_setCell ?_ (by simp; try omega) _ | refine ext_alloc ?_ _ | refine ext_drew ?_ | refine ext_drewN ?_ _ | refine ext_trans ?_ (Aft.use _) | refine ext_trans ?_ (by assumption))))).mono ?_); rintro e w1 ⟨rfl, xb1⟩)
      | (go_at_call 34; (with_reducible refine (kY _ (by (repeat (first | exact ext_refl _ | assumption | refine ext_setCell ?_ (by simp; try omega) _ | refine ext_alloc ?_ _ | refine ext_drew ?_ | refine ext_drewN ?_ _ | refine ext_trans ?_ (Aft.use _) | refine ext_trans ?_ (by assumption))))).mono ?_); rintro e w2 ⟨rfl, xb2⟩)
      | (go_at_call 34; (with_reducible refine (kX _ (by (repeat (first | exact ext_refl _ | assumption | refine ext_setCell ?_ (by simp; try omega) _ | refine ext_alloc ?_ _ | refine ext_drew ?_ | refine ext_drewN ?_ _ | refine ext_trans ?_ (Aft.use _) | refine ext_trans ?_ (by assumption))))).mono ?_); rintro e w3 ⟨rfl, xb3⟩)
      | (go_at_call 34; (with_reducible refine (kY _ (by (repeat (first | exact ext_refl _ | assumption | refine ext_setCell ?_ (by simp; try omega) _ | refine ext_alloc ?_ _ | refine ext_drew ?_ | refine ext_drewN ?_ _ | refine ext_trans ?_ (Aft.use _) | refine ext_trans ?_ (by assumption))))).mono ?_); rintro e w4 ⟨rfl, xb4⟩)
     )
    refine bodyPost_ret (v := .int .i64 (-1)) ?h rfl ⟨rfl, ?_⟩
    case h => simp [results, Tryz.results40, go_sem]
    repeat (first | exact ext_refl _ | assumption | refine ext_setCell ?_ (by simp; try omega) _ | refine ext_alloc ?_ _ | refine ext_drew ?_ | refine ext_drewN ?_ _ | refine ext_trans ?_ (Aft.use _) | refine ext_trans ?_ (by assumption))
  · rw [if_neg hlt]
    have hgt := hgt hlt
    go_enter Tryz.func40, Tryz.ntmps40
    go_wp2_with (first
      | (go_at_call 34; (with_reducible refine (kX _ (by (repeat (first | exact ext_refl _ | assumption | refine ext_setCell ?_ (by simp; try omega) _ | refine ext_alloc ?_ _ | refine ext_drew ?_ | refine ext_drewN ?_ _ | refine ext_trans ?_ (Aft.use _) | refine ext_trans ?_ (by assumption))))).mono ?_); rintro e w1 ⟨rfl, xb1⟩)
      | (go_at_call 34; (with_reducible refine (kY _ (by (repeat (first | exact ext_refl _ | assumption | refine ext_setCell ?_ (by simp; try omega) _ | refine ext_alloc ?_ _ | refine ext_drew ?_ | refine ext_drewN ?_ _ | refine ext_trans ?_ (Aft.use _) | refine ext_trans ?_ (by assumption))))).mono ?_); rintro e w2 ⟨rfl, xb2⟩)
     )
    refine bodyPost_ret (v := .int .i64 1) ?h rfl ⟨rfl, ?_⟩
    case h => simp [results, Tryz.results40, go_sem]
    repeat (first | exact ext_refl _ | assumption | refine ext_setCell ?_ (by simp; try omega) _ | refine ext_alloc ?_ _ | refine ext_drew ?_ | refine ext_drewN ?_ _ | refine ext_trans ?_ (Aft.use _) | refine ext_trans ?_ (by assumption))
theorem br_Cmp_nil (bx b2 : Nat) (x y : Int) (p q : Nat) (h1 : x = 0) (h2 : y = 0) (A : Option Addr) (n c : Nat) (D : Option Addr) (m e : Nat) (B : Option Addr) (n2 c2 : Nat) (C : Option Addr) (m2 e2 : Nat)
    (w : World) (hx : RatIs w bx x A n c p D m e) (hy : RatIs w b2 y B n2 c2 q C m2 e2) :
    Calls Tryz.prog 40 #[.pointer (some ⟨bx, 0, none⟩), .pointer (some ⟨b2, 0, none⟩)] w
      fun e w' => e = .returned (.int .i64 (x * (denOf q : Int) - y * (denOf p : Int)).sign) ∧ Ext w w' := by
  rw [rcmp_nil h1 h2]
  subst h1; subst h2
  have kX : ∀ w', Ext w w' → Calls Tryz.prog 34 #[.pointer (some ⟨bx, 0, none⟩)] w' fun e w'' => e = .returned (.int .i64 0) ∧ Ext w' w'' := fun w' he => br_Sign _ _ _ _ _ w' (hx.int.ext he)
  have kY : ∀ w', Ext w w' → Calls Tryz.prog 34 #[.pointer (some ⟨b2, 0, none⟩)] w' fun e w'' => e = .returned (.int .i64 0) ∧ Ext w' w'' := fun w' he => br_Sign _ _ _ _ _ w' (hy.int.ext he)
  clear hx hy
  go_enter Tryz.func40, Tryz.ntmps40
  go_wp2_with (first
    | (go_at_call 34; (with_reducible refine (kX _ (by (repeat (first | exact ext_refl _ | assumption | refine ext_setCell ?_ (by simp; try omega) _ | refine ext_alloc ?_ _ | refine ext_drew ?_ | refine ext_drewN ?_ _ | refine ext_trans ?_ (Aft.use _) | refine ext_trans ?_ (by assumption))))).mono ?_); rintro e w1 ⟨rfl, xb1⟩)
    | (go_at_call 34; (with_reducible refine (kY _ (by (repeat (first | exact ext_refl _ | assumption | refine ext_setCell ?_ (by simp; try omega) _ | refine ext_alloc ?_ _ | refine ext_drew ?_ | refine ext_drewN ?_ _ | refine ext_trans ?_ (Aft.use _) | refine ext_trans ?_ (by assumption))))).mono ?_); rintro e w2 ⟨rfl, xb2⟩)
   )
  refine bodyPost_ret (v := .int .i64 0) ?h rfl ⟨rfl, ?_⟩
  case h => simp [results, Tryz.results40, go_sem]
  repeat (first | exact ext_refl _ | assumption | refine ext_setCell ?_ (by simp; try omega) _ | refine ext_alloc ?_ _ | refine ext_drew ?_ | refine ext_drewN ?_ _ | refine ext_trans ?_ (Aft.use _) | refine ext_trans ?_ (by assumption))
theorem br_Cmp_near (bx b2 : Nat) (x y : Int) (p q : Nat) (h : x.sign = y.sign) (h0 : x ≠ 0) (A : Option Addr) (n c : Nat) (D : Option Addr) (m e : Nat) (B : Option Addr) (n2 c2 : Nat) (C : Option Addr) (m2 e2 : Nat)
    (hn : n ≤ 100000) (hm : m ≤ 100000) (hn2 : n2 ≤ 100000) (hm2 : m2 ≤ 100000) (w : World) (hx : RatIs w bx x A n c p D m e) (hy : RatIs w b2 y B n2 c2 q C m2 e2) :
    Calls Tryz.prog 40 #[.pointer (some ⟨bx, 0, none⟩), .pointer (some ⟨b2, 0, none⟩)] w
      fun e w' => e = .returned (.int .i64 (x * (denOf q : Int) - y * (denOf p : Int)).sign) ∧ Ext w w' := by
  have HX := Lib.hid hx
  have HY := Lib.hid hy
  have lx := hx.int.room.lt
  have x0 := hx.int.neg
  have x1 := hx.int.words
  have ly := hy.int.room.lt
  have y1 := hy.int.words
  simp only [Nat.zero_add] at x1 y1
  have kX : ∀ w', Ext w w' → Calls Tryz.prog 34 #[.pointer (some ⟨bx, 0, none⟩)] w' fun e w'' => e = .returned (.int .i64 x.sign) ∧ Ext w' w'' := fun w' he => br_Sign _ _ _ _ _ w' (hx.int.ext he)
  have kY : ∀ w', Ext w w' → Calls Tryz.prog 34 #[.pointer (some ⟨b2, 0, none⟩)] w' fun e w'' => e = .returned (.int .i64 x.sign) ∧ Ext w' w'' := fun w' he => by rw [h]; exact br_Sign _ _ _ _ _ w' (hy.int.ext he)
  have dl := den_len hx hm (by decide)
  have dl2 := den_len hy hm2 (by decide)
  have bX : ∀ w', Ext w w' → Calls Tryz.prog 75 #[.pointer (some ⟨bx, 0, none⟩)] w' fun e' w'' => ∃ (B : Option Addr) (k l : Nat), e' = .returned (.slice B k l) ∧ Hid (Rd w'' B k l (lim (denOf p))) ∧ Ext w' w'' := fun w' he => (br_below _ _ _ _ _ _ _ _ _ w' (HX.out.ext he)).mono fun _ _ ⟨B, k, l, h1, h2, h3⟩ => ⟨B, k, l, h1, h2.out.1, h3⟩
  have bY : ∀ w', Ext w w' → Calls Tryz.prog 75 #[.pointer (some ⟨b2, 0, none⟩)] w' fun e' w'' => ∃ (B : Option Addr) (k l : Nat), e' = .returned (.slice B k l) ∧ Hid (Rd w'' B k l (lim (denOf q))) ∧ Ext w' w'' := fun w' he => (br_below _ _ _ _ _ _ _ _ _ w' (HY.out.ext he)).mono fun _ _ ⟨B, k, l, h1, h2, h3⟩ => ⟨B, k, l, h1, h2.out.1, h3⟩
  have mX : ∀ P1 k l w', Ext w w' → Rd w' P1 k l (lim (denOf q)) → Calls Tryz.prog 64 #[.slice A n c, .slice P1 k l] w' (WPost w' (x.natAbs * denOf q)) := fun P1 k l w' he h1 => bw_mulA A P1 n c k l _ _ (by have := h1.len; omega) w' (HX.out.int.rd.ext he) h1
  have mY : ∀ P1 k l w', Ext w w' → Rd w' P1 k l (lim (denOf p)) → Calls Tryz.prog 64 #[.slice B n2 c2, .slice P1 k l] w' (WPost w' (y.natAbs * denOf p)) := fun P1 k l w' he h1 => bw_mulA B P1 n2 c2 k l _ _ (by have := h1.len; omega) w' (HY.out.int.rd.ext he) h1
  have hs0 : (x.sign == 0) = false := by
    rw [beq_eq_false_iff_ne]; intro h2; exact h0 (Int.sign_eq_zero_iff_zero.1 h2)
  generalize denOf p = p at *
  generalize denOf q = q at *
  rw [rcmp_near h h0]
  have hwr := wrap_neg_cmp (x.natAbs * q) (y.natAbs * p)
  have hcm : ∀ P1 k1 l1 Q1 k2 l2 w', Rd w' P1 k1 l1 (lim (x.natAbs * q)) → Rd w' Q1 k2 l2 (lim (y.natAbs * p)) → Calls Tryz.prog 74 #[.slice P1 k1 l1, .slice Q1 k2 l2] w' fun e w'' => e = .returned (.int .i64 (cmpN (x.natAbs * q) (y.natAbs * p))) ∧ Ext w' w'' := fun P1 k1 l1 Q1 k2 l2 w' h1 h2 => bw_cmp P1 Q1 k1 l1 k2 l2 _ _ w' h1 h2
  clear hx hy h h0
  generalize x.natAbs * q = U at *
  generalize y.natAbs * p = V at *
  generalize cmpN U V = K at *
  generalize x.sign = X at *
  by_cases hneg : x < 0
  · rw [if_pos hneg]
    rw [decide_eq_true hneg] at x0
    go_enter Tryz.func40, Tryz.ntmps40
    go_upto_region 7 with (first
      | (go_at_call 34; (with_reducible refine (kX _ (ext_trans xb1 xb2)).mono ?_); rintro e w3 ⟨rfl, xb3⟩)
      | (go_at_call 34; (with_reducible refine (kX _ (by (repeat (first | exact ext_refl _ | assumption | refine ext_setCell ?_ (by simp; try omega) _ | refine ext_alloc ?_ _ | refine ext_drew ?_ | refine ext_drewN ?_ _ | refine ext_trans ?_ (Aft.use _) | refine ext_trans ?_ (by assumption))))).mono ?_); rintro e w1 ⟨rfl, xb1⟩)
      | (go_at_call 34; (with_reducible refine (kY _ (by (repeat (first | exact ext_refl _ | assumption | refine ext_setCell ?_ (by simp; try omega) _ | refine ext_alloc ?_ _ | refine ext_drew ?_ | refine ext_drewN ?_ _ | refine ext_trans ?_ (Aft.use _) | refine ext_trans ?_ (by assumption))))).mono ?_); rintro e w2 ⟨rfl, xb2⟩)
     )
    have hE3 : Hid (Ext w w3) := by show Ext w w3; (repeat (first | exact ext_refl _ | assumption | refine ext_setCell ?_ (by simp; try omega) _ | refine ext_alloc ?_ _ | refine ext_drew ?_ | refine ext_drewN ?_ _ | refine ext_trans ?_ (Aft.use _) | refine ext_trans ?_ (by assumption)))
    have x0' := (Below.cell (p := ⟨bx, 0, none⟩) hE3.out lx).trans x0
    have x1' := (Below.cell (p := ⟨bx, 1, none⟩) hE3.out lx).trans x1
    have y1' := (Below.cell (p := ⟨b2, 1, none⟩) hE3.out ly).trans y1
    have lx' := ext_lt hE3.out bx lx
    have ly' := ext_lt hE3.out b2 ly
    clear kX kY xb1 xb2 xb3
    refine D2.wp_drawn_tail 16 (D2.tab [(6, D2.RRow q), (7, RWord w3.heap.size U), (14, D2.RRow p), (15, RWord w3.heap.size V)]) (by kernel_rfl) (by kernel_rfl) (by kernel_rfl) (D2.tab_stays (by simp [D2.stays_row, D2.stays_word])) (fun hq hqf => ?_)
    simp only [List.take_succ_cons, List.take_zero, List.drop_succ_cons, List.drop_zero]
    have z1 := fun nq => (hq nq bx 1 lx').trans x1'
    have z3 := fun nq => (hq nq b2 1 ly').trans y1'
    iterate 6
      (refine D2.wpK_det rfl (fun K hK => ?_)
       go_simp
       first
         | (refine hK _ ?_; clear hK K)
         | (apply Exists.intro; refine ⟨fun x => ?_, hK _ ?_⟩; (first | exact z1 x | exact z3 x); clear hK K))
    refine D2.wpK_rel _ rfl rfl ?_ ?_
    · rintro _ ⟨nn, rfl⟩ _
      unfold D2.Oper.relAt
      go_simp
      exact D2.rel_row (bY _ (ext_trans hE3.out nn.use))
    rintro v ⟨_, ⟨nn, rfl⟩, hr⟩
    obtain ⟨A5, k5, c5, rfl, -⟩ := hr
    clear nn
    refine D2.wpK_rel _ rfl rfl ?_ ?_
    · rintro _ ⟨nn, rfl⟩ hdep
      have q1 := hdep 6 (by kernel_rfl)
      simp only [D2.Facts.put] at q1
      have q2 := D2.row_at (vals := []) q1
      unfold D2.Oper.relAt
      go_simp
      exact D2.rel_wpost (ext_size nn.use) (mX _ _ _ _ (ext_trans hE3.out nn.use) q2)
    rintro v ⟨_, ⟨nn, rfl⟩, hr⟩
    obtain ⟨A6, k6, c6, rfl, -, -⟩ := hr
    clear nn
    iterate 6
      (refine D2.wpK_det rfl (fun K hK => ?_)
       go_simp
       first
         | (refine hK _ ?_; clear hK K)
         | (apply Exists.intro; refine ⟨fun x => ?_, hK _ ?_⟩; (first | exact z1 x | exact z3 x); clear hK K))
    refine D2.wpK_rel _ rfl rfl ?_ ?_
    · rintro _ ⟨nn, rfl⟩ _
      unfold D2.Oper.relAt
      go_simp
      exact D2.rel_row (bX _ (ext_trans hE3.out nn.use))
    rintro v ⟨_, ⟨nn, rfl⟩, hr⟩
    obtain ⟨A7, k7, c7, rfl, -⟩ := hr
    clear nn
    refine D2.wpK_rel _ rfl rfl ?_ ?_
    · rintro _ ⟨nn, rfl⟩ hdep
      have q1 := hdep 14 (by kernel_rfl)
      simp only [D2.Facts.put] at q1
      have q2 := D2.row_at (vals := []) q1
      unfold D2.Oper.relAt
      go_simp
      exact D2.rel_wpost (ext_size nn.use) (mY _ _ _ _ (ext_trans hE3.out nn.use) q2)
    rintro v ⟨_, ⟨nn, rfl⟩, hr⟩
    obtain ⟨A8, k8, c8, rfl, -, -⟩ := hr
    clear nn
    refine D2.wpK_nil ?_
    intro nq hG
    have r6 : RWord w3.heap.size U [] (.slice A6 k6 c6) nq.out := by have := hG.fact 7; simp [D2.Facts.put] at this; exact this
    have r8 : RWord w3.heap.size V [] (.slice A8 k8 c8) nq.out := by have := hG.fact 15; simp [D2.Facts.put] at this; exact this
    have hR6 := Lib.hid (rword_at r6)
    have hR8 := Lib.hid (rword_at r8)
    have hE := Lib.hid (ext_trans hE3.out nq.use)
    have x0q := (Below.cell (p := ⟨bx, 0, none⟩) nq.use lx').trans x0'
    have lxq := ext_lt nq.use bx lx'
    clear r6 r8 hG
    go_wp2_with (first
      | (go_at_call 74; (with_reducible refine (hcm _ _ _ _ _ _ _ hR6.out.1 hR8.out.1).mono ?_); rintro e w9 ⟨rfl, xb9⟩; obtain ⟨xc9, xf9, xl9, xz9⟩ := ext_use xb9; (try simp at xz9); obtain ⟨l9_0, gc, gf⟩ := kp xb9 (bx) (by first | omega | (simp; try omega)); have r9_0 := gc 0; have f9_0 := gf 0; have r9_0_1 := gc 1; have f9_0_1 := gf 1; clear gc gf)
     )
    refine bodyPost_ret (v := .int .i64 (-K)) ?h rfl ⟨rfl, ext_trans hE.out xb9⟩
    case h => simp [results, Tryz.results40, go_sem]
  · rw [if_neg hneg]
    rw [decide_eq_false hneg] at x0
    go_enter Tryz.func40, Tryz.ntmps40
    go_upto_region 7 with (first
      | (go_at_call 34; (with_reducible refine (kX _ (ext_trans xb1 xb2)).mono ?_); rintro e w3 ⟨rfl, xb3⟩)
      | (go_at_call 34; (with_reducible refine (kX _ (by (repeat (first | exact ext_refl _ | assumption | refine ext_setCell ?_ (by simp; try omega) _ | refine ext_alloc ?_ _ | refine ext_drew ?_ | refine ext_drewN ?_ _ | refine ext_trans ?_ (Aft.use _) | refine ext_trans ?_ (by assumption))))).mono ?_); rintro e w1 ⟨rfl, xb1⟩)
      | (go_at_call 34; (with_reducible refine (kY _ (by (repeat (first | exact ext_refl _ | assumption | refine ext_setCell ?_ (by simp; try omega) _ | refine ext_alloc ?_ _ | refine ext_drew ?_ | refine ext_drewN ?_ _ | refine ext_trans ?_ (Aft.use _) | refine ext_trans ?_ (by assumption))))).mono ?_); rintro e w2 ⟨rfl, xb2⟩)
     )
    have hE3 : Hid (Ext w w3) := by show Ext w w3; (repeat (first | exact ext_refl _ | assumption | refine ext_setCell ?_ (by simp; try omega) _ | refine ext_alloc ?_ _ | refine ext_drew ?_ | refine ext_drewN ?_ _ | refine ext_trans ?_ (Aft.use _) | refine ext_trans ?_ (by assumption)))
    have x0' := (Below.cell (p := ⟨bx, 0, none⟩) hE3.out lx).trans x0
    have x1' := (Below.cell (p := ⟨bx, 1, none⟩) hE3.out lx).trans x1
    have y1' := (Below.cell (p := ⟨b2, 1, none⟩) hE3.out ly).trans y1
    have lx' := ext_lt hE3.out bx lx
    have ly' := ext_lt hE3.out b2 ly
    clear kX kY xb1 xb2 xb3
    refine D2.wp_drawn_tail 16 (D2.tab [(6, D2.RRow q), (7, RWord w3.heap.size U), (14, D2.RRow p), (15, RWord w3.heap.size V)]) (by kernel_rfl) (by kernel_rfl) (by kernel_rfl) (D2.tab_stays (by simp [D2.stays_row, D2.stays_word])) (fun hq hqf => ?_)
    simp only [List.take_succ_cons, List.take_zero, List.drop_succ_cons, List.drop_zero]
    have z1 := fun nq => (hq nq bx 1 lx').trans x1'
    have z3 := fun nq => (hq nq b2 1 ly').trans y1'
    iterate 6
      (refine D2.wpK_det rfl (fun K hK => ?_)
       go_simp
       first
         | (refine hK _ ?_; clear hK K)
         | (apply Exists.intro; refine ⟨fun x => ?_, hK _ ?_⟩; (first | exact z1 x | exact z3 x); clear hK K))
    refine D2.wpK_rel _ rfl rfl ?_ ?_
    · rintro _ ⟨nn, rfl⟩ _
      unfold D2.Oper.relAt
      go_simp
      exact D2.rel_row (bY _ (ext_trans hE3.out nn.use))
    rintro v ⟨_, ⟨nn, rfl⟩, hr⟩
    obtain ⟨A5, k5, c5, rfl, -⟩ := hr
    clear nn
    refine D2.wpK_rel _ rfl rfl ?_ ?_
    · rintro _ ⟨nn, rfl⟩ hdep
      have q1 := hdep 6 (by kernel_rfl)
      simp only [D2.Facts.put] at q1
      have q2 := D2.row_at (vals := []) q1
      unfold D2.Oper.relAt
      go_simp
      exact D2.rel_wpost (ext_size nn.use) (mX _ _ _ _ (ext_trans hE3.out nn.use) q2)
    rintro v ⟨_, ⟨nn, rfl⟩, hr⟩
    obtain ⟨A6, k6, c6, rfl, -, -⟩ := hr
    clear nn
    iterate 6
      (refine D2.wpK_det rfl (fun K hK => ?_)
       go_simp
       first
         | (refine hK _ ?_; clear hK K)
         | (apply Exists.intro; refine ⟨fun x => ?_, hK _ ?_⟩; (first | exact z1 x | exact z3 x); clear hK K))
    refine D2.wpK_rel _ rfl rfl ?_ ?_
    · rintro _ ⟨nn, rfl⟩ _
      unfold D2.Oper.relAt
      go_simp
      exact D2.rel_row (bX _ (ext_trans hE3.out nn.use))
    rintro v ⟨_, ⟨nn, rfl⟩, hr⟩
    obtain ⟨A7, k7, c7, rfl, -⟩ := hr
    clear nn
    refine D2.wpK_rel _ rfl rfl ?_ ?_
    · rintro _ ⟨nn, rfl⟩ hdep
      have q1 := hdep 14 (by kernel_rfl)
      simp only [D2.Facts.put] at q1
      have q2 := D2.row_at (vals := []) q1
      unfold D2.Oper.relAt
      go_simp
      exact D2.rel_wpost (ext_size nn.use) (mY _ _ _ _ (ext_trans hE3.out nn.use) q2)
    rintro v ⟨_, ⟨nn, rfl⟩, hr⟩
    obtain ⟨A8, k8, c8, rfl, -, -⟩ := hr
    clear nn
    refine D2.wpK_nil ?_
    intro nq hG
    have r6 : RWord w3.heap.size U [] (.slice A6 k6 c6) nq.out := by have := hG.fact 7; simp [D2.Facts.put] at this; exact this
    have r8 : RWord w3.heap.size V [] (.slice A8 k8 c8) nq.out := by have := hG.fact 15; simp [D2.Facts.put] at this; exact this
    have hR6 := Lib.hid (rword_at r6)
    have hR8 := Lib.hid (rword_at r8)
    have hE := Lib.hid (ext_trans hE3.out nq.use)
    have x0q := (Below.cell (p := ⟨bx, 0, none⟩) nq.use lx').trans x0'
    have lxq := ext_lt nq.use bx lx'
    clear r6 r8 hG
    go_wp2_with (first
      | (go_at_call 74; (with_reducible refine (hcm _ _ _ _ _ _ _ hR6.out.1 hR8.out.1).mono ?_); rintro e w9 ⟨rfl, xb9⟩; obtain ⟨xc9, xf9, xl9, xz9⟩ := ext_use xb9; (try simp at xz9); obtain ⟨l9_0, gc, gf⟩ := kp xb9 (bx) (by first | omega | (simp; try omega)); have r9_0 := gc 0; have f9_0 := gf 0; have r9_0_1 := gc 1; have f9_0_1 := gf 1; clear gc gf)
     )
    refine bodyPost_ret (v := .int .i64 K) ?h rfl ⟨rfl, ext_trans hE.out xb9⟩
    case h => simp [results, Tryz.results40, go_sem]
theorem br_Cmp (bx b2 : Nat) (x y : Int) (p q : Nat) (A : Option Addr) (n c : Nat) (D : Option Addr) (m e : Nat) (B : Option Addr) (n2 c2 : Nat) (C : Option Addr) (m2 e2 : Nat)
    (hn : n ≤ 100000) (hm : m ≤ 100000) (hn2 : n2 ≤ 100000) (hm2 : m2 ≤ 100000) (w : World) (hx : RatIs w bx x A n c p D m e) (hy : RatIs w b2 y B n2 c2 q C m2 e2) :
    Calls Tryz.prog 40 #[.pointer (some ⟨bx, 0, none⟩), .pointer (some ⟨b2, 0, none⟩)] w
      fun e w' => e = .returned (.int .i64 (x * (denOf q : Int) - y * (denOf p : Int)).sign) ∧ Ext w w' := by
  by_cases h : x.sign = y.sign
  · by_cases h0 : x = 0
    · have hy0 : y = 0 := by rw [h0] at h; exact Int.sign_eq_zero_iff_zero.1 h.symm
      exact br_Cmp_nil bx b2 x y p q h0 hy0 A n c D m e B n2 c2 C m2 e2 w hx hy
    · exact br_Cmp_near bx b2 x y p q h h0 A n c D m e B n2 c2 C m2 e2 hn hm hn2 hm2 w hx hy
  · exact br_Cmp_far bx b2 x y p q h A n c D m e B n2 c2 C m2 e2 w hx hy
end Go.Proofs.YtchchnohmmncfaaGreatDoor.NB
end
section
/- (The document's library.) Whole numbers of the library's: shifted up; as a machine number; the lowest bit; with a limb put below. -/

namespace Go.Proofs.YtchchnohmmncfaaGreatDoor.NB
open Go.RowKit
attribute [local go_sem] sz2 sz3 sz4 sz5 sz6 sz7 sz8
set_option maxHeartbeats 4000000
set_option maxRecDepth 100000
attribute [local irreducible] Calls
attribute [local go_sem] D2.Oper.detAt D2.detUpon D2.relUpon
theorem bi_Lsh (b o g p : Nat) (x : Int) (z : Nat) (A : Option Addr) (n c : Nat) (hn : n ≤ 500000) (hz : z ≤ 16000000) (w : World) (hr : Room w b o) (hx : IntIs w g p x A n c) :
    Calls Tryz.prog 111 #[.pointer (some ⟨b, o, none⟩), .pointer (some ⟨g, p, none⟩), .int .u64 (z : Int)] w (IPost w b o (x * 2 ^ z)) := by
  have HX := Lib.hid hx
  have HR := Lib.hid hr
  have lx := hx.room.lt
  have x0 := hx.neg
  have x1 := hx.words
  have hbl := hr.lt
  have hz2 : (z : Int) ≤ 16000000 := by omega
  have kM : ∀ w', Ext w w' → Calls Tryz.prog 133 #[.slice A n c, .int .i64 (IntKind.i64.wrap (z : Int))] w' (WPost w' (x.natAbs * 2 ^ z)) := fun w' he => by
    have e : IntKind.i64.wrap (z : Int) = (z : Int) := by rw [IntKind.wrap_i64]; omega
    rw [e]
    exact bw_up A n c _ z hn hz w' (HX.out.rd.ext he)
  clear hx hr
  go_enter Tryz.func111, Tryz.ntmps111
  go_wp2
  refine D2.wp_drawn_tail 12 (D2.tab [(11, RWord w.heap.size (x.natAbs * 2 ^ z))]) (by kernel_rfl) (by kernel_rfl) (by kernel_rfl) (D2.tab_stays (by simp [D2.stays_word])) (fun hq hqf => ?_)
  simp only [List.take_succ_cons, List.take_zero, List.drop_succ_cons, List.drop_zero]
  have z0 := fun nq => (hq nq g p lx).trans x0
  have z1 := fun nq => (hq nq g (p + 1) lx).trans x1
  iterate 11
    (refine D2.wpK_det rfl (fun K hK => ?_)
     go_simp
     first
       | (refine hK _ ?_; clear hK K)
       | (apply Exists.intro; refine ⟨fun x => ?_, hK _ ?_⟩; (first | exact z0 x | exact z1 x | (simp [z0, z1]; rfl)); clear hK K))
  refine D2.wpK_rel _ rfl rfl ?_ ?_
  · rintro _ ⟨nn, rfl⟩ _
    unfold D2.Oper.relAt
    go_simp
    exact D2.rel_wpost (ext_size nn.use) (kM _ nn.use)
  rintro v ⟨_, ⟨nn, rfl⟩, hr⟩
  obtain ⟨A9, k9, c9, rfl, -, -⟩ := hr
  clear nn
  refine D2.wpK_nil ?_
  intro nq2 hG
  have r9 : RWord w.heap.size (x.natAbs * 2 ^ z) [] (.slice A9 k9 c9) nq2.out := by have := hG.fact 11; simp [D2.Facts.put] at this; exact this
  have hR9 := Lib.hid (rword_at r9)
  have hF9 : Fr w A9 := hR9.out.2
  have hO9 := hF9.off HR.out.lt k9
  clear r9 hG
  go_wp2_with (first
    | (go_at_call 63; (with_reducible refine (bi_set b o _ A9 k9 c9 (x.natAbs * 2 ^ z) _ (HR.out.ext nq2.use) hR9.out.1 hO9).mono ?_); rintro e w3 ⟨rfl, hI3, xt3⟩)
   )
  refine bodyPost_ret (v := .pointer (some ⟨b, o, none⟩)) ?h rfl ⟨rfl, A9, k9, c9, ⟨by have := hI3.out; rwa [sgn_shl] at this, hF9⟩, (Tch.of nq2.use).trans xt3⟩
  case h => simp [results, Tryz.results111, go_sem]
theorem bi_Uint64 (b o v : Nat) (A : Option Addr) (n c : Nat) (hv : v < 18446744073709551616) (w : World) (hx : IntIs w b o (v : Int) A n c) :
    Calls Tryz.prog 77 #[.pointer (some ⟨b, o, none⟩)] w fun e w' => e = .returned (.int .u64 (v : Int)) ∧ Ext w w' := by
  have x1 := hx.words
  have hR := hx.rd
  rw [Int.natAbs_natCast] at hR
  have kU := Lib.hid (bw_toUint A n c v (lim_two hv) w hR)
  clear hx hR
  go_enter Tryz.func77, Tryz.ntmps77
  go_wp2_with (first
    | (go_at_call 118; (with_reducible refine (kU.out).mono ?_); rintro e w2 ⟨rfl, rfl⟩)
   )
  refine bodyPost_ret (v := .int .u64 ↑v) ?h rfl ⟨rfl, ext_refl _⟩
  case h => simp [results, Tryz.results77, go_sem]
theorem bi_Bit0 (b o v : Nat) (A : Option Addr) (n c : Nat) (w : World) (hx : IntIs w b o (v : Int) A n c) :
    Calls Tryz.prog 116 #[.pointer (some ⟨b, o, none⟩), .int .i64 0] w fun e w' => e = .returned (.int .u64 ((v % 2 : Nat) : Int)) ∧ Ext w w' := by
  have x1 := hx.words
  have hn := int_nil hx
  have hR := hx.rd
  rw [Int.natAbs_natCast] at hR
  by_cases hz : v = 0
  · obtain rfl : n = 0 := hn.2 (by omega)
    subst hz
    clear hn hR hx
    go_enter Tryz.func116, Tryz.ntmps116
    go_wp2
    refine bodyPost_ret (v := .int .u64 0) ?h rfl ⟨rfl, ext_refl _⟩
    case h => simp [results, Tryz.results116, go_sem]
  · have hn0 : n ≠ 0 := fun e => by have := hn.1 e; omega
    have hn1 : (0 : Int) < (n : Int) := by omega
    have hn2 : ¬ (n : Int) ≤ 0 := by omega
    have hn3 : decide ((n : Int) ≤ 0) = false := decide_eq_false hn2
    have hn4 : decide (n = 0) = false := decide_eq_false hn0
    rcases hR.shape with ⟨_, h, _⟩ | ⟨bx, ox, rfl⟩
    · omega
    · obtain ⟨hb, hc⟩ := hR.cells bx ox rfl 0 (by have := hR.len; omega)
      have e1 : (lim v)[0]'(by have := hR.len; omega) = v % Bs := by
        have := limb_at v 0
        rw [Nat.pow_zero, Nat.div_one, List.getD_eq_getElem?_getD, List.getElem?_eq_getElem (by have := hR.len; omega)] at this
        exact this
      rw [e1, Nat.add_zero] at hc
      obtain ⟨y, hy⟩ : ∃ y, v % Bs = y := ⟨_, rfl⟩
      rw [hy] at hc
      have hyb : y < 4294967296 := by rw [← hy]; exact Nat.mod_lt _ (by decide)
      have hm : y % 2 = v % 2 := by rw [← hy]; show v % 4294967296 % 2 = v % 2; omega
      have hyi : (y : Int) < 4294967296 := by omega
      obtain ⟨r, hr⟩ : ∃ r, y % 2 = r := ⟨_, rfl⟩
      have hA := and_one32b y hyb
      rw [← hm, hr]
      rw [hr] at hA
      have hw2 : IntKind.u64.wrap (r : Int) = (r : Int) := by rw [IntKind.wrap_u64]; omega
      have HA := Lib.hid hA
      clear hn hR hx hy hm e1 hz hn0 hA hr
      go_enter Tryz.func116, Tryz.ntmps116
      go_wp2
      rw [HA.out, hw2]
      refine bodyPost_ret (v := .int .u64 ↑r) ?h rfl ⟨rfl, ext_refl _⟩
      case h => simp [results, Tryz.results116, go_sem]
end Go.Proofs.YtchchnohmmncfaaGreatDoor.NB
end
section
/- (The document's library.) Whole numbers of the library's: to the power of nought. -/

namespace Go.Proofs.YtchchnohmmncfaaGreatDoor.NB
open Go.RowKit
attribute [local go_sem] sz2 sz3 sz4 sz5 sz6 sz7 sz8
set_option maxHeartbeats 4000000
set_option maxRecDepth 100000
attribute [local irreducible] Calls
theorem bi_Exp0 (b bx b2 : Nat) (B : Nat) (A : Option Addr) (n c : Nat) (D : Option Addr) (m d : Nat) (hn : n ≤ 1000000) (w : World) (hr : Room w b 0) (hx : IntIs w bx 0 (B : Int) A n c) (hy : IntIs w b2 0 ((0 : Nat) : Int) D m d) :
    Calls Tryz.prog 81 #[.pointer (some ⟨b, 0, none⟩), .pointer (some ⟨bx, 0, none⟩), .pointer (some ⟨b2, 0, none⟩), .pointer none] w (IPost w b 0 1) := by
  have HX := Lib.hid hx
  have HY := Lib.hid hy
  have HR := Lib.hid hr
  have ly := hy.room.lt
  have kS : Hid (∀ w', Ext w w' → Calls Tryz.prog 66 #[.pointer (some ⟨b2, 0, none⟩)] w' fun e w'' => e = .returned (.int .i64 0) ∧ Ext w' w'') := Lib.hid fun w' he => bi_Sign b2 0 ((0 : Nat) : Int) D m d w' (HY.out.ext he)
  clear hx hy hr
  go_enter Tryz.func81, Tryz.ntmps81
  go_upto_region 7 with (first
    | (go_at_call 25; (with_reducible refine (bi_NewInt 1 (by decide) (by decide) _).mono ?_); rintro e w1 ⟨p1, P1, k1, l1, rfl, hI1, hp1, xb1⟩)
    | (go_at_call 45; (with_reducible refine (bi_Set w1.heap.size 0 bx 0 A n c (B : Int) hn _ (int_room w1) ((HX.out.ext (ext_trans (ext_alloc (ext_refl _) _) xb1)).ext (ext_alloc (ext_refl _) _))).mono ?_); rintro e w2 ⟨rfl, A2, n2, c2, hI2, xt2⟩)
   )
  have hE1 : Ext w w1 := ext_trans (ext_alloc (ext_refl _) _) xb1
  have hE2 : Hid (Ext w w2) := Lib.hid (xt2.ext (ext_alloc hE1 _) hE1.size)
  have hz1 : w.heap.size < w1.heap.size := by have := xb1.size; simp at this; omega
  have hp1' : w.heap.size + 1 ≤ p1 := by simpa using hp1
  have hlp1 : p1 < w1.heap.size := hI1.out.1.room.lt
  have hz2 : w1.heap.size + 1 ≤ w2.heap.size := by have := xt2.size; simpa using this
  have HI1 : Hid (IntIs w2 p1 0 1 P1 k1 l1) := Lib.hid ((hI1.out.1.ext (ext_alloc (ext_refl _) _)).tch xt2 (by omega) (hI1.out.1.rd.off (Nat.le_refl _)))
  have hby : w2.cell? ⟨w.heap.size, 1, none⟩ = some (.slice none 0 0) := by
    rw [xt2.cell (by simp; omega) (by simp; omega)]
    rw [(Below.cell (p := ⟨w.heap.size, 1, none⟩) (ext_alloc (ext_refl w1) _) (by simp; omega))]
    rw [(Below.cell (p := ⟨w.heap.size, 1, none⟩) xb1 (by simp))]
    rw [World.cell?_alloc_at _ _ _ _ rfl]; rfl
  have hk1 : k1 ≤ 1000000 := by
    have := HI1.out.rd.len
    have e : (lim (1 : Int).natAbs).length = 1 := by kernel_rfl
    omega
  have lw2 : w.heap.size < w2.heap.size := by omega
  clear hI1 hI2 xt2 xb1 hp1 hE1
  go_wp2_with (first
    | (go_at_call 66; (with_reducible refine (kS.out _ hE2.out).mono ?_); rintro e w3 ⟨rfl, xb3⟩; have hby := (Below.cell (p := ⟨w.heap.size, 1, none⟩) xb3 lw2).trans hby; have lw3 := ext_lt xb3 _ lw2)
    | (go_at_call 45; (with_reducible refine (bi_Set b 0 p1 0 P1 k1 l1 1 hk1 _ (HR.out.ext (ext_trans hE2.out xb3)) (HI1.out.ext xb3)).mono ?_); rintro e w4 ⟨rfl, A4, n4, c4, hI4, xt4⟩))
  refine bodyPost_ret (v := .pointer (some ⟨b, 0, none⟩)) ?h rfl ⟨rfl, A4, n4, c4, ⟨hI4.out.1, hI4.out.2.mono (ext_trans hE2.out xb3)⟩, (Tch.of (ext_trans hE2.out xb3)).trans xt4⟩
  case h => simp [results, Tryz.results81, go_sem]
end Go.Proofs.YtchchnohmmncfaaGreatDoor.NB
end
section
/- The document's rounding: the plain law. -/
namespace Go.Proofs.YtchchnohmmncfaaGreatDoor
open Go.RowKit
set_option maxRecDepth 100000
/-- m2 times 2 to the power of e2 against m1 times 2 to the power of e1. -/
theorem pow_cmp (m1 m2 : Nat) (e1 e2 : Int) : cmpN (tA m1 e1 * tD 1 e2) (tA m2 e2 * tD 1 e1) = cmpN (m1 * 2 ^ (e1 - e2).toNat) (m2 * 2 ^ (e2 - e1).toNat) := by
  unfold tA tD
  rw [Nat.one_mul, Nat.one_mul, Nat.mul_assoc, Nat.mul_assoc, ← Nat.pow_add, ← Nat.pow_add]
  obtain ⟨c, c1, c2⟩ : ∃ c : Nat, e1.toNat + (-e2).toNat = (e1 - e2).toNat + c ∧ e2.toNat + (-e1).toNat = (e2 - e1).toNat + c := ⟨e1.toNat + (-e2).toNat - (e1 - e2).toNat, by omega, by omega⟩
  rw [c1, c2, Nat.pow_add 2 _ c, Nat.pow_add 2 _ c, ← Nat.mul_assoc, ← Nat.mul_assoc, cmpN_scale (Nat.two_pow_pos c)]
theorem cmpN_pos {x y : Nat} : 0 < cmpN x y ↔ y < x := by
  unfold cmpN
  split
  · constructor <;> intro h <;> omega
  · split <;> constructor <;> intro h <;> omega
theorem cmpN_neg {x y : Nat} : cmpN x y < 0 ↔ x < y := by
  unfold cmpN
  split
  · constructor <;> intro h <;> omega
  · split <;> constructor <;> intro h <;> omega
/-- The whole number that is rounded to lies in its binade, or is the next one's first. -/
theorem man_rng {E F mode : Nat} {neg : Bool} {a d : Nat} (ha : 0 < a) (hd : 0 < d) : manQ E F mode neg a d ≤ 2 ^ (F + 1) ∧ (lowQ E a d = lgQ a d → 2 ^ F ≤ manQ E F mode neg a d) ∧ 1 - biasF E ≤ lowQ E a d ∧ (lowQ E a d ≠ lgQ a d → lowQ E a d = 1 - biasF E) := by
  obtain ⟨h1, h2⟩ := low_spec (E := E) ha hd
  obtain ⟨h3, h4⟩ := rdQ_le mode neg (tA a (F - lowQ E a d)) (tD d (F - lowQ E a d))
  refine ⟨?_, fun h => ?_, ?_, fun h => ?_⟩
  · have := man_lt (F := F) hd h1
    unfold manQ
    omega
  · have := man_ge (F := F) hd (show leP a d (lowQ E a d) by rw [h]; exact (lgQ_spec ha hd).1)
    unfold manQ
    omega
  · unfold lowQ; omega
  · rcases h2 with h2 | ⟨h2, _⟩
    · exact absurd h2 h
    · exact h2
theorem inf_rungs {E F : Nat} (hE : 2 ≤ E) : (infQ E F : Int) = (2 * biasF E + 1) * 2 ^ F := by
  obtain ⟨b1, b2⟩ := bias_two E hE
  have h1 : 2 ^ F ≤ 2 ^ (E + F) := Nat.pow_le_pow_right (by decide) (by omega)
  unfold infQ
  have e : ((2 ^ (E + F) - 2 ^ F : Nat) : Int) = ((2 ^ E : Nat) : Int) * ((2 ^ F : Nat) : Int) - ((2 ^ F : Nat) : Int) := by
    rw [← Int.natCast_mul, ← Nat.pow_add]; omega
  rw [e, ← b1]
  have e2 : ((2 ^ F : Nat) : Int) = 2 ^ F := by simp
  rw [e2, show 2 * biasF E + 2 = (2 * biasF E + 1) + 1 by omega, Int.add_mul (2 * biasF E + 1)]
  omega
theorem rung_int {E F mode : Nat} {neg : Bool} {a d : Nat} (hE : 2 ≤ E) : (rungQ E F mode neg a d : Int) = manQ E F mode neg a d + (lowQ E a d + biasF E - 1) * 2 ^ F := by
  unfold rungQ
  have h : 0 ≤ lowQ E a d + biasF E - 1 := by unfold lowQ; omega
  obtain ⟨k, hk⟩ : ∃ k : Nat, lowQ E a d + biasF E - 1 = k := ⟨(lowQ E a d + biasF E - 1).toNat, by omega⟩
  rw [hk]
  simp
/-- Is what is rounded to beyond the greatest float? -/
theorem over_iff {E F mode : Nat} {neg : Bool} {a d : Nat} (hE : 2 ≤ E) (hF : 1 ≤ F) (ha : 0 < a) (hd : 0 < d) : (0 < cmpN (tA (manQ E F mode neg a d) (lowQ E a d - F) * tD 1 (biasF E - F)) (tA (2 ^ (F + 1) - 1) (biasF E - F) * tD 1 (lowQ E a d - F))) ↔ overQ E F mode neg a d = true := by
  rw [pow_cmp, cmpN_pos]
  obtain ⟨m1, m2, m3, m4⟩ := man_rng (E := E) (F := F) (mode := mode) (neg := neg) ha hd
  obtain ⟨b1, b2⟩ := bias_two E hE
  have hi := inf_rungs (F := F) hE
  have hr := rung_int (F := F) (mode := mode) (neg := neg) (a := a) (d := d) hE
  unfold overQ
  rw [Bool.or_eq_true, decide_eq_true_iff, decide_eq_true_iff]
  generalize manQ E F mode neg a d = M at *
  generalize lowQ E a d = low at *
  generalize rungQ E F mode neg a d = R at *
  generalize infQ E F = I at *
  have hp : (2 : Nat) ^ (F + 1) = 2 * 2 ^ F := by rw [Nat.pow_succ, Nat.mul_comm]
  have hp2 : 2 ≤ 2 ^ F := by
    calc 2 = 2 ^ 1 := rfl
      _ ≤ 2 ^ F := Nat.pow_le_pow_right (by decide) hF
  have e2 : ((2 ^ F : Nat) : Int) = 2 ^ F := by simp
  rw [← e2] at hi hr
  rw [hp] at m1 ⊢
  generalize 2 ^ F = p at *
  generalize biasF E = b at *
  rcases Int.lt_trichotomy low b with h | h | h
  · have k1 : (low - F - (b - F)).toNat = 0 := by omega
    obtain ⟨j, hj⟩ : ∃ j, (b - F - (low - F)).toNat = j + 1 := ⟨(b - F - (low - F)).toNat - 1, by omega⟩
    rw [k1, hj, Nat.pow_zero, Nat.mul_one, Nat.pow_succ]
    have hj1 := Nat.two_pow_pos j
    have h5 : (2 * p - 1) * 2 ≤ (2 * p - 1) * (2 ^ j * 2) := Nat.mul_le_mul_left _ (by omega)
    have h6 : (low + b - 1) * (p : Int) ≤ (2 * b - 2) * (p : Int) := Int.mul_le_mul_of_nonneg_right (by omega) (by omega)
    have h7 : (2 * b + 1) * (p : Int) = (2 * b - 2) * (p : Int) + 3 * (p : Int) := by rw [← Int.add_mul]; congr 1; omega
    constructor
    · intro h; omega
    · rintro (h | h) <;> omega
  · subst h
    have k1 : (low - F - (low - F)).toNat = 0 := by omega
    rw [k1, Nat.pow_zero, Nat.mul_one, Nat.mul_one]
    have h7 : (2 * low + 1) * (p : Int) = (low + low - 1) * (p : Int) + 2 * (p : Int) := by rw [← Int.add_mul]; congr 1; omega
    constructor
    · intro h; right; omega
    · rintro (h | h) <;> omega
  · have k1 : (b - F - (low - F)).toNat = 0 := by omega
    obtain ⟨j, hj⟩ : ∃ j, (low - F - (b - F)).toNat = j + 1 := ⟨(low - F - (b - F)).toNat - 1, by omega⟩
    have hM : p ≤ M := by
      by_cases g : low = lgQ a d
      · exact m2 g
      · have := m4 g; omega
    rw [k1, hj, Nat.pow_zero, Nat.mul_one, Nat.pow_succ]
    have hj1 := Nat.two_pow_pos j
    have h5 : M * 2 ≤ M * (2 ^ j * 2) := Nat.mul_le_mul_left _ (by omega)
    exact ⟨fun _ => .inl h, fun _ => by omega⟩
/-- The exponent of what is rounded to. -/
theorem log_man {M F : Nat} {q : Int} (h1 : 2 ^ F ≤ M) (h2 : M ≤ 2 ^ (F + 1)) : lgQ (tA M q) (tD 1 q) = (if M = 2 ^ (F + 1) then q + F + 1 else q + F) := by
  have hM : 0 < M := Nat.lt_of_lt_of_le (Nat.two_pow_pos F) h1
  rw [lgQ_bin hM]
  by_cases h : M = 2 ^ (F + 1)
  · rw [if_pos h, h, Nat.log2_two_pow]; omega
  · rw [if_neg h]
    have : M.log2 = F := log2_eq' h1 (by omega)
    omega
where
  log2_eq' {n k : Nat} (h1 : 2 ^ k ≤ n) (h2 : n < 2 ^ (k + 1)) : n.log2 = k := by
    have hn : n ≠ 0 := by have := Nat.two_pow_pos k; omega
    have a1 := (Nat.le_log2 hn).2 h1
    have a2 := (Nat.log2_lt hn).2 h2
    omega
/-- What is packed is the rung. -/
theorem pack_rung {E F mode : Nat} {neg : Bool} {a d : Nat} (hE : 2 ≤ E) (ha : 0 < a) (hd : 0 < d) (h : ¬ (lowQ E a d = 1 - biasF E ∧ manQ E F mode neg a d < 2 ^ F)) :
    2 ^ F ≤ manQ E F mode neg a d ∧ (rungQ E F mode neg a d : Int) = (lgQ (tA (manQ E F mode neg a d) (lowQ E a d - F)) (tD 1 (lowQ E a d - F)) + biasF E) * 2 ^ F + (if manQ E F mode neg a d = 2 ^ (F + 1) then 2 ^ F else (manQ E F mode neg a d : Int)) - 2 ^ F := by
  obtain ⟨m1, m2, m3, m4⟩ := man_rng (E := E) (F := F) (mode := mode) (neg := neg) ha hd
  have hM : 2 ^ F ≤ manQ E F mode neg a d := by
    by_cases g : lowQ E a d = lgQ a d
    · exact m2 g
    · have h5 := m4 g
      refine Nat.le_of_not_lt fun q => h ⟨h5, q⟩
  refine ⟨hM, ?_⟩
  rw [rung_int hE, log_man hM m1]
  generalize manQ E F mode neg a d = M at *
  generalize lowQ E a d = low at *
  generalize biasF E = b at *
  have e2 : ((2 ^ F : Nat) : Int) = 2 ^ F := by simp
  have hp : (2 : Nat) ^ (F + 1) = 2 * 2 ^ F := by rw [Nat.pow_succ, Nat.mul_comm]
  rw [← e2]
  by_cases g : M = 2 ^ (F + 1)
  · rw [if_pos g, if_pos g, g, hp]
    generalize 2 ^ F = p at *
    have k1 : low - F + F + 1 + b = (low + b - 1) + 2 := by omega
    rw [k1, Int.add_mul (low + b - 1) 2]
    omega
  · rw [if_neg g, if_neg g]
    generalize 2 ^ F = p at *
    have k1 : low - F + F + b = (low + b - 1) + 1 := by omega
    rw [k1, Int.add_mul (low + b - 1) 1]
    omega
theorem rung_small {E F mode : Nat} {neg : Bool} {a d : Nat} (h : lowQ E a d = 1 - biasF E) : rungQ E F mode neg a d = manQ E F mode neg a d := by
  unfold rungQ
  rw [h, show (1 - biasF E + biasF E - 1).toNat = 0 by omega, Nat.zero_mul, Nat.add_zero]
end Go.Proofs.YtchchnohmmncfaaGreatDoor
end
