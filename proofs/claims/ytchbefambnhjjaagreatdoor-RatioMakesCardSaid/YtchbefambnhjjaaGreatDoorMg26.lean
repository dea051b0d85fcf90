/- Lemmas of this proof, laid together: RatK, RatM, RatN, TwBigR, TwBigS, TwBigT, TwBigU, TwRatJ, TwIntI, TwIntJ, TwIntK, TwIntL, TwIntM, TwRatL, TwIntN, TwRatT, TwRatK. -/
import Derived.Test.YtchbefambnhjjaaGreatDoorMg23
import Derived.Deep.DeepCutAuto
import Derived.Deep.RegionWith
import Derived.Deep.LoopGhost
import Derived.Test.YtchbefambnhjjaaGreatDoorMg25
import Derived.Maps.AppendAt
import Derived.Test.YtchbefambnhjjaaGreatDoorMg22
import Derived.Test.YtchbefambnhjjaaGreatDoorMg13
import Derived.Test.YtchbefambnhjjaaGreatDoorMg21
set_option linter.unusedSimpArgs false
set_option linter.unusedVariables false
section
/- Fractions of the library's: the order. -/
namespace Go.Proofs.YtchbefambnhjjaaGreatDoor
open Go.RowKit
attribute [local go_sem] sz2 sz3 sz4 sz5 sz6 sz7 sz8
set_option maxHeartbeats 4000000
set_option maxRecDepth 100000
attribute [local irreducible] Calls
attribute [local go_sem] D2.Oper.detAt D2.detUpon D2.relUpon
theorem br_Cmp_far (bx b2 : Nat) (x y : Int) (p q : Nat) (h : x.sign ≠ y.sign) (A : Option Addr) (n c : Nat) (D : Option Addr) (m e : Nat) (B : Option Addr) (n2 c2 : Nat) (C : Option Addr) (m2 e2 : Nat)
  (w : World) (hx : RatIs w bx x A n c p D m e) (hy : RatIs w b2 y B n2 c2 q C m2 e2) :
  Calls Tryz.prog 91 #[.pointer (some ⟨bx, 0, none⟩), .pointer (some ⟨b2, 0, none⟩)] w
   fun e w' => e = .returned (.int .i64 (x * (denOf q : Int) - y * (denOf p : Int)).sign) ∧ Ext w w' := by
 have kX : ∀ w', Ext w w' → Calls Tryz.prog 101 #[.pointer (some ⟨bx, 0, none⟩)] w' fun e w'' => e = .returned (.int .i64 x.sign) ∧ Ext w' w'' := fun w' he => br_Sign _ _ _ _ _ w' (hx.int.ext he)
 have kY : ∀ w', Ext w w' → Calls Tryz.prog 101 #[.pointer (some ⟨b2, 0, none⟩)] w' fun e w'' => e = .returned (.int .i64 y.sign) ∧ Ext w' w'' := fun w' he => br_Sign _ _ _ _ _ w' (hy.int.ext he)
 rw [rcmp_far (denOf_ne p) (denOf_ne q) h]
 have hb : (x.sign == y.sign) = false := by rw [beq_eq_false_iff_ne]; exact h
 have hgt : ¬ x.sign < y.sign → y.sign < x.sign := by omega
 generalize x.sign = X at *
 generalize y.sign = Y at *
 clear hx hy h
 by_cases hlt : X < Y
 ·rw [if_pos hlt]
  clear hgt
  go_enter Tryz.func91, Tryz.ntmps91
  go_wp2_with (first
   | (go_at_call 101; (with_reducible refine (kX _ xcl).mono ?_); rintro e w1 ⟨rfl, xb1⟩)
   | (go_at_call 101; (with_reducible refine (kY _ xcl).mono ?_); rintro e w2 ⟨rfl, xb2⟩)
   | (go_at_call 101; (with_reducible refine (kX _ xcl).mono ?_); rintro e w3 ⟨rfl, xb3⟩)
   | (go_at_call 101; (with_reducible refine (kY _ xcl).mono ?_); rintro e w4 ⟨rfl, xb4⟩)
   )
  refine bodyPost_ret (v := .int .i64 (-1)) ?h rfl ⟨rfl, ?_⟩
  case h => simp [results, Tryz.results91, go_sem]
  exact xcl
 ·rw [if_neg hlt]
  have hgt := hgt hlt
  go_enter Tryz.func91, Tryz.ntmps91
  go_wp2_with (first
   | (go_at_call 101; (with_reducible refine (kX _ xcl).mono ?_); rintro e w1 ⟨rfl, xb1⟩)
   | (go_at_call 101; (with_reducible refine (kY _ xcl).mono ?_); rintro e w2 ⟨rfl, xb2⟩)
   )
  refine bodyPost_ret (v := .int .i64 1) ?h rfl ⟨rfl, ?_⟩
  case h => simp [results, Tryz.results91, go_sem]
  exact xcl
theorem br_Cmp_nil (bx b2 : Nat) (x y : Int) (p q : Nat) (h1 : x = 0) (h2 : y = 0) (A : Option Addr) (n c : Nat) (D : Option Addr) (m e : Nat) (B : Option Addr) (n2 c2 : Nat) (C : Option Addr) (m2 e2 : Nat)
  (w : World) (hx : RatIs w bx x A n c p D m e) (hy : RatIs w b2 y B n2 c2 q C m2 e2) :
  Calls Tryz.prog 91 #[.pointer (some ⟨bx, 0, none⟩), .pointer (some ⟨b2, 0, none⟩)] w
   fun e w' => e = .returned (.int .i64 (x * (denOf q : Int) - y * (denOf p : Int)).sign) ∧ Ext w w' := by
 rw [rcmp_nil h1 h2]
 subst h1; subst h2
 have kX : ∀ w', Ext w w' → Calls Tryz.prog 101 #[.pointer (some ⟨bx, 0, none⟩)] w' fun e w'' => e = .returned (.int .i64 0) ∧ Ext w' w'' := fun w' he => br_Sign _ _ _ _ _ w' (hx.int.ext he)
 have kY : ∀ w', Ext w w' → Calls Tryz.prog 101 #[.pointer (some ⟨b2, 0, none⟩)] w' fun e w'' => e = .returned (.int .i64 0) ∧ Ext w' w'' := fun w' he => br_Sign _ _ _ _ _ w' (hy.int.ext he)
 clear hx hy
 go_enter Tryz.func91, Tryz.ntmps91
 go_wp2_with (first
  | (go_at_call 101; (with_reducible refine (kX _ xcl).mono ?_); rintro e w1 ⟨rfl, xb1⟩)
  | (go_at_call 101; (with_reducible refine (kY _ xcl).mono ?_); rintro e w2 ⟨rfl, xb2⟩)
  )
 refine bodyPost_ret (v := .int .i64 0) ?h rfl ⟨rfl, ?_⟩
 case h => simp [results, Tryz.results91, go_sem]
 exact xcl
theorem br_Cmp_near (bx b2 : Nat) (x y : Int) (p q : Nat) (h : x.sign = y.sign) (h0 : x ≠ 0) (A : Option Addr) (n c : Nat) (D : Option Addr) (m e : Nat) (B : Option Addr) (n2 c2 : Nat) (C : Option Addr) (m2 e2 : Nat)
  (hn : n ≤ 100000) (hm : m ≤ 100000) (hn2 : n2 ≤ 100000) (hm2 : m2 ≤ 100000) (w : World) (hx : RatIs w bx x A n c p D m e) (hy : RatIs w b2 y B n2 c2 q C m2 e2) :
  Calls Tryz.prog 91 #[.pointer (some ⟨bx, 0, none⟩), .pointer (some ⟨b2, 0, none⟩)] w
   fun e w' => e = .returned (.int .i64 (x * (denOf q : Int) - y * (denOf p : Int)).sign) ∧ Ext w w' := by
 have HX := Lib.hid hx
 have HY := Lib.hid hy
 have lx := hx.int.room.lt
 have x0 := hx.int.neg
 have x1 := hx.int.words
 have ly := hy.int.room.lt
 have y1 := hy.int.words
 simp only [Nat.zero_add] at x1 y1
 have kX : ∀ w', Ext w w' → Calls Tryz.prog 101 #[.pointer (some ⟨bx, 0, none⟩)] w' fun e w'' => e = .returned (.int .i64 x.sign) ∧ Ext w' w'' := fun w' he => br_Sign _ _ _ _ _ w' (hx.int.ext he)
 have kY : ∀ w', Ext w w' → Calls Tryz.prog 101 #[.pointer (some ⟨b2, 0, none⟩)] w' fun e w'' => e = .returned (.int .i64 x.sign) ∧ Ext w' w'' := fun w' he => by rw [h]; exact br_Sign _ _ _ _ _ w' (hy.int.ext he)
 have dl := den_len hx hm (by decide)
 have dl2 := den_len hy hm2 (by decide)
 have bX : ∀ w', Ext w w' → Calls Tryz.prog 129 #[.pointer (some ⟨bx, 0, none⟩)] w' fun e' w'' => ∃ (B : Option Addr) (k l : Nat), e' = .returned (.slice B k l) ∧ Hid (Rd w'' B k l (lim (denOf p))) ∧ Ext w' w'' := fun w' he => (br_below _ _ _ _ _ _ _ _ _ w' (HX.out.ext he)).mono fun _ _ ⟨B, k, l, h1, h2, h3⟩ => ⟨B, k, l, h1, h2.out.1, h3⟩
 have bY : ∀ w', Ext w w' → Calls Tryz.prog 129 #[.pointer (some ⟨b2, 0, none⟩)] w' fun e' w'' => ∃ (B : Option Addr) (k l : Nat), e' = .returned (.slice B k l) ∧ Hid (Rd w'' B k l (lim (denOf q))) ∧ Ext w' w'' := fun w' he => (br_below _ _ _ _ _ _ _ _ _ w' (HY.out.ext he)).mono fun _ _ ⟨B, k, l, h1, h2, h3⟩ => ⟨B, k, l, h1, h2.out.1, h3⟩
 have mX : ∀ P1 k l w', Ext w w' → Rd w' P1 k l (lim (denOf q)) → Calls Tryz.prog 147 #[.slice A n c, .slice P1 k l] w' (WPost w' (x.natAbs * denOf q)) := fun P1 k l w' he h1 => bw_mulA A P1 n c k l _ _ (by have := h1.len; omega) w' (HX.out.int.rd.ext he) h1
 have mY : ∀ P1 k l w', Ext w w' → Rd w' P1 k l (lim (denOf p)) → Calls Tryz.prog 147 #[.slice B n2 c2, .slice P1 k l] w' (WPost w' (y.natAbs * denOf p)) := fun P1 k l w' he h1 => bw_mulA B P1 n2 c2 k l _ _ (by have := h1.len; omega) w' (HY.out.int.rd.ext he) h1
 have hs0 : (x.sign == 0) = false := by
  rw [beq_eq_false_iff_ne]; intro h2; exact h0 (Int.sign_eq_zero_iff_zero.1 h2)
 generalize denOf p = p at *
 generalize denOf q = q at *
 rw [rcmp_near h h0]
 have hwr := wrap_neg_cmp (x.natAbs * q) (y.natAbs * p)
 have hcm : ∀ P1 k1 l1 Q1 k2 l2 w', Rd w' P1 k1 l1 (lim (x.natAbs * q)) → Rd w' Q1 k2 l2 (lim (y.natAbs * p)) → Calls Tryz.prog 146 #[.slice P1 k1 l1, .slice Q1 k2 l2] w' fun e w'' => e = .returned (.int .i64 (cmpN (x.natAbs * q) (y.natAbs * p))) ∧ Ext w' w'' := fun P1 k1 l1 Q1 k2 l2 w' h1 h2 => bw_cmp P1 Q1 k1 l1 k2 l2 _ _ w' h1 h2
 clear hx hy h h0
 generalize x.natAbs * q = U at *
 generalize y.natAbs * p = V at *
 generalize cmpN U V = K at *
 generalize x.sign = X at *
 by_cases hneg : x < 0
 ·rw [if_pos hneg]
  rw [decide_eq_true hneg] at x0
  go_enter Tryz.func91, Tryz.ntmps91
  go_upto_region 7 with (first
   | (go_at_call 101; (with_reducible refine (kX _ (jT xb1 xb2)).mono ?_); rintro e w3 ⟨rfl, xb3⟩)
   | (go_at_call 101; (with_reducible refine (kX _ xcl).mono ?_); rintro e w1 ⟨rfl, xb1⟩)
   | (go_at_call 101; (with_reducible refine (kY _ xcl).mono ?_); rintro e w2 ⟨rfl, xb2⟩)
   )
  have hE3 : Hid (Ext w w3) := by show Ext w w3; exact xcl
  have x0' := (Below.cell (p := ⟨bx, 0, none⟩) hE3.out lx).trans x0
  have x1' := (Below.cell (p := ⟨bx, 1, none⟩) hE3.out lx).trans x1
  have y1' := (Below.cell (p := ⟨b2, 1, none⟩) hE3.out ly).trans y1
  have lx' := ext_lt hE3.out bx lx
  have ly' := ext_lt hE3.out b2 ly
  clear kX kY xb1 xb2 xb3
  refine D2.wp_drawn_tail 16 (D2.tab [(6, D2.RRow q), (7, RWord w3.heap.size U), (14, D2.RRow p), (15, RWord w3.heap.size V)]) (by kernel_rfl) (by kernel_rfl) (by kernel_rfl) (D2.tab_stays (by simp [D2.stays_row, D2.stays_word])) (fun hq hqf => ?_)
  simp only [List.take_succ_cons, List.take_zero, List.drop_succ_cons, List.drop_zero]
  have z1 := fun nq => (hq nq bx 1 lx').trans x1'
  have z3 := fun nq => (hq nq b2 1 ly').trans y1'
  iterate 6
   (refine D2.wpK_det rfl (fun K hK => ?_)
    go_simp
    first
     | (refine hK _ ?_; clear hK K)
     | (apply Exists.intro; refine ⟨fun x => ?_, hK _ ?_⟩; (first | exact z1 x | exact z3 x); clear hK K))
  refine D2.wpK_rel _ rfl rfl ?_ ?_
  ·rintro _ ⟨nn, rfl⟩ _
   unfold D2.Oper.relAt
   go_simp
   exact D2.rel_row (bY _ (jT hE3.out nn.use))
  rintro v ⟨_, ⟨nn, rfl⟩, hr⟩
  obtain ⟨A5, k5, c5, rfl, -⟩ := hr
  clear nn
  refine D2.wpK_rel _ rfl rfl ?_ ?_
  ·rintro _ ⟨nn, rfl⟩ hdep
   have q1 := hdep 6 (by kernel_rfl)
   simp only [D2.Facts.put] at q1
   have q2 := D2.row_at (vals := []) q1
   unfold D2.Oper.relAt
   go_simp
   exact D2.rel_wpost (ext_size nn.use) (mX _ _ _ _ (jT hE3.out nn.use) q2)
  rintro v ⟨_, ⟨nn, rfl⟩, hr⟩
  obtain ⟨A6, k6, c6, rfl, -, -⟩ := hr
  clear nn
  iterate 6
   (refine D2.wpK_det rfl (fun K hK => ?_)
    go_simp
    first
     | (refine hK _ ?_; clear hK K)
     | (apply Exists.intro; refine ⟨fun x => ?_, hK _ ?_⟩; (first | exact z1 x | exact z3 x); clear hK K))
  refine D2.wpK_rel _ rfl rfl ?_ ?_
  ·rintro _ ⟨nn, rfl⟩ _
   unfold D2.Oper.relAt
   go_simp
   exact D2.rel_row (bX _ (jT hE3.out nn.use))
  rintro v ⟨_, ⟨nn, rfl⟩, hr⟩
  obtain ⟨A7, k7, c7, rfl, -⟩ := hr
  clear nn
  refine D2.wpK_rel _ rfl rfl ?_ ?_
  ·rintro _ ⟨nn, rfl⟩ hdep
   have q1 := hdep 14 (by kernel_rfl)
   simp only [D2.Facts.put] at q1
   have q2 := D2.row_at (vals := []) q1
   unfold D2.Oper.relAt
   go_simp
   exact D2.rel_wpost (ext_size nn.use) (mY _ _ _ _ (jT hE3.out nn.use) q2)
  rintro v ⟨_, ⟨nn, rfl⟩, hr⟩
  obtain ⟨A8, k8, c8, rfl, -, -⟩ := hr
  clear nn
  refine D2.wpK_nil ?_
  intro nq hG
  have r6 : RWord w3.heap.size U [] (.slice A6 k6 c6) nq.out := by have := hG.fact 7; simp [D2.Facts.put] at this; exact this
  have r8 : RWord w3.heap.size V [] (.slice A8 k8 c8) nq.out := by have := hG.fact 15; simp [D2.Facts.put] at this; exact this
  have hR6 := Lib.hid (rword_at r6)
  have hR8 := Lib.hid (rword_at r8)
  have hE := Lib.hid (jT hE3.out nq.use)
  have x0q := (Below.cell (p := ⟨bx, 0, none⟩) nq.use lx').trans x0'
  have lxq := ext_lt nq.use bx lx'
  clear r6 r8 hG
  go_wp2_with (first
   | (go_at_call 146; (with_reducible refine (hcm _ _ _ _ _ _ _ hR6.out.1 hR8.out.1).mono ?_); rintro e w9 ⟨rfl, xb9⟩; obtain ⟨xc9, xf9, xl9, xz9⟩ := jU xb9; (try simp at xz9); obtain ⟨l9_0, r9_0, f9_0, r9_0_1, f9_0_1⟩ := kq2 xb9 (bx))
   )
  refine bodyPost_ret (v := .int .i64 (-K)) ?h rfl ⟨rfl, jT hE.out xb9⟩
  case h => simp [results, Tryz.results91, go_sem]
 ·rw [if_neg hneg]
  rw [decide_eq_false hneg] at x0
  go_enter Tryz.func91, Tryz.ntmps91
  go_upto_region 7 with (first
   | (go_at_call 101; (with_reducible refine (kX _ (jT xb1 xb2)).mono ?_); rintro e w3 ⟨rfl, xb3⟩)
   | (go_at_call 101; (with_reducible refine (kX _ xcl).mono ?_); rintro e w1 ⟨rfl, xb1⟩)
   | (go_at_call 101; (with_reducible refine (kY _ xcl).mono ?_); rintro e w2 ⟨rfl, xb2⟩)
   )
  have hE3 : Hid (Ext w w3) := by show Ext w w3; exact xcl
  have x0' := (Below.cell (p := ⟨bx, 0, none⟩) hE3.out lx).trans x0
  have x1' := (Below.cell (p := ⟨bx, 1, none⟩) hE3.out lx).trans x1
  have y1' := (Below.cell (p := ⟨b2, 1, none⟩) hE3.out ly).trans y1
  have lx' := ext_lt hE3.out bx lx
  have ly' := ext_lt hE3.out b2 ly
  clear kX kY xb1 xb2 xb3
  refine D2.wp_drawn_tail 16 (D2.tab [(6, D2.RRow q), (7, RWord w3.heap.size U), (14, D2.RRow p), (15, RWord w3.heap.size V)]) (by kernel_rfl) (by kernel_rfl) (by kernel_rfl) (D2.tab_stays (by simp [D2.stays_row, D2.stays_word])) (fun hq hqf => ?_)
  simp only [List.take_succ_cons, List.take_zero, List.drop_succ_cons, List.drop_zero]
  have z1 := fun nq => (hq nq bx 1 lx').trans x1'
  have z3 := fun nq => (hq nq b2 1 ly').trans y1'
  iterate 6
   (refine D2.wpK_det rfl (fun K hK => ?_)
    go_simp
    first
     | (refine hK _ ?_; clear hK K)
     | (apply Exists.intro; refine ⟨fun x => ?_, hK _ ?_⟩; (first | exact z1 x | exact z3 x); clear hK K))
  refine D2.wpK_rel _ rfl rfl ?_ ?_
  ·rintro _ ⟨nn, rfl⟩ _
   unfold D2.Oper.relAt
   go_simp
   exact D2.rel_row (bY _ (jT hE3.out nn.use))
  rintro v ⟨_, ⟨nn, rfl⟩, hr⟩
  obtain ⟨A5, k5, c5, rfl, -⟩ := hr
  clear nn
  refine D2.wpK_rel _ rfl rfl ?_ ?_
  ·rintro _ ⟨nn, rfl⟩ hdep
   have q1 := hdep 6 (by kernel_rfl)
   simp only [D2.Facts.put] at q1
   have q2 := D2.row_at (vals := []) q1
   unfold D2.Oper.relAt
   go_simp
   exact D2.rel_wpost (ext_size nn.use) (mX _ _ _ _ (jT hE3.out nn.use) q2)
  rintro v ⟨_, ⟨nn, rfl⟩, hr⟩
  obtain ⟨A6, k6, c6, rfl, -, -⟩ := hr
  clear nn
  iterate 6
   (refine D2.wpK_det rfl (fun K hK => ?_)
    go_simp
    first
     | (refine hK _ ?_; clear hK K)
     | (apply Exists.intro; refine ⟨fun x => ?_, hK _ ?_⟩; (first | exact z1 x | exact z3 x); clear hK K))
  refine D2.wpK_rel _ rfl rfl ?_ ?_
  ·rintro _ ⟨nn, rfl⟩ _
   unfold D2.Oper.relAt
   go_simp
   exact D2.rel_row (bX _ (jT hE3.out nn.use))
  rintro v ⟨_, ⟨nn, rfl⟩, hr⟩
  obtain ⟨A7, k7, c7, rfl, -⟩ := hr
  clear nn
  refine D2.wpK_rel _ rfl rfl ?_ ?_
  ·rintro _ ⟨nn, rfl⟩ hdep
   have q1 := hdep 14 (by kernel_rfl)
   simp only [D2.Facts.put] at q1
   have q2 := D2.row_at (vals := []) q1
   unfold D2.Oper.relAt
   go_simp
   exact D2.rel_wpost (ext_size nn.use) (mY _ _ _ _ (jT hE3.out nn.use) q2)
  rintro v ⟨_, ⟨nn, rfl⟩, hr⟩
  obtain ⟨A8, k8, c8, rfl, -, -⟩ := hr
  clear nn
  refine D2.wpK_nil ?_
  intro nq hG
  have r6 : RWord w3.heap.size U [] (.slice A6 k6 c6) nq.out := by have := hG.fact 7; simp [D2.Facts.put] at this; exact this
  have r8 : RWord w3.heap.size V [] (.slice A8 k8 c8) nq.out := by have := hG.fact 15; simp [D2.Facts.put] at this; exact this
  have hR6 := Lib.hid (rword_at r6)
  have hR8 := Lib.hid (rword_at r8)
  have hE := Lib.hid (jT hE3.out nq.use)
  have x0q := (Below.cell (p := ⟨bx, 0, none⟩) nq.use lx').trans x0'
  have lxq := ext_lt nq.use bx lx'
  clear r6 r8 hG
  go_wp2_with (first
   | (go_at_call 146; (with_reducible refine (hcm _ _ _ _ _ _ _ hR6.out.1 hR8.out.1).mono ?_); rintro e w9 ⟨rfl, xb9⟩; obtain ⟨xc9, xf9, xl9, xz9⟩ := jU xb9; (try simp at xz9); obtain ⟨l9_0, r9_0, f9_0, r9_0_1, f9_0_1⟩ := kq2 xb9 (bx))
   )
  refine bodyPost_ret (v := .int .i64 K) ?h rfl ⟨rfl, jT hE.out xb9⟩
  case h => simp [results, Tryz.results91, go_sem]
theorem br_Cmp (bx b2 : Nat) (x y : Int) (p q : Nat) (A : Option Addr) (n c : Nat) (D : Option Addr) (m e : Nat) (B : Option Addr) (n2 c2 : Nat) (C : Option Addr) (m2 e2 : Nat)
  (hn : n ≤ 100000) (hm : m ≤ 100000) (hn2 : n2 ≤ 100000) (hm2 : m2 ≤ 100000) (w : World) (hx : RatIs w bx x A n c p D m e) (hy : RatIs w b2 y B n2 c2 q C m2 e2) :
  Calls Tryz.prog 91 #[.pointer (some ⟨bx, 0, none⟩), .pointer (some ⟨b2, 0, none⟩)] w
   fun e w' => e = .returned (.int .i64 (x * (denOf q : Int) - y * (denOf p : Int)).sign) ∧ Ext w w' := by
 by_cases h : x.sign = y.sign
 ·by_cases h0 : x = 0
  ·have hy0 : y = 0 := by rw [h0] at h; exact Int.sign_eq_zero_iff_zero.1 h.symm
   exact br_Cmp_nil bx b2 x y p q h0 hy0 A n c D m e B n2 c2 C m2 e2 w hx hy
  ·exact br_Cmp_near bx b2 x y p q h h0 A n c D m e B n2 c2 C m2 e2 hn hm hn2 hm2 w hx hy
 ·exact br_Cmp_far bx b2 x y p q h A n c D m e B n2 c2 C m2 e2 w hx hy
end Go.Proofs.YtchbefambnhjjaaGreatDoor
end
section
/- The program's fractions: sums, products, order. -/
namespace Go.Proofs.YtchbefambnhjjaaGreatDoor
open Go.RowKit
attribute [local go_sem] sz2 sz3 sz4 sz5 sz6 sz7 sz8
set_option maxHeartbeats 4000000
set_option maxRecDepth 100000
attribute [local irreducible] Calls
theorem run_makeFunc'' (P : Program) (fn : Fn) (first cap : Array Value) (w : World) : (Instr.makeFunc fn first cap).run P w = .ok (.func fn first cap) w := rfl
attribute [local go_sem] run_makeFunc''
theorem tch_set3 {g : Nat} {w W : World} (h : Tch g w W) {b : Nat} (hb : w.heap.size ≤ b) (v0 v1 v2 : Value) : Tch g w (((W.setCell ⟨b, 0, none⟩ v0).setCell ⟨b, 1, none⟩ v1).setCell ⟨b, 2, none⟩ v2) := by
 have one : ∀ {U : World} (o : Nat) (v : Value), Tch g w U → Tch g w (U.setCell ⟨b, o, none⟩ v) := fun o v h =>
  ⟨h.os, h.tape, h.output, by simpa using h.size, fun i hi hg => (Below.heap_setCell _ ⟨b, o, none⟩ v i (by simp only; omega)).trans (h.block i hi hg)⟩
 exact one 2 v2 (one 1 v1 (one 0 v0 h))
abbrev OPost (g : Nat) (w : World) (z : Int) (d : Nat) : Ending → World → Prop := fun e w' => ∃ (A : Option Addr) (n c : Nat) (D : Option Addr) (m k : Nat), e = .returned (.tuple #[ratV (decide (z < 0)) A n c D m k, .int .i64 0]) ∧
 Hid (RdO w' A n c (lim z.natAbs) none ∧ Fr w A ∧ RdO w' D m k (lim d) A ∧ Fr w D) ∧ Tch g w w'
theorem ra_of_Add (g : Nat) (zn : Int) (zd : Nat) (hz1 : (lim zn.natAbs).length ≤ 16384) (hz2 : (lim zd).length ≤ 16384) (hz3 : (lim (denOf zd)).length ≤ 16384)
  (neg : Bool) (A : Option Addr) (n c a : Nat) (D : Option Addr) (m k d : Nat) (hd : d ≠ 0) (hn : n ≤ 16384) (hm : m ≤ 16384) (hg : Nat.gcd a d = 1) (hng : neg = true → a ≠ 0)
  (neg2 : Bool) (B : Option Addr) (n2 c2 b : Nat) (C : Option Addr) (m2 k2 q : Nat) (hq : q ≠ 0) (hn2 : n2 ≤ 16384) (hm2 : m2 ≤ 16384) (hg2 : Nat.gcd b q = 1) (hng2 : neg2 = true → b ≠ 0)
  (w : World) (hT : Tz w) (hr : RatRoom w g) (hA : Rd w A n c (lim a)) (hD : Rd w D m k (lim d)) (hB : Rd w B n2 c2 (lim b)) (hC : Rd w C m2 k2 (lim q))
  (hop : ∀ bx X n' c' Y m' k' b2 X2 n2' c2' Y2 m2' k2' w', Ext w w' → RatIs w' bx (sgn neg a) X n' c' (lowD a d) Y m' k' → RatIs w' b2 (sgn neg2 b) X2 n2' c2' (lowD b q) Y2 m2' k2' → Off Y m' g → Off Y2 m2' g → Calls Tryz.prog 67 #[.pointer (some ⟨g, 0, none⟩), .pointer (some ⟨bx, 0, none⟩), .pointer (some ⟨b2, 0, none⟩)] w' (FPost w' g zn zd)) :
  Calls Tryz.prog 65 #[ratV neg A n c D m k, ratV neg2 B n2 c2 C m2 k2, .func (.func 67) #[.pointer (some ⟨g, 0, none⟩)] #[]] w (OPost g w zn (denOf zd)) := by
 have HT := Lib.hid hT
 have hgl := hr.int.lt
 have kA : ∀ w', Ext w w' → Calls Tryz.prog 68 #[ratV neg A n c D m k] w' (KPost w' (sgn neg a) (lowD a d)) := fun w' he => ra_taken neg A n c a D m k d hd hn hm hg hng w' (hT.ext he) (hA.ext he) (hD.ext he)
 have kB : ∀ w', Ext w w' → Calls Tryz.prog 68 #[ratV neg2 B n2 c2 C m2 k2] w' (KPost w' (sgn neg2 b) (lowD b q)) := fun w' he => ra_taken neg2 B n2 c2 b C m2 k2 q hq hn2 hm2 hg2 hng2 w' (hT.ext he) (hB.ext he) (hC.ext he)
 clear hA hB hC hD hT hr hng hng2 hg hg2 hd hq
 generalize lowD a d = da at *
 generalize lowD b q = db at *
 generalize sgn neg a = za at *
 generalize sgn neg2 b = zb at *
 have HZ := Lib.hid (And.intro hz1 (And.intro hz2 hz3))
 clear hz1 hz2 hz3
 go_enter Tryz.func65, Tryz.ntmps65
 go_upto_region 7 with (first
  | (go_at_call 68; (with_reducible refine (kA _ xcl).mono ?_); rintro e w1 ⟨b1, A1, n1, c1, D1, m1, k1, rfl, hR1, hb1, xb1⟩; obtain ⟨xc1, xf1, xl1, xz1⟩ := jU xb1; (try simp at xz1); obtain ⟨l1_0, r1_0, f1_0, r1_0_1, f1_0_1, r1_0_2, f1_0_2⟩ := kq3 xb1 (w.heap.size); obtain ⟨l1_1, r1_1, f1_1, r1_1_1, f1_1_1, r1_1_2, f1_1_2⟩ := kq3 xb1 (w.heap.size + 1); obtain ⟨l1_2, r1_2, f1_2, r1_2_1, f1_2_1, r1_2_2, f1_2_2⟩ := kq3 xb1 (w.heap.size + 1 + 1))
  | (go_at_call 68; (with_reducible refine (kB _ xcl).mono ?_); rintro e w2 ⟨b2, A2, n2, c2, D2, m2, k2, rfl, hR2, hb2, xb2⟩; obtain ⟨xc2, xf2, xl2, xz2⟩ := jU xb2; (try simp at xz2); obtain ⟨l2_0, r2_0, f2_0, r2_0_1, f2_0_1, r2_0_2, f2_0_2⟩ := kq3 xb2 (w.heap.size); obtain ⟨l2_1, r2_1, f2_1, r2_1_1, f2_1_1, r2_1_2, f2_1_2⟩ := kq3 xb2 (w.heap.size + 1); obtain ⟨l2_2, r2_2, f2_2, r2_2_1, f2_2_1, r2_2_2, f2_2_2⟩ := kq3 xb2 (w.heap.size + 1 + 1))
  )
 have hEw : Hid (Ext w w2) := by show Ext w w2; exact xcl
 have hR1' := Lib.hid (hR1.out.1.ext (show Ext w1 w2 by exact xcl))
 have l1 := hR1'.out.int.room.lt
 have hO1 : Off D1 m1 g := hR1.out.2.2.off (by simp; omega) m1
 have hO2 : Off D2 m2 g := hR2.out.2.2.off (by have := ext_lt xb1 g (by simp; omega); simpa using this) m2
 have kop := hop b1 A1 n1 c1 D1 m1 k1 b2 A2 n2 c2 D2 m2 k2 w2 hEw.out hR1'.out hR2.out.1 hO1 hO2
 have z0 : w2.cell? ⟨w.heap.size + 1 + 1, 0, none⟩ = some (.bool false) := by simp [go_sem, *]
 have z1 : w2.cell? ⟨w.heap.size + 1 + 1, 1, none⟩ = some (.slice none 0 0) := by simp [go_sem, *]
 have z2 : w2.cell? ⟨w.heap.size + 1 + 1, 2, none⟩ = some (.slice none 0 0) := by simp [go_sem, *]
 have f0 : w2.frozen? ⟨w.heap.size + 1 + 1, 0, none⟩ = false := by simp [go_sem, *]
 have f1 : w2.frozen? ⟨w.heap.size + 1 + 1, 1, none⟩ = false := by simp [go_sem, *]
 have f2 : w2.frozen? ⟨w.heap.size + 1 + 1, 2, none⟩ = false := by simp [go_sem, *]
 have zl : w.heap.size + 1 + 1 < w2.heap.size := by assumption
 clear hop kA kB hO1 hO2
 go_wp2_with (first
  | (go_at_call 67; (with_reducible refine kop.mono ?_); rintro e w3 ⟨rfl, A3, n3, c3, D3, m3, k3, hR3, xt3⟩)
  )
 have g0 := (xt3.cell (p := ⟨w.heap.size + 1 + 1, 0, none⟩) zl (by simp only; omega)).trans z0
 have g1 := (xt3.cell (p := ⟨w.heap.size + 1 + 1, 1, none⟩) zl (by simp only; omega)).trans z1
 have g2 := (xt3.cell (p := ⟨w.heap.size + 1 + 1, 2, none⟩) zl (by simp only; omega)).trans z2
 have e0 := (xt3.frozen (p := ⟨w.heap.size + 1 + 1, 0, none⟩) zl (by simp only; omega)).trans f0
 have e1 := (xt3.frozen (p := ⟨w.heap.size + 1 + 1, 1, none⟩) zl (by simp only; omega)).trans f1
 have e2 := (xt3.frozen (p := ⟨w.heap.size + 1 + 1, 2, none⟩) zl (by simp only; omega)).trans f2
 have gl := Nat.lt_of_lt_of_le zl xt3.size
 have hl3 : n3 ≤ 16384 := by rw [← hR3.out.1.int.rd.len]; exact HZ.out.1
 have hm3 : m3 ≤ 100000 := by rw [← hR3.out.1.rd.len]; exact Nat.le_trans HZ.out.2.1 (by decide)
 clear z0 z1 z2 f0 f1 f2 xb1 xb2
 go_wp2_with (first
  | (go_at_call 60; (with_reducible refine (ra_told_ok g zn A3 n3 c3 zd D3 m3 k3 hl3 hm3 HZ.out.2.2 _ hR3.out.1).mono ?_); rintro e w4 ⟨A4, n4, c4, D4, m4, k4, rfl, hI4, xb4⟩; obtain ⟨xc4, xf4, xl4, xz4⟩ := jU xb4; (try simp at xz4); obtain ⟨l4_0, r4_0, f4_0, r4_0_1, f4_0_1, r4_0_2, f4_0_2⟩ := kq3 xb4 (w.heap.size + 1 + 1))
  )
 have hlt4 : w.heap.size + 1 + 1 < w3.heap.size := gl
 have n5 : ∀ x, A4 = some x → w.heap.size + 1 + 1 < x.block := fun x hx => by have := hI4.out.2.1 x hx; omega
 have n6 : ∀ x, D4 = some x → w.heap.size + 1 + 1 < x.block := fun x hx => by have := hI4.out.2.2.2 x hx; omega
 have z0 : w4.cell? ⟨w.heap.size + 1 + 1, 0, none⟩ = some (.bool false) := by simp [go_sem, *]
 have z1 : w4.cell? ⟨w.heap.size + 1 + 1, 1, none⟩ = some (.slice none 0 0) := by simp [go_sem, *]
 have z2 : w4.cell? ⟨w.heap.size + 1 + 1, 2, none⟩ = some (.slice none 0 0) := by simp [go_sem, *]
 obtain ⟨q0, q1, q2⟩ := set3 (b := w.heap.size + 1 + 1) z0 z1 z2 (.bool (decide (zn < 0))) (.slice A4 n4 c4) (.slice D4 m4 k4)
 have hTT : Tch g w w4 := ((Tch.of hEw.out).trans xt3).trans (Tch.of xb4)
 refine bodyPost_ret (v := .tuple #[ratV (decide (zn < 0)) A4 n4 c4 D4 m4 k4, .int .i64 0]) ?h rfl ⟨A4, n4, c4, D4, m4, k4, rfl, ⟨hI4.out.1.set3 n5 _ _ _, fun x hx => Nat.le_of_lt (by have := n5 x hx; omega), hI4.out.2.2.1.set3 n6 _ _ _, fun x hx => Nat.le_of_lt (by have := n6 x hx; omega)⟩, tch_set3 hTT (by omega) _ _ _⟩
 case h => simp [results, Tryz.results65, go_sem, q0, q1, q2]
theorem canN_le (z : Int) (d : Nat) : (canN z d).natAbs ≤ z.natAbs := by unfold canN; rw [sgn_abs]; exact Nat.div_le_self _ _
theorem canD_le (z : Int) (d : Nat) : canD z d ≤ d := by unfold canD; exact Nat.div_le_self _ _
theorem canW_le (z : Int) (d : Nat) : canW z d ≤ d := by unfold canW; split; exact Nat.zero_le _; exact canD_le z d
theorem den_low {a d : Nat} (hd : d ≠ 0) (hg : Nat.gcd a d = 1) : denOf (lowD a d) = d := by
 unfold denOf lowD
 by_cases h0 : a = 0
 ·rw [if_pos h0, if_pos rfl]; subst h0; rw [Nat.gcd_zero_left] at hg; exact hg.symm
 ·rw [if_neg h0, hg, Nat.div_one, if_neg hd]
theorem lowD_le (a d : Nat) : lowD a d ≤ d := by unfold lowD; split; exact Nat.zero_le _; exact Nat.div_le_self _ _
theorem sum_room {x y : Int} {d q n : Nat} (h1 : (lim x.natAbs).length ≤ n) (h2 : (lim y.natAbs).length ≤ n) (h3 : (lim d).length ≤ n) (h4 : (lim q).length ≤ n) : (lim (x * (q : Int) + y * (d : Int)).natAbs).length ≤ 2 * n + 1 := by
 refine sum_len' ?_ ?_
 ·rw [Int.natAbs_mul, Int.natAbs_natCast]; exact Nat.le_trans (lim_mul_len _ _) (by omega)
 ·rw [Int.natAbs_mul, Int.natAbs_natCast]; exact Nat.le_trans (lim_mul_len _ _) (by omega)
theorem ra_Add (neg : Bool) (A : Option Addr) (n c a : Nat) (D : Option Addr) (m k d : Nat) (hd : d ≠ 0) (hn : n ≤ 4000) (hm : m ≤ 4000) (hg : Nat.gcd a d = 1) (hng : neg = true → a ≠ 0)
  (neg2 : Bool) (B : Option Addr) (n2 c2 b : Nat) (C : Option Addr) (m2 k2 q : Nat) (hq : q ≠ 0) (hn2 : n2 ≤ 4000) (hm2 : m2 ≤ 4000) (hg2 : Nat.gcd b q = 1) (hng2 : neg2 = true → b ≠ 0)
  (w : World) (hT : Tz w) (hA : Rd w A n c (lim a)) (hD : Rd w D m k (lim d)) (hB : Rd w B n2 c2 (lim b)) (hC : Rd w C m2 k2 (lim q)) :
  Calls Tryz.prog 37 #[ratV neg A n c D m k, ratV neg2 B n2 c2 C m2 k2] w (TPost w (canN (sgn neg a * (q : Int) + sgn neg2 b * (d : Int)) (d * q)) (canD (sgn neg a * (q : Int) + sgn neg2 b * (d : Int)) (d * q))) := by
 have h1 : (lim (sgn neg a).natAbs).length ≤ 4000 := by rw [sgn_abs, hA.len]; exact hn
 have h2 : (lim (sgn neg2 b).natAbs).length ≤ 4000 := by rw [sgn_abs, hB.len]; exact hn2
 have h3 : (lim d).length ≤ 4000 := by rw [hD.len]; exact hm
 have h4 : (lim q).length ≤ 4000 := by rw [hC.len]; exact hm2
 have hdq : (lim (d * q)).length ≤ 8001 := Nat.le_trans (lim_mul_len _ _) (by omega)
 have hz : (lim (sgn neg a * (q : Int) + sgn neg2 b * (d : Int)).natAbs).length ≤ 8001 := sum_room h1 h2 h3 h4
 rw [← canW_den (Nat.mul_ne_zero hd hq)]
 have kO : ∀ G W, RatRoom W G → Ext w W → Calls Tryz.prog 65 #[ratV neg A n c D m k, ratV neg2 B n2 c2 C m2 k2, .func (.func 67) #[.pointer (some ⟨G, 0, none⟩)] #[]] W (OPost G W (canN (sgn neg a * (q : Int) + sgn neg2 b * (d : Int)) (d * q)) (denOf (canW (sgn neg a * (q : Int) + sgn neg2 b * (d : Int)) (d * q)))) := fun G W hr hW => by
  refine ra_of_Add G _ _ (Nat.le_trans (lim_mono (canN_le _ _)) (by omega)) (Nat.le_trans (lim_mono (canW_le _ _)) (by omega)) ?_ neg A n c a D m k d hd (by omega) (by omega) hg hng neg2 B n2 c2 b C m2 k2 q hq (by omega) (by omega) hg2 hng2 W (hT.ext hW) hr (hA.ext hW) (hD.ext hW) (hB.ext hW) (hC.ext hW) ?_
  ·rw [canW_den (Nat.mul_ne_zero hd hq)]; exact Nat.le_trans (lim_mono (canD_le _ _)) (by omega)
  ·intro bx X n' c' Y m' k' b2 X2 n2' c2' Y2 m2' k2' w' he h5 h6 h7 h8
   have l1 := h5.int.rd.len
   have l2 := h5.rd.len
   have l3 := h6.int.rd.len
   have l4 := h6.rd.len
   have l5 := lim_mono (lowD_le a d)
   have l6 := lim_mono (lowD_le b q)
   have := br_Add G bx b2 (sgn neg a) (sgn neg2 b) (lowD a d) (lowD b q) (by rw [sgn_abs, den_low hd hg]; exact hg) (by rw [sgn_abs, den_low hq hg2]; exact hg2) X n' c' Y m' k' X2 n2' c2' Y2 m2' k2' (by omega) (by omega) (by omega) (by omega) w' ((hT.ext hW).ext he) (hr.ext he) h5 h6 h7 h8
   rwa [den_low hd hg, den_low hq hg2] at this
 clear hT hA hB hC hD hng hng2 hg hg2 hd hq h1 h2 h3 h4 hz hdq
 generalize canN (sgn neg a * (q : Int) + sgn neg2 b * (d : Int)) (d * q) = zn at kO ⊢
 generalize canW (sgn neg a * (q : Int) + sgn neg2 b * (d : Int)) (d * q) = zd at kO ⊢
 have kO' : Calls Tryz.prog 65 #[ratV neg A n c D m k, ratV neg2 B n2 c2 C m2 k2, .func (.func 67) #[.pointer (some ⟨w.heap.size + 1 + 1 + 1, 0, none⟩)] #[]] ((((w.alloc (Obj.cells #[.bool neg, .slice A n c, .slice D m k] 32)).alloc (Obj.cells #[.bool neg2, .slice B n2 c2, .slice C m2 k2] 32)).alloc (Obj.cells #[.bool false, .slice none 0 0, .slice none 0 0] 32)).alloc (Obj.cells #[.bool false, .slice none 0 0, .slice none 0 0] 81))
   fun e w' => ∃ (A : Option Addr) (n c : Nat) (D : Option Addr) (m k : Nat), e = .returned (.tuple #[ratV (decide (zn < 0)) A n c D m k, .int .i64 0]) ∧ Hid (RdO w' A n c (lim zn.natAbs) none ∧ (∀ x, A = some x → w.heap.size + 1 + 1 < x.block) ∧ RdO w' D m k (lim (denOf zd)) A ∧ (∀ x, D = some x → w.heap.size + 1 + 1 < x.block)) ∧
    w'.cell? ⟨w.heap.size + 1 + 1, 0, none⟩ = some (.bool false) ∧ w'.cell? ⟨w.heap.size + 1 + 1, 1, none⟩ = some (.slice none 0 0) ∧ w'.cell? ⟨w.heap.size + 1 + 1, 2, none⟩ = some (.slice none 0 0) ∧
    w'.frozen? ⟨w.heap.size + 1 + 1, 0, none⟩ = false ∧ w'.frozen? ⟨w.heap.size + 1 + 1, 1, none⟩ = false ∧ w'.frozen? ⟨w.heap.size + 1 + 1, 2, none⟩ = false ∧ w.heap.size + 1 + 1 < w'.heap.size ∧ Hid (Ext w w') := by
  have hr := rat_room (((w.alloc (Obj.cells #[.bool neg, .slice A n c, .slice D m k] 32)).alloc (Obj.cells #[.bool neg2, .slice B n2 c2, .slice C m2 k2] 32)).alloc (Obj.cells #[.bool false, .slice none 0 0, .slice none 0 0] 32))
  have e0 : (((w.alloc (Obj.cells #[.bool neg, .slice A n c, .slice D m k] 32)).alloc (Obj.cells #[.bool neg2, .slice B n2 c2, .slice C m2 k2] 32)).alloc (Obj.cells #[.bool false, .slice none 0 0, .slice none 0 0] 32)).heap.size = w.heap.size + 1 + 1 + 1 := by simp
  rw [e0] at hr
  have hEx : Ext w ((((w.alloc (Obj.cells #[.bool neg, .slice A n c, .slice D m k] 32)).alloc (Obj.cells #[.bool neg2, .slice B n2 c2, .slice C m2 k2] 32)).alloc (Obj.cells #[.bool false, .slice none 0 0, .slice none 0 0] 32)).alloc (Obj.cells #[.bool false, .slice none 0 0, .slice none 0 0] 81)) := jA (jA (jA (jA (jR _) _) _) _) _
  refine (kO _ _ hr hEx).mono ?_
  rintro e w' ⟨A1, n1, c1, D1, m1, k1, rfl, h1, h2⟩
  have hsz := hr.int.lt
  have hs2 := h2.size
  have lt : ∀ o, (⟨w.heap.size + 1 + 1, o, none⟩ : Addr).block ≠ w.heap.size + 1 + 1 + 1 := fun o => by simp
  have lb : w.heap.size + 1 + 1 < ((((w.alloc (Obj.cells #[.bool neg, .slice A n c, .slice D m k] 32)).alloc (Obj.cells #[.bool neg2, .slice B n2 c2, .slice C m2 k2] 32)).alloc (Obj.cells #[.bool false, .slice none 0 0, .slice none 0 0] 32)).alloc (Obj.cells #[.bool false, .slice none 0 0, .slice none 0 0] 81)).heap.size := by simp
  refine ⟨A1, n1, c1, D1, m1, k1, rfl, ⟨h1.out.1, fun x hx => by have := h1.out.2.1 x hx; omega, h1.out.2.2.1, fun x hx => by have := h1.out.2.2.2 x hx; omega⟩,
   (h2.cell (p := ⟨w.heap.size + 1 + 1, 0, none⟩) lb (lt 0)).trans (by simp [go_sem]), (h2.cell (p := ⟨w.heap.size + 1 + 1, 1, none⟩) lb (lt 1)).trans (by simp [go_sem]), (h2.cell (p := ⟨w.heap.size + 1 + 1, 2, none⟩) lb (lt 2)).trans (by simp [go_sem]),
   (h2.frozen (p := ⟨w.heap.size + 1 + 1, 0, none⟩) lb (lt 0)).trans (by simp [go_sem]), (h2.frozen (p := ⟨w.heap.size + 1 + 1, 1, none⟩) lb (lt 1)).trans (by simp [go_sem]), (h2.frozen (p := ⟨w.heap.size + 1 + 1, 2, none⟩) lb (lt 2)).trans (by simp [go_sem]), Nat.lt_of_lt_of_le lb hs2, h2.ext hEx (by omega)⟩
 clear kO
 go_enter Tryz.func37, Tryz.ntmps37
 go_wp2_with (first
  | (go_at_call 65; (with_reducible refine kO'.mono ?_); rintro e w1 ⟨A1, n1, c1, D1, m1, k1, rfl, hI1, z0, z1, z2, f0, f1, f2, zl, hE1⟩)
  )
 obtain ⟨q0, q1, q2⟩ := set3 (b := w.heap.size + 1 + 1) z0 z1 z2 (.bool (decide (zn < 0))) (.slice A1 n1 c1) (.slice D1 m1 k1)
 have n5 := hI1.out.2.1
 have n6 := hI1.out.2.2.2
 refine bodyPost_ret (v := .tuple #[ratV (decide (zn < 0)) A1 n1 c1 D1 m1 k1, .int .i64 0]) ?h rfl ⟨A1, n1, c1, D1, m1, k1, rfl, ⟨hI1.out.1.set3 n5 _ _ _, fun x hx => Nat.le_of_lt (by have := n5 x hx; omega), hI1.out.2.2.1.set3 n6 _ _ _, fun x hx => Nat.le_of_lt (by have := n6 x hx; omega)⟩, ext_set3 hE1.out (by omega) _ _ _⟩
 case h => simp [results, Tryz.results37, go_sem, q0, q1, q2]
end Go.Proofs.YtchbefambnhjjaaGreatDoor
end
section
/- The program's fractions: order. -/
namespace Go.Proofs.YtchbefambnhjjaaGreatDoor
open Go.RowKit
attribute [local go_sem] sz2 sz3 sz4 sz5 sz6 sz7 sz8
set_option maxHeartbeats 4000000
set_option maxRecDepth 100000
attribute [local irreducible] Calls
theorem ra_Cmp (neg : Bool) (A : Option Addr) (n c a : Nat) (D : Option Addr) (m k d : Nat) (hd : d ≠ 0) (hn : n ≤ 16384) (hm : m ≤ 16384) (hg : Nat.gcd a d = 1) (hng : neg = true → a ≠ 0)
  (neg2 : Bool) (B : Option Addr) (n2 c2 b : Nat) (C : Option Addr) (m2 k2 q : Nat) (hq : q ≠ 0) (hn2 : n2 ≤ 16384) (hm2 : m2 ≤ 16384) (hg2 : Nat.gcd b q = 1) (hng2 : neg2 = true → b ≠ 0)
  (w : World) (hT : Tz w) (hA : Rd w A n c (lim a)) (hD : Rd w D m k (lim d)) (hB : Rd w B n2 c2 (lim b)) (hC : Rd w C m2 k2 (lim q)) :
  Calls Tryz.prog 35 #[ratV neg A n c D m k, ratV neg2 B n2 c2 C m2 k2] w fun e w' => e = .returned (.tuple #[.int .i64 (sgn neg a * (q : Int) - sgn neg2 b * (d : Int)).sign, .int .i64 0]) ∧ Ext w w' := by
 have kA : ∀ w', Ext w w' → Calls Tryz.prog 68 #[ratV neg A n c D m k] w' (KPost w' (sgn neg a) (lowD a d)) := fun w' he => ra_taken neg A n c a D m k d hd hn hm hg hng w' (hT.ext he) (hA.ext he) (hD.ext he)
 have kB : ∀ w', Ext w w' → Calls Tryz.prog 68 #[ratV neg2 B n2 c2 C m2 k2] w' (KPost w' (sgn neg2 b) (lowD b q)) := fun w' he => ra_taken neg2 B n2 c2 b C m2 k2 q hq hn2 hm2 hg2 hng2 w' (hT.ext he) (hB.ext he) (hC.ext he)
 have hla := hA.len
 have hld := hD.len
 have hlb := hB.len
 have hlq := hC.len
 have kC : ∀ bx X n' c' Y m' k' b2 X2 n2' c2' Y2 m2' k2' w', RatIs w' bx (sgn neg a) X n' c' (lowD a d) Y m' k' → RatIs w' b2 (sgn neg2 b) X2 n2' c2' (lowD b q) Y2 m2' k2' → Calls Tryz.prog 91 #[.pointer (some ⟨bx, 0, none⟩), .pointer (some ⟨b2, 0, none⟩)] w' fun e w'' => e = .returned (.int .i64 (sgn neg a * (q : Int) - sgn neg2 b * (d : Int)).sign) ∧ Ext w' w'' := fun bx X n' c' Y m' k' b2 X2 n2' c2' Y2 m2' k2' w' h5 h6 => by
  have l1 := h5.int.rd.len
  have l2 := h5.rd.len
  have l3 := h6.int.rd.len
  have l4 := h6.rd.len
  have l5 := lim_mono (lowD_le a d)
  have l6 := lim_mono (lowD_le b q)
  rw [sgn_abs] at l1 l3
  have := br_Cmp bx b2 (sgn neg a) (sgn neg2 b) (lowD a d) (lowD b q) X n' c' Y m' k' X2 n2' c2' Y2 m2' k2' (by omega) (by omega) (by omega) (by omega) w' h5 h6
  rwa [den_low hd hg, den_low hq hg2] at this
 clear hT hA hD hB hC hng hng2 hla hld hlb hlq
 generalize (sgn neg a * (q : Int) - sgn neg2 b * (d : Int)).sign = R at kC ⊢
 generalize lowD a d = da at *
 generalize lowD b q = db at *
 generalize sgn neg a = za at *
 generalize sgn neg2 b = zb at *
 clear hd hn hm hg hq hn2 hm2 hg2
 go_enter Tryz.func35, Tryz.ntmps35
 go_wp2_with (first
  | (go_at_call 68; (with_reducible refine (kA _ xcl).mono ?_); rintro e w1 ⟨b1, A1, n1, c1, D1, m1, k1, rfl, hR1, hb1, xb1⟩; obtain ⟨xc1, xf1, xl1, xz1⟩ := jU xb1; (try simp at xz1); obtain ⟨l1_0, r1_0, f1_0, r1_0_1, f1_0_1, r1_0_2, f1_0_2⟩ := kq3 xb1 (w.heap.size); obtain ⟨l1_1, r1_1, f1_1, r1_1_1, f1_1_1, r1_1_2, f1_1_2⟩ := kq3 xb1 (w.heap.size + 1))
  | (go_at_call 68; (with_reducible refine (kB _ xcl).mono ?_); rintro e w2 ⟨b2, A2, n2, c2, D2, m2, k2, rfl, hR2, hb2, xb2⟩; obtain ⟨xc2, xf2, xl2, xz2⟩ := jU xb2; (try simp at xz2); obtain ⟨l2_0, r2_0, f2_0, r2_0_1, f2_0_1, r2_0_2, f2_0_2⟩ := kq3 xb2 (w.heap.size); obtain ⟨l2_1, r2_1, f2_1, r2_1_1, f2_1_1, r2_1_2, f2_1_2⟩ := kq3 xb2 (w.heap.size + 1))
  | (go_at_call 91; (with_reducible refine (kC _ _ _ _ _ _ _ _ _ _ _ _ _ _ _ (hR1.out.1.ext xcl) hR2.out.1).mono ?_); rintro e w3 ⟨rfl, xb3⟩)
  )
 refine bodyPost_ret (v := .tuple #[.int .i64 R, .int .i64 0]) ?h rfl ⟨rfl, ?_⟩
 case h => simp [results, Tryz.results35, go_sem]
 exact xcl
end Go.Proofs.YtchbefambnhjjaaGreatDoor
end
section
/- (The document's library.) Whole numbers of the library's: out of machine numbers; without a sign; products, differences. -/

namespace Go.Proofs.YtchbefambnhjjaaGreatDoor.NB
open Go.RowKit
attribute [local go_sem] sz2 sz3 sz4 sz5 sz6 sz7 sz8
set_option maxHeartbeats 4000000
set_option maxRecDepth 100000
attribute [local irreducible] Calls
attribute [local go_sem] Oper.detAt detUpon relUpon
theorem bi_SetInt64 (b o : Nat) (x : Int) (h1 : -9223372036854775808 ≤ x) (h2 : x ≤ 9223372036854775807) (w : World) (hr : Room w b o) :
  Calls Tryz.prog 112 #[.pointer (some ⟨b, o, none⟩), .int .i64 x] w (IPost w b o x) := by
 have HR := Lib.hid hr
 have hlt := hr.lt
 clear hr
 by_cases h0 : x < 0
 ·obtain ⟨n, rfl⟩ : ∃ n : Nat, x = -(n : Int) := ⟨x.natAbs, by omega⟩
  have hn : n < 18446744073709551616 := by omega
  have h0' : -(n : Int) < 0 := h0
  have hF : ∀ w', Calls Tryz.prog 163 #[.int .u64 (IntKind.u64.wrap (-IntKind.u64.wrap (-(n : Int))))] w' fun e w'' => ∃ (A : Option Addr) (k c : Nat), e = .returned (.slice A k c) ∧ Hid (Rd w'' A k c (lim n) ∧ Fr w' A) ∧ Ext w' w'' := fun w' => by
   have e1 : IntKind.u64.wrap (-IntKind.u64.wrap (-(n : Int))) = (n : Int) := by rw [IntKind.wrap_u64, IntKind.wrap_u64]; omega
   rw [e1]
   exact bw_fromUint n hn w'
  have hsg : Hid (sgn true n = -(n : Int)) := Lib.hid rfl
  go_enter Tryz.func112, Tryz.ntmps112
  go_wp2_with (first
   | (go_at_call 163; (with_reducible refine (hF _).mono ?_); rintro e w1 ⟨A1, k1, c1, rfl, hR1, xb1⟩; obtain ⟨xc1, xf1, xl1, xz1⟩ := jU xb1; (try simp at xz1))
   | (go_at_call 111; (with_reducible refine (bi_set b o true A1 k1 c1 n _ (HR.out.ext xb1) hR1.out.1 (hR1.out.2.off hlt k1)).mono ?_); rintro e w3 ⟨rfl, hI3, xt3⟩)
   )
  refine bodyPost_ret (v := .pointer (some ⟨b, o, none⟩)) ?h rfl ⟨rfl, A1, k1, c1, ⟨by have := hI3.out; rwa [hsg.out] at this, hR1.out.2⟩, (Tch.of xb1).trans xt3⟩
  case h => simp [results, Tryz.results112, go_sem]
 ·obtain ⟨n, rfl⟩ : ∃ n : Nat, x = (n : Int) := ⟨x.natAbs, by omega⟩
  have hF : ∀ w', Calls Tryz.prog 163 #[.int .u64 (n : Int)] w' fun e w'' => ∃ (A : Option Addr) (k c : Nat), e = .returned (.slice A k c) ∧ Hid (Rd w'' A k c (lim n) ∧ Fr w' A) ∧ Ext w' w'' := fun w' => bw_fromUint n (by omega) w'
  have hsg : Hid (sgn false n = (n : Int)) := Lib.hid rfl
  go_enter Tryz.func112, Tryz.ntmps112
  go_wp2_with (first
   | (go_at_call 163; (with_reducible refine (hF _).mono ?_); rintro e w1 ⟨A1, k1, c1, rfl, hR1, xb1⟩; obtain ⟨xc1, xf1, xl1, xz1⟩ := jU xb1; (try simp at xz1))
   | (go_at_call 111; (with_reducible refine (bi_set b o false A1 k1 c1 n _ (HR.out.ext xb1) hR1.out.1 (hR1.out.2.off hlt k1)).mono ?_); rintro e w3 ⟨rfl, hI3, xt3⟩)
   )
  refine bodyPost_ret (v := .pointer (some ⟨b, o, none⟩)) ?h rfl ⟨rfl, A1, k1, c1, ⟨by have := hI3.out; rwa [hsg.out] at this, hR1.out.2⟩, (Tch.of xb1).trans xt3⟩
  case h => simp [results, Tryz.results112, go_sem]
theorem bi_NewInt (x : Int) (h1 : -9223372036854775808 ≤ x) (h2 : x ≤ 9223372036854775807) (w : World) :
  Calls Tryz.prog 50 #[.int .i64 x] w (NPost w x) := by
 have hrm := Lib.hid (int_room w)
 go_enter Tryz.func50, Tryz.ntmps50
 go_wp2_with (first
  | (go_at_call 112; (with_reducible refine (bi_SetInt64 w.heap.size 0 x h1 h2 _ hrm.out).mono ?_); rintro e w3 ⟨rfl, A3, n3, c3, hI3, xt3⟩)
  )
 have hEE := Lib.hid (xt3.ext (jA (jR w) _) (Nat.le_refl _))
 refine bodyPost_ret (v := .pointer (some ⟨w.heap.size, 0, none⟩)) ?h rfl ⟨_, A3, n3, c3, rfl, ⟨hI3.out.1, Fr.mono hI3.out.2 (jA (jR w) _)⟩, Nat.le_refl _, hEE.out⟩
 case h => simp [results, Tryz.results50, go_sem]
end Go.Proofs.YtchbefambnhjjaaGreatDoor.NB
end
section
/- (The document's library.) Fractions of the library's: out of whole numbers; differences, quotients. -/

namespace Go.Proofs.YtchbefambnhjjaaGreatDoor.NB
open Go.RowKit
attribute [local go_sem] sz2 sz3 sz4 sz5 sz6 sz7 sz8
set_option maxHeartbeats 4000000
set_option maxRecDepth 100000
attribute [local irreducible] Calls
section
attribute [local go_sem] Oper.detAt detUpon relUpon
theorem bi_Setx (b o bx ox : Nat) (A : Option Addr) (n c : Nat) (z : Int) (hn : n ≤ 1000000) (w : World) (hr : Room w b o) (hx : IntIs w bx ox z A n c) :
  Calls Tryz.prog 135 #[.pointer (some ⟨b, o, none⟩), .pointer (some ⟨bx, ox, none⟩)] w fun e w' => e = .returned (.pointer (some ⟨b, o, none⟩)) ∧ ∃ (A : Option Addr) (n c : Nat), Hid (IntIs w' b o z A n c ∧ Fr w A) ∧ Tch b w w' ∧ Hid (∀ p, p ≠ o → p ≠ o + 1 → w'.cell? ⟨b, p, none⟩ = w.cell? ⟨b, p, none⟩ ∧ w'.frozen? ⟨b, p, none⟩ = w.frozen? ⟨b, p, none⟩) := by
 have HX := Lib.hid hx
 have HR := Lib.hid hr
 have lx := hx.room.lt
 have x0 := hx.neg
 have x1 := hx.words
 clear hx hr
 go_enter Tryz.func135, Tryz.ntmps135
 go_wp2
 refine wp_drawn_tail 10 (tab [(9, RWord w.heap.size z.natAbs)]) (by kernel_rfl) (by kernel_rfl) (by kernel_rfl) (tab_stays (by simp [stays_word])) (fun hq hqf => ?_)
 simp only [List.take_succ_cons, List.take_zero, List.drop_succ_cons, List.drop_zero]
 have y0 := fun nq => (hq nq bx ox lx).trans x0
 have y1 := fun nq => (hq nq bx (ox + 1) lx).trans x1
 iterate 9
  (refine wpK_det rfl (fun K hK => ?_)
   go_simp
   first
    | (refine hK _ ?_; clear hK K)
    | (apply Exists.intro; refine ⟨fun x => ?_, hK _ ?_⟩; (first | exact y0 x | exact y1 x | (simp [y0, y1]; rfl)); clear hK K))
 refine wpK_rel _ rfl rfl ?_ ?_
 ·rintro _ ⟨nn, rfl⟩ _
  unfold Oper.relAt
  go_simp
  exact rel_copied _ _ _ _ _ hn _ _ (ext_size nn.use) (HX.out.rd.ext nn.use)
 rintro v ⟨_, ⟨nn, rfl⟩, hr⟩
 obtain ⟨A9, k9, c9, rfl, -, -⟩ := hr
 clear nn
 refine wpK_nil ?_
 intro nq2 hG
 have r9 : RWord w.heap.size z.natAbs [] (.slice A9 k9 c9) nq2.out := by have := hG.fact 9; simp [Facts.put] at this; exact this
 have hR9 := Lib.hid (rword_at r9)
 have hF9 : Fr w A9 := hR9.out.2
 have hO9 := hF9.off HR.out.lt k9
 clear r9 hG
 go_wp2_with (first
  | (go_at_call 111; (with_reducible refine (bi_setx b o _ A9 k9 c9 z.natAbs _ (HR.out.ext nq2.use) hR9.out.1 hO9).mono ?_); rintro e w3 ⟨rfl, hI3, xt3, hP3⟩)
  )
 refine bodyPost_ret (v := .pointer (some ⟨b, o, none⟩)) ?h rfl ⟨rfl, A9, k9, c9, ⟨by have := hI3.out; rwa [sgn_self] at this, hF9⟩, (Tch.of nq2.use).trans xt3, Lib.hid fun p h1 h2 => ⟨(hP3.out p h1 h2).1.trans (Below.cell (p := ⟨b, p, none⟩) nq2.use HR.out.lt), (hP3.out p h1 h2).2.trans (Below.frozen (p := ⟨b, p, none⟩) nq2.use HR.out.lt)⟩⟩
 case h => simp [results, Tryz.results135, go_sem]
end
section
attribute [local go_sem] D2.Oper.detAt D2.detUpon D2.relUpon
end
theorem br_SetInt (g bx : Nat) (z : Int) (A : Option Addr) (n c : Nat) (hn : n ≤ 1000000) (w : World) (hr : RatRoom w g) (hx : IntIs w bx 0 z A n c) :
  Calls Tryz.prog 108 #[.pointer (some ⟨g, 0, none⟩), .pointer (some ⟨bx, 0, none⟩)] w (FPost w g z 0) := by
 have HR := Lib.hid hr
 have kS := bi_Setx g 0 bx 0 A n c z hn w hr.int hx
 have hlt := hr.int.lt
 obtain ⟨v2, h2⟩ := hr.c2
 have f2 := hr.f2
 clear hx hr
 go_enter Tryz.func108, Tryz.ntmps108
 go_wp2_with (first
  | (go_at_call 135; (with_reducible refine kS.mono ?_); rintro e w3 ⟨rfl, A3, n3, c3, hI3, xt3, hP3⟩; have g2 := (hP3.out 2 (by decide) (by decide)).1.trans h2; have g3 := (hP3.out 2 (by decide) (by decide)).2.trans f2; have g4 := hI3.out.1.room.lt; have HT3 := Lib.hid xt3; clear xt3)
  )
 have hM := Lib.hid (rat_made (D := none) (m := 0) (k := 0) (d := 0) hI3.out.1 ⟨_, g2⟩ g3 (by rw [lim_zero]; exact Rd.nil w3) (fun x hx => by cases hx))
 refine bodyPost_ret (v := .pointer (some ⟨g, 0, none⟩)) ?h rfl ⟨rfl, A3, n3, c3, none, 0, 0, ⟨hM.out, hI3.out.2, fun a ha => by cases ha⟩, HT3.out.set _ _⟩
 case h => simp [results, Tryz.results108, go_sem]
theorem br_SetInt64 (g : Nat) (x : Int) (h1 : -9223372036854775808 ≤ x) (h2 : x ≤ 9223372036854775807) (w : World) (hr : RatRoom w g) :
  Calls Tryz.prog 90 #[.pointer (some ⟨g, 0, none⟩), .int .i64 x] w (FPost w g x 0) := by
 have HR := Lib.hid hr
 have kS : ∀ (b : Nat) (A : Option Addr) (n c : Nat) (w' : World), Ext w w' → IntIs w' b 0 x A n c → Calls Tryz.prog 108 #[.pointer (some ⟨g, 0, none⟩), .pointer (some ⟨b, 0, none⟩)] w' (FPost w' g x 0) := fun b A n c w' he hI => by
  have h3 := hI.rd.len
  have h4 : (lim x.natAbs).length ≤ 2 := lim_le (by show x.natAbs < 4294967296 ^ 2; omega)
  exact br_SetInt g b x A n c (by omega) w' (HR.out.ext he) hI
 clear hr
 go_enter Tryz.func90, Tryz.ntmps90
 go_wp2_with (first
  | (go_at_call 50; (with_reducible refine (bi_NewInt x h1 h2 _).mono ?_); rintro e w1 ⟨p1, P1, k1, l1, rfl, hI1, hp1, xb1⟩)
  | (go_at_call 108; (with_reducible refine (kS _ _ _ _ _ xb1 hI1.out.1).mono ?_); rintro e w9 ⟨rfl, A9, n9, c9, D9, m9, k9, hI9, xt9⟩)
  )
 refine bodyPost_ret (v := .pointer (some ⟨g, 0, none⟩)) ?h rfl ⟨rfl, A9, n9, c9, D9, m9, k9, ⟨hI9.out.1, hI9.out.2.1.mono xb1, hI9.out.2.2.mono xb1⟩, (Tch.of xb1).trans xt9⟩
 case h => simp [results, Tryz.results90, go_sem]
end Go.Proofs.YtchbefambnhjjaaGreatDoor.NB
end
