/- Lemmas of this proof, laid together: RatK, RatM, RatN, TwBigQ, TwBigR, TwBigS, TwBigT, TwBigU, TwIntI, TwIntJ, TwRatL, TwRatK. -/
import Derived.Test.YtfdmhefjmnlllaaGreatDoorMg23
import Derived.Deep.DeepCutAuto
import Derived.Deep.RegionWith
import Derived.Deep.LoopGhost
import Derived.Test.YtfdmhefjmnlllaaGreatDoorMg25
import Derived.Test.YtfdmhefjmnlllaaGreatDoorMg21
import Derived.Maps.AppendAt
import Derived.Test.YtfdmhefjmnlllaaGreatDoorMg22
set_option linter.unusedSimpArgs false
set_option linter.unusedVariables false
section
/- Fractions of the library's: the order. -/
namespace Go.Proofs.YtfdmhefjmnlllaaGreatDoor
open Go.RowKit
attribute [local go_sem] sz2 sz3 sz4 sz5 sz6 sz7 sz8
set_option maxHeartbeats 4000000
set_option maxRecDepth 100000
attribute [local irreducible] Calls
attribute [local go_sem] D2.Oper.detAt D2.detUpon D2.relUpon
theorem br_Cmp_far (bx b2 : Nat) (x y : Int) (p q : Nat) (h : x.sign ≠ y.sign) (A : Option Addr) (n c : Nat) (D : Option Addr) (m e : Nat) (B : Option Addr) (n2 c2 : Nat) (C : Option Addr) (m2 e2 : Nat)
  (w : World) (hx : RatIs w bx x A n c p D m e) (hy : RatIs w b2 y B n2 c2 q C m2 e2) :
  Calls Tryz.prog 77 #[.pointer (some ⟨bx, 0, none⟩), .pointer (some ⟨b2, 0, none⟩)] w
   fun e w' => e = .returned (.int .i64 (x * (denOf q : Int) - y * (denOf p : Int)).sign) ∧ Ext w w' := by
 have kX : ∀ w', Ext w w' → Calls Tryz.prog 66 #[.pointer (some ⟨bx, 0, none⟩)] w' fun e w'' => e = .returned (.int .i64 x.sign) ∧ Ext w' w'' := fun w' he => br_Sign _ _ _ _ _ w' (hx.int.ext he)
 have kY : ∀ w', Ext w w' → Calls Tryz.prog 66 #[.pointer (some ⟨b2, 0, none⟩)] w' fun e w'' => e = .returned (.int .i64 y.sign) ∧ Ext w' w'' := fun w' he => br_Sign _ _ _ _ _ w' (hy.int.ext he)
 rw [rcmp_far (denOf_ne p) (denOf_ne q) h]
 have hb : (x.sign == y.sign) = false := by rw [beq_eq_false_iff_ne]; exact h
 have hgt : ¬ x.sign < y.sign → y.sign < x.sign := by omega
 generalize x.sign = X at *
 generalize y.sign = Y at *
 clear hx hy h
 by_cases hlt : X < Y
 ·rw [if_pos hlt]
  clear hgt
  go_enter Tryz.func77, Tryz.ntmps77
  go_wp2_with (first
   | (go_at_call 66; (with_reducible refine (kX _ xcl).mono ?_); rintro e w1 ⟨rfl, xb1⟩)
   | (go_at_call 66; (with_reducible refine (kY _ xcl).mono ?_); rintro e w2 ⟨rfl, xb2⟩)
   | (go_at_call 66; (with_reducible refine (kX _ xcl).mono ?_); rintro e w3 ⟨rfl, xb3⟩)
   | (go_at_call 66; (with_reducible refine (kY _ xcl).mono ?_); rintro e w4 ⟨rfl, xb4⟩)
   )
  refine bodyPost_ret (v := .int .i64 (-1)) ?h rfl ⟨rfl, ?_⟩
  case h => simp [results, Tryz.results77, go_sem]
  exact xcl
 ·rw [if_neg hlt]
  have hgt := hgt hlt
  go_enter Tryz.func77, Tryz.ntmps77
  go_wp2_with (first
   | (go_at_call 66; (with_reducible refine (kX _ xcl).mono ?_); rintro e w1 ⟨rfl, xb1⟩)
   | (go_at_call 66; (with_reducible refine (kY _ xcl).mono ?_); rintro e w2 ⟨rfl, xb2⟩)
   )
  refine bodyPost_ret (v := .int .i64 1) ?h rfl ⟨rfl, ?_⟩
  case h => simp [results, Tryz.results77, go_sem]
  exact xcl
theorem br_Cmp_nil (bx b2 : Nat) (x y : Int) (p q : Nat) (h1 : x = 0) (h2 : y = 0) (A : Option Addr) (n c : Nat) (D : Option Addr) (m e : Nat) (B : Option Addr) (n2 c2 : Nat) (C : Option Addr) (m2 e2 : Nat)
  (w : World) (hx : RatIs w bx x A n c p D m e) (hy : RatIs w b2 y B n2 c2 q C m2 e2) :
  Calls Tryz.prog 77 #[.pointer (some ⟨bx, 0, none⟩), .pointer (some ⟨b2, 0, none⟩)] w
   fun e w' => e = .returned (.int .i64 (x * (denOf q : Int) - y * (denOf p : Int)).sign) ∧ Ext w w' := by
 rw [rcmp_nil h1 h2]
 subst h1; subst h2
 have kX : ∀ w', Ext w w' → Calls Tryz.prog 66 #[.pointer (some ⟨bx, 0, none⟩)] w' fun e w'' => e = .returned (.int .i64 0) ∧ Ext w' w'' := fun w' he => br_Sign _ _ _ _ _ w' (hx.int.ext he)
 have kY : ∀ w', Ext w w' → Calls Tryz.prog 66 #[.pointer (some ⟨b2, 0, none⟩)] w' fun e w'' => e = .returned (.int .i64 0) ∧ Ext w' w'' := fun w' he => br_Sign _ _ _ _ _ w' (hy.int.ext he)
 clear hx hy
 go_enter Tryz.func77, Tryz.ntmps77
 go_wp2_with (first
  | (go_at_call 66; (with_reducible refine (kX _ xcl).mono ?_); rintro e w1 ⟨rfl, xb1⟩)
  | (go_at_call 66; (with_reducible refine (kY _ xcl).mono ?_); rintro e w2 ⟨rfl, xb2⟩)
  )
 refine bodyPost_ret (v := .int .i64 0) ?h rfl ⟨rfl, ?_⟩
 case h => simp [results, Tryz.results77, go_sem]
 exact xcl
theorem br_Cmp_near (bx b2 : Nat) (x y : Int) (p q : Nat) (h : x.sign = y.sign) (h0 : x ≠ 0) (A : Option Addr) (n c : Nat) (D : Option Addr) (m e : Nat) (B : Option Addr) (n2 c2 : Nat) (C : Option Addr) (m2 e2 : Nat)
  (hn : n ≤ 100000) (hm : m ≤ 100000) (hn2 : n2 ≤ 100000) (hm2 : m2 ≤ 100000) (w : World) (hx : RatIs w bx x A n c p D m e) (hy : RatIs w b2 y B n2 c2 q C m2 e2) :
  Calls Tryz.prog 77 #[.pointer (some ⟨bx, 0, none⟩), .pointer (some ⟨b2, 0, none⟩)] w
   fun e w' => e = .returned (.int .i64 (x * (denOf q : Int) - y * (denOf p : Int)).sign) ∧ Ext w w' := by
 have HX := Lib.hid hx
 have HY := Lib.hid hy
 have lx := hx.int.room.lt
 have x0 := hx.int.neg
 have x1 := hx.int.words
 have ly := hy.int.room.lt
 have y1 := hy.int.words
 simp only [Nat.zero_add] at x1 y1
 have kX : ∀ w', Ext w w' → Calls Tryz.prog 66 #[.pointer (some ⟨bx, 0, none⟩)] w' fun e w'' => e = .returned (.int .i64 x.sign) ∧ Ext w' w'' := fun w' he => br_Sign _ _ _ _ _ w' (hx.int.ext he)
 have kY : ∀ w', Ext w w' → Calls Tryz.prog 66 #[.pointer (some ⟨b2, 0, none⟩)] w' fun e w'' => e = .returned (.int .i64 x.sign) ∧ Ext w' w'' := fun w' he => by rw [h]; exact br_Sign _ _ _ _ _ w' (hy.int.ext he)
 have dl := den_len hx hm (by decide)
 have dl2 := den_len hy hm2 (by decide)
 have bX : ∀ w', Ext w w' → Calls Tryz.prog 90 #[.pointer (some ⟨bx, 0, none⟩)] w' fun e' w'' => ∃ (B : Option Addr) (k l : Nat), e' = .returned (.slice B k l) ∧ Hid (Rd w'' B k l (lim (denOf p))) ∧ Ext w' w'' := fun w' he => (br_below _ _ _ _ _ _ _ _ _ w' (HX.out.ext he)).mono fun _ _ ⟨B, k, l, h1, h2, h3⟩ => ⟨B, k, l, h1, h2.out.1, h3⟩
 have bY : ∀ w', Ext w w' → Calls Tryz.prog 90 #[.pointer (some ⟨b2, 0, none⟩)] w' fun e' w'' => ∃ (B : Option Addr) (k l : Nat), e' = .returned (.slice B k l) ∧ Hid (Rd w'' B k l (lim (denOf q))) ∧ Ext w' w'' := fun w' he => (br_below _ _ _ _ _ _ _ _ _ w' (HY.out.ext he)).mono fun _ _ ⟨B, k, l, h1, h2, h3⟩ => ⟨B, k, l, h1, h2.out.1, h3⟩
 have mX : ∀ P1 k l w', Ext w w' → Rd w' P1 k l (lim (denOf q)) → Calls Tryz.prog 121 #[.slice A n c, .slice P1 k l] w' (WPost w' (x.natAbs * denOf q)) := fun P1 k l w' he h1 => bw_mulA A P1 n c k l _ _ (by have := h1.len; omega) w' (HX.out.int.rd.ext he) h1
 have mY : ∀ P1 k l w', Ext w w' → Rd w' P1 k l (lim (denOf p)) → Calls Tryz.prog 121 #[.slice B n2 c2, .slice P1 k l] w' (WPost w' (y.natAbs * denOf p)) := fun P1 k l w' he h1 => bw_mulA B P1 n2 c2 k l _ _ (by have := h1.len; omega) w' (HY.out.int.rd.ext he) h1
 have hs0 : (x.sign == 0) = false := by
  rw [beq_eq_false_iff_ne]; intro h2; exact h0 (Int.sign_eq_zero_iff_zero.1 h2)
 generalize denOf p = p at *
 generalize denOf q = q at *
 rw [rcmp_near h h0]
 have hwr := wrap_neg_cmp (x.natAbs * q) (y.natAbs * p)
 have hcm : ∀ P1 k1 l1 Q1 k2 l2 w', Rd w' P1 k1 l1 (lim (x.natAbs * q)) → Rd w' Q1 k2 l2 (lim (y.natAbs * p)) → Calls Tryz.prog 120 #[.slice P1 k1 l1, .slice Q1 k2 l2] w' fun e w'' => e = .returned (.int .i64 (cmpN (x.natAbs * q) (y.natAbs * p))) ∧ Ext w' w'' := fun P1 k1 l1 Q1 k2 l2 w' h1 h2 => bw_cmp P1 Q1 k1 l1 k2 l2 _ _ w' h1 h2
 clear hx hy h h0
 generalize x.natAbs * q = U at *
 generalize y.natAbs * p = V at *
 generalize cmpN U V = K at *
 generalize x.sign = X at *
 by_cases hneg : x < 0
 ·rw [if_pos hneg]
  rw [decide_eq_true hneg] at x0
  go_enter Tryz.func77, Tryz.ntmps77
  go_upto_region 7 with (first
   | (go_at_call 66; (with_reducible refine (kX _ (jT xb1 xb2)).mono ?_); rintro e w3 ⟨rfl, xb3⟩)
   | (go_at_call 66; (with_reducible refine (kX _ xcl).mono ?_); rintro e w1 ⟨rfl, xb1⟩)
   | (go_at_call 66; (with_reducible refine (kY _ xcl).mono ?_); rintro e w2 ⟨rfl, xb2⟩)
   )
  have hE3 : Hid (Ext w w3) := by show Ext w w3; exact xcl
  have x0' := (Below.cell (p := ⟨bx, 0, none⟩) hE3.out lx).trans x0
  have x1' := (Below.cell (p := ⟨bx, 1, none⟩) hE3.out lx).trans x1
  have y1' := (Below.cell (p := ⟨b2, 1, none⟩) hE3.out ly).trans y1
  have lx' := ext_lt hE3.out bx lx
  have ly' := ext_lt hE3.out b2 ly
  clear kX kY xb1 xb2 xb3
  refine D2.wp_drawn_tail 16 (D2.tab [(6, D2.RRow q), (7, RWord w3.heap.size U), (14, D2.RRow p), (15, RWord w3.heap.size V)]) (by kernel_rfl) (by kernel_rfl) (by kernel_rfl) (D2.tab_stays (by simp [D2.stays_row, D2.stays_word])) (fun hq hqf => ?_)
  simp only [List.take_succ_cons, List.take_zero, List.drop_succ_cons, List.drop_zero]
  have z1 := fun nq => (hq nq bx 1 lx').trans x1'
  have z3 := fun nq => (hq nq b2 1 ly').trans y1'
  iterate 6
   (refine D2.wpK_det rfl (fun K hK => ?_)
    go_simp
    first
     | (refine hK _ ?_; clear hK K)
     | (apply Exists.intro; refine ⟨fun x => ?_, hK _ ?_⟩; (first | exact z1 x | exact z3 x); clear hK K))
  refine D2.wpK_rel _ rfl rfl ?_ ?_
  ·rintro _ ⟨nn, rfl⟩ _
   unfold D2.Oper.relAt
   go_simp
   exact D2.rel_row (bY _ (jT hE3.out nn.use))
  rintro v ⟨_, ⟨nn, rfl⟩, hr⟩
  obtain ⟨A5, k5, c5, rfl, -⟩ := hr
  clear nn
  refine D2.wpK_rel _ rfl rfl ?_ ?_
  ·rintro _ ⟨nn, rfl⟩ hdep
   have q1 := hdep 6 (by kernel_rfl)
   simp only [D2.Facts.put] at q1
   have q2 := D2.row_at (vals := []) q1
   unfold D2.Oper.relAt
   go_simp
   exact D2.rel_wpost (ext_size nn.use) (mX _ _ _ _ (jT hE3.out nn.use) q2)
  rintro v ⟨_, ⟨nn, rfl⟩, hr⟩
  obtain ⟨A6, k6, c6, rfl, -, -⟩ := hr
  clear nn
  iterate 6
   (refine D2.wpK_det rfl (fun K hK => ?_)
    go_simp
    first
     | (refine hK _ ?_; clear hK K)
     | (apply Exists.intro; refine ⟨fun x => ?_, hK _ ?_⟩; (first | exact z1 x | exact z3 x); clear hK K))
  refine D2.wpK_rel _ rfl rfl ?_ ?_
  ·rintro _ ⟨nn, rfl⟩ _
   unfold D2.Oper.relAt
   go_simp
   exact D2.rel_row (bX _ (jT hE3.out nn.use))
  rintro v ⟨_, ⟨nn, rfl⟩, hr⟩
  obtain ⟨A7, k7, c7, rfl, -⟩ := hr
  clear nn
  refine D2.wpK_rel _ rfl rfl ?_ ?_
  ·rintro _ ⟨nn, rfl⟩ hdep
   have q1 := hdep 14 (by kernel_rfl)
   simp only [D2.Facts.put] at q1
   have q2 := D2.row_at (vals := []) q1
   unfold D2.Oper.relAt
   go_simp
   exact D2.rel_wpost (ext_size nn.use) (mY _ _ _ _ (jT hE3.out nn.use) q2)
  rintro v ⟨_, ⟨nn, rfl⟩, hr⟩
  obtain ⟨A8, k8, c8, rfl, -, -⟩ := hr
  clear nn
  refine D2.wpK_nil ?_
  intro nq hG
  have r6 : RWord w3.heap.size U [] (.slice A6 k6 c6) nq.out := by have := hG.fact 7; simp [D2.Facts.put] at this; exact this
  have r8 : RWord w3.heap.size V [] (.slice A8 k8 c8) nq.out := by have := hG.fact 15; simp [D2.Facts.put] at this; exact this
  have hR6 := Lib.hid (rword_at r6)
  have hR8 := Lib.hid (rword_at r8)
  have hE := Lib.hid (jT hE3.out nq.use)
  have x0q := (Below.cell (p := ⟨bx, 0, none⟩) nq.use lx').trans x0'
  have lxq := ext_lt nq.use bx lx'
  clear r6 r8 hG
  go_wp2_with (first
   | (go_at_call 120; (with_reducible refine (hcm _ _ _ _ _ _ _ hR6.out.1 hR8.out.1).mono ?_); rintro e w9 ⟨rfl, xb9⟩; obtain ⟨xc9, xf9, xl9, xz9⟩ := jU xb9; (try simp at xz9); obtain ⟨l9_0, r9_0, f9_0, r9_0_1, f9_0_1⟩ := kq2 xb9 (bx))
   )
  refine bodyPost_ret (v := .int .i64 (-K)) ?h rfl ⟨rfl, jT hE.out xb9⟩
  case h => simp [results, Tryz.results77, go_sem]
 ·rw [if_neg hneg]
  rw [decide_eq_false hneg] at x0
  go_enter Tryz.func77, Tryz.ntmps77
  go_upto_region 7 with (first
   | (go_at_call 66; (with_reducible refine (kX _ (jT xb1 xb2)).mono ?_); rintro e w3 ⟨rfl, xb3⟩)
   | (go_at_call 66; (with_reducible refine (kX _ xcl).mono ?_); rintro e w1 ⟨rfl, xb1⟩)
   | (go_at_call 66; (with_reducible refine (kY _ xcl).mono ?_); rintro e w2 ⟨rfl, xb2⟩)
   )
  have hE3 : Hid (Ext w w3) := by show Ext w w3; exact xcl
  have x0' := (Below.cell (p := ⟨bx, 0, none⟩) hE3.out lx).trans x0
  have x1' := (Below.cell (p := ⟨bx, 1, none⟩) hE3.out lx).trans x1
  have y1' := (Below.cell (p := ⟨b2, 1, none⟩) hE3.out ly).trans y1
  have lx' := ext_lt hE3.out bx lx
  have ly' := ext_lt hE3.out b2 ly
  clear kX kY xb1 xb2 xb3
  refine D2.wp_drawn_tail 16 (D2.tab [(6, D2.RRow q), (7, RWord w3.heap.size U), (14, D2.RRow p), (15, RWord w3.heap.size V)]) (by kernel_rfl) (by kernel_rfl) (by kernel_rfl) (D2.tab_stays (by simp [D2.stays_row, D2.stays_word])) (fun hq hqf => ?_)
  simp only [List.take_succ_cons, List.take_zero, List.drop_succ_cons, List.drop_zero]
  have z1 := fun nq => (hq nq bx 1 lx').trans x1'
  have z3 := fun nq => (hq nq b2 1 ly').trans y1'
  iterate 6
   (refine D2.wpK_det rfl (fun K hK => ?_)
    go_simp
    first
     | (refine hK _ ?_; clear hK K)
     | (apply Exists.intro; refine ⟨fun x => ?_, hK _ ?_⟩; (first | exact z1 x | exact z3 x); clear hK K))
  refine D2.wpK_rel _ rfl rfl ?_ ?_
  ·rintro _ ⟨nn, rfl⟩ _
   unfold D2.Oper.relAt
   go_simp
   exact D2.rel_row (bY _ (jT hE3.out nn.use))
  rintro v ⟨_, ⟨nn, rfl⟩, hr⟩
  obtain ⟨A5, k5, c5, rfl, -⟩ := hr
  clear nn
  refine D2.wpK_rel _ rfl rfl ?_ ?_
  ·rintro _ ⟨nn, rfl⟩ hdep
   have q1 := hdep 6 (by kernel_rfl)
   simp only [D2.Facts.put] at q1
   have q2 := D2.row_at (vals := []) q1
   unfold D2.Oper.relAt
   go_simp
   exact D2.rel_wpost (ext_size nn.use) (mX _ _ _ _ (jT hE3.out nn.use) q2)
  rintro v ⟨_, ⟨nn, rfl⟩, hr⟩
  obtain ⟨A6, k6, c6, rfl, -, -⟩ := hr
  clear nn
  iterate 6
   (refine D2.wpK_det rfl (fun K hK => ?_)
    go_simp
    first
     | (refine hK _ ?_; clear hK K)
     | (apply Exists.intro; refine ⟨fun x => ?_, hK _ ?_⟩; (first | exact z1 x | exact z3 x); clear hK K))
  refine D2.wpK_rel _ rfl rfl ?_ ?_
  ·rintro _ ⟨nn, rfl⟩ _
   unfold D2.Oper.relAt
   go_simp
   exact D2.rel_row (bX _ (jT hE3.out nn.use))
  rintro v ⟨_, ⟨nn, rfl⟩, hr⟩
  obtain ⟨A7, k7, c7, rfl, -⟩ := hr
  clear nn
  refine D2.wpK_rel _ rfl rfl ?_ ?_
  ·rintro _ ⟨nn, rfl⟩ hdep
   have q1 := hdep 14 (by kernel_rfl)
   simp only [D2.Facts.put] at q1
   have q2 := D2.row_at (vals := []) q1
   unfold D2.Oper.relAt
   go_simp
   exact D2.rel_wpost (ext_size nn.use) (mY _ _ _ _ (jT hE3.out nn.use) q2)
  rintro v ⟨_, ⟨nn, rfl⟩, hr⟩
  obtain ⟨A8, k8, c8, rfl, -, -⟩ := hr
  clear nn
  refine D2.wpK_nil ?_
  intro nq hG
  have r6 : RWord w3.heap.size U [] (.slice A6 k6 c6) nq.out := by have := hG.fact 7; simp [D2.Facts.put] at this; exact this
  have r8 : RWord w3.heap.size V [] (.slice A8 k8 c8) nq.out := by have := hG.fact 15; simp [D2.Facts.put] at this; exact this
  have hR6 := Lib.hid (rword_at r6)
  have hR8 := Lib.hid (rword_at r8)
  have hE := Lib.hid (jT hE3.out nq.use)
  have x0q := (Below.cell (p := ⟨bx, 0, none⟩) nq.use lx').trans x0'
  have lxq := ext_lt nq.use bx lx'
  clear r6 r8 hG
  go_wp2_with (first
   | (go_at_call 120; (with_reducible refine (hcm _ _ _ _ _ _ _ hR6.out.1 hR8.out.1).mono ?_); rintro e w9 ⟨rfl, xb9⟩; obtain ⟨xc9, xf9, xl9, xz9⟩ := jU xb9; (try simp at xz9); obtain ⟨l9_0, r9_0, f9_0, r9_0_1, f9_0_1⟩ := kq2 xb9 (bx))
   )
  refine bodyPost_ret (v := .int .i64 K) ?h rfl ⟨rfl, jT hE.out xb9⟩
  case h => simp [results, Tryz.results77, go_sem]
theorem br_Cmp (bx b2 : Nat) (x y : Int) (p q : Nat) (A : Option Addr) (n c : Nat) (D : Option Addr) (m e : Nat) (B : Option Addr) (n2 c2 : Nat) (C : Option Addr) (m2 e2 : Nat)
  (hn : n ≤ 100000) (hm : m ≤ 100000) (hn2 : n2 ≤ 100000) (hm2 : m2 ≤ 100000) (w : World) (hx : RatIs w bx x A n c p D m e) (hy : RatIs w b2 y B n2 c2 q C m2 e2) :
  Calls Tryz.prog 77 #[.pointer (some ⟨bx, 0, none⟩), .pointer (some ⟨b2, 0, none⟩)] w
   fun e w' => e = .returned (.int .i64 (x * (denOf q : Int) - y * (denOf p : Int)).sign) ∧ Ext w w' := by
 by_cases h : x.sign = y.sign
 ·by_cases h0 : x = 0
  ·have hy0 : y = 0 := by rw [h0] at h; exact Int.sign_eq_zero_iff_zero.1 h.symm
   exact br_Cmp_nil bx b2 x y p q h0 hy0 A n c D m e B n2 c2 C m2 e2 w hx hy
  ·exact br_Cmp_near bx b2 x y p q h h0 A n c D m e B n2 c2 C m2 e2 hn hm hn2 hm2 w hx hy
 ·exact br_Cmp_far bx b2 x y p q h A n c D m e B n2 c2 C m2 e2 w hx hy
end Go.Proofs.YtfdmhefjmnlllaaGreatDoor
end
section
/- The program's fractions: sums, products, order. -/
namespace Go.Proofs.YtfdmhefjmnlllaaGreatDoor
open Go.RowKit
attribute [local go_sem] sz2 sz3 sz4 sz5 sz6 sz7 sz8
set_option maxHeartbeats 4000000
set_option maxRecDepth 100000
attribute [local irreducible] Calls
theorem run_makeFunc'' (P : Program) (fn : Fn) (first cap : Array Value) (w : World) : (Instr.makeFunc fn first cap).run P w = .ok (.func fn first cap) w := rfl
attribute [local go_sem] run_makeFunc''
theorem tch_set3 {g : Nat} {w W : World} (h : Tch g w W) {b : Nat} (hb : w.heap.size ≤ b) (v0 v1 v2 : Value) : Tch g w (((W.setCell ⟨b, 0, none⟩ v0).setCell ⟨b, 1, none⟩ v1).setCell ⟨b, 2, none⟩ v2) := by
 have one : ∀ {U : World} (o : Nat) (v : Value), Tch g w U → Tch g w (U.setCell ⟨b, o, none⟩ v) := fun o v h =>
  ⟨h.os, h.tape, h.output, by simpa using h.size, fun i hi hg => (Below.heap_setCell _ ⟨b, o, none⟩ v i (by simp only; omega)).trans (h.block i hi hg)⟩
 exact one 2 v2 (one 1 v1 (one 0 v0 h))
abbrev OPost (g : Nat) (w : World) (z : Int) (d : Nat) : Ending → World → Prop := fun e w' => ∃ (A : Option Addr) (n c : Nat) (D : Option Addr) (m k : Nat), e = .returned (.tuple #[ratV (decide (z < 0)) A n c D m k, .int .i64 0]) ∧
 Hid (RdO w' A n c (lim z.natAbs) none ∧ Fr w A ∧ RdO w' D m k (lim d) A ∧ Fr w D) ∧ Tch g w w'
theorem ra_of_Add (g : Nat) (zn : Int) (zd : Nat) (hz1 : (lim zn.natAbs).length ≤ 16384) (hz2 : (lim zd).length ≤ 16384) (hz3 : (lim (denOf zd)).length ≤ 16384)
  (neg : Bool) (A : Option Addr) (n c a : Nat) (D : Option Addr) (m k d : Nat) (hd : d ≠ 0) (hn : n ≤ 16384) (hm : m ≤ 16384) (hg : Nat.gcd a d = 1) (hng : neg = true → a ≠ 0)
  (neg2 : Bool) (B : Option Addr) (n2 c2 b : Nat) (C : Option Addr) (m2 k2 q : Nat) (hq : q ≠ 0) (hn2 : n2 ≤ 16384) (hm2 : m2 ≤ 16384) (hg2 : Nat.gcd b q = 1) (hng2 : neg2 = true → b ≠ 0)
  (w : World) (hT : Tz w) (hr : RatRoom w g) (hA : Rd w A n c (lim a)) (hD : Rd w D m k (lim d)) (hB : Rd w B n2 c2 (lim b)) (hC : Rd w C m2 k2 (lim q))
  (hop : ∀ bx X n' c' Y m' k' b2 X2 n2' c2' Y2 m2' k2' w', Ext w w' → RatIs w' bx (sgn neg a) X n' c' (lowD a d) Y m' k' → RatIs w' b2 (sgn neg2 b) X2 n2' c2' (lowD b q) Y2 m2' k2' → Off Y m' g → Off Y2 m2' g → Calls Tryz.prog 39 #[.pointer (some ⟨g, 0, none⟩), .pointer (some ⟨bx, 0, none⟩), .pointer (some ⟨b2, 0, none⟩)] w' (FPost w' g zn zd)) :
  Calls Tryz.prog 36 #[ratV neg A n c D m k, ratV neg2 B n2 c2 C m2 k2, .func (.func 39) #[.pointer (some ⟨g, 0, none⟩)] #[]] w (OPost g w zn (denOf zd)) := by
 have HT := Lib.hid hT
 have hgl := hr.int.lt
 have kA : ∀ w', Ext w w' → Calls Tryz.prog 40 #[ratV neg A n c D m k] w' (KPost w' (sgn neg a) (lowD a d)) := fun w' he => ra_taken neg A n c a D m k d hd hn hm hg hng w' (hT.ext he) (hA.ext he) (hD.ext he)
 have kB : ∀ w', Ext w w' → Calls Tryz.prog 40 #[ratV neg2 B n2 c2 C m2 k2] w' (KPost w' (sgn neg2 b) (lowD b q)) := fun w' he => ra_taken neg2 B n2 c2 b C m2 k2 q hq hn2 hm2 hg2 hng2 w' (hT.ext he) (hB.ext he) (hC.ext he)
 clear hA hB hC hD hT hr hng hng2 hg hg2 hd hq
 generalize lowD a d = da at *
 generalize lowD b q = db at *
 generalize sgn neg a = za at *
 generalize sgn neg2 b = zb at *
 have HZ := Lib.hid (And.intro hz1 (And.intro hz2 hz3))
 clear hz1 hz2 hz3
 go_enter Tryz.func36, Tryz.ntmps36
 go_upto_region 7 with (first
  | (go_at_call 40; (with_reducible refine (kA _ xcl).mono ?_); rintro e w1 ⟨b1, A1, n1, c1, D1, m1, k1, rfl, hR1, hb1, xb1⟩; obtain ⟨xc1, xf1, xl1, xz1⟩ := jU xb1; (try simp at xz1); obtain ⟨l1_0, r1_0, f1_0, r1_0_1, f1_0_1, r1_0_2, f1_0_2⟩ := kq3 xb1 (w.heap.size); obtain ⟨l1_1, r1_1, f1_1, r1_1_1, f1_1_1, r1_1_2, f1_1_2⟩ := kq3 xb1 (w.heap.size + 1); obtain ⟨l1_2, r1_2, f1_2, r1_2_1, f1_2_1, r1_2_2, f1_2_2⟩ := kq3 xb1 (w.heap.size + 1 + 1))
  | (go_at_call 40; (with_reducible refine (kB _ xcl).mono ?_); rintro e w2 ⟨b2, A2, n2, c2, D2, m2, k2, rfl, hR2, hb2, xb2⟩; obtain ⟨xc2, xf2, xl2, xz2⟩ := jU xb2; (try simp at xz2); obtain ⟨l2_0, r2_0, f2_0, r2_0_1, f2_0_1, r2_0_2, f2_0_2⟩ := kq3 xb2 (w.heap.size); obtain ⟨l2_1, r2_1, f2_1, r2_1_1, f2_1_1, r2_1_2, f2_1_2⟩ := kq3 xb2 (w.heap.size + 1); obtain ⟨l2_2, r2_2, f2_2, r2_2_1, f2_2_1, r2_2_2, f2_2_2⟩ := kq3 xb2 (w.heap.size + 1 + 1))
  )
 have hEw : Hid (Ext w w2) := by show Ext w w2; exact xcl
 have hR1' := Lib.hid (hR1.out.1.ext (show Ext w1 w2 by exact xcl))
 have l1 := hR1'.out.int.room.lt
 have hO1 : Off D1 m1 g := hR1.out.2.2.off (by simp; omega) m1
 have hO2 : Off D2 m2 g := hR2.out.2.2.off (by have := ext_lt xb1 g (by simp; omega); simpa using this) m2
 have kop := hop b1 A1 n1 c1 D1 m1 k1 b2 A2 n2 c2 D2 m2 k2 w2 hEw.out hR1'.out hR2.out.1 hO1 hO2
 have z0 : w2.cell? ⟨w.heap.size + 1 + 1, 0, none⟩ = some (.bool false) := by simp [go_sem, *]
 have z1 : w2.cell? ⟨w.heap.size + 1 + 1, 1, none⟩ = some (.slice none 0 0) := by simp [go_sem, *]
 have z2 : w2.cell? ⟨w.heap.size + 1 + 1, 2, none⟩ = some (.slice none 0 0) := by simp [go_sem, *]
 have f0 : w2.frozen? ⟨w.heap.size + 1 + 1, 0, none⟩ = false := by simp [go_sem, *]
 have f1 : w2.frozen? ⟨w.heap.size + 1 + 1, 1, none⟩ = false := by simp [go_sem, *]
 have f2 : w2.frozen? ⟨w.heap.size + 1 + 1, 2, none⟩ = false := by simp [go_sem, *]
 have zl : w.heap.size + 1 + 1 < w2.heap.size := by assumption
 clear hop kA kB hO1 hO2
 go_wp2_with (first
  | (go_at_call 39; (with_reducible refine kop.mono ?_); rintro e w3 ⟨rfl, A3, n3, c3, D3, m3, k3, hR3, xt3⟩)
  )
 have g0 := (xt3.cell (p := ⟨w.heap.size + 1 + 1, 0, none⟩) zl (by simp only; omega)).trans z0
 have g1 := (xt3.cell (p := ⟨w.heap.size + 1 + 1, 1, none⟩) zl (by simp only; omega)).trans z1
 have g2 := (xt3.cell (p := ⟨w.heap.size + 1 + 1, 2, none⟩) zl (by simp only; omega)).trans z2
 have e0 := (xt3.frozen (p := ⟨w.heap.size + 1 + 1, 0, none⟩) zl (by simp only; omega)).trans f0
 have e1 := (xt3.frozen (p := ⟨w.heap.size + 1 + 1, 1, none⟩) zl (by simp only; omega)).trans f1
 have e2 := (xt3.frozen (p := ⟨w.heap.size + 1 + 1, 2, none⟩) zl (by simp only; omega)).trans f2
 have gl := Nat.lt_of_lt_of_le zl xt3.size
 have hl3 : n3 ≤ 16384 := by rw [← hR3.out.1.int.rd.len]; exact HZ.out.1
 have hm3 : m3 ≤ 100000 := by rw [← hR3.out.1.rd.len]; exact Nat.le_trans HZ.out.2.1 (by decide)
 clear z0 z1 z2 f0 f1 f2 xb1 xb2
 go_wp2_with (first
  | (go_at_call 64; (with_reducible refine (ra_told_ok g zn A3 n3 c3 zd D3 m3 k3 hl3 hm3 HZ.out.2.2 _ hR3.out.1).mono ?_); rintro e w4 ⟨A4, n4, c4, D4, m4, k4, rfl, hI4, xb4⟩; obtain ⟨xc4, xf4, xl4, xz4⟩ := jU xb4; (try simp at xz4); obtain ⟨l4_0, r4_0, f4_0, r4_0_1, f4_0_1, r4_0_2, f4_0_2⟩ := kq3 xb4 (w.heap.size + 1 + 1))
  )
 have hlt4 : w.heap.size + 1 + 1 < w3.heap.size := gl
 have n5 : ∀ x, A4 = some x → w.heap.size + 1 + 1 < x.block := fun x hx => by have := hI4.out.2.1 x hx; omega
 have n6 : ∀ x, D4 = some x → w.heap.size + 1 + 1 < x.block := fun x hx => by have := hI4.out.2.2.2 x hx; omega
 have z0 : w4.cell? ⟨w.heap.size + 1 + 1, 0, none⟩ = some (.bool false) := by simp [go_sem, *]
 have z1 : w4.cell? ⟨w.heap.size + 1 + 1, 1, none⟩ = some (.slice none 0 0) := by simp [go_sem, *]
 have z2 : w4.cell? ⟨w.heap.size + 1 + 1, 2, none⟩ = some (.slice none 0 0) := by simp [go_sem, *]
 obtain ⟨q0, q1, q2⟩ := set3 (b := w.heap.size + 1 + 1) z0 z1 z2 (.bool (decide (zn < 0))) (.slice A4 n4 c4) (.slice D4 m4 k4)
 have hTT : Tch g w w4 := ((Tch.of hEw.out).trans xt3).trans (Tch.of xb4)
 refine bodyPost_ret (v := .tuple #[ratV (decide (zn < 0)) A4 n4 c4 D4 m4 k4, .int .i64 0]) ?h rfl ⟨A4, n4, c4, D4, m4, k4, rfl, ⟨hI4.out.1.set3 n5 _ _ _, fun x hx => Nat.le_of_lt (by have := n5 x hx; omega), hI4.out.2.2.1.set3 n6 _ _ _, fun x hx => Nat.le_of_lt (by have := n6 x hx; omega)⟩, tch_set3 hTT (by omega) _ _ _⟩
 case h => simp [results, Tryz.results36, go_sem, q0, q1, q2]
theorem canN_le (z : Int) (d : Nat) : (canN z d).natAbs ≤ z.natAbs := by unfold canN; rw [sgn_abs]; exact Nat.div_le_self _ _
theorem canD_le (z : Int) (d : Nat) : canD z d ≤ d := by unfold canD; exact Nat.div_le_self _ _
theorem canW_le (z : Int) (d : Nat) : canW z d ≤ d := by unfold canW; split; exact Nat.zero_le _; exact canD_le z d
theorem den_low {a d : Nat} (hd : d ≠ 0) (hg : Nat.gcd a d = 1) : denOf (lowD a d) = d := by
 unfold denOf lowD
 by_cases h0 : a = 0
 ·rw [if_pos h0, if_pos rfl]; subst h0; rw [Nat.gcd_zero_left] at hg; exact hg.symm
 ·rw [if_neg h0, hg, Nat.div_one, if_neg hd]
theorem lowD_le (a d : Nat) : lowD a d ≤ d := by unfold lowD; split; exact Nat.zero_le _; exact Nat.div_le_self _ _
theorem sum_room {x y : Int} {d q n : Nat} (h1 : (lim x.natAbs).length ≤ n) (h2 : (lim y.natAbs).length ≤ n) (h3 : (lim d).length ≤ n) (h4 : (lim q).length ≤ n) : (lim (x * (q : Int) + y * (d : Int)).natAbs).length ≤ 2 * n + 1 := by
 refine sum_len' ?_ ?_
 ·rw [Int.natAbs_mul, Int.natAbs_natCast]; exact Nat.le_trans (lim_mul_len _ _) (by omega)
 ·rw [Int.natAbs_mul, Int.natAbs_natCast]; exact Nat.le_trans (lim_mul_len _ _) (by omega)
theorem ra_Add (neg : Bool) (A : Option Addr) (n c a : Nat) (D : Option Addr) (m k d : Nat) (hd : d ≠ 0) (hn : n ≤ 4000) (hm : m ≤ 4000) (hg : Nat.gcd a d = 1) (hng : neg = true → a ≠ 0)
  (neg2 : Bool) (B : Option Addr) (n2 c2 b : Nat) (C : Option Addr) (m2 k2 q : Nat) (hq : q ≠ 0) (hn2 : n2 ≤ 4000) (hm2 : m2 ≤ 4000) (hg2 : Nat.gcd b q = 1) (hng2 : neg2 = true → b ≠ 0)
  (w : World) (hT : Tz w) (hA : Rd w A n c (lim a)) (hD : Rd w D m k (lim d)) (hB : Rd w B n2 c2 (lim b)) (hC : Rd w C m2 k2 (lim q)) :
  Calls Tryz.prog 24 #[ratV neg A n c D m k, ratV neg2 B n2 c2 C m2 k2] w (TPost w (canN (sgn neg a * (q : Int) + sgn neg2 b * (d : Int)) (d * q)) (canD (sgn neg a * (q : Int) + sgn neg2 b * (d : Int)) (d * q))) := by
 have h1 : (lim (sgn neg a).natAbs).length ≤ 4000 := by rw [sgn_abs, hA.len]; exact hn
 have h2 : (lim (sgn neg2 b).natAbs).length ≤ 4000 := by rw [sgn_abs, hB.len]; exact hn2
 have h3 : (lim d).length ≤ 4000 := by rw [hD.len]; exact hm
 have h4 : (lim q).length ≤ 4000 := by rw [hC.len]; exact hm2
 have hdq : (lim (d * q)).length ≤ 8001 := Nat.le_trans (lim_mul_len _ _) (by omega)
 have hz : (lim (sgn neg a * (q : Int) + sgn neg2 b * (d : Int)).natAbs).length ≤ 8001 := sum_room h1 h2 h3 h4
 rw [← canW_den (Nat.mul_ne_zero hd hq)]
 have kO : ∀ G W, RatRoom W G → Ext w W → Calls Tryz.prog 36 #[ratV neg A n c D m k, ratV neg2 B n2 c2 C m2 k2, .func (.func 39) #[.pointer (some ⟨G, 0, none⟩)] #[]] W (OPost G W (canN (sgn neg a * (q : Int) + sgn neg2 b * (d : Int)) (d * q)) (denOf (canW (sgn neg a * (q : Int) + sgn neg2 b * (d : Int)) (d * q)))) := fun G W hr hW => by
  refine ra_of_Add G _ _ (Nat.le_trans (lim_mono (canN_le _ _)) (by omega)) (Nat.le_trans (lim_mono (canW_le _ _)) (by omega)) ?_ neg A n c a D m k d hd (by omega) (by omega) hg hng neg2 B n2 c2 b C m2 k2 q hq (by omega) (by omega) hg2 hng2 W (hT.ext hW) hr (hA.ext hW) (hD.ext hW) (hB.ext hW) (hC.ext hW) ?_
  ·rw [canW_den (Nat.mul_ne_zero hd hq)]; exact Nat.le_trans (lim_mono (canD_le _ _)) (by omega)
  ·intro bx X n' c' Y m' k' b2 X2 n2' c2' Y2 m2' k2' w' he h5 h6 h7 h8
   have l1 := h5.int.rd.len
   have l2 := h5.rd.len
   have l3 := h6.int.rd.len
   have l4 := h6.rd.len
   have l5 := lim_mono (lowD_le a d)
   have l6 := lim_mono (lowD_le b q)
   have := br_Add G bx b2 (sgn neg a) (sgn neg2 b) (lowD a d) (lowD b q) (by rw [sgn_abs, den_low hd hg]; exact hg) (by rw [sgn_abs, den_low hq hg2]; exact hg2) X n' c' Y m' k' X2 n2' c2' Y2 m2' k2' (by omega) (by omega) (by omega) (by omega) w' ((hT.ext hW).ext he) (hr.ext he) h5 h6 h7 h8
   rwa [den_low hd hg, den_low hq hg2] at this
 clear hT hA hB hC hD hng hng2 hg hg2 hd hq h1 h2 h3 h4 hz hdq
 generalize canN (sgn neg a * (q : Int) + sgn neg2 b * (d : Int)) (d * q) = zn at kO ⊢
 generalize canW (sgn neg a * (q : Int) + sgn neg2 b * (d : Int)) (d * q) = zd at kO ⊢
 have kO' : Calls Tryz.prog 36 #[ratV neg A n c D m k, ratV neg2 B n2 c2 C m2 k2, .func (.func 39) #[.pointer (some ⟨w.heap.size + 1 + 1 + 1, 0, none⟩)] #[]] ((((w.alloc (Obj.cells #[.bool neg, .slice A n c, .slice D m k] 26)).alloc (Obj.cells #[.bool neg2, .slice B n2 c2, .slice C m2 k2] 26)).alloc (Obj.cells #[.bool false, .slice none 0 0, .slice none 0 0] 26)).alloc (Obj.cells #[.bool false, .slice none 0 0, .slice none 0 0] 68))
   fun e w' => ∃ (A : Option Addr) (n c : Nat) (D : Option Addr) (m k : Nat), e = .returned (.tuple #[ratV (decide (zn < 0)) A n c D m k, .int .i64 0]) ∧ Hid (RdO w' A n c (lim zn.natAbs) none ∧ (∀ x, A = some x → w.heap.size + 1 + 1 < x.block) ∧ RdO w' D m k (lim (denOf zd)) A ∧ (∀ x, D = some x → w.heap.size + 1 + 1 < x.block)) ∧
    w'.cell? ⟨w.heap.size + 1 + 1, 0, none⟩ = some (.bool false) ∧ w'.cell? ⟨w.heap.size + 1 + 1, 1, none⟩ = some (.slice none 0 0) ∧ w'.cell? ⟨w.heap.size + 1 + 1, 2, none⟩ = some (.slice none 0 0) ∧
    w'.frozen? ⟨w.heap.size + 1 + 1, 0, none⟩ = false ∧ w'.frozen? ⟨w.heap.size + 1 + 1, 1, none⟩ = false ∧ w'.frozen? ⟨w.heap.size + 1 + 1, 2, none⟩ = false ∧ w.heap.size + 1 + 1 < w'.heap.size ∧ Hid (Ext w w') := by
  have hr := rat_room (((w.alloc (Obj.cells #[.bool neg, .slice A n c, .slice D m k] 26)).alloc (Obj.cells #[.bool neg2, .slice B n2 c2, .slice C m2 k2] 26)).alloc (Obj.cells #[.bool false, .slice none 0 0, .slice none 0 0] 26))
  have e0 : (((w.alloc (Obj.cells #[.bool neg, .slice A n c, .slice D m k] 26)).alloc (Obj.cells #[.bool neg2, .slice B n2 c2, .slice C m2 k2] 26)).alloc (Obj.cells #[.bool false, .slice none 0 0, .slice none 0 0] 26)).heap.size = w.heap.size + 1 + 1 + 1 := by simp
  rw [e0] at hr
  have hEx : Ext w ((((w.alloc (Obj.cells #[.bool neg, .slice A n c, .slice D m k] 26)).alloc (Obj.cells #[.bool neg2, .slice B n2 c2, .slice C m2 k2] 26)).alloc (Obj.cells #[.bool false, .slice none 0 0, .slice none 0 0] 26)).alloc (Obj.cells #[.bool false, .slice none 0 0, .slice none 0 0] 68)) := jA (jA (jA (jA (jR _) _) _) _) _
  refine (kO _ _ hr hEx).mono ?_
  rintro e w' ⟨A1, n1, c1, D1, m1, k1, rfl, h1, h2⟩
  have hsz := hr.int.lt
  have hs2 := h2.size
  have lt : ∀ o, (⟨w.heap.size + 1 + 1, o, none⟩ : Addr).block ≠ w.heap.size + 1 + 1 + 1 := fun o => by simp
  have lb : w.heap.size + 1 + 1 < ((((w.alloc (Obj.cells #[.bool neg, .slice A n c, .slice D m k] 26)).alloc (Obj.cells #[.bool neg2, .slice B n2 c2, .slice C m2 k2] 26)).alloc (Obj.cells #[.bool false, .slice none 0 0, .slice none 0 0] 26)).alloc (Obj.cells #[.bool false, .slice none 0 0, .slice none 0 0] 68)).heap.size := by simp
  refine ⟨A1, n1, c1, D1, m1, k1, rfl, ⟨h1.out.1, fun x hx => by have := h1.out.2.1 x hx; omega, h1.out.2.2.1, fun x hx => by have := h1.out.2.2.2 x hx; omega⟩,
   (h2.cell (p := ⟨w.heap.size + 1 + 1, 0, none⟩) lb (lt 0)).trans (by simp [go_sem]), (h2.cell (p := ⟨w.heap.size + 1 + 1, 1, none⟩) lb (lt 1)).trans (by simp [go_sem]), (h2.cell (p := ⟨w.heap.size + 1 + 1, 2, none⟩) lb (lt 2)).trans (by simp [go_sem]),
   (h2.frozen (p := ⟨w.heap.size + 1 + 1, 0, none⟩) lb (lt 0)).trans (by simp [go_sem]), (h2.frozen (p := ⟨w.heap.size + 1 + 1, 1, none⟩) lb (lt 1)).trans (by simp [go_sem]), (h2.frozen (p := ⟨w.heap.size + 1 + 1, 2, none⟩) lb (lt 2)).trans (by simp [go_sem]), Nat.lt_of_lt_of_le lb hs2, h2.ext hEx (by omega)⟩
 clear kO
 go_enter Tryz.func24, Tryz.ntmps24
 go_wp2_with (first
  | (go_at_call 36; (with_reducible refine kO'.mono ?_); rintro e w1 ⟨A1, n1, c1, D1, m1, k1, rfl, hI1, z0, z1, z2, f0, f1, f2, zl, hE1⟩)
  )
 obtain ⟨q0, q1, q2⟩ := set3 (b := w.heap.size + 1 + 1) z0 z1 z2 (.bool (decide (zn < 0))) (.slice A1 n1 c1) (.slice D1 m1 k1)
 have n5 := hI1.out.2.1
 have n6 := hI1.out.2.2.2
 refine bodyPost_ret (v := .tuple #[ratV (decide (zn < 0)) A1 n1 c1 D1 m1 k1, .int .i64 0]) ?h rfl ⟨A1, n1, c1, D1, m1, k1, rfl, ⟨hI1.out.1.set3 n5 _ _ _, fun x hx => Nat.le_of_lt (by have := n5 x hx; omega), hI1.out.2.2.1.set3 n6 _ _ _, fun x hx => Nat.le_of_lt (by have := n6 x hx; omega)⟩, ext_set3 hE1.out (by omega) _ _ _⟩
 case h => simp [results, Tryz.results24, go_sem, q0, q1, q2]
end Go.Proofs.YtfdmhefjmnlllaaGreatDoor
end
section
/- The program's fractions: order. -/
namespace Go.Proofs.YtfdmhefjmnlllaaGreatDoor
open Go.RowKit
attribute [local go_sem] sz2 sz3 sz4 sz5 sz6 sz7 sz8
set_option maxHeartbeats 4000000
set_option maxRecDepth 100000
attribute [local irreducible] Calls
theorem ra_Cmp (neg : Bool) (A : Option Addr) (n c a : Nat) (D : Option Addr) (m k d : Nat) (hd : d ≠ 0) (hn : n ≤ 16384) (hm : m ≤ 16384) (hg : Nat.gcd a d = 1) (hng : neg = true → a ≠ 0)
  (neg2 : Bool) (B : Option Addr) (n2 c2 b : Nat) (C : Option Addr) (m2 k2 q : Nat) (hq : q ≠ 0) (hn2 : n2 ≤ 16384) (hm2 : m2 ≤ 16384) (hg2 : Nat.gcd b q = 1) (hng2 : neg2 = true → b ≠ 0)
  (w : World) (hT : Tz w) (hA : Rd w A n c (lim a)) (hD : Rd w D m k (lim d)) (hB : Rd w B n2 c2 (lim b)) (hC : Rd w C m2 k2 (lim q)) :
  Calls Tryz.prog 30 #[ratV neg A n c D m k, ratV neg2 B n2 c2 C m2 k2] w fun e w' => e = .returned (.tuple #[.int .i64 (sgn neg a * (q : Int) - sgn neg2 b * (d : Int)).sign, .int .i64 0]) ∧ Ext w w' := by
 have kA : ∀ w', Ext w w' → Calls Tryz.prog 40 #[ratV neg A n c D m k] w' (KPost w' (sgn neg a) (lowD a d)) := fun w' he => ra_taken neg A n c a D m k d hd hn hm hg hng w' (hT.ext he) (hA.ext he) (hD.ext he)
 have kB : ∀ w', Ext w w' → Calls Tryz.prog 40 #[ratV neg2 B n2 c2 C m2 k2] w' (KPost w' (sgn neg2 b) (lowD b q)) := fun w' he => ra_taken neg2 B n2 c2 b C m2 k2 q hq hn2 hm2 hg2 hng2 w' (hT.ext he) (hB.ext he) (hC.ext he)
 have hla := hA.len
 have hld := hD.len
 have hlb := hB.len
 have hlq := hC.len
 have kC : ∀ bx X n' c' Y m' k' b2 X2 n2' c2' Y2 m2' k2' w', RatIs w' bx (sgn neg a) X n' c' (lowD a d) Y m' k' → RatIs w' b2 (sgn neg2 b) X2 n2' c2' (lowD b q) Y2 m2' k2' → Calls Tryz.prog 77 #[.pointer (some ⟨bx, 0, none⟩), .pointer (some ⟨b2, 0, none⟩)] w' fun e w'' => e = .returned (.int .i64 (sgn neg a * (q : Int) - sgn neg2 b * (d : Int)).sign) ∧ Ext w' w'' := fun bx X n' c' Y m' k' b2 X2 n2' c2' Y2 m2' k2' w' h5 h6 => by
  have l1 := h5.int.rd.len
  have l2 := h5.rd.len
  have l3 := h6.int.rd.len
  have l4 := h6.rd.len
  have l5 := lim_mono (lowD_le a d)
  have l6 := lim_mono (lowD_le b q)
  rw [sgn_abs] at l1 l3
  have := br_Cmp bx b2 (sgn neg a) (sgn neg2 b) (lowD a d) (lowD b q) X n' c' Y m' k' X2 n2' c2' Y2 m2' k2' (by omega) (by omega) (by omega) (by omega) w' h5 h6
  rwa [den_low hd hg, den_low hq hg2] at this
 clear hT hA hD hB hC hng hng2 hla hld hlb hlq
 generalize (sgn neg a * (q : Int) - sgn neg2 b * (d : Int)).sign = R at kC ⊢
 generalize lowD a d = da at *
 generalize lowD b q = db at *
 generalize sgn neg a = za at *
 generalize sgn neg2 b = zb at *
 clear hd hn hm hg hq hn2 hm2 hg2
 go_enter Tryz.func30, Tryz.ntmps30
 go_wp2_with (first
  | (go_at_call 40; (with_reducible refine (kA _ xcl).mono ?_); rintro e w1 ⟨b1, A1, n1, c1, D1, m1, k1, rfl, hR1, hb1, xb1⟩; obtain ⟨xc1, xf1, xl1, xz1⟩ := jU xb1; (try simp at xz1); obtain ⟨l1_0, r1_0, f1_0, r1_0_1, f1_0_1, r1_0_2, f1_0_2⟩ := kq3 xb1 (w.heap.size); obtain ⟨l1_1, r1_1, f1_1, r1_1_1, f1_1_1, r1_1_2, f1_1_2⟩ := kq3 xb1 (w.heap.size + 1))
  | (go_at_call 40; (with_reducible refine (kB _ xcl).mono ?_); rintro e w2 ⟨b2, A2, n2, c2, D2, m2, k2, rfl, hR2, hb2, xb2⟩; obtain ⟨xc2, xf2, xl2, xz2⟩ := jU xb2; (try simp at xz2); obtain ⟨l2_0, r2_0, f2_0, r2_0_1, f2_0_1, r2_0_2, f2_0_2⟩ := kq3 xb2 (w.heap.size); obtain ⟨l2_1, r2_1, f2_1, r2_1_1, f2_1_1, r2_1_2, f2_1_2⟩ := kq3 xb2 (w.heap.size + 1))
  | (go_at_call 77; (with_reducible refine (kC _ _ _ _ _ _ _ _ _ _ _ _ _ _ _ (hR1.out.1.ext xcl) hR2.out.1).mono ?_); rintro e w3 ⟨rfl, xb3⟩)
  )
 refine bodyPost_ret (v := .tuple #[.int .i64 R, .int .i64 0]) ?h rfl ⟨rfl, ?_⟩
 case h => simp [results, Tryz.results30, go_sem]
 exact xcl
end Go.Proofs.YtfdmhefjmnlllaaGreatDoor
end
section
/- (The document's library.) Words of the library's: powers. -/

namespace Go.Proofs.YtfdmhefjmnlllaaGreatDoor.NB
open Go.RowKit
attribute [local go_sem] sz2 sz3 sz4 sz5 sz6 sz7 sz8
set_option maxHeartbeats 4000000
set_option maxRecDepth 100000
attribute [local irreducible] Calls
theorem bw_power (b n : Nat) (hb : 2 ≤ b) (hb2 : b < 4294967296) (hn : n < 9223372036854775808) (hl : (lim (b ^ n)).length ≤ 90000) (w : World) :
  Calls Tryz.prog 173 #[.int .i64 (b : Int), .int .i64 (n : Int)] w (WPost w (b ^ n)) := by
 have HL := Lib.hid hl
 clear hl
 go_enter Tryz.func173, Tryz.ntmps173
 go_wp2
 go_loopg [5, 6] 63 (fun j vo vi wr => ∃ (x : Nat) (A : Option Addr) (k c : Nat), j ≤ 63 ∧ vi = .int .i64 ((j : Int) - 1) ∧ vo = .slice A k c ∧ Hid (x = b ^ (n / 2 ^ j)) ∧ Hid (Rd wr A k c (lim x) ∧ Fr w A) ∧ Hid (Ext w wr))
 case atStart =>
  refine ⟨1, _, 1, 1, Nat.le_refl _, rfl, rfl, ?_, ⟨one_row w, fun a ha => by cases ha; exact Nat.le_refl _⟩, jA (jR _) _⟩
  show 1 = b ^ (n / 2 ^ 63)
  rw [Nat.div_eq_of_lt (show n < 2 ^ 63 by omega)]; rfl
 case round =>
  obtain ⟨x, A, k, c, hj, rfl, rfl, hx, hR, hext⟩ := hrel
  by_cases h0 : 0 < gk
  ·obtain ⟨i, rfl⟩ : ∃ i, gk = i + 1 := ⟨gk - 1, by omega⟩
   have e1 : ((i + 1 : Nat) : Int) - 1 = (i : Int) := by omega
   rw [e1]
   have hxp : 0 < x := by rw [hx.out]; exact Nat.pow_pos (by omega)
   have hkx : (lim x).length = k := hR.out.1.len
   have hk1 : 1 ≤ k := by
    rcases Nat.eq_zero_or_pos k with e | e
    ·rw [e] at hkx; have := lim_nil.1 (List.eq_nil_of_length_eq_zero hkx); omega
    ·exact e
   have hkb : k ≤ 90000 := by
    have h1 := lim_mono (pow_part (n := n) (i := i + 1) hb)
    rw [← hx.out, hkx] at h1
    exact Nat.le_trans h1 HL.out
   have hcap := hR.out.1.cap
   have hmx := hR.out.1.mx
   have hsq : ∀ w', Ext wr w' → Calls Tryz.prog 182 #[.slice A k c, .slice A k c] w' (WPost w' (x * x)) := fun w' he => bw_mul (k + k) A A k c k c x x rfl (by omega) w' (hR.out.1.ext he) (hR.out.1.ext he)
   have hbm : ∀ (A1 : Option Addr) (k1 c1 : Nat) (w1 : World), Ext wr w1 → Hid (Rd w1 A1 k1 c1 (lim (x * x))) → Calls Tryz.prog 182 #[.slice A1 k1 c1, .slice (some ⟨w1.heap.size, 0, none⟩) 1 1] (w1.alloc (Obj.cells #[.int .u32 (b : Int)] 47)) (WPost (w1.alloc (Obj.cells #[.int .u32 (b : Int)] 47)) (x * x * b)) := fun A1 k1 c1 w1 he h1 => by
    have hk1' : k1 ≤ 90000 := by
     have h2 := lim_mono (pow_part (n := n) (i := i) hb)
     have h3 : (lim (x * x)).length ≤ (lim (b ^ (n / 2 ^ i))).length := lim_mono (by
      rw [pow_halves, ← hx.out]
      exact Nat.le_mul_of_pos_right _ (Nat.pow_pos (by omega)))
     rw [h1.out.len] at h3
     have := HL.out
     omega
    exact bw_mul (k1 + 1) A1 _ k1 c1 1 1 (x * x) b rfl (by omega) _ (h1.out.ext (jA (jR _) _)) (word_row w1 b (by omega) hb2)
   have hst : x * x * b ^ (n / 2 ^ i % 2) = b ^ (n / 2 ^ i) := by rw [hx.out]; exact (pow_halves b n i).symm
   have HST := Lib.hid hst
   have HSQ := Lib.hid hsq
   have hbit : n / 2 ^ i % 2 = 0 ∨ n / 2 ^ i % 2 = 1 := by omega
   have hsh : n / 2 ^ i < 9223372036854775808 := Nat.lt_of_le_of_lt (Nat.div_le_self _ _) hn
   clear hst hsq hxp
   by_cases hk2 : 1 < k
   ·skip
    rcases hbit with hbit | hbit
    ·have hb1 := bit_i64 n i hsh hbit
     simp at hb1
     go_wp2_with (first
      | (go_at_call 182; (with_reducible refine (HSQ.out _ (jR _)).mono ?_); rintro e w1 ⟨A1, k1, c1, rfl, hR1, xb1⟩; obtain ⟨xc1, xf1, xl1, xz1⟩ := jU xb1; (try simp at xz1))
      )
     go_roundg i
     case rel => exact ⟨x * x, A1, k1, c1, by omega, rfl, rfl, by rw [← HST.out, hbit, Nat.pow_zero, Nat.mul_one]; exact rfl, ⟨hR1.out.1, hR1.out.2.mono hext.out⟩, jT hext.out xb1⟩
     case measure => omega
    ·have hb1 := bit_i64 n i hsh hbit
     simp at hb1
     go_wp2_with (first
      | (go_at_call 182; (with_reducible refine (HSQ.out _ (jR _)).mono ?_); rintro e w1 ⟨A1, k1, c1, rfl, hR1, xb1⟩; obtain ⟨xc1, xf1, xl1, xz1⟩ := jU xb1; (try simp at xz1))
      | (go_at_call 182; (with_reducible refine (hbm A1 k1 c1 w1 xb1 (Lib.hid hR1.out.1)).mono ?_); rintro e w2 ⟨A2, k2, c2, rfl, hR2, xb2⟩; obtain ⟨xc2, xf2, xl2, xz2⟩ := jU xb2; (try simp at xz2))
      )
     go_roundg i
     case rel => exact ⟨x * x * b, A2, k2, c2, by omega, rfl, rfl, by rw [← HST.out, hbit, Nat.pow_one]; exact rfl, ⟨hR2.out.1, hR2.out.2.mono (jT hext.out (jT xb1 (jA (jR _) _)))⟩, jT hext.out (jT xb1 (jT (jA (jR _) _) xb2))⟩
     case measure => omega
   ·obtain rfl : k = 1 := by omega
    obtain ⟨bb, off, rfl⟩ : ∃ bb off, A = some ⟨bb, off, none⟩ := by
     rcases hR.out.1.shape with ⟨_, h, _⟩ | h
     ·omega
     ·exact h
    obtain ⟨y, hy, hyb, hc⟩ := hR.out.1.get 0 (by omega)
    have hxy : x = y := by
     have h1 := hy.out
     have h2 : x < Bs := by have := lim_lt x; rw [hkx, Nat.pow_one] at this; exact this
     have h3 : x ≠ 0 := by intro e; rw [e, lim_zero] at hkx; simp at hkx
     rw [lim_pos h3] at h1
     rw [← h1]
     exact (Nat.mod_eq_of_lt h2).symm
    subst hxy
    rw [Nat.add_zero] at hc
    have hx0 : 1 ≤ x := by
     rcases Nat.eq_zero_or_pos x with e | e
     ·rw [e, lim_zero] at hkx; simp at hkx
     ·exact e
    by_cases hx1 : 1 < x
    ·skip
     rcases hbit with hbit | hbit
     ·have hb1 := bit_i64 n i hsh hbit
      simp at hb1
      go_wp2_with (first
       | (go_at_call 182; (with_reducible refine (HSQ.out _ (jR _)).mono ?_); rintro e w1 ⟨A1, k1, c1, rfl, hR1, xb1⟩; obtain ⟨xc1, xf1, xl1, xz1⟩ := jU xb1; (try simp at xz1))
       )
      go_roundg i
      case rel => exact ⟨x * x, A1, k1, c1, by omega, rfl, rfl, by rw [← HST.out, hbit, Nat.pow_zero, Nat.mul_one]; exact rfl, ⟨hR1.out.1, hR1.out.2.mono hext.out⟩, jT hext.out xb1⟩
      case measure => omega
     ·have hb1 := bit_i64 n i hsh hbit
      simp at hb1
      go_wp2_with (first
       | (go_at_call 182; (with_reducible refine (HSQ.out _ (jR _)).mono ?_); rintro e w1 ⟨A1, k1, c1, rfl, hR1, xb1⟩; obtain ⟨xc1, xf1, xl1, xz1⟩ := jU xb1; (try simp at xz1))
       | (go_at_call 182; (with_reducible refine (hbm A1 k1 c1 w1 xb1 (Lib.hid hR1.out.1)).mono ?_); rintro e w2 ⟨A2, k2, c2, rfl, hR2, xb2⟩; obtain ⟨xc2, xf2, xl2, xz2⟩ := jU xb2; (try simp at xz2))
       )
      go_roundg i
      case rel => exact ⟨x * x * b, A2, k2, c2, by omega, rfl, rfl, by rw [← HST.out, hbit, Nat.pow_one]; exact rfl, ⟨hR2.out.1, hR2.out.2.mono (jT hext.out (jT xb1 (jA (jR _) _)))⟩, jT hext.out (jT xb1 (jT (jA (jR _) _) xb2))⟩
      case measure => omega
    ·obtain rfl : x = 1 := by omega
     have H1x : Hid (Rd wr (some ⟨bb, off, none⟩) 1 c (lim (1 * 1))) := Lib.hid hR.out.1
     rcases hbit with hbit | hbit
     ·have hb1 := bit_i64 n i hsh hbit
      simp at hb1
      go_wp2
      go_roundg i
      case rel => exact ⟨1, _, 1, c, by omega, rfl, rfl, by rw [← HST.out, hbit, Nat.pow_zero]; exact rfl, hR, hext⟩
      case measure => omega
     ·have hb1 := bit_i64 n i hsh hbit
      simp at hb1
      go_wp2_with (first
       | (go_at_call 182; (with_reducible refine (hbm _ 1 c wr (jR _) H1x).mono ?_); rintro e w2 ⟨A2, k2, c2, rfl, hR2, xb2⟩; obtain ⟨xc2, xf2, xl2, xz2⟩ := jU xb2; (try simp at xz2))
       )
      go_roundg i
      case rel => exact ⟨1 * 1 * b, A2, k2, c2, by omega, rfl, rfl, by rw [← HST.out, hbit, Nat.pow_one]; exact rfl, ⟨hR2.out.1, hR2.out.2.mono (jT hext.out (jT (jR _) (jA (jR _) _)))⟩, jT hext.out (jT (jR _) (jT (jA (jR _) _) xb2))⟩
      case measure => omega
  ·obtain rfl : gk = 0 := by omega
   have hfin : x = b ^ n := by rw [hx.out, Nat.pow_zero, Nat.div_one]
   clear h0
   go_wp2
   refine bodyPost_ret (v := .slice A k c) ?h rfl ⟨A, k, c, rfl, ⟨by rw [← hfin]; exact hR.out.1, hR.out.2⟩, hext.out⟩
   case h => simp [results, Tryz.results173, go_sem]
end Go.Proofs.YtfdmhefjmnlllaaGreatDoor.NB
end
section
/- (The document's library.) Words of the library's: short numbers are told in tens. -/

namespace Go.Proofs.YtfdmhefjmnlllaaGreatDoor.NB
open Go.RowKit
attribute [local go_sem] bs_size bs_extract bs_get bs_append bs_toList const_get
attribute [local go_sem] sz2 sz3 sz4 sz5 sz6 sz7 sz8
set_option maxHeartbeats 8000000
set_option maxRecDepth 100000
attribute [local irreducible] Calls
theorem bw_copied_own (A : Option Addr) (n c : Nat) (xs : List Nat) (hn : n ≤ 1000000) (w : World) (hA : Rd w A n c xs) :
  Calls Tryz.prog 92 #[.slice A n c] w fun e w' => e = .returned (.slice (some ⟨w.heap.size, 0, none⟩) n n) ∧ Hid (w'.ownsRow w.heap.size 47 1 (.slice (some ⟨w.heap.size, 0, none⟩) n n) n (xs.map u32V)) ∧ Ext w w' := by
 have HA := Lib.hid hA
 have hlen := Lib.hid hA.len
 clear hA
 go_enter Tryz.func92, Tryz.ntmps92
 go_wp2_with (first
  | (at_make; refine make_u32 rfl _ _ rfl _ _ _ _ n rfl rfl (by simp) (by simp) (by omega) ?_; intro w1 hx1 ho1; have hext1 := Lib.hid hx1; clear hx1)
  | (with_reducible refine copy_u32 rfl (.tmp 7) (.tmp 8) rfl ho1.out (HA.out.ext hext1.out) rfl rfl (Nat.le_refl _) hext1.out (Nat.le_refl _) ?_; intro w2 hx2 ho2; have hext2 := Lib.hid hx2; clear hx2)
  | go_in)
 refine bodyPost_ret (v := .slice (some ⟨w.heap.size, 0, none⟩) n n) ?h rfl ⟨rfl, ?_, hext2.out⟩
 case h => simp [results, Tryz.results92, go_sem]
 have e : xs ++ (List.replicate n 0).drop n = xs := by simp
 rw [e] at ho2
 exact ho2
theorem tell_small (v : Nat) (least : Int) (A : Option Addr) (n c : Nat) (hn : n ≤ 40) (hl : -9000000000 ≤ least ∧ least ≤ 10000000) (w : World) (hA : Rd w A n c (lim v)) :
  Calls Tryz.prog 136 #[.slice A n c, .int .i64 10, .int .i64 least] w fun e w' => ∃ vv, e = .returned vv ∧ Hid (w'.ownsRow w.heap.size 5 1 vv (tellL v least).length ((tellL v least).map bV)) ∧ Ext w w' := by
 have HA := Lib.hid hA
 have hkn := hA.len
 have hcap := hA.cap
 have hmx := hA.mx
 obtain ⟨hl1, hl2⟩ := hl
 have HD : Hid ((digs v).length ≤ 1300) := Lib.hid (Nat.le_trans (digs_lim' (k := 40) (by omega)) (by decide))
 clear hA
 go_enter Tryz.func136, Tryz.ntmps136
 go_wp2
 go_loopg [10, 11] 8 (fun g vb vp wr => ∃ (p B : Nat), g = 9 - p ∧ (1 ≤ p ∧ p ≤ 9) ∧ vb = .int .u32 (B : Int) ∧ vp = .int .i64 (p : Int) ∧ (B ≤ 100000000 ∧ p ≤ 8 ∨ B = 1000000000 ∧ p = 9) ∧ Hid (B = 10 ^ p) ∧ Hid (Ext w wr))
 case atStart => exact ⟨1, 10, rfl, by omega, rfl, rfl, by omega, Lib.hid rfl, jR _⟩
 case round =>
  obtain ⟨p, B, rfl, ⟨hp1, hp2⟩, rfl, rfl, hB, hBp, hext⟩ := hrel
  by_cases h8 : p ≤ 8
  ·have hB8 : B ≤ 100000000 := by omega
   have hB9 : (B : Int) ≤ 429496729 := by omega
   have hBB : Hid (B * 10 ≤ 100000000 ∧ p + 1 ≤ 8 ∨ B * 10 = 1000000000 ∧ p + 1 = 9) := Lib.hid (by
    rcases Nat.lt_or_ge p 8 with h | h
    ·left
     rw [hBp.out, ← Nat.pow_succ]
     exact ⟨Nat.le_trans (Nat.pow_le_pow_right (by decide) (show p + 1 ≤ 8 by omega)) (by decide), by omega⟩
    ·right
     obtain rfl : p = 8 := by omega
     rw [hBp.out]; exact ⟨rfl, rfl⟩)
   clear hB
   go_wp2
   go_roundg (9 - (p + 1))
   case rel => exact ⟨p + 1, B * 10, rfl, by omega, by simp, by simp, hBB.out, Lib.hid (by rw [hBp.out, Nat.pow_succ]), hext⟩
   case measure => omega
  ·obtain rfl : p = 9 := by omega
   obtain rfl : B = 1000000000 := by omega
   clear hB h8 hBp
   obtain ⟨W1, rfl⟩ : ∃ W1, W1 = wr := ⟨wr, rfl⟩
   have hcp : ∀ w', Ext W1 w' → Calls Tryz.prog 92 #[.slice A n c] w' fun e w'' => e = .returned (.slice (some ⟨w'.heap.size, 0, none⟩) n n) ∧ Hid (w''.ownsRow w'.heap.size 47 1 (.slice (some ⟨w'.heap.size, 0, none⟩) n n) n ((lim v).map u32V)) ∧ Ext w' w'' := fun w' he => bw_copied_own A n c (lim v) (by omega) w' ((HA.out.ext hext.out).ext he)
   go_wp2_with (first
    | (go_at_call 92; (with_reducible refine (hcp _ (jR _)).mono ?_); rintro e w1 ⟨rfl, hR1, xb1⟩; obtain ⟨xc1, xf1, xl1, xz1⟩ := jU xb1; (try simp at xz1))
    )
   have HX1 := Lib.hid xb1
   have hz1 : W1.heap.size + 1 ≤ w1.heap.size := by have := (hR1.out.lt W1.heap.size rfl).2; omega
   clear hcp xc1 xf1 xl1 xz1 xb1
   go_loopg [0, 12] v (fun u vw vb wr => ∃ (k : Nat) (back : List UInt8), vw = .slice (some ⟨W1.heap.size, 0, none⟩) k n ∧ k ≤ n ∧ Hid (digs v = digs u ++ back.reverse) ∧ Hid (wr.ownsRow W1.heap.size 47 1 (.slice (some ⟨W1.heap.size, 0, none⟩) k n) k ((lim u).map u32V)) ∧ Hid (wr.ownsRow (W1.heap.size + 1) 5 1 vb back.length (back.map bV)) ∧ Hid (Ext w1 wr ∨ True) ∧ Hid (Ext W1 wr) ∧ W1.heap.size + 1 ≤ wr.heap.size)
   case atStart => exact ⟨n, [], rfl, Nat.le_refl _, Lib.hid (by simp), hR1, World.ownsRow_nil _ _ _ _, Lib.hid (.inr trivial), HX1, hz1⟩
   case round =>
    clear hR1 HX1 hz1
    obtain ⟨k, back, rfl, hk, hdig, hownw, hownb, -, hE, hz⟩ := hrel
    have hku : (lim gk).length = k := by have := hownw.out.1; simpa using this
    have hbl : back.length ≤ 1300 := by
     have h1 := HD.out
     rw [hdig.out] at h1
     simp at h1; omega
    by_cases hk0 : 0 < k
    ·have hu0 : gk ≠ 0 := by intro e; rw [e, lim_zero] at hku; simp at hku; omega
     have HU := Lib.hid hu0
     have HK := Lib.hid hku
     clear hu0 hku
     go_wp2
     go_loopw [13, 14] (fun vr vi wr2 => ∃ (j r : Nat) (os : List Nat), j ≤ k ∧ r < 1000000000 ∧ vi = .int .i64 ((j : Int) - 1) ∧ vr = .int .u64 (r : Int) ∧ Hid (os.length = k ∧ Lb os ∧ os.take j = (lim gk).take j ∧ val ((lim gk).drop j) = 1000000000 * val (os.drop j) + r) ∧
       Hid (wr2.ownsRow W1.heap.size 47 1 (.slice (some ⟨W1.heap.size, 0, none⟩) k n) k (os.map u32V)) ∧ Hid (wr2.ownsRow (W1.heap.size + 1) 5 1 u12 back.length (back.map bV)) ∧ Hid (Ext W1 wr2) ∧ W1.heap.size + 1 ≤ wr2.heap.size)
      (fun _ vi _ => (intOf vi + 1).toNat)
     case atStart =>
      refine ⟨k, 0, lim gk, Nat.le_refl _, by decide, by go_num, rfl, Lib.hid ⟨HK.out, lb_lim _, rfl, ?_⟩, hownw, hownb, hE, hz⟩
      rw [List.drop_eq_nil_of_le (by rw [HK.out]; exact Nat.le_refl _)]; rfl
     case round =>
      clear hownw hownb hE hz
      obtain ⟨j, r, os, hj, hr, rfl, rfl, hos, hownw, hownb, hE, hz⟩ := hrel
      by_cases h0 : 0 < j
      ·obtain ⟨x, hx, hxb⟩ : ∃ x : Nat, Hid ((lim gk).getD (j - 1) 0 = x) ∧ x < 4294967296 := ⟨_, rfl, lb_getD (lb_lim _) _⟩
       have hx2 : os.getD (j - 1) 0 = x := by
        have h1 := congrArg (fun z : List Nat => z.getD (j - 1) 0) hos.out.2.2.1
        simp only [List.getD_eq_getElem?_getD] at h1
        rw [List.getElem?_take_of_lt (by omega), List.getElem?_take_of_lt (by omega)] at h1
        rw [List.getD_eq_getElem?_getD, h1, ← List.getD_eq_getElem?_getD]
        exact hx.out
       obtain ⟨hc1, hf1⟩ := own_at hownw.out (j - 1) (by omega)
       rw [hx2] at hc1
       have hor := or_shift r x (by omega) hxb
       obtain ⟨s, hse⟩ : ∃ s, s = r * 4294967296 + x := ⟨_, rfl⟩
       have hs : s < 1000000000 * 4294967296 := by rw [hse]; omega
       have hq : s / 1000000000 < 4294967296 := by omega
       rw [← hse] at hor
       have HSE := Lib.hid hse
       clear hse hx2
       go_wp2
       case roundEnd =>
        refine ⟨⟨j - 1, s % 1000000000, os.set (j - 1) (s / 1000000000), by omega, by omega, ?_, ?_, ⟨?_, ?_, ?_, ?_⟩, ?_, ?_, ?_, ?_⟩, ?_⟩
        ·simp; omega
        ·simp
        ·simp [hos.out.1]
        ·exact lb_set hos.out.2.1 _ hq
        ·rw [List.take_set_of_le (by omega)]
         have h1 := congrArg (fun z : List Nat => z.take (j - 1)) hos.out.2.2.1
         simp only [List.take_take] at h1
         rwa [Nat.min_eq_left (by omega)] at h1
        ·have h := over_step (d := 1000000000) (by decide) h0 (by rw [HK.out]; exact hj) (by rw [hos.out.1, HK.out]) hos.out.2.2.2 hx.out
         rwa [← HSE.out] at h
        ·show World.ownsRow _ _ _ _ _ _ _
         have e : (s : Int) / 1000000000 = ((s / 1000000000 : Nat) : Int) := by omega
         rw [e]
         exact own_set hownw.out _ _
        ·exact own_far hownb.out _ _ (fun e => by have := (hownb.out.lt _ e).1; simp only at this; omega)
        ·exact jS hE.out (Nat.le_refl _) _
        ·simpa using hz
        ·simp [intOf]; omega
      ·obtain rfl : j = 0 := by omega
       have hv := hos.out.2.2.2
       simp only [List.drop_zero, val_lim] at hv
       obtain ⟨q, hqv⟩ : ∃ q, q = val os := ⟨_, rfl⟩
       have hq1 : gk = 1000000000 * q + r := by rw [hqv]; exact hv
       obtain ⟨A', c', he, hR⟩ := Rd.own hownw.out hos.out.2.1
       have hT : Calls Tryz.prog 134 #[.slice (some ⟨W1.heap.size, 0, none⟩) k n] wr fun e w'' => e = .returned (.slice (some ⟨W1.heap.size, 0, none⟩) (lim q).length n) ∧ wr = w'' := by
        cases he
        refine (bw_trim _ k n os wr hR).mono ?_
        rintro e w'' ⟨k2, rfl, hR2, rfl⟩
        refine ⟨?_, rfl⟩
        rw [← hR2.len, trimZ_lim os hos.out.2.1, hqv]
       have hk2 : (lim q).length ≤ k := by
        have h1 : (lim q).length ≤ (lim gk).length := lim_mono (by omega)
        rw [HK.out] at h1; exact h1
       have hown2 : Hid (wr.ownsRow W1.heap.size 47 1 (.slice (some ⟨W1.heap.size, 0, none⟩) (lim q).length n) (lim q).length ((lim q).map u32V)) := Lib.hid (by
        have h1 := own_pre hownw.out hk2
        obtain ⟨m, hm1, hm2⟩ := trimZ_prefix os
        rw [trimZ_lim os hos.out.2.1, ← hqv] at hm2
        have hm3 : m = (lim q).length := by rw [hm2, List.length_take, hos.out.1]; rw [hos.out.1] at hm1; omega
        rw [← List.map_take, ← hm3, ← hm2] at h1
        rw [← hm3] at *
        exact h1)
       obtain ⟨k2, hk2e⟩ : ∃ k2, k2 = (lim q).length := ⟨_, rfl⟩
       rw [← hk2e] at hT hk2 hown2
       have HK2 := Lib.hid hk2e
       have HQ1 := Lib.hid hq1
       clear hv hqv hq1 he hR hk2e h0 hj hownw
       go_wp2_with (first
        | (go_at_call 134; (with_reducible refine (hT).mono ?_); rintro e w' ⟨rfl, rfl⟩)
        )
       have hr9 : Hid (r < 10 ^ (9 - 0) ∧ digs v = digs (q * 10 ^ (9 - 0) + r) ++ back.reverse) := Lib.hid ⟨hr, by rw [hdig.out]; congr 2; rw [HQ1.out]; show 1000000000 * q + r = q * 1000000000 + r; omega⟩
       go_loopw [12, 16, 17] (fun vb vr vi wr2 => ∃ (j r' : Nat) (back2 : List UInt8), j ≤ 9 ∧ vi = .int .i64 (j : Int) ∧ vr = .int .u32 (r' : Int) ∧ r' < 1000000000 ∧ Hid (r' < 10 ^ (9 - j) ∧ digs v = digs (q * 10 ^ (9 - j) + r') ++ back2.reverse) ∧
         Hid (wr2.ownsRow (W1.heap.size + 1) 5 1 vb back2.length (back2.map bV)) ∧ Hid (wr2.ownsRow W1.heap.size 47 1 (.slice (some ⟨W1.heap.size, 0, none⟩) k2 n) k2 ((lim q).map u32V)) ∧ Hid (Ext W1 wr2) ∧ W1.heap.size + 1 ≤ wr2.heap.size)
        (fun _ _ vi _ => 9 - (intOf vi).toNat)
       case atStart => exact ⟨0, r, back, Nat.zero_le _, rfl, by go_num, hr, hr9, hownb, hown2, hE, hz⟩
       case round =>
        clear hownb hown2 hE hz hr9
        obtain ⟨j, r', back2, hj, rfl, rfl, hr', hd2, hownb, hownw, hE, hz⟩ := hrel
        have hbl2 : back2.length ≤ 1300 := by
         have h1 := HD.out
         rw [hd2.out.2] at h1
         simp at h1; omega
        have hz' : W1.heap.size ≤ W1.heap.size + 1 := Nat.le_succ _
        obtain ⟨dg, hdg⟩ : ∃ dg : UInt8, Hid (dg = UInt8.ofNat (48 + r' % 10)) := ⟨_, rfl⟩
        by_cases hgo : j < 9 ∧ (0 < k2 ∨ 0 < r')
        ·have HP : Hid (r' < 10 * 10 ^ (9 - (j + 1)) → 0 < q * (10 * 10 ^ (9 - (j + 1))) + r') := Lib.hid (fun hlt => by
          rcases hgo.2 with h | h
          ·have h1 : 0 < q := by
            rcases Nat.eq_zero_or_pos q with e | e
            ·have := HK2.out; rw [e, lim_zero] at this; simp at this; omega
            ·exact e
           have := Nat.mul_pos h1 (show 0 < 10 * 10 ^ (9 - (j + 1)) by omega)
           omega
          ·omega)
         by_cases hk20 : 0 < k2
         ·skip
          go_wp2_with (first
           | (at_builtin; refine push_u8o rfl _ _ rfl _ rfl hE.out hz' hz hownb.out rfl dg ⟨wr.heap.size, 0, none⟩ 1 rfl (by rw [World.cell?_alloc_at _ _ _ _ rfl]; simp [bV, hdg.out, fig_at]) (by omega) hownw.out (fun b e => by cases e; exact Nat.lt_succ_self _) ?_)
           | go_in)
          all_goals
           intro v' w3 hx3 ho3 hk3
           have HX3 := Lib.hid hx3
           have hz3 := hx3.size
           have hz4 : W1.heap.size + 1 ≤ w3.heap.size := (hk3.out.lt W1.heap.size rfl).2
           clear hx3 hownb hownw
           go_wp2
           go_roundw
           case rel =>
            have e1 : 10 ^ (9 - j) = 10 * 10 ^ (9 - (j + 1)) := by
             rw [show 9 - j = 9 - (j + 1) + 1 by omega, Nat.pow_succ]; omega
            have hd3 := hd2.out
            rw [e1] at hd3
            refine ⟨j + 1, r' / 10, back2 ++ [dg], by omega, by go_num, by go_num, by omega, ⟨by omega, by rw [hdg.out]; exact digs_step10 hd3.2 (HP.out hd3.1)⟩, ?_, hk3, HX3, hz4⟩
            show World.ownsRow _ _ _ _ _ _ _
            rw [List.length_append, List.map_append]
            exact ho3.out
           case measure => simp [intOf]; omega
         ·obtain rfl : k2 = 0 := by omega
          have hr0 : 0 < r' := by omega
          have hj9 : j < 9 := hgo.1
          clear hgo
          go_wp2_with (first
           | (at_builtin; refine push_u8o rfl _ _ rfl _ rfl hE.out hz' hz hownb.out rfl dg ⟨wr.heap.size, 0, none⟩ 1 rfl (by rw [World.cell?_alloc_at _ _ _ _ rfl]; simp [bV, hdg.out, fig_at]) (by omega) hownw.out (fun b e => by cases e; exact Nat.lt_succ_self _) ?_)
           | go_in)
          all_goals
           intro v' w3 hx3 ho3 hk3
           have HX3 := Lib.hid hx3
           have hz3 := hx3.size
           have hz4 : W1.heap.size + 1 ≤ w3.heap.size := (hk3.out.lt W1.heap.size rfl).2
           clear hx3 hownb hownw
           go_wp2
           go_roundw
           case rel =>
            have e1 : 10 ^ (9 - j) = 10 * 10 ^ (9 - (j + 1)) := by
             rw [show 9 - j = 9 - (j + 1) + 1 by omega, Nat.pow_succ]; omega
            have hd3 := hd2.out
            rw [e1] at hd3
            refine ⟨j + 1, r' / 10, back2 ++ [dg], by omega, by go_num, by go_num, by omega, ⟨by omega, by rw [hdg.out]; exact digs_step10 hd3.2 (HP.out hd3.1)⟩, ?_, hk3, HX3, hz4⟩
            show World.ownsRow _ _ _ _ _ _ _
            rw [List.length_append, List.map_append]
            exact ho3.out
           case measure => simp [intOf]; omega
        ·have HDQ : Hid (digs v = digs q ++ back2.reverse) := Lib.hid (by
          have h1 := hd2.out
          have h2 : r' = 0 := by
           by_cases hj9 : j = 9
           ·subst hj9
            have := h1.1; simp at this; exact this
           ·omega
          by_cases hj9 : j = 9
          ·subst hj9
           rw [h2] at h1
           simpa using h1.2
          ·have hq0 : q = 0 := lim_nil.1 (List.eq_nil_of_length_eq_zero (by have := HK2.out; omega))
           rw [h2, hq0] at h1
           rw [hq0]
           simpa using h1.2)
         by_cases hj9 : j = 9
         ·subst hj9
          clear hgo
          go_wp2
          go_roundg q
          case rel => exact ⟨k2, back2, rfl, by omega, HDQ, hownw, hownb, Lib.hid (.inr trivial), hE, hz⟩
          case measure => have := HQ1.out; have := HU.out; omega
         ·obtain rfl : k2 = 0 := by omega
          obtain rfl : r' = 0 := by omega
          have hj8 : j < 9 := by omega
          clear hgo hj9
          go_wp2
          go_roundg q
          case rel => exact ⟨0, back2, rfl, by omega, HDQ, hownw, hownb, Lib.hid (.inr trivial), hE, hz⟩
          case measure => have := HQ1.out; have := HU.out; omega
    ·obtain rfl : k = 0 := by omega
     have hu0 : gk = 0 := lim_nil.1 (List.eq_nil_of_length_eq_zero hku)
     have HB : Hid (digs v = back.reverse) := Lib.hid (by rw [hdig.out, hu0, digs_zero]; simp)
     clear hk0 hdig hu0 hku hownw
     go_wp2
     go_loopg [12] (least - (back.length : Int)).toNat (fun g vb wr => ∃ (m : Nat), g = (least - (back.length + m : Nat)).toNat ∧ (m = 0 ∨ ((back.length + m : Nat) : Int) ≤ least) ∧ Hid (wr.ownsRow (W1.heap.size + 1) 5 1 vb (back.length + m) ((back ++ List.replicate m 48).map bV)) ∧ Hid (Ext W1 wr) ∧ W1.heap.size + 1 ≤ wr.heap.size)
     case atStart => exact ⟨0, rfl, .inl rfl, Lib.hid (by simpa using hownb.out), hE, hz⟩
     case round =>
      clear hownb hE hz
      obtain ⟨m, rfl, hm, hownb, hE, hz⟩ := hrel
      have hz' : W1.heap.size ≤ W1.heap.size + 1 := Nat.le_succ _
      have hbm : back.length + m ≤ 10001300 := by omega
      have hlen : (back ++ List.replicate m (48 : UInt8)).length = back.length + m := by simp
      have hown1 := hownb.out
      rcases own_form hownb.out with ⟨hu, hz0⟩ | ⟨gb, cb, hu, hc1, hc2, hg1, hg2⟩
      ·subst hu
       have hm0 : m = 0 := by omega
       have hbn : back = [] := List.eq_nil_of_length_eq_zero (by omega)
       subst hm0 hbn
       by_cases hgo : (0 : Int) < least
       ·go_wp2_with (first
         | (at_builtin; refine push_u8 rfl _ _ rfl _ rfl hE.out hz' hz hownb.out rfl 48 ⟨wr.heap.size, 0, none⟩ 1 rfl (by rw [World.cell?_alloc_at _ _ _ _ rfl]; simp [bV]) (by omega) ?_)
         | go_in)
        all_goals
         intro v' w3 hx3 ho3 hk3
         have HX3 := Lib.hid hx3
         have hz3 := hx3.size
         clear hx3 hownb
         go_wp2
         go_roundg (least - (([] : List UInt8).length + 1 : Nat)).toNat
         case rel => exact ⟨1, rfl, .inr (by simp; omega), Lib.hid (by simpa using ho3.out), HX3, by have := own_size ho3.out (by omega); omega⟩
         case measure => simp; omega
       ·have HT : Hid (tellL v least = []) := Lib.hid (by
         unfold tellL
         rw [HB.out]
         simp; omega)
        obtain ⟨wo, rfl⟩ : ∃ wo, wo = wr := ⟨_, rfl⟩
        clear hm hbm hlen hz0 hown1 hownb HB
        go_wp2_with (first
         | (at_make; refine make_u8 rfl _ _ rfl _ _ _ _ 0 rfl rfl rfl rfl (by omega) ?_; intro w5 hx1 ho1; have hext1 := Lib.hid hx1; clear hx1)
         | go_in)
        go_loopw [19] (fun vi wr2 => vi = .int .i64 0 ∧ Hid (wr2.ownsRow wo.heap.size 5 1 (.slice (some ⟨wo.heap.size, 0, none⟩) 0 0) 0 []) ∧ Hid (Ext wo wr2)) (fun _ _ => 0)
        case atStart => exact ⟨rfl, ho1, hext1⟩
        case round =>
         obtain ⟨rfl, ho, hx⟩ := hrel
         have HR : Hid (wr.ownsRow w.heap.size 5 1 (.slice (some ⟨wo.heap.size, 0, none⟩) 0 0) (tellL v least).length ((tellL v least).map bV)) := Lib.hid (by
          rw [HT.out]
          exact own_base ho.out (jT hext.out hE.out).size)
         clear HT
         go_wp2
         refine bodyPost_ret (v := .slice (some ⟨wo.heap.size, 0, none⟩) 0 0) ?h rfl ⟨_, rfl, HR, jT hext.out (jT hE.out hx.out)⟩
         case h => simp [results, Tryz.results136, go_sem]
      ·subst hu
       by_cases hgo : ((back.length + m : Nat) : Int) < least
       ·go_wp2_with (first
         | (at_builtin; refine push_u8 rfl _ _ rfl _ rfl hE.out hz' hz hownb.out rfl 48 ⟨wr.heap.size, 0, none⟩ 1 rfl (by rw [World.cell?_alloc_at _ _ _ _ rfl]; simp [bV]) (by omega) ?_)
         | go_in)
        all_goals
         intro v' w3 hx3 ho3 hk3
         have HX3 := Lib.hid hx3
         have hz3 := hx3.size
         clear hx3 hownb
         go_wp2
         go_roundg (least - (back.length + (m + 1) : Nat)).toNat
         case rel =>
          refine ⟨m + 1, rfl, .inr (by omega), Lib.hid ?_, HX3, by have := own_size ho3.out (by omega); omega⟩
          have h1 := ho3.out
          rw [List.replicate_succ', List.map_append, List.map_append]
          simp only [List.map_replicate, List.map_cons, List.map_nil]
          exact h1
         case measure => omega
       ·obtain ⟨L, hL⟩ : ∃ L, L = back.length + m := ⟨_, rfl⟩
        obtain ⟨B3, hB3⟩ : ∃ B3, B3 = back ++ List.replicate m (48 : UInt8) := ⟨_, rfl⟩
        have HF : Hid (B3.reverse = tellL v least) := Lib.hid (by
         unfold tellL
         rw [hB3, List.reverse_append, List.reverse_replicate, HB.out, List.length_reverse]
         congr 2
         omega)
        have hlen : Hid (B3.length = L) := Lib.hid (by rw [hB3, hL]; simp)
        rw [← hL] at hbm hown1 hc1 hgo ⊢
        rw [← hB3] at hown1
        rw [← hL, ← hB3] at hownb
        clear hL hB3 hm hown1 HB
        obtain ⟨wo, rfl⟩ : ∃ wo, wo = wr := ⟨_, rfl⟩
        go_wp2_with (first
         | (at_make; refine make_u8 rfl _ _ rfl _ _ _ _ L rfl rfl rfl rfl (by omega) ?_; intro w5 hx1 ho1; have hext1 := Lib.hid hx1; clear hx1)
         | go_in)
        have hgl1 : wo.heap.size < w5.heap.size := (ho1.out.lt wo.heap.size rfl).2
        go_loopw [19] (fun vi wr2 => ∃ (i : Nat) (os : List UInt8), i ≤ L ∧ vi = .int .i64 (i : Int) ∧ Hid (os.length = L ∧ ∀ p, p < i → os.getD p 0 = B3.getD (L - 1 - p) 0) ∧
          Hid (wr2.ownsRow wo.heap.size 5 1 (.slice (some ⟨wo.heap.size, 0, none⟩) L L) L (os.map bV)) ∧
          Hid (wr2.ownsRow (W1.heap.size + 1) 5 1 (.slice (some ⟨gb, 0, none⟩) L cb) L (B3.map bV)) ∧ Hid (Ext wo wr2))
         (fun vi _ => L - (intOf vi).toNat)
        case atStart => exact ⟨0, List.replicate L 0, Nat.zero_le _, rfl, ⟨by simp, fun p hp => absurd hp (Nat.not_lt_zero _)⟩, ho1.out, own_ext hownb.out hext1.out, hext1.out⟩
        case round =>
         obtain ⟨i, os, hi, rfl, hos, ho, hb, hx⟩ := hrel
         by_cases hlt : i < L
         ·obtain ⟨y, hy⟩ : ∃ y : UInt8, Hid (B3.getD (L - 1 - i) 0 = y) := ⟨_, rfl⟩
          obtain ⟨hc1, hf1⟩ := ownb_at hb.out (L - 1 - i) (by omega)
          rw [hy.out] at hc1
          obtain ⟨hc2, hf2⟩ := ownb_at ho.out i hlt
          go_wp2
          case roundEnd =>
           refine ⟨⟨i + 1, os.set i y, by omega, by simp, ⟨by rw [List.length_set]; exact hos.out.1, fun p hp => ?_⟩, ownb_set ho.out i y, own_far hb.out _ _ (by simp [Value.ownBlock]; omega), jS hx.out (Nat.le_refl _) _⟩, ?_⟩
           ·by_cases e : p = i
            ·subst e
             rw [List.getD_eq_getElem?_getD, List.getElem?_set_self (by rw [hos.out.1]; exact hlt), hy.out]; rfl
            ·rw [List.getD_eq_getElem?_getD, List.getElem?_set_ne (by omega), ← List.getD_eq_getElem?_getD]
             exact hos.out.2 p (by omega)
           ·simp [intOf]; omega
         ·obtain rfl : i = L := by omega
          have hfin : os = tellL v least := by
           rw [← HF.out]
           refine List.ext_getElem (by rw [List.length_reverse, hlen.out]; exact hos.out.1) fun p h1 h2 => ?_
           have h3 := hos.out.2 p (by rw [← hos.out.1]; exact h1)
           have h4 : p < B3.length := by rw [hlen.out, ← hos.out.1]; exact h1
           rw [List.getD_eq_getElem?_getD, List.getD_eq_getElem?_getD, List.getElem?_eq_getElem h1, List.getElem?_eq_getElem (by have := hlen.out; omega)] at h3
           rw [List.getElem_reverse]
           have e : B3.length - 1 - p = i - 1 - p := by rw [hlen.out]
           simp only [e]
           exact h3
          have HR : Hid (wr.ownsRow w.heap.size 5 1 (.slice (some ⟨wo.heap.size, 0, none⟩) i i) (tellL v least).length ((tellL v least).map bV)) := Lib.hid (by
           rw [← hfin, hos.out.1]
           exact own_base ho.out (jT hext.out hE.out).size)
          clear hfin hlt
          go_wp2
          refine bodyPost_ret (v := .slice (some ⟨wo.heap.size, 0, none⟩) i i) ?h rfl ⟨_, rfl, HR, jT hext.out (jT hE.out hx.out)⟩
          case h => simp [results, Tryz.results136, go_sem]
end Go.Proofs.YtfdmhefjmnlllaaGreatDoor.NB
end
section
/- (The document's library.) Words of the library's: numbers are told in tens. -/

namespace Go.Proofs.YtfdmhefjmnlllaaGreatDoor.NB
open Go.RowKit
attribute [local go_sem] bs_size bs_extract bs_get bs_append bs_toList const_get
attribute [local go_sem] sz2 sz3 sz4 sz5 sz6 sz7 sz8
set_option maxHeartbeats 8000000
set_option maxRecDepth 100000
attribute [local irreducible] Calls
theorem bw_tell : ∀ (N v : Nat) (least : Int) (A : Option Addr) (n c : Nat), n = N → n ≤ 20000 → -9000000 + 80000 * (n : Int) - 1600000000 ≤ least → least ≤ 10000000 → ∀ w, Rd w A n c (lim v) →
  Calls Tryz.prog 136 #[.slice A n c, .int .i64 10, .int .i64 least] w (TellPost w (tellL v least)) := by
 intro N
 induction N using Nat.strongRecOn with
 | _ N ih =>
  intro v least A n c hnN hn hl1 hl2 w hA
  by_cases hs : n ≤ 40
  ·exact tell_small v least A n c hs ⟨by omega, by omega⟩ w hA
  ·obtain ⟨k, hk⟩ : ∃ k, k = 8 * (n / 2) := ⟨_, rfl⟩
   obtain ⟨s1, s2, s3, s4⟩ := words_split hA.len (by omega) hk
   have HA := Lib.hid hA
   have hk0 : 0 < k := by omega
   have hk4 : k ≤ 4 * n := by omega
   have kP : ∀ w', Calls Tryz.prog 173 #[.int .i64 10, .int .i64 (k : Int)] w' (WPost w' (10 ^ k)) := fun w' => bw_power 10 k (by decide) (by decide) (by omega) (by omega) w'
   have kD : ∀ (B : Option Addr) (m d : Nat) (w' : World), Ext w w' → Rd w' B m d (lim (10 ^ k)) → Calls Tryz.prog 132 #[.slice A n c, .slice B m d] w' (QPost w' (v / 10 ^ k) (v % 10 ^ k)) := fun B m d w' he h2 =>
    bw_div A B n c m d v (10 ^ k) (Nat.ne_of_gt (Nat.pow_pos (by decide))) (by omega) w' (HA.out.ext he) h2
   have kH : ∀ (B : Option Addr) (m d : Nat) (w' : World), Rd w' B m d (lim (v / 10 ^ k)) → Calls Tryz.prog 136 #[.slice B m d, .int .i64 10, .int .i64 (least - (k : Int))] w' (TellPost w' (tellL (v / 10 ^ k) (least - k))) := fun B m d w' h2 => by
    have h3 := h2.len
    exact ih m (by omega) _ _ B m d rfl (by omega) (by omega) (by omega) w' h2
   have kL : ∀ (B : Option Addr) (m d : Nat) (w' : World), Rd w' B m d (lim (v % 10 ^ k)) → Calls Tryz.prog 136 #[.slice B m d, .int .i64 10, .int .i64 (k : Int)] w' (TellPost w' (tellL (v % 10 ^ k) k)) := fun B m d w' h2 => by
    have h3 := h2.len
    exact ih m (by omega) _ _ B m d rfl (by omega) (by omega) (by omega) w' h2
   have hT := tell_split (v := v) (k := k) (least := least) s1
   have hll : (tellL (v % 10 ^ k) k).length = k := by
    unfold tellL
    have := digs_len (Nat.mod_lt v (show 0 < 10 ^ k from Nat.pow_pos (by decide)))
    rw [List.length_append, List.length_replicate]
    omega
   have hlh : (tellL (v / 10 ^ k) (least - k)).length ≤ 20000000 := by
    have h3 : (digs (v / 10 ^ k)).length ≤ 32 * n := digs_lim' (k := n) (by omega)
    unfold tellL
    rw [List.length_append, List.length_replicate]
    omega
   have HK := Lib.hid (And.intro kP (And.intro kD (And.intro kH kL)))
   have HT := Lib.hid (And.intro hT hll)
   have hcap := hA.cap
   have hmx := hA.mx
   have hdv : wrap64 (((n : Int) / 2 * 32).tdiv (Lib.bitLen 10 : Nat)) = (k : Int) := by
    rw [show Lib.bitLen 10 = 4 from by kernel_rfl, Int.tdiv_eq_ediv_of_nonneg (by omega)]
    unfold wrap64
    omega
   have hbig : (40 : Int) < (n : Int) := by omega
   have HKE := Lib.hid hk
   have hlo : -2000000000 ≤ least := by omega
   have hlu : least ≤ 10000000 := hl2
   clear hA kP kD kH kL hT hll s1 s2 s3 s4 ih hnN hs hk hl1 hl2
   generalize v / 10 ^ k = q at *
   generalize v % 10 ^ k = r at *
   generalize 10 ^ k = p at *
   go_enter Tryz.func136, Tryz.ntmps136
   go_wp2_with (first
    | (go_at_call 67; (with_reducible refine (Tryz.bits_Len32 10 _ (by omega) (by omega)).mono ?_); rintro e w0 ⟨rfl, rfl⟩)
    | (go_at_call 173; (with_reducible refine (HK.out.1 _).mono ?_); rintro e w1 ⟨A1, n1, c1, rfl, hR1, xb1⟩; obtain ⟨xc1, xf1, xl1, xz1⟩ := jU xb1; (try simp at xz1))
    | (go_at_call 132; (with_reducible refine (HK.out.2.1 _ _ _ _ xb1 hR1.out.1).mono ?_); rintro e w2 ⟨A2, n2, c2, B2, m2, d2, rfl, hR2, hS2, xb2⟩; obtain ⟨xc2, xf2, xl2, xz2⟩ := jU xb2; (try simp at xz2))
    | (go_at_call 136; (with_reducible refine (HK.out.2.2.1 _ _ _ _ hR2.out.1).mono ?_); rintro e w3 ⟨v3, rfl, hR3, xb3⟩; obtain ⟨xc3, xf3, xl3, xz3⟩ := jU xb3; (try simp at xz3))
    | (go_at_call 136; (with_reducible refine (HK.out.2.2.2 _ _ _ _ (hS2.out.1.ext xb3)).mono ?_); rintro e w4 ⟨v4, rfl, hR4, xb4⟩; obtain ⟨xc4, xf4, xl4, xz4⟩ := jU xb4; (try simp at xz4))
    | (at_builtin; refine push_u8s rfl _ _ rfl (jT xb1 (jT xb2 (jT xb3 xb4))) (jT xb1 xb2).size (jT xb3 xb4).size (own_ext hR3.out xb4) rfl hR4.out rfl (by rw [HT.out.2]; exact hk0) (by have := HT.out.2; omega) ?_; intro v5 w5 hx5 ho5)
    )
   refine bodyPost_ret (v := v5) ?h rfl ⟨v5, rfl, ?_, hx5⟩
   case h => simp [results, Tryz.results136, go_sem]
   show World.ownsRow _ _ _ _ _ _ _
   have h6 := own_base ho5.out (jT xb1 xb2).size
   rw [HT.out.1, List.length_append]
   exact h6
end Go.Proofs.YtfdmhefjmnlllaaGreatDoor.NB
end
section
/- (The document's library.) Whole numbers of the library's: out of machine numbers; without a sign; products, differences. -/

namespace Go.Proofs.YtfdmhefjmnlllaaGreatDoor.NB
open Go.RowKit
attribute [local go_sem] sz2 sz3 sz4 sz5 sz6 sz7 sz8
set_option maxHeartbeats 4000000
set_option maxRecDepth 100000
attribute [local irreducible] Calls
attribute [local go_sem] Oper.detAt detUpon relUpon
theorem bi_SetInt64 (b o : Nat) (x : Int) (h1 : -9223372036854775808 ≤ x) (h2 : x ≤ 9223372036854775807) (w : World) (hr : Room w b o) :
  Calls Tryz.prog 107 #[.pointer (some ⟨b, o, none⟩), .int .i64 x] w (IPost w b o x) := by
 have HR := Lib.hid hr
 have hlt := hr.lt
 clear hr
 by_cases h0 : x < 0
 ·obtain ⟨n, rfl⟩ : ∃ n : Nat, x = -(n : Int) := ⟨x.natAbs, by omega⟩
  have hn : n < 18446744073709551616 := by omega
  have h0' : -(n : Int) < 0 := h0
  have hF : ∀ w', Calls Tryz.prog 137 #[.int .u64 (IntKind.u64.wrap (-IntKind.u64.wrap (-(n : Int))))] w' fun e w'' => ∃ (A : Option Addr) (k c : Nat), e = .returned (.slice A k c) ∧ Hid (Rd w'' A k c (lim n) ∧ Fr w' A) ∧ Ext w' w'' := fun w' => by
   have e1 : IntKind.u64.wrap (-IntKind.u64.wrap (-(n : Int))) = (n : Int) := by rw [IntKind.wrap_u64, IntKind.wrap_u64]; omega
   rw [e1]
   exact bw_fromUint n hn w'
  have hsg : Hid (sgn true n = -(n : Int)) := Lib.hid rfl
  go_enter Tryz.func107, Tryz.ntmps107
  go_wp2_with (first
   | (go_at_call 137; (with_reducible refine (hF _).mono ?_); rintro e w1 ⟨A1, k1, c1, rfl, hR1, xb1⟩; obtain ⟨xc1, xf1, xl1, xz1⟩ := jU xb1; (try simp at xz1))
   | (go_at_call 96; (with_reducible refine (bi_set b o true A1 k1 c1 n _ (HR.out.ext xb1) hR1.out.1 (hR1.out.2.off hlt k1)).mono ?_); rintro e w3 ⟨rfl, hI3, xt3⟩)
   )
  refine bodyPost_ret (v := .pointer (some ⟨b, o, none⟩)) ?h rfl ⟨rfl, A1, k1, c1, ⟨by have := hI3.out; rwa [hsg.out] at this, hR1.out.2⟩, (Tch.of xb1).trans xt3⟩
  case h => simp [results, Tryz.results107, go_sem]
 ·obtain ⟨n, rfl⟩ : ∃ n : Nat, x = (n : Int) := ⟨x.natAbs, by omega⟩
  have hF : ∀ w', Calls Tryz.prog 137 #[.int .u64 (n : Int)] w' fun e w'' => ∃ (A : Option Addr) (k c : Nat), e = .returned (.slice A k c) ∧ Hid (Rd w'' A k c (lim n) ∧ Fr w' A) ∧ Ext w' w'' := fun w' => bw_fromUint n (by omega) w'
  have hsg : Hid (sgn false n = (n : Int)) := Lib.hid rfl
  go_enter Tryz.func107, Tryz.ntmps107
  go_wp2_with (first
   | (go_at_call 137; (with_reducible refine (hF _).mono ?_); rintro e w1 ⟨A1, k1, c1, rfl, hR1, xb1⟩; obtain ⟨xc1, xf1, xl1, xz1⟩ := jU xb1; (try simp at xz1))
   | (go_at_call 96; (with_reducible refine (bi_set b o false A1 k1 c1 n _ (HR.out.ext xb1) hR1.out.1 (hR1.out.2.off hlt k1)).mono ?_); rintro e w3 ⟨rfl, hI3, xt3⟩)
   )
  refine bodyPost_ret (v := .pointer (some ⟨b, o, none⟩)) ?h rfl ⟨rfl, A1, k1, c1, ⟨by have := hI3.out; rwa [hsg.out] at this, hR1.out.2⟩, (Tch.of xb1).trans xt3⟩
  case h => simp [results, Tryz.results107, go_sem]
theorem bi_NewInt (x : Int) (h1 : -9223372036854775808 ≤ x) (h2 : x ≤ 9223372036854775807) (w : World) :
  Calls Tryz.prog 59 #[.int .i64 x] w (NPost w x) := by
 have hrm := Lib.hid (int_room w)
 go_enter Tryz.func59, Tryz.ntmps59
 go_wp2_with (first
  | (go_at_call 107; (with_reducible refine (bi_SetInt64 w.heap.size 0 x h1 h2 _ hrm.out).mono ?_); rintro e w3 ⟨rfl, A3, n3, c3, hI3, xt3⟩)
  )
 have hEE := Lib.hid (xt3.ext (jA (jR w) _) (Nat.le_refl _))
 refine bodyPost_ret (v := .pointer (some ⟨w.heap.size, 0, none⟩)) ?h rfl ⟨_, A3, n3, c3, rfl, ⟨hI3.out.1, Fr.mono hI3.out.2 (jA (jR w) _)⟩, Nat.le_refl _, hEE.out⟩
 case h => simp [results, Tryz.results59, go_sem]
end Go.Proofs.YtfdmhefjmnlllaaGreatDoor.NB
end
section
/- (The document's library.) Whole numbers of the library's: products, differences, quotients. -/

namespace Go.Proofs.YtfdmhefjmnlllaaGreatDoor.NB
open Go.RowKit
attribute [local go_sem] sz2 sz3 sz4 sz5 sz6 sz7 sz8
set_option maxHeartbeats 4000000
set_option maxRecDepth 100000
attribute [local irreducible] Calls
attribute [local go_sem] D2.Oper.detAt D2.detUpon D2.relUpon
namespace D2
end D2
theorem bi_Sub (b o g p h q : Nat) (x y : Int) (A : Option Addr) (n c : Nat) (B : Option Addr) (m d : Nat) (hn : n ≤ 1000000) (hm : m ≤ 1000000) (w : World) (hr : Room w b o) (hx : IntIs w g p x A n c) (hy : IntIs w h q y B m d) :
  Calls Tryz.prog 95 #[.pointer (some ⟨b, o, none⟩), .pointer (some ⟨g, p, none⟩), .pointer (some ⟨h, q, none⟩)] w (IPost w b o (x - y)) := by
 have HX := Lib.hid hx
 have HY := Lib.hid hy
 have HR := Lib.hid hr
 have lx := hx.room.lt
 have x0 := hx.neg
 have x1 := hx.words
 have ly := hy.room.lt
 have y0 := hy.neg
 have y1 := hy.words
 have hbl := hr.lt
 clear hx hy hr
 go_enter Tryz.func95, Tryz.ntmps95
 go_wp2
 refine wp_aft_tail 18 (by kernel_rfl) (by kernel_rfl) (by kernel_rfl) (fun hq hqf => ?_)
 simp only [List.take_succ_cons, List.take_zero, List.drop_succ_cons, List.drop_zero]
 repeat (go_big_quiet_step (first | fail
  ))
 refine wpQuiet_nil ?_
 rintro _ ⟨nq, rfl⟩
 have xl := ext_lt nq.use
 have xz := ext_size nq.use
 try simp at xz
 have hE := Lib.hid nq.use
 go_wp2_with (first
  | (go_at_call 133; (with_reducible refine (bi_added b o A n c x.natAbs _ B m d y.natAbs _ hn hm _ (HR.out.ext hE.out) (HX.out.rd.ext hE.out) (HY.out.rd.ext hE.out)).mono ?_); rintro e w3 ⟨rfl, A3, n3, c3, hI3, xt3⟩)
  )
 refine bodyPost_ret (v := .pointer (some ⟨b, o, none⟩)) ?h rfl ⟨rfl, A3, n3, c3, ⟨by have := hI3.out.1; rwa [sgn_self, sgn_turn, ← Int.sub_eq_add_neg] at this, hI3.out.2.mono hE.out⟩, (Tch.of hE.out).trans xt3⟩
 case h => simp [results, Tryz.results95, go_sem]
theorem bi_QuoRem (b g bx b2 : Nat) (x y : Int) (hy0 : y ≠ 0) (hbg : b ≠ g) (A : Option Addr) (n c : Nat) (B : Option Addr) (m d : Nat) (hn : n ≤ 400000) (w : World) (hr : Room w b 0) (hr2 : Room w g 0) (hx : IntIs w bx 0 x A n c) (hy : IntIs w b2 0 y B m d) :
  Calls Tryz.prog 93 #[.pointer (some ⟨b, 0, none⟩), .pointer (some ⟨bx, 0, none⟩), .pointer (some ⟨b2, 0, none⟩), .pointer (some ⟨g, 0, none⟩)] w
   (QRPost w b g (sgn (!(decide (x < 0) == decide (y < 0))) (x.natAbs / y.natAbs)) (sgn (decide (x < 0)) (x.natAbs % y.natAbs))) := by
 have HX := Lib.hid hx
 have HY := Lib.hid hy
 have HR := Lib.hid hr
 have HR2 := Lib.hid hr2
 have lx := hx.room.lt
 have x0 := hx.neg
 have x1 := hx.words
 have ly := hy.room.lt
 have y0 := hy.neg
 have y1 := hy.words
 simp only [Nat.zero_add] at x1 y1
 have kD : ∀ w', Ext w w' → Calls Tryz.prog 132 #[.slice A n c, .slice B m d] w' (QPost w' (x.natAbs / y.natAbs) (x.natAbs % y.natAbs)) := fun w' he => bw_div A B n c m d _ _ (by omega) hn w' (HX.out.rd.ext he) (HY.out.rd.ext he)
 clear hx hy hr hr2
 go_enter Tryz.func93, Tryz.ntmps93
 go_wp2
 refine wp_aft (by kernel_rfl) (by kernel_rfl) (fun hq hqf => ?_)
 repeat (go_big_quiet_step (first | fail
  ))
 refine wpQuiet_nil ?_
 rintro _ ⟨nq, rfl⟩
 have xl := ext_lt nq.use
 have xz := ext_size nq.use
 try simp at xz
 have hE := Lib.hid nq.use
 clear hq hqf
 have z0 := (Below.cell (p := ⟨bx, 0, none⟩) hE.out lx).trans x0
 have z1 := (Below.cell (p := ⟨bx, 1, none⟩) hE.out lx).trans x1
 have z2 := (Below.cell (p := ⟨b2, 0, none⟩) hE.out ly).trans y0
 have z3 := (Below.cell (p := ⟨b2, 1, none⟩) hE.out ly).trans y1
 have lx' := ext_lt hE.out _ lx
 have ly' := ext_lt hE.out _ ly
 generalize nq.out = W at *
 clear nq x0 x1 y0 y1
 go_upto_region 3 with (fail)
 refine D2.wp_drawn (D2.tab [(8, D2.RQuo W.heap.size (x.natAbs / y.natAbs) (x.natAbs % y.natAbs))]) (by kernel_rfl) (by kernel_rfl) (D2.tab_stays (by simp [D2.stays_quo])) (fun hq hqf => ?_)
 have u1 := fun nq => (hq nq bx 1 lx').trans z1
 have u3 := fun nq => (hq nq b2 1 ly').trans z3
 iterate 8
  (refine D2.wpK_det rfl (fun K hK => ?_)
   go_simp
   first
    | (refine hK _ ?_; clear hK K)
    | (apply Exists.intro; refine ⟨fun x => ?_, hK _ ?_⟩; (first | exact u1 x | exact u3 x | (simp [u1, u3]; rfl)); clear hK K))
 refine D2.wpK_rel _ rfl rfl ?_ ?_
 ·rintro _ ⟨nn, rfl⟩ _
  unfold D2.Oper.relAt
  go_simp
  exact D2.rel_quo (ext_size nn.use) (kD _ (jT hE.out nn.use))
 rintro v ⟨_, ⟨nn, rfl⟩, hr⟩
 obtain ⟨A5, k5, c5, B5, m5, d5, rfl, -⟩ := hr
 clear nn
 iterate 5
  (refine D2.wpK_det rfl (fun K hK => ?_)
   go_simp
   refine hK _ ?_; clear hK K)
 refine D2.wpK_nil ?_
 intro nq hG
 have r5 : D2.RQuo W.heap.size (x.natAbs / y.natAbs) (x.natAbs % y.natAbs) [] (.tuple #[.slice A5 k5 c5, .slice B5 m5 d5]) nq.out := by have := hG.fact 8; simp [D2.Facts.put] at this; exact this
 have hR5 := Lib.hid (D2.quo_at r5)
 have hE2 := Lib.hid (jT hE.out nq.use)
 have fA : Fr w A5 := fun a ha => Nat.le_trans hE.out.size (hR5.out.1.2 a ha)
 have fB : Fr w B5 := fun a ha => Nat.le_trans hE.out.size (hR5.out.2.2 a ha)
 have oAb := fA.off HR.out.lt k5
 have oAg := fA.off HR2.out.lt k5
 have oBb := fB.off HR.out.lt m5
 have oBg := fB.off HR2.out.lt m5
 clear r5 hG u1 u3 hq hqf kD
 generalize nq.out = W2 at *
 clear nq
 clear z0 z1 z2 z3
 have HG := Lib.hid hbg
 have HY0 := Lib.hid hy0
 clear hbg hy0
 go_upto_region 5 with (first
  | (go_at_call 96; (with_reducible refine (bi_set g 0 _ B5 m5 d5 (x.natAbs % y.natAbs) _ (HR2.out.ext hE2.out) hR5.out.2.1 oBg).mono ?_); rintro e w3 ⟨rfl, hI3, xt3⟩)
  )
 have HI3 := Lib.hid (hI3.out)
 have HT3 := Lib.hid xt3
 clear hI3 xt3
 go_wp2_with (first
  | (go_at_call 96; (with_reducible refine (bi_set b 0 _ A5 k5 c5 (x.natAbs / y.natAbs) _ ((HR.out.ext hE2.out).tch HT3.out HG.out) (hR5.out.1.1.tch HT3.out oAg) oAb).mono ?_); rintro e w4 ⟨rfl, hI4, xt4⟩)
  )
 refine bodyPost_ret (v := .tuple #[.pointer (some ⟨b, 0, none⟩), .pointer (some ⟨g, 0, none⟩)]) ?h rfl ⟨rfl, A5, k5, c5, B5, m5, d5, w3, ⟨hI4.out, fA, HI3.out.tch xt4 (Ne.symm HG.out) oBb, fB⟩, (Tch.of hE2.out).trans HT3.out, xt4⟩
 case h => simp [results, Tryz.results93, go_sem]
end Go.Proofs.YtfdmhefjmnlllaaGreatDoor.NB
end
