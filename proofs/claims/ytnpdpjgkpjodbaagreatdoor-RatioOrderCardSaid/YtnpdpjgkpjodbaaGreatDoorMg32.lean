/- Lemmas of this proof, laid together: RatioOrderW. -/
import Derived.Test.YtnpdpjgkpjodbaaGreatDoorMg27
import Derived.Test.YtnpdpjgkpjodbaaGreatDoorMg29
import Derived.Test.YtnpdpjgkpjodbaaGreatDoorMg31
import Derived.Test.YtnpdpjgkpjodbaaGreatDoorMg26
import Derived.Deep.DeepCutAuto
import Derived.Deep.RegionWith
set_option linter.unusedSimpArgs false
set_option linter.unusedVariables false
section
/- RatioOrder: the walk. -/
namespace Go.Proofs.YtnpdpjgkpjodbaaGreatDoor
open Go.RowKit
attribute [local go_sem] sz2 sz3 sz4 sz5 sz6 sz7 sz8
set_option maxHeartbeats 4000000
set_option maxRecDepth 100000
attribute [local irreducible] Calls
attribute [local go_sem] Oper.detAt detUpon relUpon
theorem order_core (x0 : Bool) (x1A : Option Addr) (x1l x1c : Nat) (x2A : Option Addr) (x2l x2c : Nat) (x3 : Bool) (x4A : Option Addr) (x4l x4c : Nat) (x5A : Option Addr) (x5l x5c : Nat)
    (X Y L DZ H : Int) (P Q DD : Nat) (sa sb sd sl sh : Bool) (C p q : Int) (w : World) (hp : p ≤ 0) (hq : q < 0)
    (kL : ∀ w', Ext w w' → Calls Tryz.prog 12 #[] w' fun e w'' => e = .returned (.bool true) ∧ Ext w' w'')
    (kA : ∀ w', Ext w w' → Calls Tryz.prog 38 #[.agg #[.bool x0, .slice x1A x1l x1c, .slice x2A x2l x2c]] w' (MPst w' sa X P))
    (kB : ∀ w', Ext w w' → Calls Tryz.prog 38 #[.agg #[.bool x3, .slice x4A x4l x4c, .slice x5A x5l x5c]] w' (MPst w' sb Y Q))
    (kC : ∀ (F G : FH) (w' : World), Ext w w' → RaF w' X P F → RaF w' Y Q G → Calls Tryz.prog 39 #[fV sa F, fV sb G] w' fun e w'' => e = .returned (.tuple #[.int .i64 C, .int .i64 0]) ∧ Ext w' w'')
    (kS : Op2 w 40 sa X P sb Y Q sd DZ DD)
    (kF : ∀ (F : FH) (w' : World), Ext w w' → RaF w' X P F → Calls Tryz.prog 23 #[fV sa F] w' fun e w'' => ∃ (B : Option Addr) (j l : Nat), e = .returned (.tuple #[.bool sl, natV B j l, .int .i64 0]) ∧ Hid (Rd w'' B j l (lim L.natAbs)) ∧ Ext w' w'')
    (kM : ∀ (B : Option Addr) (j l : Nat) (D : Option Addr) (m k : Nat) (w' : World), Ext w w' → Rd w' B j l (lim L.natAbs) → Rd w' D m k (lim 1) → Calls Tryz.prog 34 #[.bool sl, natV B j l, natV D m k] w' (FPst w' sl L 1))
    (kH : Op2 w 41 sl L 1 false 1 1 sh H 1)
    (kP : ∀ (F G : FH) (w' : World), Ext w w' → RaF w' L 1 F → RaF w' X P G → Calls Tryz.prog 39 #[fV sl F, fV sa G] w' fun e w'' => e = .returned (.tuple #[.int .i64 p, .int .i64 0]) ∧ Ext w' w'')
    (kQ : ∀ (F G : FH) (w' : World), Ext w w' → RaF w' X P F → RaF w' H 1 G → Calls Tryz.prog 39 #[fV sa F, fV sh G] w' fun e w'' => e = .returned (.tuple #[.int .i64 q, .int .i64 0]) ∧ Ext w' w'')
    (kg : ∀ (F : FH) (w' : World), RaF w' DZ DD F → Calls Tryz.prog 42 #[fV sd F] w' fun e w'' => e = .returned (.int .i64 C) ∧ Ext w' w'')
    (ks : ∀ (F G : FH) (w' : World), RaF w' X P F → RaF w' Y Q G → Calls Tryz.prog 43 #[fV sa F, fV sb G] w' fun e w'' => e = .returned (.bool (C == 0)) ∧ Ext w' w'') :
    Calls Tryz.prog 6 #[.agg #[.bool x0, .slice x1A x1l x1c, .slice x2A x2l x2c], .agg #[.bool x3, .slice x4A x4l x4c, .slice x5A x5l x5c]] w fun e w' => e = .returned (.bool true) ∧ Ext w w' := by
  have hp' : decide (p ≤ 0) = true := decide_eq_true hp
  have hq' : decide (q < 0) = true := decide_eq_true hq
  have kW := fun w' => op_Whole (z := 1) (u := false) (by decide) (by decide) rfl w'
  have l1 : lim 1 = [1] := by kernel_rfl
  clear hp hq
  go_enter Tryz.func6, Tryz.ntmps6
  go_upto_region 8 with (first
    | (go_at_call 12; (with_reducible refine (kL _ (by (repeat (first | exact ext_refl _ | assumption | refine ext_setCell ?_ (by simp; try omega) _ | refine ext_alloc ?_ _ | refine ext_drew ?_ | refine ext_drewN ?_ _ | refine ext_trans ?_ (Aft.use _) | refine ext_trans ?_ (by assumption))))).mono ?_); rintro e w1 ⟨rfl, xb1⟩; obtain ⟨xc1, xf1, xl1, xz1⟩ := ext_use xb1; (try simp at xz1); obtain ⟨l1_0, gc, gf⟩ := kp xb1 (w.heap.size) (by first | omega | (simp; try omega)); have r1_0 := gc 0; have f1_0 := gf 0; have r1_0_1 := gc 1; have f1_0_1 := gf 1; have r1_0_2 := gc 2; have f1_0_2 := gf 2; clear gc gf; obtain ⟨l1_1, gc, gf⟩ := kp xb1 (w.heap.size + 1) (by first | omega | (simp; try omega)); have r1_1 := gc 0; have f1_1 := gf 0; have r1_1_1 := gc 1; have f1_1_1 := gf 1; have r1_1_2 := gc 2; have f1_1_2 := gf 2; clear gc gf)
    | (go_at_call 38; (with_reducible refine (kA _ (by (repeat (first | exact ext_refl _ | assumption | refine ext_setCell ?_ (by simp; try omega) _ | refine ext_alloc ?_ _ | refine ext_drew ?_ | refine ext_drewN ?_ _ | refine ext_trans ?_ (Aft.use _) | refine ext_trans ?_ (by assumption))))).mono ?_); rintro e w2 ⟨F2, rfl, hR2, xb2⟩; obtain ⟨xc2, xf2, xl2, xz2⟩ := ext_use xb2; (try simp at xz2); obtain ⟨l2_0, gc, gf⟩ := kp xb2 (w.heap.size) (by first | omega | (simp; try omega)); have r2_0 := gc 0; have f2_0 := gf 0; have r2_0_1 := gc 1; have f2_0_1 := gf 1; have r2_0_2 := gc 2; have f2_0_2 := gf 2; clear gc gf; obtain ⟨l2_1, gc, gf⟩ := kp xb2 (w.heap.size + 1) (by first | omega | (simp; try omega)); have r2_1 := gc 0; have f2_1 := gf 0; have r2_1_1 := gc 1; have f2_1_1 := gf 1; have r2_1_2 := gc 2; have f2_1_2 := gf 2; clear gc gf)
    | (go_at_call 38; (with_reducible refine (kB _ (by (repeat (first | exact ext_refl _ | assumption | refine ext_setCell ?_ (by simp; try omega) _ | refine ext_alloc ?_ _ | refine ext_drew ?_ | refine ext_drewN ?_ _ | refine ext_trans ?_ (Aft.use _) | refine ext_trans ?_ (by assumption))))).mono ?_); rintro e w3 ⟨F3, rfl, hR3, xb3⟩; obtain ⟨xc3, xf3, xl3, xz3⟩ := ext_use xb3; (try simp at xz3); obtain ⟨l3_0, gc, gf⟩ := kp xb3 (w2.heap.size) (by first | omega | (simp; try omega)); have r3_0 := gc 0; have f3_0 := gf 0; have r3_0_1 := gc 1; have f3_0_1 := gf 1; have r3_0_2 := gc 2; have f3_0_2 := gf 2; clear gc gf)
    | (go_at_call 39; (with_reducible refine (kC _ _ _ (by (repeat (first | exact ext_refl _ | assumption | refine ext_setCell ?_ (by simp; try omega) _ | refine ext_alloc ?_ _ | refine ext_drew ?_ | refine ext_drewN ?_ _ | refine ext_trans ?_ (Aft.use _) | refine ext_trans ?_ (by assumption)))) (hR2.out.ext (by (repeat (first | exact ext_refl _ | assumption | refine ext_setCell ?_ (by simp; try omega) _ | refine ext_alloc ?_ _ | refine ext_drew ?_ | refine ext_drewN ?_ _ | refine ext_trans ?_ (Aft.use _) | refine ext_trans ?_ (by assumption))))) (hR3.out.ext (by (repeat (first | exact ext_refl _ | assumption | refine ext_setCell ?_ (by simp; try omega) _ | refine ext_alloc ?_ _ | refine ext_drew ?_ | refine ext_drewN ?_ _ | refine ext_trans ?_ (Aft.use _) | refine ext_trans ?_ (by assumption)))))).mono ?_); rintro e w4 ⟨rfl, xb4⟩; obtain ⟨xc4, xf4, xl4, xz4⟩ := ext_use xb4; (try simp at xz4); obtain ⟨l4_0, gc, gf⟩ := kp xb4 (w2.heap.size) (by first | omega | (simp; try omega)); have r4_0 := gc 0; have f4_0 := gf 0; have r4_0_1 := gc 1; have f4_0_1 := gf 1; have r4_0_2 := gc 2; have f4_0_2 := gf 2; clear gc gf; obtain ⟨l4_1, gc, gf⟩ := kp xb4 (w3.heap.size) (by first | omega | (simp; try omega)); have r4_1 := gc 0; have f4_1 := gf 0; have r4_1_1 := gc 1; have f4_1_1 := gf 1; have r4_1_2 := gc 2; have f4_1_2 := gf 2; clear gc gf)
    | (go_at_call 40; (with_reducible refine (kS _ _ _ (by (repeat (first | exact ext_refl _ | assumption | refine ext_setCell ?_ (by simp; try omega) _ | refine ext_alloc ?_ _ | refine ext_drew ?_ | refine ext_drewN ?_ _ | refine ext_trans ?_ (Aft.use _) | refine ext_trans ?_ (by assumption)))) (hR2.out.ext (by (repeat (first | exact ext_refl _ | assumption | refine ext_setCell ?_ (by simp; try omega) _ | refine ext_alloc ?_ _ | refine ext_drew ?_ | refine ext_drewN ?_ _ | refine ext_trans ?_ (Aft.use _) | refine ext_trans ?_ (by assumption))))) (hR3.out.ext (by (repeat (first | exact ext_refl _ | assumption | refine ext_setCell ?_ (by simp; try omega) _ | refine ext_alloc ?_ _ | refine ext_drew ?_ | refine ext_drewN ?_ _ | refine ext_trans ?_ (Aft.use _) | refine ext_trans ?_ (by assumption)))))).mono ?_); rintro e w5 ⟨F5, rfl, hR5, xb5⟩; obtain ⟨xc5, xf5, xl5, xz5⟩ := ext_use xb5; (try simp at xz5); obtain ⟨l5_0, gc, gf⟩ := kp xb5 (w2.heap.size) (by first | omega | (simp; try omega)); have r5_0 := gc 0; have f5_0 := gf 0; have r5_0_1 := gc 1; have f5_0_1 := gf 1; have r5_0_2 := gc 2; have f5_0_2 := gf 2; clear gc gf; obtain ⟨l5_1, gc, gf⟩ := kp xb5 (w3.heap.size) (by first | omega | (simp; try omega)); have r5_1 := gc 0; have f5_1 := gf 0; have r5_1_1 := gc 1; have f5_1_1 := gf 1; have r5_1_2 := gc 2; have f5_1_2 := gf 2; clear gc gf)
   )
  go_upto_region 9 with (first
    | (go_at_call 23; (with_reducible refine (kF _ _ (by (repeat (first | exact ext_refl _ | assumption | refine ext_setCell ?_ (by simp; try omega) _ | refine ext_alloc ?_ _ | refine ext_drew ?_ | refine ext_drewN ?_ _ | refine ext_trans ?_ (Aft.use _) | refine ext_trans ?_ (by assumption)))) (hR2.out.ext (by (repeat (first | exact ext_refl _ | assumption | refine ext_setCell ?_ (by simp; try omega) _ | refine ext_alloc ?_ _ | refine ext_drew ?_ | refine ext_drewN ?_ _ | refine ext_trans ?_ (Aft.use _) | refine ext_trans ?_ (by assumption)))))).mono ?_); rintro e w6 ⟨B6, j6, l6, rfl, hR6, xb6⟩; obtain ⟨xc6, xf6, xl6, xz6⟩ := ext_use xb6; (try simp at xz6); obtain ⟨l6_0, gc, gf⟩ := kp xb6 (w2.heap.size) (by first | omega | (simp; try omega)); have r6_0 := gc 0; have f6_0 := gf 0; have r6_0_1 := gc 1; have f6_0_1 := gf 1; have r6_0_2 := gc 2; have f6_0_2 := gf 2; clear gc gf; obtain ⟨l6_1, gc, gf⟩ := kp xb6 (w3.heap.size) (by first | omega | (simp; try omega)); have r6_1 := gc 0; have f6_1 := gf 0; have r6_1_1 := gc 1; have f6_1_1 := gf 1; have r6_1_2 := gc 2; have f6_1_2 := gf 2; clear gc gf; obtain ⟨l6_2, gc, gf⟩ := kp xb6 (w5.heap.size) (by first | omega | (simp; try omega)); have r6_2 := gc 0; have f6_2 := gf 0; have r6_2_1 := gc 1; have f6_2_1 := gf 1; have r6_2_2 := gc 2; have f6_2_2 := gf 2; clear gc gf)
   )
  have hRo : Hid (Rd ((w6.alloc (Obj.cells #[.slice B6 j6 l6] 30)).alloc (Obj.cells #[.int .u32 1] 54)) (some ⟨w6.heap.size + 1, 0, none⟩) 1 1 (lim 1)) := by
    rw [l1]
    exact Lib.hid (Rd.made _ _ _ [1] (fun x hx => by simp at hx; subst hx; decide) (by simp [u32V]) (by simp) (by simp) rfl)
  go_upto_region 10 with (first
    | (go_at_call 34; (with_reducible refine (kM _ _ _ _ _ _ _ (by (repeat (first | exact ext_refl _ | assumption | refine ext_setCell ?_ (by simp; try omega) _ | refine ext_alloc ?_ _ | refine ext_drew ?_ | refine ext_drewN ?_ _ | refine ext_trans ?_ (Aft.use _) | refine ext_trans ?_ (by assumption)))) (hR6.out.ext (by (repeat (first | exact ext_refl _ | assumption | refine ext_setCell ?_ (by simp; try omega) _ | refine ext_alloc ?_ _ | refine ext_drew ?_ | refine ext_drewN ?_ _ | refine ext_trans ?_ (Aft.use _) | refine ext_trans ?_ (by assumption))))) (hRo.out.ext (by (repeat (first | exact ext_refl _ | assumption | refine ext_setCell ?_ (by simp; try omega) _ | refine ext_alloc ?_ _ | refine ext_drew ?_ | refine ext_drewN ?_ _ | refine ext_trans ?_ (Aft.use _) | refine ext_trans ?_ (by assumption)))))).mono ?_); rintro e w7 ⟨F7, rfl, hR7, xb7⟩; obtain ⟨xc7, xf7, xl7, xz7⟩ := ext_use xb7; (try simp at xz7); obtain ⟨l7_0, gc, gf⟩ := kp xb7 (w2.heap.size) (by first | omega | (simp; try omega)); have r7_0 := gc 0; have f7_0 := gf 0; have r7_0_1 := gc 1; have f7_0_1 := gf 1; have r7_0_2 := gc 2; have f7_0_2 := gf 2; clear gc gf; obtain ⟨l7_1, gc, gf⟩ := kp xb7 (w3.heap.size) (by first | omega | (simp; try omega)); have r7_1 := gc 0; have f7_1 := gf 0; have r7_1_1 := gc 1; have f7_1_1 := gf 1; have r7_1_2 := gc 2; have f7_1_2 := gf 2; clear gc gf; obtain ⟨l7_2, gc, gf⟩ := kp xb7 (w5.heap.size) (by first | omega | (simp; try omega)); have r7_2 := gc 0; have f7_2 := gf 0; have r7_2_1 := gc 1; have f7_2_1 := gf 1; have r7_2_2 := gc 2; have f7_2_2 := gf 2; clear gc gf)
   )
  have hE7 := Lib.hid (show Ext w w7 by (repeat (first | exact ext_refl _ | assumption | refine ext_setCell ?_ (by simp; try omega) _ | refine ext_alloc ?_ _ | refine ext_drew ?_ | refine ext_drewN ?_ _ | refine ext_trans ?_ (Aft.use _) | refine ext_trans ?_ (by assumption))))
  have g0 := hR7.out
  clear hR7
  have hR7 := Lib.hid g0
  clear g0
  go_cut [19, 20] (fun p q wc => ∃ (B9 : Nat) (F9 : FH), p = .pointer (some ⟨B9, 0, none⟩) ∧ q = .int .i64 0 ∧ Hid (Ext w7 wc) ∧ Hid (RaF wc H 1 F9) ∧ (w7.heap.size < B9 ∧ B9 < wc.heap.size) ∧
      (wc.cell? ⟨w7.heap.size, 0, none⟩ = some (.bool sl) ∧ wc.cell? ⟨w7.heap.size, 1, none⟩ = some (.slice F7.A F7.n F7.c) ∧ wc.cell? ⟨w7.heap.size, 2, none⟩ = some (.slice F7.D F7.m F7.k)) ∧
      wc.cell? ⟨B9, 0, none⟩ = some (.bool sh) ∧ wc.cell? ⟨B9, 1, none⟩ = some (.slice F9.A F9.n F9.c) ∧ wc.cell? ⟨B9, 2, none⟩ = some (.slice F9.D F9.m F9.k))
  case first =>
    refine wp_drawn_tailF 7 [5] _ (tab [(1, RFr false 1 1), (2, RFT sh H 1), (6, RAlloc (w7.heap.size + 1) (.cells #[.bool false, .slice none 0 0, .slice none 0 0] 32))]) (by kernel_rfl) (by kernel_rfl) rfl (by kernel_rfl)
      (tab_stays (by simp [stays_alloc, stays_fr, stays_ft])) (fun hq hqf => ?_)
    simp only [List.take_succ_cons, List.take_zero, List.drop_succ_cons, List.drop_zero]
    refine wpK_det rfl (fun K hK => ?_)
    go_simp
    refine hK _ ?_; clear hK K
    refine wpK_rel _ rfl rfl ?_ ?_
    · rintro _ ⟨nn, rfl⟩ _
      unfold Oper.relAt
      go_simp
      exact rel_fr (kW _)
    rintro v ⟨_, ⟨nn, rfl⟩, hr⟩
    obtain ⟨F8, rfl, -⟩ := hr
    clear nn
    refine wpK_rel _ rfl rfl ?_ ?_
    · rintro _ ⟨nn, rfl⟩ hdep
      have q1 := hdep 1 (by kernel_rfl)
      simp only [Facts.put] at q1
      have q3 := fr_at (vals := []) q1
      unfold Oper.relAt
      go_simp
      exact rel_ft (kH _ _ _ (ext_trans (by (repeat (first | exact ext_refl _ | assumption | refine ext_setCell ?_ (by simp; try omega) _ | refine ext_alloc ?_ _ | refine ext_drew ?_ | refine ext_drewN ?_ _ | refine ext_trans ?_ (Aft.use _) | refine ext_trans ?_ (by assumption)))) nn.use) (hR7.out.ext (ext_trans (by (repeat (first | exact ext_refl _ | assumption | refine ext_setCell ?_ (by simp; try omega) _ | refine ext_alloc ?_ _ | refine ext_drew ?_ | refine ext_drewN ?_ _ | refine ext_trans ?_ (Aft.use _) | refine ext_trans ?_ (by assumption)))) nn.use)) q3)
    rintro v ⟨_, ⟨nn, rfl⟩, hr⟩
    obtain ⟨F9, rfl, -⟩ := hr
    clear nn
    iterate 3
      (refine wpK_det rfl (fun K hK => ?_)
       go_simp
       refine hK _ ?_; clear hK K)
    refine wpK_rel _ rfl rfl ?_ ?_
    · rintro _ ⟨n, rfl⟩ _
      unfold Oper.relAt
      go_simp
      exact rAlloc_new (vals := []) (by have := ext_size n.use; simpa using this)
    rintro v ⟨_, ⟨n, rfl⟩, hr⟩
    obtain ⟨B9, rfl, leB9⟩ := rAlloc_open (vals := []) hr
    clear hr n
    simp only [Act.put, List.setIfInBounds_toArray, List.set_cons_zero, List.set_cons_succ]
    refine wpK_nil ?_
    intro nq hG
    have h1 : nq.out.heap[B9]? = some (.cells #[.bool false, .slice none 0 0, .slice none 0 0] 32 (0, 0)) := by have := hG.fact 6; simp [Facts.put, RAlloc] at this; exact this.2
    have r1 : ∃ vals, RFT sh H 1 vals (.tuple #[fV sh F9, .int .i64 0]) nq.out := by have := hG.fact 2; simp [Facts.put] at this; exact ⟨_, this⟩
    obtain ⟨_, r1⟩ := r1
    have hs1 := Lib.hid ((ft_at r1).off3 h1 (.bool sh) (.slice F9.A F9.n F9.c) (.slice F9.D F9.m F9.k))
    clear r1 h1
    have fB9 := hG.fact 6
    have ltB9 := hG.there 6 B9 (by simp [Facts.put, blk])
    simp [Facts.put, RAlloc] at fB9
    have ceB9 := fun i => cell_of_block fB9.2 i
    have frB9 := fun i => frozen_of_block fB9.2 i
    have neB9 : ∀ b, b < _ → (b = B9) = False := fun b hb => eq_false (Nat.ne_of_lt (Nat.lt_of_lt_of_le hb fB9.1))
    clear fB9
    have hE := nq.use
    have u0 := hq nq w7.heap.size 0 (by simp)
    have u1 := hq nq w7.heap.size 1 (by simp)
    have u2 := hq nq w7.heap.size 2 (by simp)
    simp [go_sem] at u0 u1 u2
    clear hG
    refine ⟨undef, ((nq.out.setCell ⟨B9, 0, none⟩ (.bool sh)).setCell ⟨B9, 1, none⟩ (.slice F9.A F9.n F9.c)).setCell ⟨B9, 2, none⟩ (.slice F9.D F9.m F9.k), .inr ⟨?_, rfl⟩, ?_⟩
    · go_simp
    go_wp2
    go_meet
    case rel =>
      refine ⟨B9, F9, rfl, rfl, ?_, hs1, ⟨?_, ?_⟩, ⟨?_, ?_, ?_⟩, ?_, ?_, ?_⟩
      · show Ext _ _
        have := ext_trans (ext_alloc (ext_refl w7) (Obj.cells #[Value.bool sl, Value.slice F7.A F7.n F7.c, Value.slice F7.D F7.m F7.k] 32)) hE
        have hb : w7.heap.size ≤ B9 := by omega
        exact ext_setCell (ext_setCell (ext_setCell this hb _) hb _) hb _
      · omega
      · simpa using ltB9
      all_goals
        have nb : w7.heap.size ≠ B9 := by omega
        go_simp
        try simp [go_sem, *]
  case rest =>
    obtain ⟨B9, F9, rfl, rfl, hE, hR9, ⟨le9, lt9⟩, ⟨u0, u1, u2⟩, v0, v1, v2⟩ := hcut
    obtain ⟨xc9, xf9, xl9, xz9⟩ := ext_use (hE.out)
    obtain ⟨l9_0, gc, gf⟩ := kp (hE.out) (w2.heap.size) (by first | omega | (simp; try omega))
    have r9_0 := gc 0
    have f9_0 := gf 0
    have r9_0_1 := gc 1
    have f9_0_1 := gf 1
    have r9_0_2 := gc 2
    have f9_0_2 := gf 2
    clear gc gf
    obtain ⟨l9_1, gc, gf⟩ := kp (hE.out) (w3.heap.size) (by first | omega | (simp; try omega))
    have r9_1 := gc 0
    have f9_1 := gf 0
    have r9_1_1 := gc 1
    have f9_1_1 := gf 1
    have r9_1_2 := gc 2
    have f9_1_2 := gf 2
    clear gc gf
    obtain ⟨l9_2, gc, gf⟩ := kp (hE.out) (w5.heap.size) (by first | omega | (simp; try omega))
    have r9_2 := gc 0
    have f9_2 := gf 0
    have r9_2_1 := gc 1
    have f9_2_1 := gf 1
    have r9_2_2 := gc 2
    have f9_2_2 := gf 2
    clear gc gf
    have hEE := hE.out
    go_upto_region 13 with (first
      | (go_at_call 39; (with_reducible refine (kP _ _ _ (by (repeat (first | exact ext_refl _ | assumption | refine ext_setCell ?_ (by simp; try omega) _ | refine ext_alloc ?_ _ | refine ext_drew ?_ | refine ext_drewN ?_ _ | refine ext_trans ?_ (Aft.use _) | refine ext_trans ?_ (by assumption)))) (hR7.out.ext (by (repeat (first | exact ext_refl _ | assumption | refine ext_setCell ?_ (by simp; try omega) _ | refine ext_alloc ?_ _ | refine ext_drew ?_ | refine ext_drewN ?_ _ | refine ext_trans ?_ (Aft.use _) | refine ext_trans ?_ (by assumption))))) (hR2.out.ext (by (repeat (first | exact ext_refl _ | assumption | refine ext_setCell ?_ (by simp; try omega) _ | refine ext_alloc ?_ _ | refine ext_drew ?_ | refine ext_drewN ?_ _ | refine ext_trans ?_ (Aft.use _) | refine ext_trans ?_ (by assumption)))))).mono ?_); rintro e w10 ⟨rfl, xb10⟩; obtain ⟨xc10, xf10, xl10, xz10⟩ := ext_use xb10; (try simp at xz10); obtain ⟨l10_0, gc, gf⟩ := kp xb10 (w2.heap.size) (by first | omega | (simp; try omega)); have r10_0 := gc 0; have f10_0 := gf 0; have r10_0_1 := gc 1; have f10_0_1 := gf 1; have r10_0_2 := gc 2; have f10_0_2 := gf 2; clear gc gf; obtain ⟨l10_1, gc, gf⟩ := kp xb10 (w3.heap.size) (by first | omega | (simp; try omega)); have r10_1 := gc 0; have f10_1 := gf 0; have r10_1_1 := gc 1; have f10_1_1 := gf 1; have r10_1_2 := gc 2; have f10_1_2 := gf 2; clear gc gf; obtain ⟨l10_2, gc, gf⟩ := kp xb10 (w5.heap.size) (by first | omega | (simp; try omega)); have r10_2 := gc 0; have f10_2 := gf 0; have r10_2_1 := gc 1; have f10_2_1 := gf 1; have r10_2_2 := gc 2; have f10_2_2 := gf 2; clear gc gf; obtain ⟨l10_3, gc, gf⟩ := kp xb10 (B9) (by first | omega | (simp; try omega)); have r10_3 := gc 0; have f10_3 := gf 0; have r10_3_1 := gc 1; have f10_3_1 := gf 1; have r10_3_2 := gc 2; have f10_3_2 := gf 2; clear gc gf)
      | (go_at_call 39; (with_reducible refine (kQ _ _ _ (by (repeat (first | exact ext_refl _ | assumption | refine ext_setCell ?_ (by simp; try omega) _ | refine ext_alloc ?_ _ | refine ext_drew ?_ | refine ext_drewN ?_ _ | refine ext_trans ?_ (Aft.use _) | refine ext_trans ?_ (by assumption)))) (hR2.out.ext (by (repeat (first | exact ext_refl _ | assumption | refine ext_setCell ?_ (by simp; try omega) _ | refine ext_alloc ?_ _ | refine ext_drew ?_ | refine ext_drewN ?_ _ | refine ext_trans ?_ (Aft.use _) | refine ext_trans ?_ (by assumption))))) (hR9.out.ext (by (repeat (first | exact ext_refl _ | assumption | refine ext_setCell ?_ (by simp; try omega) _ | refine ext_alloc ?_ _ | refine ext_drew ?_ | refine ext_drewN ?_ _ | refine ext_trans ?_ (Aft.use _) | refine ext_trans ?_ (by assumption)))))).mono ?_); rintro e w11 ⟨rfl, xb11⟩; obtain ⟨xc11, xf11, xl11, xz11⟩ := ext_use xb11; (try simp at xz11); obtain ⟨l11_0, gc, gf⟩ := kp xb11 (w2.heap.size) (by first | omega | (simp; try omega)); have r11_0 := gc 0; have f11_0 := gf 0; have r11_0_1 := gc 1; have f11_0_1 := gf 1; have r11_0_2 := gc 2; have f11_0_2 := gf 2; clear gc gf; obtain ⟨l11_1, gc, gf⟩ := kp xb11 (w3.heap.size) (by first | omega | (simp; try omega)); have r11_1 := gc 0; have f11_1 := gf 0; have r11_1_1 := gc 1; have f11_1_1 := gf 1; have r11_1_2 := gc 2; have f11_1_2 := gf 2; clear gc gf; obtain ⟨l11_2, gc, gf⟩ := kp xb11 (w5.heap.size) (by first | omega | (simp; try omega)); have r11_2 := gc 0; have f11_2 := gf 0; have r11_2_1 := gc 1; have f11_2_1 := gf 1; have r11_2_2 := gc 2; have f11_2_2 := gf 2; clear gc gf)
     )
    go_wp2_with (first
      | (go_at_call 42; (with_reducible refine (kg _ _ (hR5.out.ext (by (repeat (first | exact ext_refl _ | assumption | refine ext_setCell ?_ (by simp; try omega) _ | refine ext_alloc ?_ _ | refine ext_drew ?_ | refine ext_drewN ?_ _ | refine ext_trans ?_ (Aft.use _) | refine ext_trans ?_ (by assumption)))))).mono ?_); rintro e w12 ⟨rfl, xb12⟩; obtain ⟨xc12, xf12, xl12, xz12⟩ := ext_use xb12; (try simp at xz12); obtain ⟨l12_0, gc, gf⟩ := kp xb12 (w2.heap.size) (by first | omega | (simp; try omega)); have r12_0 := gc 0; have f12_0 := gf 0; have r12_0_1 := gc 1; have f12_0_1 := gf 1; have r12_0_2 := gc 2; have f12_0_2 := gf 2; clear gc gf; obtain ⟨l12_1, gc, gf⟩ := kp xb12 (w3.heap.size) (by first | omega | (simp; try omega)); have r12_1 := gc 0; have f12_1 := gf 0; have r12_1_1 := gc 1; have f12_1_1 := gf 1; have r12_1_2 := gc 2; have f12_1_2 := gf 2; clear gc gf)
      | (go_at_call 43; (with_reducible refine (ks _ _ _ (hR2.out.ext (by (repeat (first | exact ext_refl _ | assumption | refine ext_setCell ?_ (by simp; try omega) _ | refine ext_alloc ?_ _ | refine ext_drew ?_ | refine ext_drewN ?_ _ | refine ext_trans ?_ (Aft.use _) | refine ext_trans ?_ (by assumption))))) (hR3.out.ext (by (repeat (first | exact ext_refl _ | assumption | refine ext_setCell ?_ (by simp; try omega) _ | refine ext_alloc ?_ _ | refine ext_drew ?_ | refine ext_drewN ?_ _ | refine ext_trans ?_ (Aft.use _) | refine ext_trans ?_ (by assumption)))))).mono ?_); rintro e w13 ⟨rfl, xb13⟩; obtain ⟨xc13, xf13, xl13, xz13⟩ := ext_use xb13; (try simp at xz13))
     )
    refine bodyPost_ret (v := .bool true) ?h rfl ⟨rfl, ?_⟩
    case h => simp [results, Tryz.results6, go_sem]
    repeat (first | exact ext_refl _ | assumption | refine ext_setCell ?_ (by simp; try omega) _ | refine ext_alloc ?_ _ | refine ext_drew ?_ | refine ext_drewN ?_ _ | refine ext_trans ?_ (Aft.use _) | refine ext_trans ?_ (by assumption))
theorem walk_RatioOrder (x0 : Bool) (x1A : Option Addr) (x1l x1c : Nat) (x1 : List Nat) (x2A : Option Addr) (x2l x2c : Nat) (x2 : List Nat) (x3 : Bool) (x4A : Option Addr) (x4l x4c : Nat) (x4 : List Nat) (x5A : Option Addr) (x5l x5c : Nat) (x5 : List Nat) (w : World) (hx1 : Rd w x1A x1l x1c x1) (hx2 : Rd w x2A x2l x2c x2) (hx4 : Rd w x4A x4l x4c x4) (hx5 : Rd w x5A x5l x5c x5) (hL : laidMetH Tryz.prog Rows.ratioOrderRow.laid w) :
    Calls Tryz.prog 6 #[.agg #[.bool x0, .slice x1A x1l x1c, .slice x2A x2l x2c], .agg #[.bool x3, .slice x4A x4l x4c, .slice x5A x5l x5c]] w fun e w' => e = .returned (.bool true) ∧ Ext w w' := by
  have hT : Tz w := tz_row w hL (fun w => MakeChecks.laidMetH_plain _ _ _ (by kernel_rfl)) (rest := [("unicode/utf8.acceptRanges", Rows.laid_unicode_utf8_acceptRanges), ("unicode/utf8.first", Rows.laid_unicode_utf8_first)]) (by kernel_rfl)
  clear hL
  have fA := raw_few x0 hx1 hx2
  have fB := raw_few x3 hx4 hx5
  have qA := rawD_pos (val (x2.take 5))
  have qB := rawD_pos (val (x5.take 5))
  change Few 5 (canN (sgn x0 (val (x1.take 5))) (rawD (val (x2.take 5)))) (canD (sgn x0 (val (x1.take 5))) (rawD (val (x2.take 5)))) at fA
  change Few 5 (canN (sgn x3 (val (x4.take 5))) (rawD (val (x5.take 5)))) (canD (sgn x3 (val (x4.take 5))) (rawD (val (x5.take 5)))) at fB
  have pA := canD_pos (z := sgn x0 (val (x1.take 5))) qA
  have pB := canD_pos (z := sgn x3 (val (x4.take 5))) qB
  have gA := can_gcd (z := sgn x0 (val (x1.take 5))) qA
  have gB := can_gcd (z := sgn x3 (val (x4.take 5))) qB
  obtain ⟨X, hX⟩ : ∃ X, canN (sgn x0 (val (x1.take 5))) (rawD (val (x2.take 5))) = X := ⟨_, rfl⟩
  obtain ⟨P, hP⟩ : ∃ X, canD (sgn x0 (val (x1.take 5))) (rawD (val (x2.take 5))) = X := ⟨_, rfl⟩
  obtain ⟨Y, hY⟩ : ∃ X, canN (sgn x3 (val (x4.take 5))) (rawD (val (x5.take 5))) = X := ⟨_, rfl⟩
  obtain ⟨Q, hQ⟩ : ∃ X, canD (sgn x3 (val (x4.take 5))) (rawD (val (x5.take 5))) = X := ⟨_, rfl⟩
  have kA : ∀ w', Ext w w' → Calls Tryz.prog 38 #[.agg #[.bool x0, .slice x1A x1l x1c, .slice x2A x2l x2c]] w' (MPst w' (decide (X < 0)) X P) := fun w' he => made_op x0 (hT.ext he) (hx1.ext he) (hx2.ext he) hX hP rfl
  have kB : ∀ w', Ext w w' → Calls Tryz.prog 38 #[.agg #[.bool x3, .slice x4A x4l x4c, .slice x5A x5l x5c]] w' (MPst w' (decide (Y < 0)) Y Q) := fun w' he => made_op x3 (hT.ext he) (hx4.ext he) (hx5.ext he) hY hQ rfl
  rw [hX, hP] at fA gA
  rw [hP] at pA
  rw [hY, hQ] at fB gB
  rw [hQ] at pB
  clear hX hP hY hQ qA qB
  have l1 : (lim 1).length = 1 := by kernel_rfl
  have fA' := fA.mono (show 5 ≤ 4000 by decide)
  have fB' := fB.mono (show 5 ≤ 4000 by decide)
  have hLl : (lim (X / (P : Int)).natAbs).length ≤ 5 := Nat.le_trans (lim_mono (Int.natAbs_ediv_le_natAbs X P)) fA.1
  have fL : Few 4000 (X / (P : Int)) 1 := ⟨by omega, by omega⟩
  have fO : Few 4000 1 1 := ⟨by show (lim 1).length ≤ 4000; omega, by omega⟩
  have hH : canN (X / (P : Int) * ((1 : Nat) : Int) + 1 * ((1 : Nat) : Int)) (1 * 1) = X / (P : Int) + 1 ∧ canD (X / (P : Int) * ((1 : Nat) : Int) + 1 * ((1 : Nat) : Int)) (1 * 1) = 1 := by
    have e : X / (P : Int) * ((1 : Nat) : Int) + 1 * ((1 : Nat) : Int) = X / (P : Int) + 1 := by rw [Int.natCast_one, Int.mul_one, Int.mul_one]
    rw [e]
    exact can_one _
  have fH : Few 4000 (X / (P : Int) + 1) 1 := by
    have := ((Few.mono (k := 5) (l := 5) ⟨hLl, by omega⟩ (Nat.le_refl _) : Few 5 (X / (P : Int)) 1).add (show Few 1 1 1 from ⟨by show (lim 1).length ≤ 1; omega, by omega⟩)).can.mono (show 5 + 1 + 1 ≤ 4000 by decide)
    rwa [hH.1, hH.2] at this
  refine order_core x0 x1A x1l x1c x2A x2l x2c x3 x4A x4l x4c x5A x5l x5c X Y (X / (P : Int)) (canN (X * Q - Y * P) (P * Q)) (X / (P : Int) + 1) P Q (canD (X * Q - Y * P) (P * Q)) (decide (X < 0)) (decide (Y < 0)) _ _ _ ((X * Q - Y * P).sign) _ _ w (ord_low pA) (ord_high pA)
    (fun w' he => alive2_any w' (hT.ext he)) kA kB
    (fun F G w' he h1 h2 => op_Cmp hT fA' fB' rfl rfl rfl F G w' he h1 h2)
    (op_Sub hT fA' fB' rfl rfl ⟨rfl, rfl⟩ rfl)
    (fun F w' he h1 => op_Floor hT fA' rfl rfl rfl F w' he h1)
    (fun B j l D m k w' he h1 h2 => op_Make1 hT fL.1 rfl B j l D m k w' he h1 h2)
    (op_Add hT fL fO rfl rfl hH rfl)
    (fun F G w' he h1 h2 => op_Cmp hT fL fA' rfl rfl rfl F G w' he h1 h2)
    (fun F G w' he h1 h2 => op_Cmp hT fA' fH rfl rfl rfl F G w' he h1 h2)
    (fun F w' h1 => op_sign rfl (ord_sign pA pB) F w' h1)
    (fun F G w' h1 h2 => op_same rfl rfl ?_ F G w' h1 h2)
  have := ord_same pA pB gA gB
  by_cases h : (X * Q - Y * P).sign = 0
  · rw [h, decide_eq_true (this.1 h)]; rfl
  · rw [decide_eq_false (fun h2 => h (this.2 h2))]
    simpa using h
end Go.Proofs.YtnpdpjgkpjodbaaGreatDoor
end
