/- Lemmas of this proof, laid together: DbF, DbG. -/
import Derived.Test.YtiapoflkeliljaaGreatDoorMg31
import Derived.Deep.DeepCutAuto
import Derived.Deep.RegionWith
import Derived.Deep.LoopGhost
import Derived.Test.YtiapoflkeliljaaGreatDoorMg27
import Derived.Test.YtiapoflkeliljaaGreatDoorMg08
set_option linter.unusedSimpArgs false
set_option linter.unusedVariables false
section
/- The program's decimals: a fraction that ends in tens. -/
namespace Go.Proofs.YtiapoflkeliljaaGreatDoor
open Go.RowKit
attribute [local go_sem] bs_size bs_extract bs_get bs_append bs_toList const_get
attribute [local go_sem] sz2 sz3 sz4 sz5 sz6 sz7 sz8
set_option maxHeartbeats 4000000
set_option maxRecDepth 100000
attribute [local irreducible] Calls
attribute [local go_sem] D2.Oper.detAt D2.detUpon D2.relUpon
theorem of_bad_ge (neg : Bool) (A : Option Addr) (n c : Nat) (D : Option Addr) (m k d1 r t j p5 bv : Nat) (ht : t ≤ 1000000) (hj : j ≤ 1000000) (htj : (j : Int) ≤ (t : Int)) (hp5 : max (0 : Int) ((t : Int) - (j : Int)) = (p5 : Int)) (w : World)
    (hck : ∀ w', Ext w w' → Calls Tryz.prog 30 #[ratV neg A n c D m k] w' fun e w'' => e = .returned (.int .i64 0) ∧ Ext w' w'')
    (kT : ∀ w', Ext w w' → Calls Tryz.prog 137 #[natV D m k] w' fun e w'' => ∃ (A' : Option Addr) (k : Nat), e = .returned (.tuple #[.int .i64 (t : Int), natV A' k k]) ∧ Hid (Rd w'' A' k k (lim d1) ∧ Fr w' A') ∧ Ext w' w'')
    (kO : ∀ A' k' w', Rd w' A' k' k' (lim d1) → Calls Tryz.prog 138 #[natV A' k' k', .int .u64 5] w' fun e w'' => ∃ (B : Option Addr) (k l : Nat), e = .returned (.tuple #[.int .i64 (j : Int), natV B k l]) ∧ Hid (Rd w'' B k l (lim r)) ∧ Ext w' w'')
    (kC : ∀ B k l F f w', Rd w' B k l (lim r) → Rd w' F f f (lim 1) → Calls Tryz.prog 139 #[natV B k l, natV F f f] w' fun e w'' => e = .returned (.tuple #[.int .i64 0, .int .i64 0]) ∧ Ext w' w'')
    (kP5 : ∀ w', Calls Tryz.prog 134 #[.int .u32 5, .int .i64 (p5 : Int)] w' (NatPost0 w' bv))
    (N : Nat) (s T : List UInt8) (mx : Nat) (hs : s.length ≤ 600000) (hTl : T.length ≤ s.length) (hmx : max (t : Int) (j : Int) = (mx : Int))
    (kM : ∀ P p w', Ext w w' → Rd w' P p p (lim bv) → Calls Tryz.prog 135 #[natV A n c, natV P p p] w' (NatPost0 w' N))
    (kTx : ∀ B k w', Rd w' B k k (lim N) → Calls Tryz.prog 140 #[natV B k k] w' fun e w'' => e = .returned (.tuple #[.string (bs s), .int .i64 0]) ∧ Ext w' w'')
    (kR : ∀ w', Calls Tryz.prog 141 #[.string (bs s), .string ⟨#[48]⟩] w' fun e w'' => e = .returned (.string (bs T)) ∧ w' = w'') (hT0 : T.isEmpty = false)
    (ee : Int) (hee : (ee == 0) = false) (kMk : ∀ w', Calls Tryz.prog 142 #[.bool neg, .string (bs T), .int .i64 ((s.length : Int) - (T.length : Int) - (mx : Int))] w' fun e w'' => e = .returned (.tuple #[.agg #[.bool false, .string ⟨#[]⟩, .int .i64 0], .int .i64 ee]) ∧ Ext w' w'') :
    Calls Tryz.prog 58 #[ratV neg A n c D m k] w fun e w' => e = .returned (noDc ee) ∧ Ext w w' := by
  go_enter Tryz.func58, Tryz.ntmps58
  go_wp2_with (first
    | (go_at_call 30; (with_reducible refine (hck _ (by (repeat (first | exact ext_refl _ | assumption | refine ext_setCell ?_ (by simp; try omega) _ | refine ext_alloc ?_ _ | refine ext_drew ?_ | refine ext_drewN ?_ _ | refine ext_trans ?_ (Aft.use _) | refine ext_trans ?_ (by assumption))))).mono ?_); rintro e w1 ⟨rfl, xb1⟩; obtain ⟨xc1, xf1, xl1, xz1⟩ := ext_use xb1; (try simp at xz1); obtain ⟨l1_0, gc, gf⟩ := kp xb1 (w.heap.size) (by first | omega | (simp; try omega)); have r1_0 := gc 0; have f1_0 := gf 0; have r1_0_1 := gc 1; have f1_0_1 := gf 1; have r1_0_2 := gc 2; have f1_0_2 := gf 2; clear gc gf; obtain ⟨l1_1, gc, gf⟩ := kp xb1 (w.heap.size + 1) (by first | omega | (simp; try omega)); have r1_1 := gc 0; have f1_1 := gf 0; have r1_1_1 := gc 1; have f1_1_1 := gf 1; have r1_1_2 := gc 2; have f1_1_2 := gf 2; clear gc gf)
    | (go_at_call 137; (with_reducible refine (kT _ (by (repeat (first | exact ext_refl _ | assumption | refine ext_setCell ?_ (by simp; try omega) _ | refine ext_alloc ?_ _ | refine ext_drew ?_ | refine ext_drewN ?_ _ | refine ext_trans ?_ (Aft.use _) | refine ext_trans ?_ (by assumption))))).mono ?_); rintro e w2 ⟨A2, k2, rfl, hR2, xb2⟩; obtain ⟨xc2, xf2, xl2, xz2⟩ := ext_use xb2; (try simp at xz2); obtain ⟨l2_0, gc, gf⟩ := kp xb2 (w.heap.size) (by first | omega | (simp; try omega)); have r2_0 := gc 0; have f2_0 := gf 0; have r2_0_1 := gc 1; have f2_0_1 := gf 1; have r2_0_2 := gc 2; have f2_0_2 := gf 2; clear gc gf; obtain ⟨l2_1, gc, gf⟩ := kp xb2 (w.heap.size + 1) (by first | omega | (simp; try omega)); have r2_1 := gc 0; have f2_1 := gf 0; have r2_1_1 := gc 1; have f2_1_1 := gf 1; have r2_1_2 := gc 2; have f2_1_2 := gf 2; clear gc gf)
    | (go_at_call 138; (with_reducible refine (kO _ _ _ (hR2.out.1.ext (by (repeat (first | exact ext_refl _ | assumption | refine ext_setCell ?_ (by simp; try omega) _ | refine ext_alloc ?_ _ | refine ext_drew ?_ | refine ext_drewN ?_ _ | refine ext_trans ?_ (Aft.use _) | refine ext_trans ?_ (by assumption)))))).mono ?_); rintro e w3 ⟨B3, k3, l3, rfl, hR3, xb3⟩; obtain ⟨xc3, xf3, xl3, xz3⟩ := ext_use xb3; (try simp at xz3); obtain ⟨l3_0, gc, gf⟩ := kp xb3 (w.heap.size) (by first | omega | (simp; try omega)); have r3_0 := gc 0; have f3_0 := gf 0; have r3_0_1 := gc 1; have f3_0_1 := gf 1; have r3_0_2 := gc 2; have f3_0_2 := gf 2; clear gc gf; obtain ⟨l3_1, gc, gf⟩ := kp xb3 (w.heap.size + 1) (by first | omega | (simp; try omega)); have r3_1 := gc 0; have f3_1 := gf 0; have r3_1_1 := gc 1; have f3_1_1 := gf 1; have r3_1_2 := gc 2; have f3_1_2 := gf 2; clear gc gf; obtain ⟨l3_2, gc, gf⟩ := kp xb3 (w2.heap.size) (by first | omega | (simp; try omega)); have r3_2 := gc 0; have f3_2 := gf 0; clear gc gf)
   )
  have hb2 : w3.heap[w2.heap.size]? = some (.cells #[.slice A2 k2 k2] 30 (0, 0)) := (xb3.block _ (by simp)).trans (heap_alloc_new w2 _)
  have l2 : w2.heap.size < w3.heap.size := by have := ext_size xb3; simp at this; omega
  have hR3' : Rd (w3.setCell ⟨w2.heap.size, 0, none⟩ (.slice B3 k3 l3)) B3 k3 l3 (lim r) := rd_apart2 hR3.out hb2 (fun _ e => by cases e) _
  have y6 : (w3.setCell ⟨w2.heap.size, 0, none⟩ (.slice B3 k3 l3)).cell? ⟨w2.heap.size, 0, none⟩ = some (.slice B3 k3 l3) := World.cell?_setCell_same _ _ _ (cell_of_block hb2 0)
  have m6 : w2.heap.size < (w3.setCell ⟨w2.heap.size, 0, none⟩ (.slice B3 k3 l3)).heap.size := by simpa using l2
  have hE3 : Hid (Ext w (w3.setCell ⟨w2.heap.size, 0, none⟩ (.slice B3 k3 l3))) := by show Ext w _; exact ext_setCell (show Ext w w3 by (repeat (first | exact ext_refl _ | assumption | refine ext_setCell ?_ (by simp; try omega) _ | refine ext_alloc ?_ _ | refine ext_drew ?_ | refine ext_drewN ?_ _ | refine ext_trans ?_ (Aft.use _) | refine ext_trans ?_ (by assumption)))) (by have := ext_size xb1; have := ext_size xb2; simp at *; omega) _
  have z0 : (w3.setCell ⟨w2.heap.size, 0, none⟩ (.slice B3 k3 l3)).cell? ⟨w.heap.size + 1, 0, none⟩ = some (.bool false) := by simp [go_sem, *]
  have z1 : (w3.setCell ⟨w2.heap.size, 0, none⟩ (.slice B3 k3 l3)).cell? ⟨w.heap.size + 1, 1, none⟩ = some (.string ⟨#[]⟩) := by simp [go_sem, *]
  have z2 : (w3.setCell ⟨w2.heap.size, 0, none⟩ (.slice B3 k3 l3)).cell? ⟨w.heap.size + 1, 2, none⟩ = some (.int .i64 0) := by simp [go_sem, *]
  have e0 : (w3.setCell ⟨w2.heap.size, 0, none⟩ (.slice B3 k3 l3)).frozen? ⟨w.heap.size + 1, 0, none⟩ = false := by simp [go_sem, *]
  have e1 : (w3.setCell ⟨w2.heap.size, 0, none⟩ (.slice B3 k3 l3)).frozen? ⟨w.heap.size + 1, 1, none⟩ = false := by simp [go_sem, *]
  have e2 : (w3.setCell ⟨w2.heap.size, 0, none⟩ (.slice B3 k3 l3)).frozen? ⟨w.heap.size + 1, 2, none⟩ = false := by simp [go_sem, *]
  have x0 : (w3.setCell ⟨w2.heap.size, 0, none⟩ (.slice B3 k3 l3)).cell? ⟨w.heap.size, 0, none⟩ = some (.bool neg) := by simp [go_sem, *]
  have x1 : (w3.setCell ⟨w2.heap.size, 0, none⟩ (.slice B3 k3 l3)).cell? ⟨w.heap.size, 1, none⟩ = some (.slice A n c) := by simp [go_sem, *]
  have m1 : w.heap.size + 1 < (w3.setCell ⟨w2.heap.size, 0, none⟩ (.slice B3 k3 l3)).heap.size := by have := ext_size xb1; have := ext_size xb2; have := ext_size xb3; simp at *; omega
  refine D2.wp_drawn (D2.tab [(1, D2.RNum 1), (2, D2.REq (.tuple #[.int .i64 0, .int .i64 0]))]) (by kernel_rfl) (by kernel_rfl) (D2.tab_stays (by simp [D2.stays_num, D2.stays_eq])) (fun hq hqf => ?_)
  have u6 := fun nq => (hq nq w2.heap.size 0 m6).trans y6
  refine D2.wpK_det rfl (fun K hK => ?_)
  go_simp
  first
    | (refine hK _ ?_; clear hK K)
    | (apply Exists.intro; refine ⟨fun x => ?_, hK _ ?_⟩; (first | exact u6 x | (simp [u6]; done) | (simp [u6]; rfl)); clear hK K)
  refine D2.wpK_rel _ rfl rfl ?_ ?_
  · rintro _ ⟨nn, rfl⟩ _
    unfold D2.Oper.relAt
    go_simp
    exact D2.rel_num (nof_one _)
  rintro v ⟨_, ⟨nn, rfl⟩, hr⟩
  obtain ⟨F, f, rfl, -⟩ := hr
  clear nn
  refine D2.wpK_rel _ rfl rfl ?_ ?_
  · rintro _ ⟨nn, rfl⟩ hdep
    have q1 := hdep 1 (by kernel_rfl)
    simp only [D2.Facts.put] at q1
    have q2 := D2.num_at (vals := []) q1
    unfold D2.Oper.relAt
    go_simp
    refine (kC B3 k3 l3 F f _ (hR3'.ext nn.use) q2).mono ?_
    rintro e w' ⟨rfl, h4⟩
    exact ⟨_, rfl, h4, (fun b hb => by simp [D2.blk] at hb), rfl⟩
  rintro v ⟨_, ⟨nn, rfl⟩, rfl⟩
  clear nn
  iterate 5
    (refine D2.wpK_det rfl (fun K hK => ?_)
     go_simp
     refine hK _ ?_; clear hK K)
  refine D2.wpK_nil ?_
  intro nq hG
  have hE := Lib.hid nq.use
  clear hG u6 hq hqf
  have z0 := (Below.cell (p := ⟨w.heap.size + 1, 0, none⟩) hE.out m1).trans z0
  have z1 := (Below.cell (p := ⟨w.heap.size + 1, 1, none⟩) hE.out m1).trans z1
  have z2 := (Below.cell (p := ⟨w.heap.size + 1, 2, none⟩) hE.out m1).trans z2
  have e0 := (Below.frozen (p := ⟨w.heap.size + 1, 0, none⟩) hE.out m1).trans e0
  have e1 := (Below.frozen (p := ⟨w.heap.size + 1, 1, none⟩) hE.out m1).trans e1
  have e2 := (Below.frozen (p := ⟨w.heap.size + 1, 2, none⟩) hE.out m1).trans e2
  have x0 := (Below.cell (p := ⟨w.heap.size, 0, none⟩) hE.out (Nat.lt_of_succ_lt m1)).trans x0
  have x1 := (Below.cell (p := ⟨w.heap.size, 1, none⟩) hE.out (Nat.lt_of_succ_lt m1)).trans x1
  have m0 := ext_lt hE.out _ (Nat.lt_of_succ_lt m1)
  have m1 := ext_lt hE.out _ m1
  have hEE := Lib.hid (ext_trans hE3.out hE.out)
  clear xb1 xb2 xb3 y6 m6 l2 hb2 hR3' hE3 hE
  go_upto_region 13 with (first
    | (go_at_call 134; (with_reducible refine (kP5 _).mono ?_); rintro e w6 ⟨P6, p6, rfl, hP6, xb6⟩; obtain ⟨xc6, xf6, xl6, xz6⟩ := ext_use xb6; (try simp at xz6); obtain ⟨l6_0, gc, gf⟩ := kp xb6 (w.heap.size) (by first | omega | (simp; try omega)); have r6_0 := gc 0; have f6_0 := gf 0; have r6_0_1 := gc 1; have f6_0_1 := gf 1; clear gc gf; obtain ⟨l6_1, gc, gf⟩ := kp xb6 (w.heap.size + 1) (by first | omega | (simp; try omega)); have r6_1 := gc 0; have f6_1 := gf 0; have r6_1_1 := gc 1; have f6_1_1 := gf 1; have r6_1_2 := gc 2; have f6_1_2 := gf 2; clear gc gf)
   )
  have hby : Hid (Rd (w6.alloc (Obj.cells #[.slice P6 p6 p6] 30)) P6 p6 p6 (lim bv)) := hP6.out.1.ext (ext_alloc (ext_refl _) _)
  go_wp2_with (first
    | (go_at_call 135; (with_reducible refine (kM _ _ _ (ext_trans hEE.out (by (repeat (first | exact ext_refl _ | assumption | refine ext_setCell ?_ (by simp; try omega) _ | refine ext_alloc ?_ _ | refine ext_drew ?_ | refine ext_drewN ?_ _ | refine ext_trans ?_ (Aft.use _) | refine ext_trans ?_ (by assumption))))) hby.out).mono ?_); rintro e w8 ⟨C8, k8, rfl, hR8, xb8⟩; obtain ⟨xc8, xf8, xl8, xz8⟩ := ext_use xb8; (try simp at xz8); obtain ⟨l8_0, gc, gf⟩ := kp xb8 (w.heap.size) (by first | omega | (simp; try omega)); have r8_0 := gc 0; have f8_0 := gf 0; have r8_0_1 := gc 1; have f8_0_1 := gf 1; clear gc gf; obtain ⟨l8_1, gc, gf⟩ := kp xb8 (w.heap.size + 1) (by first | omega | (simp; try omega)); have r8_1 := gc 0; have f8_1 := gf 0; have r8_1_1 := gc 1; have f8_1_1 := gf 1; have r8_1_2 := gc 2; have f8_1_2 := gf 2; clear gc gf)
    | (go_at_call 140; (with_reducible refine (kTx _ _ _ (hR8.out.1.ext (by (repeat (first | exact ext_refl _ | assumption | refine ext_setCell ?_ (by simp; try omega) _ | refine ext_alloc ?_ _ | refine ext_drew ?_ | refine ext_drewN ?_ _ | refine ext_trans ?_ (Aft.use _) | refine ext_trans ?_ (by assumption)))))).mono ?_); rintro e w9 ⟨rfl, xb9⟩; obtain ⟨xc9, xf9, xl9, xz9⟩ := ext_use xb9; (try simp at xz9); obtain ⟨l9_0, gc, gf⟩ := kp xb9 (w.heap.size) (by first | omega | (simp; try omega)); have r9_0 := gc 0; have f9_0 := gf 0; have r9_0_1 := gc 1; have f9_0_1 := gf 1; clear gc gf; obtain ⟨l9_1, gc, gf⟩ := kp xb9 (w.heap.size + 1) (by first | omega | (simp; try omega)); have r9_1 := gc 0; have f9_1 := gf 0; have r9_1_1 := gc 1; have f9_1_1 := gf 1; have r9_1_2 := gc 2; have f9_1_2 := gf 2; clear gc gf)
    | (go_at_call 141; (with_reducible refine (kR _).mono ?_); rintro e w' ⟨rfl, rfl⟩)
    | (go_at_call 142; (with_reducible refine (kMk _).mono ?_); rintro e w11 ⟨rfl, xb11⟩; obtain ⟨xc11, xf11, xl11, xz11⟩ := ext_use xb11; (try simp at xz11); obtain ⟨l11_0, gc, gf⟩ := kp xb11 (w.heap.size) (by first | omega | (simp; try omega)); have r11_0 := gc 0; have f11_0 := gf 0; have r11_0_1 := gc 1; have f11_0_1 := gf 1; clear gc gf; obtain ⟨l11_1, gc, gf⟩ := kp xb11 (w.heap.size + 1) (by first | omega | (simp; try omega)); have r11_1 := gc 0; have f11_1 := gf 0; have r11_1_1 := gc 1; have f11_1_1 := gf 1; have r11_1_2 := gc 2; have f11_1_2 := gf 2; clear gc gf)
   )
  have z0 : w11.cell? ⟨w.heap.size + 1, 0, none⟩ = some (.bool false) := by simp [go_sem, *]
  have z1 : w11.cell? ⟨w.heap.size + 1, 1, none⟩ = some (.string ⟨#[]⟩) := by simp [go_sem, *]
  have z2 : w11.cell? ⟨w.heap.size + 1, 2, none⟩ = some (.int .i64 0) := by simp [go_sem, *]
  have lW : w.heap.size + 1 < w11.heap.size := by assumption
  obtain ⟨q0, q1, q2⟩ := set3 (b := w.heap.size + 1) z0 z1 z2 (.bool false) (.string ⟨#[]⟩) (.int .i64 0)
  have hWx : Ext (((w11.setCell ⟨w.heap.size + 1, 0, none⟩ (.bool false)).setCell ⟨w.heap.size + 1, 1, none⟩ (.string ⟨#[]⟩)).setCell ⟨w.heap.size + 1, 2, none⟩ (.int .i64 0)) ((((w11.setCell ⟨w.heap.size + 1, 0, none⟩ (.bool false)).setCell ⟨w.heap.size + 1, 1, none⟩ (.string ⟨#[]⟩)).setCell ⟨w.heap.size + 1, 2, none⟩ (.int .i64 0)).alloc (Obj.cells #[.bool false, .string ⟨#[]⟩, .int .i64 0] 72)) := ext_alloc (ext_refl _) _
  have q0 := (Below.cell (p := ⟨w.heap.size + 1, 0, none⟩) hWx (by simpa using lW)).trans q0
  have q1 := (Below.cell (p := ⟨w.heap.size + 1, 1, none⟩) hWx (by simpa using lW)).trans q1
  have q2 := (Below.cell (p := ⟨w.heap.size + 1, 2, none⟩) hWx (by simpa using lW)).trans q2
  have hEW : Ext w w11 := by
    refine ext_trans hEE.out ?_
    (repeat (first | exact ext_refl _ | assumption | refine ext_setCell ?_ (by simp; try omega) _ | refine ext_alloc ?_ _ | refine ext_drew ?_ | refine ext_drewN ?_ _ | refine ext_trans ?_ (Aft.use _) | refine ext_trans ?_ (by assumption)))
  refine bodyPost_ret (v := noDc ee) ?h rfl ⟨rfl, ext_trans (ext_set3 hEW (by omega) _ _ _) hWx⟩
  case h => simp [results, Tryz.results58, go_sem, q0, q1, q2, hee]
theorem of_nought (neg : Bool) (A : Option Addr) (n c : Nat) (D : Option Addr) (m k d1 r t j p5 bv : Nat) (ht : t ≤ 1000000) (hj : j ≤ 1000000) (htj : (j : Int) ≤ (t : Int)) (hp5 : max (0 : Int) ((t : Int) - (j : Int)) = (p5 : Int)) (w : World)
    (hck : ∀ w', Ext w w' → Calls Tryz.prog 30 #[ratV neg A n c D m k] w' fun e w'' => e = .returned (.int .i64 0) ∧ Ext w' w'')
    (kT : ∀ w', Ext w w' → Calls Tryz.prog 137 #[natV D m k] w' fun e w'' => ∃ (A' : Option Addr) (k : Nat), e = .returned (.tuple #[.int .i64 (t : Int), natV A' k k]) ∧ Hid (Rd w'' A' k k (lim d1) ∧ Fr w' A') ∧ Ext w' w'')
    (kO : ∀ A' k' w', Rd w' A' k' k' (lim d1) → Calls Tryz.prog 138 #[natV A' k' k', .int .u64 5] w' fun e w'' => ∃ (B : Option Addr) (k l : Nat), e = .returned (.tuple #[.int .i64 (j : Int), natV B k l]) ∧ Hid (Rd w'' B k l (lim r)) ∧ Ext w' w'')
    (kC : ∀ B k l F f w', Rd w' B k l (lim r) → Rd w' F f f (lim 1) → Calls Tryz.prog 139 #[natV B k l, natV F f f] w' fun e w'' => e = .returned (.tuple #[.int .i64 0, .int .i64 0]) ∧ Ext w' w'')
    (kP5 : ∀ w', Calls Tryz.prog 134 #[.int .u32 5, .int .i64 (p5 : Int)] w' (NatPost0 w' bv))
    (N : Nat) (s T : List UInt8) (mx : Nat) (hs : s.length ≤ 600000) (hTl : T.length ≤ s.length) (hmx : max (t : Int) (j : Int) = (mx : Int))
    (kM : ∀ P p w', Ext w w' → Rd w' P p p (lim bv) → Calls Tryz.prog 135 #[natV A n c, natV P p p] w' (NatPost0 w' N))
    (kTx : ∀ B k w', Rd w' B k k (lim N) → Calls Tryz.prog 140 #[natV B k k] w' fun e w'' => e = .returned (.tuple #[.string (bs s), .int .i64 0]) ∧ Ext w' w'')
    (kR : ∀ w', Calls Tryz.prog 141 #[.string (bs s), .string ⟨#[48]⟩] w' fun e w'' => e = .returned (.string (bs T)) ∧ w' = w'') (hT0 : T.isEmpty = true)
    (mn : Bool) (ml : List UInt8) (me ee : Int) (kMk : ∀ w', Calls Tryz.prog 142 #[.bool neg, .string (bs T), .int .i64 ((s.length : Int) - (T.length : Int) - (mx : Int))] w' fun e w'' => e = .returned (.tuple #[.agg #[.bool mn, .string (bs ml), .int .i64 me], .int .i64 ee]) ∧ Ext w' w'') :
    Calls Tryz.prog 58 #[ratV neg A n c D m k] w fun e w' => e = .returned (.tuple #[.agg #[.bool false, .string ⟨#[]⟩, .int .i64 0], .bool true, .int .i64 0]) ∧ Ext w w' := by
  go_enter Tryz.func58, Tryz.ntmps58
  go_wp2_with (first
    | (go_at_call 30; (with_reducible refine (hck _ (by (repeat (first | exact ext_refl _ | assumption | refine ext_setCell ?_ (by simp; try omega) _ | refine ext_alloc ?_ _ | refine ext_drew ?_ | refine ext_drewN ?_ _ | refine ext_trans ?_ (Aft.use _) | refine ext_trans ?_ (by assumption))))).mono ?_); rintro e w1 ⟨rfl, xb1⟩; obtain ⟨xc1, xf1, xl1, xz1⟩ := ext_use xb1; (try simp at xz1); obtain ⟨l1_0, gc, gf⟩ := kp xb1 (w.heap.size) (by first | omega | (simp; try omega)); have r1_0 := gc 0; have f1_0 := gf 0; have r1_0_1 := gc 1; have f1_0_1 := gf 1; have r1_0_2 := gc 2; have f1_0_2 := gf 2; clear gc gf; obtain ⟨l1_1, gc, gf⟩ := kp xb1 (w.heap.size + 1) (by first | omega | (simp; try omega)); have r1_1 := gc 0; have f1_1 := gf 0; have r1_1_1 := gc 1; have f1_1_1 := gf 1; have r1_1_2 := gc 2; have f1_1_2 := gf 2; clear gc gf)
    | (go_at_call 137; (with_reducible refine (kT _ (by (repeat (first | exact ext_refl _ | assumption | refine ext_setCell ?_ (by simp; try omega) _ | refine ext_alloc ?_ _ | refine ext_drew ?_ | refine ext_drewN ?_ _ | refine ext_trans ?_ (Aft.use _) | refine ext_trans ?_ (by assumption))))).mono ?_); rintro e w2 ⟨A2, k2, rfl, hR2, xb2⟩; obtain ⟨xc2, xf2, xl2, xz2⟩ := ext_use xb2; (try simp at xz2); obtain ⟨l2_0, gc, gf⟩ := kp xb2 (w.heap.size) (by first | omega | (simp; try omega)); have r2_0 := gc 0; have f2_0 := gf 0; have r2_0_1 := gc 1; have f2_0_1 := gf 1; have r2_0_2 := gc 2; have f2_0_2 := gf 2; clear gc gf; obtain ⟨l2_1, gc, gf⟩ := kp xb2 (w.heap.size + 1) (by first | omega | (simp; try omega)); have r2_1 := gc 0; have f2_1 := gf 0; have r2_1_1 := gc 1; have f2_1_1 := gf 1; have r2_1_2 := gc 2; have f2_1_2 := gf 2; clear gc gf)
    | (go_at_call 138; (with_reducible refine (kO _ _ _ (hR2.out.1.ext (by (repeat (first | exact ext_refl _ | assumption | refine ext_setCell ?_ (by simp; try omega) _ | refine ext_alloc ?_ _ | refine ext_drew ?_ | refine ext_drewN ?_ _ | refine ext_trans ?_ (Aft.use _) | refine ext_trans ?_ (by assumption)))))).mono ?_); rintro e w3 ⟨B3, k3, l3, rfl, hR3, xb3⟩; obtain ⟨xc3, xf3, xl3, xz3⟩ := ext_use xb3; (try simp at xz3); obtain ⟨l3_0, gc, gf⟩ := kp xb3 (w.heap.size) (by first | omega | (simp; try omega)); have r3_0 := gc 0; have f3_0 := gf 0; have r3_0_1 := gc 1; have f3_0_1 := gf 1; have r3_0_2 := gc 2; have f3_0_2 := gf 2; clear gc gf; obtain ⟨l3_1, gc, gf⟩ := kp xb3 (w.heap.size + 1) (by first | omega | (simp; try omega)); have r3_1 := gc 0; have f3_1 := gf 0; have r3_1_1 := gc 1; have f3_1_1 := gf 1; have r3_1_2 := gc 2; have f3_1_2 := gf 2; clear gc gf; obtain ⟨l3_2, gc, gf⟩ := kp xb3 (w2.heap.size) (by first | omega | (simp; try omega)); have r3_2 := gc 0; have f3_2 := gf 0; clear gc gf)
   )
  have hb2 : w3.heap[w2.heap.size]? = some (.cells #[.slice A2 k2 k2] 30 (0, 0)) := (xb3.block _ (by simp)).trans (heap_alloc_new w2 _)
  have l2 : w2.heap.size < w3.heap.size := by have := ext_size xb3; simp at this; omega
  have hR3' : Rd (w3.setCell ⟨w2.heap.size, 0, none⟩ (.slice B3 k3 l3)) B3 k3 l3 (lim r) := rd_apart2 hR3.out hb2 (fun _ e => by cases e) _
  have y6 : (w3.setCell ⟨w2.heap.size, 0, none⟩ (.slice B3 k3 l3)).cell? ⟨w2.heap.size, 0, none⟩ = some (.slice B3 k3 l3) := World.cell?_setCell_same _ _ _ (cell_of_block hb2 0)
  have m6 : w2.heap.size < (w3.setCell ⟨w2.heap.size, 0, none⟩ (.slice B3 k3 l3)).heap.size := by simpa using l2
  have hE3 : Hid (Ext w (w3.setCell ⟨w2.heap.size, 0, none⟩ (.slice B3 k3 l3))) := by show Ext w _; exact ext_setCell (show Ext w w3 by (repeat (first | exact ext_refl _ | assumption | refine ext_setCell ?_ (by simp; try omega) _ | refine ext_alloc ?_ _ | refine ext_drew ?_ | refine ext_drewN ?_ _ | refine ext_trans ?_ (Aft.use _) | refine ext_trans ?_ (by assumption)))) (by have := ext_size xb1; have := ext_size xb2; simp at *; omega) _
  have z0 : (w3.setCell ⟨w2.heap.size, 0, none⟩ (.slice B3 k3 l3)).cell? ⟨w.heap.size + 1, 0, none⟩ = some (.bool false) := by simp [go_sem, *]
  have z1 : (w3.setCell ⟨w2.heap.size, 0, none⟩ (.slice B3 k3 l3)).cell? ⟨w.heap.size + 1, 1, none⟩ = some (.string ⟨#[]⟩) := by simp [go_sem, *]
  have z2 : (w3.setCell ⟨w2.heap.size, 0, none⟩ (.slice B3 k3 l3)).cell? ⟨w.heap.size + 1, 2, none⟩ = some (.int .i64 0) := by simp [go_sem, *]
  have e0 : (w3.setCell ⟨w2.heap.size, 0, none⟩ (.slice B3 k3 l3)).frozen? ⟨w.heap.size + 1, 0, none⟩ = false := by simp [go_sem, *]
  have e1 : (w3.setCell ⟨w2.heap.size, 0, none⟩ (.slice B3 k3 l3)).frozen? ⟨w.heap.size + 1, 1, none⟩ = false := by simp [go_sem, *]
  have e2 : (w3.setCell ⟨w2.heap.size, 0, none⟩ (.slice B3 k3 l3)).frozen? ⟨w.heap.size + 1, 2, none⟩ = false := by simp [go_sem, *]
  have x0 : (w3.setCell ⟨w2.heap.size, 0, none⟩ (.slice B3 k3 l3)).cell? ⟨w.heap.size, 0, none⟩ = some (.bool neg) := by simp [go_sem, *]
  have x1 : (w3.setCell ⟨w2.heap.size, 0, none⟩ (.slice B3 k3 l3)).cell? ⟨w.heap.size, 1, none⟩ = some (.slice A n c) := by simp [go_sem, *]
  have m1 : w.heap.size + 1 < (w3.setCell ⟨w2.heap.size, 0, none⟩ (.slice B3 k3 l3)).heap.size := by have := ext_size xb1; have := ext_size xb2; have := ext_size xb3; simp at *; omega
  refine D2.wp_drawn (D2.tab [(1, D2.RNum 1), (2, D2.REq (.tuple #[.int .i64 0, .int .i64 0]))]) (by kernel_rfl) (by kernel_rfl) (D2.tab_stays (by simp [D2.stays_num, D2.stays_eq])) (fun hq hqf => ?_)
  have u6 := fun nq => (hq nq w2.heap.size 0 m6).trans y6
  refine D2.wpK_det rfl (fun K hK => ?_)
  go_simp
  first
    | (refine hK _ ?_; clear hK K)
    | (apply Exists.intro; refine ⟨fun x => ?_, hK _ ?_⟩; (first | exact u6 x | (simp [u6]; done) | (simp [u6]; rfl)); clear hK K)
  refine D2.wpK_rel _ rfl rfl ?_ ?_
  · rintro _ ⟨nn, rfl⟩ _
    unfold D2.Oper.relAt
    go_simp
    exact D2.rel_num (nof_one _)
  rintro v ⟨_, ⟨nn, rfl⟩, hr⟩
  obtain ⟨F, f, rfl, -⟩ := hr
  clear nn
  refine D2.wpK_rel _ rfl rfl ?_ ?_
  · rintro _ ⟨nn, rfl⟩ hdep
    have q1 := hdep 1 (by kernel_rfl)
    simp only [D2.Facts.put] at q1
    have q2 := D2.num_at (vals := []) q1
    unfold D2.Oper.relAt
    go_simp
    refine (kC B3 k3 l3 F f _ (hR3'.ext nn.use) q2).mono ?_
    rintro e w' ⟨rfl, h4⟩
    exact ⟨_, rfl, h4, (fun b hb => by simp [D2.blk] at hb), rfl⟩
  rintro v ⟨_, ⟨nn, rfl⟩, rfl⟩
  clear nn
  iterate 5
    (refine D2.wpK_det rfl (fun K hK => ?_)
     go_simp
     refine hK _ ?_; clear hK K)
  refine D2.wpK_nil ?_
  intro nq hG
  have hE := Lib.hid nq.use
  clear hG u6 hq hqf
  have z0 := (Below.cell (p := ⟨w.heap.size + 1, 0, none⟩) hE.out m1).trans z0
  have z1 := (Below.cell (p := ⟨w.heap.size + 1, 1, none⟩) hE.out m1).trans z1
  have z2 := (Below.cell (p := ⟨w.heap.size + 1, 2, none⟩) hE.out m1).trans z2
  have e0 := (Below.frozen (p := ⟨w.heap.size + 1, 0, none⟩) hE.out m1).trans e0
  have e1 := (Below.frozen (p := ⟨w.heap.size + 1, 1, none⟩) hE.out m1).trans e1
  have e2 := (Below.frozen (p := ⟨w.heap.size + 1, 2, none⟩) hE.out m1).trans e2
  have x0 := (Below.cell (p := ⟨w.heap.size, 0, none⟩) hE.out (Nat.lt_of_succ_lt m1)).trans x0
  have x1 := (Below.cell (p := ⟨w.heap.size, 1, none⟩) hE.out (Nat.lt_of_succ_lt m1)).trans x1
  have m0 := ext_lt hE.out _ (Nat.lt_of_succ_lt m1)
  have m1 := ext_lt hE.out _ m1
  have hEE := Lib.hid (ext_trans hE3.out hE.out)
  clear xb1 xb2 xb3 y6 m6 l2 hb2 hR3' hE3 hE
  go_upto_region 13 with (first
    | (go_at_call 134; (with_reducible refine (kP5 _).mono ?_); rintro e w6 ⟨P6, p6, rfl, hP6, xb6⟩; obtain ⟨xc6, xf6, xl6, xz6⟩ := ext_use xb6; (try simp at xz6); obtain ⟨l6_0, gc, gf⟩ := kp xb6 (w.heap.size) (by first | omega | (simp; try omega)); have r6_0 := gc 0; have f6_0 := gf 0; have r6_0_1 := gc 1; have f6_0_1 := gf 1; clear gc gf; obtain ⟨l6_1, gc, gf⟩ := kp xb6 (w.heap.size + 1) (by first | omega | (simp; try omega)); have r6_1 := gc 0; have f6_1 := gf 0; have r6_1_1 := gc 1; have f6_1_1 := gf 1; have r6_1_2 := gc 2; have f6_1_2 := gf 2; clear gc gf)
   )
  have hby : Hid (Rd (w6.alloc (Obj.cells #[.slice P6 p6 p6] 30)) P6 p6 p6 (lim bv)) := hP6.out.1.ext (ext_alloc (ext_refl _) _)
  go_wp2_with (first
    | (go_at_call 135; (with_reducible refine (kM _ _ _ (ext_trans hEE.out (by (repeat (first | exact ext_refl _ | assumption | refine ext_setCell ?_ (by simp; try omega) _ | refine ext_alloc ?_ _ | refine ext_drew ?_ | refine ext_drewN ?_ _ | refine ext_trans ?_ (Aft.use _) | refine ext_trans ?_ (by assumption))))) hby.out).mono ?_); rintro e w8 ⟨C8, k8, rfl, hR8, xb8⟩; obtain ⟨xc8, xf8, xl8, xz8⟩ := ext_use xb8; (try simp at xz8); obtain ⟨l8_0, gc, gf⟩ := kp xb8 (w.heap.size) (by first | omega | (simp; try omega)); have r8_0 := gc 0; have f8_0 := gf 0; have r8_0_1 := gc 1; have f8_0_1 := gf 1; clear gc gf; obtain ⟨l8_1, gc, gf⟩ := kp xb8 (w.heap.size + 1) (by first | omega | (simp; try omega)); have r8_1 := gc 0; have f8_1 := gf 0; have r8_1_1 := gc 1; have f8_1_1 := gf 1; have r8_1_2 := gc 2; have f8_1_2 := gf 2; clear gc gf)
    | (go_at_call 140; (with_reducible refine (kTx _ _ _ (hR8.out.1.ext (by (repeat (first | exact ext_refl _ | assumption | refine ext_setCell ?_ (by simp; try omega) _ | refine ext_alloc ?_ _ | refine ext_drew ?_ | refine ext_drewN ?_ _ | refine ext_trans ?_ (Aft.use _) | refine ext_trans ?_ (by assumption)))))).mono ?_); rintro e w9 ⟨rfl, xb9⟩; obtain ⟨xc9, xf9, xl9, xz9⟩ := ext_use xb9; (try simp at xz9); obtain ⟨l9_0, gc, gf⟩ := kp xb9 (w.heap.size) (by first | omega | (simp; try omega)); have r9_0 := gc 0; have f9_0 := gf 0; have r9_0_1 := gc 1; have f9_0_1 := gf 1; clear gc gf; obtain ⟨l9_1, gc, gf⟩ := kp xb9 (w.heap.size + 1) (by first | omega | (simp; try omega)); have r9_1 := gc 0; have f9_1 := gf 0; have r9_1_1 := gc 1; have f9_1_1 := gf 1; have r9_1_2 := gc 2; have f9_1_2 := gf 2; clear gc gf)
    | (go_at_call 141; (with_reducible refine (kR _).mono ?_); rintro e w' ⟨rfl, rfl⟩)
    | (go_at_call 142; (with_reducible refine (kMk _).mono ?_); rintro e w11 ⟨rfl, xb11⟩; obtain ⟨xc11, xf11, xl11, xz11⟩ := ext_use xb11; (try simp at xz11); obtain ⟨l11_0, gc, gf⟩ := kp xb11 (w.heap.size) (by first | omega | (simp; try omega)); have r11_0 := gc 0; have f11_0 := gf 0; have r11_0_1 := gc 1; have f11_0_1 := gf 1; clear gc gf; obtain ⟨l11_1, gc, gf⟩ := kp xb11 (w.heap.size + 1) (by first | omega | (simp; try omega)); have r11_1 := gc 0; have f11_1 := gf 0; have r11_1_1 := gc 1; have f11_1_1 := gf 1; have r11_1_2 := gc 2; have f11_1_2 := gf 2; clear gc gf)
   )
  have z0 : w11.cell? ⟨w.heap.size + 1, 0, none⟩ = some (.bool false) := by simp [go_sem, *]
  have z1 : w11.cell? ⟨w.heap.size + 1, 1, none⟩ = some (.string ⟨#[]⟩) := by simp [go_sem, *]
  have z2 : w11.cell? ⟨w.heap.size + 1, 2, none⟩ = some (.int .i64 0) := by simp [go_sem, *]
  have lW : w.heap.size + 1 < w11.heap.size := by assumption
  obtain ⟨q0, q1, q2⟩ := set3 (b := w.heap.size + 1) z0 z1 z2 (.bool false) (.string ⟨#[]⟩) (.int .i64 0)
  have hWx : Ext (((w11.setCell ⟨w.heap.size + 1, 0, none⟩ (.bool false)).setCell ⟨w.heap.size + 1, 1, none⟩ (.string ⟨#[]⟩)).setCell ⟨w.heap.size + 1, 2, none⟩ (.int .i64 0)) ((((w11.setCell ⟨w.heap.size + 1, 0, none⟩ (.bool false)).setCell ⟨w.heap.size + 1, 1, none⟩ (.string ⟨#[]⟩)).setCell ⟨w.heap.size + 1, 2, none⟩ (.int .i64 0)).alloc (Obj.cells #[.bool false, .string ⟨#[]⟩, .int .i64 0] 72)) := ext_alloc (ext_refl _) _
  have q0 := (Below.cell (p := ⟨w.heap.size + 1, 0, none⟩) hWx (by simpa using lW)).trans q0
  have q1 := (Below.cell (p := ⟨w.heap.size + 1, 1, none⟩) hWx (by simpa using lW)).trans q1
  have q2 := (Below.cell (p := ⟨w.heap.size + 1, 2, none⟩) hWx (by simpa using lW)).trans q2
  have hEW : Ext w w11 := by
    refine ext_trans hEE.out ?_
    (repeat (first | exact ext_refl _ | assumption | refine ext_setCell ?_ (by simp; try omega) _ | refine ext_alloc ?_ _ | refine ext_drew ?_ | refine ext_drewN ?_ _ | refine ext_trans ?_ (Aft.use _) | refine ext_trans ?_ (by assumption)))
  refine bodyPost_ret (v := .tuple #[.agg #[.bool false, .string ⟨#[]⟩, .int .i64 0], .bool true, .int .i64 0]) ?h rfl ⟨rfl, ext_trans (ext_set3 hEW (by omega) _ _ _) hWx⟩
  case h => simp [results, Tryz.results58, go_sem, q0, q1, q2]
theorem of_bad_lt (neg : Bool) (A : Option Addr) (n c : Nat) (D : Option Addr) (m k d1 r t j p5 bv : Nat) (ht : t ≤ 1000000) (hj : j ≤ 1000000) (htj : (t : Int) < (j : Int)) (hp5 : max (0 : Int) ((t : Int) - (j : Int)) = (p5 : Int)) (w : World)
    (hck : ∀ w', Ext w w' → Calls Tryz.prog 30 #[ratV neg A n c D m k] w' fun e w'' => e = .returned (.int .i64 0) ∧ Ext w' w'')
    (kT : ∀ w', Ext w w' → Calls Tryz.prog 137 #[natV D m k] w' fun e w'' => ∃ (A' : Option Addr) (k : Nat), e = .returned (.tuple #[.int .i64 (t : Int), natV A' k k]) ∧ Hid (Rd w'' A' k k (lim d1) ∧ Fr w' A') ∧ Ext w' w'')
    (kO : ∀ A' k' w', Rd w' A' k' k' (lim d1) → Calls Tryz.prog 138 #[natV A' k' k', .int .u64 5] w' fun e w'' => ∃ (B : Option Addr) (k l : Nat), e = .returned (.tuple #[.int .i64 (j : Int), natV B k l]) ∧ Hid (Rd w'' B k l (lim r)) ∧ Ext w' w'')
    (kC : ∀ B k l F f w', Rd w' B k l (lim r) → Rd w' F f f (lim 1) → Calls Tryz.prog 139 #[natV B k l, natV F f f] w' fun e w'' => e = .returned (.tuple #[.int .i64 0, .int .i64 0]) ∧ Ext w' w'')
    (kP5 : ∀ w', Calls Tryz.prog 134 #[.int .u32 5, .int .i64 (p5 : Int)] w' (NatPost0 w' 1)) (kP2 : ∀ w', Calls Tryz.prog 134 #[.int .u32 2, .int .i64 ((j : Int) - (t : Int))] w' (NatPost0 w' bv))
    (N : Nat) (s T : List UInt8) (mx : Nat) (hs : s.length ≤ 600000) (hTl : T.length ≤ s.length) (hmx : max (t : Int) (j : Int) = (mx : Int))
    (kM : ∀ P p w', Ext w w' → Rd w' P p p (lim bv) → Calls Tryz.prog 135 #[natV A n c, natV P p p] w' (NatPost0 w' N))
    (kTx : ∀ B k w', Rd w' B k k (lim N) → Calls Tryz.prog 140 #[natV B k k] w' fun e w'' => e = .returned (.tuple #[.string (bs s), .int .i64 0]) ∧ Ext w' w'')
    (kR : ∀ w', Calls Tryz.prog 141 #[.string (bs s), .string ⟨#[48]⟩] w' fun e w'' => e = .returned (.string (bs T)) ∧ w' = w'') (hT0 : T.isEmpty = false)
    (ee : Int) (hee : (ee == 0) = false) (kMk : ∀ w', Calls Tryz.prog 142 #[.bool neg, .string (bs T), .int .i64 ((s.length : Int) - (T.length : Int) - (mx : Int))] w' fun e w'' => e = .returned (.tuple #[.agg #[.bool false, .string ⟨#[]⟩, .int .i64 0], .int .i64 ee]) ∧ Ext w' w'') :
    Calls Tryz.prog 58 #[ratV neg A n c D m k] w fun e w' => e = .returned (noDc ee) ∧ Ext w w' := by
  go_enter Tryz.func58, Tryz.ntmps58
  go_wp2_with (first
    | (go_at_call 30; (with_reducible refine (hck _ (by (repeat (first | exact ext_refl _ | assumption | refine ext_setCell ?_ (by simp; try omega) _ | refine ext_alloc ?_ _ | refine ext_drew ?_ | refine ext_drewN ?_ _ | refine ext_trans ?_ (Aft.use _) | refine ext_trans ?_ (by assumption))))).mono ?_); rintro e w1 ⟨rfl, xb1⟩; obtain ⟨xc1, xf1, xl1, xz1⟩ := ext_use xb1; (try simp at xz1); obtain ⟨l1_0, gc, gf⟩ := kp xb1 (w.heap.size) (by first | omega | (simp; try omega)); have r1_0 := gc 0; have f1_0 := gf 0; have r1_0_1 := gc 1; have f1_0_1 := gf 1; have r1_0_2 := gc 2; have f1_0_2 := gf 2; clear gc gf; obtain ⟨l1_1, gc, gf⟩ := kp xb1 (w.heap.size + 1) (by first | omega | (simp; try omega)); have r1_1 := gc 0; have f1_1 := gf 0; have r1_1_1 := gc 1; have f1_1_1 := gf 1; have r1_1_2 := gc 2; have f1_1_2 := gf 2; clear gc gf)
    | (go_at_call 137; (with_reducible refine (kT _ (by (repeat (first | exact ext_refl _ | assumption | refine ext_setCell ?_ (by simp; try omega) _ | refine ext_alloc ?_ _ | refine ext_drew ?_ | refine ext_drewN ?_ _ | refine ext_trans ?_ (Aft.use _) | refine ext_trans ?_ (by assumption))))).mono ?_); rintro e w2 ⟨A2, k2, rfl, hR2, xb2⟩; obtain ⟨xc2, xf2, xl2, xz2⟩ := ext_use xb2; (try simp at xz2); obtain ⟨l2_0, gc, gf⟩ := kp xb2 (w.heap.size) (by first | omega | (simp; try omega)); have r2_0 := gc 0; have f2_0 := gf 0; have r2_0_1 := gc 1; have f2_0_1 := gf 1; have r2_0_2 := gc 2; have f2_0_2 := gf 2; clear gc gf; obtain ⟨l2_1, gc, gf⟩ := kp xb2 (w.heap.size + 1) (by first | omega | (simp; try omega)); have r2_1 := gc 0; have f2_1 := gf 0; have r2_1_1 := gc 1; have f2_1_1 := gf 1; have r2_1_2 := gc 2; have f2_1_2 := gf 2; clear gc gf)
    | (go_at_call 138; (with_reducible refine (kO _ _ _ (hR2.out.1.ext (by (repeat (first | exact ext_refl _ | assumption | refine ext_setCell ?_ (by simp; try omega) _ | refine ext_alloc ?_ _ | refine ext_drew ?_ | refine ext_drewN ?_ _ | refine ext_trans ?_ (Aft.use _) | refine ext_trans ?_ (by assumption)))))).mono ?_); rintro e w3 ⟨B3, k3, l3, rfl, hR3, xb3⟩; obtain ⟨xc3, xf3, xl3, xz3⟩ := ext_use xb3; (try simp at xz3); obtain ⟨l3_0, gc, gf⟩ := kp xb3 (w.heap.size) (by first | omega | (simp; try omega)); have r3_0 := gc 0; have f3_0 := gf 0; have r3_0_1 := gc 1; have f3_0_1 := gf 1; have r3_0_2 := gc 2; have f3_0_2 := gf 2; clear gc gf; obtain ⟨l3_1, gc, gf⟩ := kp xb3 (w.heap.size + 1) (by first | omega | (simp; try omega)); have r3_1 := gc 0; have f3_1 := gf 0; have r3_1_1 := gc 1; have f3_1_1 := gf 1; have r3_1_2 := gc 2; have f3_1_2 := gf 2; clear gc gf; obtain ⟨l3_2, gc, gf⟩ := kp xb3 (w2.heap.size) (by first | omega | (simp; try omega)); have r3_2 := gc 0; have f3_2 := gf 0; clear gc gf)
   )
  have hb2 : w3.heap[w2.heap.size]? = some (.cells #[.slice A2 k2 k2] 30 (0, 0)) := (xb3.block _ (by simp)).trans (heap_alloc_new w2 _)
  have l2 : w2.heap.size < w3.heap.size := by have := ext_size xb3; simp at this; omega
  have hR3' : Rd (w3.setCell ⟨w2.heap.size, 0, none⟩ (.slice B3 k3 l3)) B3 k3 l3 (lim r) := rd_apart2 hR3.out hb2 (fun _ e => by cases e) _
  have y6 : (w3.setCell ⟨w2.heap.size, 0, none⟩ (.slice B3 k3 l3)).cell? ⟨w2.heap.size, 0, none⟩ = some (.slice B3 k3 l3) := World.cell?_setCell_same _ _ _ (cell_of_block hb2 0)
  have m6 : w2.heap.size < (w3.setCell ⟨w2.heap.size, 0, none⟩ (.slice B3 k3 l3)).heap.size := by simpa using l2
  have hE3 : Hid (Ext w (w3.setCell ⟨w2.heap.size, 0, none⟩ (.slice B3 k3 l3))) := by show Ext w _; exact ext_setCell (show Ext w w3 by (repeat (first | exact ext_refl _ | assumption | refine ext_setCell ?_ (by simp; try omega) _ | refine ext_alloc ?_ _ | refine ext_drew ?_ | refine ext_drewN ?_ _ | refine ext_trans ?_ (Aft.use _) | refine ext_trans ?_ (by assumption)))) (by have := ext_size xb1; have := ext_size xb2; simp at *; omega) _
  have z0 : (w3.setCell ⟨w2.heap.size, 0, none⟩ (.slice B3 k3 l3)).cell? ⟨w.heap.size + 1, 0, none⟩ = some (.bool false) := by simp [go_sem, *]
  have z1 : (w3.setCell ⟨w2.heap.size, 0, none⟩ (.slice B3 k3 l3)).cell? ⟨w.heap.size + 1, 1, none⟩ = some (.string ⟨#[]⟩) := by simp [go_sem, *]
  have z2 : (w3.setCell ⟨w2.heap.size, 0, none⟩ (.slice B3 k3 l3)).cell? ⟨w.heap.size + 1, 2, none⟩ = some (.int .i64 0) := by simp [go_sem, *]
  have e0 : (w3.setCell ⟨w2.heap.size, 0, none⟩ (.slice B3 k3 l3)).frozen? ⟨w.heap.size + 1, 0, none⟩ = false := by simp [go_sem, *]
  have e1 : (w3.setCell ⟨w2.heap.size, 0, none⟩ (.slice B3 k3 l3)).frozen? ⟨w.heap.size + 1, 1, none⟩ = false := by simp [go_sem, *]
  have e2 : (w3.setCell ⟨w2.heap.size, 0, none⟩ (.slice B3 k3 l3)).frozen? ⟨w.heap.size + 1, 2, none⟩ = false := by simp [go_sem, *]
  have x0 : (w3.setCell ⟨w2.heap.size, 0, none⟩ (.slice B3 k3 l3)).cell? ⟨w.heap.size, 0, none⟩ = some (.bool neg) := by simp [go_sem, *]
  have x1 : (w3.setCell ⟨w2.heap.size, 0, none⟩ (.slice B3 k3 l3)).cell? ⟨w.heap.size, 1, none⟩ = some (.slice A n c) := by simp [go_sem, *]
  have m1 : w.heap.size + 1 < (w3.setCell ⟨w2.heap.size, 0, none⟩ (.slice B3 k3 l3)).heap.size := by have := ext_size xb1; have := ext_size xb2; have := ext_size xb3; simp at *; omega
  refine D2.wp_drawn (D2.tab [(1, D2.RNum 1), (2, D2.REq (.tuple #[.int .i64 0, .int .i64 0]))]) (by kernel_rfl) (by kernel_rfl) (D2.tab_stays (by simp [D2.stays_num, D2.stays_eq])) (fun hq hqf => ?_)
  have u6 := fun nq => (hq nq w2.heap.size 0 m6).trans y6
  refine D2.wpK_det rfl (fun K hK => ?_)
  go_simp
  first
    | (refine hK _ ?_; clear hK K)
    | (apply Exists.intro; refine ⟨fun x => ?_, hK _ ?_⟩; (first | exact u6 x | (simp [u6]; done) | (simp [u6]; rfl)); clear hK K)
  refine D2.wpK_rel _ rfl rfl ?_ ?_
  · rintro _ ⟨nn, rfl⟩ _
    unfold D2.Oper.relAt
    go_simp
    exact D2.rel_num (nof_one _)
  rintro v ⟨_, ⟨nn, rfl⟩, hr⟩
  obtain ⟨F, f, rfl, -⟩ := hr
  clear nn
  refine D2.wpK_rel _ rfl rfl ?_ ?_
  · rintro _ ⟨nn, rfl⟩ hdep
    have q1 := hdep 1 (by kernel_rfl)
    simp only [D2.Facts.put] at q1
    have q2 := D2.num_at (vals := []) q1
    unfold D2.Oper.relAt
    go_simp
    refine (kC B3 k3 l3 F f _ (hR3'.ext nn.use) q2).mono ?_
    rintro e w' ⟨rfl, h4⟩
    exact ⟨_, rfl, h4, (fun b hb => by simp [D2.blk] at hb), rfl⟩
  rintro v ⟨_, ⟨nn, rfl⟩, rfl⟩
  clear nn
  iterate 5
    (refine D2.wpK_det rfl (fun K hK => ?_)
     go_simp
     refine hK _ ?_; clear hK K)
  refine D2.wpK_nil ?_
  intro nq hG
  have hE := Lib.hid nq.use
  clear hG u6 hq hqf
  have z0 := (Below.cell (p := ⟨w.heap.size + 1, 0, none⟩) hE.out m1).trans z0
  have z1 := (Below.cell (p := ⟨w.heap.size + 1, 1, none⟩) hE.out m1).trans z1
  have z2 := (Below.cell (p := ⟨w.heap.size + 1, 2, none⟩) hE.out m1).trans z2
  have e0 := (Below.frozen (p := ⟨w.heap.size + 1, 0, none⟩) hE.out m1).trans e0
  have e1 := (Below.frozen (p := ⟨w.heap.size + 1, 1, none⟩) hE.out m1).trans e1
  have e2 := (Below.frozen (p := ⟨w.heap.size + 1, 2, none⟩) hE.out m1).trans e2
  have x0 := (Below.cell (p := ⟨w.heap.size, 0, none⟩) hE.out (Nat.lt_of_succ_lt m1)).trans x0
  have x1 := (Below.cell (p := ⟨w.heap.size, 1, none⟩) hE.out (Nat.lt_of_succ_lt m1)).trans x1
  have m0 := ext_lt hE.out _ (Nat.lt_of_succ_lt m1)
  have m1 := ext_lt hE.out _ m1
  have hEE := Lib.hid (ext_trans hE3.out hE.out)
  clear xb1 xb2 xb3 y6 m6 l2 hb2 hR3' hE3 hE
  go_upto_region 13 with (first
    | (go_at_call 134; (with_reducible refine (kP5 _).mono ?_); rintro e w6 ⟨P6, p6, rfl, hP6, xb6⟩; obtain ⟨xc6, xf6, xl6, xz6⟩ := ext_use xb6; (try simp at xz6); obtain ⟨l6_0, gc, gf⟩ := kp xb6 (w.heap.size) (by first | omega | (simp; try omega)); have r6_0 := gc 0; have f6_0 := gf 0; have r6_0_1 := gc 1; have f6_0_1 := gf 1; clear gc gf; obtain ⟨l6_1, gc, gf⟩ := kp xb6 (w.heap.size + 1) (by first | omega | (simp; try omega)); have r6_1 := gc 0; have f6_1 := gf 0; have r6_1_1 := gc 1; have f6_1_1 := gf 1; have r6_1_2 := gc 2; have f6_1_2 := gf 2; clear gc gf)
    | (go_at_call 134; (with_reducible refine (kP2 _).mono ?_); rintro e w7 ⟨P7, p7, rfl, hP7, xb7⟩; obtain ⟨xc7, xf7, xl7, xz7⟩ := ext_use xb7; (try simp at xz7); obtain ⟨l7_0, gc, gf⟩ := kp xb7 (w.heap.size) (by first | omega | (simp; try omega)); have r7_0 := gc 0; have f7_0 := gf 0; have r7_0_1 := gc 1; have f7_0_1 := gf 1; clear gc gf; obtain ⟨l7_1, gc, gf⟩ := kp xb7 (w.heap.size + 1) (by first | omega | (simp; try omega)); have r7_1 := gc 0; have f7_1 := gf 0; have r7_1_1 := gc 1; have f7_1_1 := gf 1; have r7_1_2 := gc 2; have f7_1_2 := gf 2; clear gc gf; obtain ⟨l7_2, gc, gf⟩ := kp xb7 (w6.heap.size) (by first | omega | (simp; try omega)); have r7_2 := gc 0; have f7_2 := gf 0; clear gc gf)
   )
  have hb6 : w7.heap[w6.heap.size]? = some (.cells #[.slice P6 p6 p6] 30 (0, 0)) := (xb7.block _ (by simp)).trans (heap_alloc_new w6 _)
  have hby : Hid (Rd (w7.setCell ⟨w6.heap.size, 0, none⟩ (.slice P7 p7 p7)) P7 p7 p7 (lim bv)) := rd_apart2 hP7.out.1 hb6 (fun _ e => by cases e) _
  go_wp2_with (first
    | (go_at_call 135; (with_reducible refine (kM _ _ _ (ext_trans hEE.out (by (repeat (first | exact ext_refl _ | assumption | refine ext_setCell ?_ (by simp; try omega) _ | refine ext_alloc ?_ _ | refine ext_drew ?_ | refine ext_drewN ?_ _ | refine ext_trans ?_ (Aft.use _) | refine ext_trans ?_ (by assumption))))) hby.out).mono ?_); rintro e w8 ⟨C8, k8, rfl, hR8, xb8⟩; obtain ⟨xc8, xf8, xl8, xz8⟩ := ext_use xb8; (try simp at xz8); obtain ⟨l8_0, gc, gf⟩ := kp xb8 (w.heap.size) (by first | omega | (simp; try omega)); have r8_0 := gc 0; have f8_0 := gf 0; have r8_0_1 := gc 1; have f8_0_1 := gf 1; clear gc gf; obtain ⟨l8_1, gc, gf⟩ := kp xb8 (w.heap.size + 1) (by first | omega | (simp; try omega)); have r8_1 := gc 0; have f8_1 := gf 0; have r8_1_1 := gc 1; have f8_1_1 := gf 1; have r8_1_2 := gc 2; have f8_1_2 := gf 2; clear gc gf)
    | (go_at_call 140; (with_reducible refine (kTx _ _ _ (hR8.out.1.ext (by (repeat (first | exact ext_refl _ | assumption | refine ext_setCell ?_ (by simp; try omega) _ | refine ext_alloc ?_ _ | refine ext_drew ?_ | refine ext_drewN ?_ _ | refine ext_trans ?_ (Aft.use _) | refine ext_trans ?_ (by assumption)))))).mono ?_); rintro e w9 ⟨rfl, xb9⟩; obtain ⟨xc9, xf9, xl9, xz9⟩ := ext_use xb9; (try simp at xz9); obtain ⟨l9_0, gc, gf⟩ := kp xb9 (w.heap.size) (by first | omega | (simp; try omega)); have r9_0 := gc 0; have f9_0 := gf 0; have r9_0_1 := gc 1; have f9_0_1 := gf 1; clear gc gf; obtain ⟨l9_1, gc, gf⟩ := kp xb9 (w.heap.size + 1) (by first | omega | (simp; try omega)); have r9_1 := gc 0; have f9_1 := gf 0; have r9_1_1 := gc 1; have f9_1_1 := gf 1; have r9_1_2 := gc 2; have f9_1_2 := gf 2; clear gc gf)
    | (go_at_call 141; (with_reducible refine (kR _).mono ?_); rintro e w' ⟨rfl, rfl⟩)
    | (go_at_call 142; (with_reducible refine (kMk _).mono ?_); rintro e w11 ⟨rfl, xb11⟩; obtain ⟨xc11, xf11, xl11, xz11⟩ := ext_use xb11; (try simp at xz11); obtain ⟨l11_0, gc, gf⟩ := kp xb11 (w.heap.size) (by first | omega | (simp; try omega)); have r11_0 := gc 0; have f11_0 := gf 0; have r11_0_1 := gc 1; have f11_0_1 := gf 1; clear gc gf; obtain ⟨l11_1, gc, gf⟩ := kp xb11 (w.heap.size + 1) (by first | omega | (simp; try omega)); have r11_1 := gc 0; have f11_1 := gf 0; have r11_1_1 := gc 1; have f11_1_1 := gf 1; have r11_1_2 := gc 2; have f11_1_2 := gf 2; clear gc gf)
   )
  have z0 : w11.cell? ⟨w.heap.size + 1, 0, none⟩ = some (.bool false) := by simp [go_sem, *]
  have z1 : w11.cell? ⟨w.heap.size + 1, 1, none⟩ = some (.string ⟨#[]⟩) := by simp [go_sem, *]
  have z2 : w11.cell? ⟨w.heap.size + 1, 2, none⟩ = some (.int .i64 0) := by simp [go_sem, *]
  have lW : w.heap.size + 1 < w11.heap.size := by assumption
  obtain ⟨q0, q1, q2⟩ := set3 (b := w.heap.size + 1) z0 z1 z2 (.bool false) (.string ⟨#[]⟩) (.int .i64 0)
  have hWx : Ext (((w11.setCell ⟨w.heap.size + 1, 0, none⟩ (.bool false)).setCell ⟨w.heap.size + 1, 1, none⟩ (.string ⟨#[]⟩)).setCell ⟨w.heap.size + 1, 2, none⟩ (.int .i64 0)) ((((w11.setCell ⟨w.heap.size + 1, 0, none⟩ (.bool false)).setCell ⟨w.heap.size + 1, 1, none⟩ (.string ⟨#[]⟩)).setCell ⟨w.heap.size + 1, 2, none⟩ (.int .i64 0)).alloc (Obj.cells #[.bool false, .string ⟨#[]⟩, .int .i64 0] 72)) := ext_alloc (ext_refl _) _
  have q0 := (Below.cell (p := ⟨w.heap.size + 1, 0, none⟩) hWx (by simpa using lW)).trans q0
  have q1 := (Below.cell (p := ⟨w.heap.size + 1, 1, none⟩) hWx (by simpa using lW)).trans q1
  have q2 := (Below.cell (p := ⟨w.heap.size + 1, 2, none⟩) hWx (by simpa using lW)).trans q2
  have hEW : Ext w w11 := by
    refine ext_trans hEE.out ?_
    (repeat (first | exact ext_refl _ | assumption | refine ext_setCell ?_ (by simp; try omega) _ | refine ext_alloc ?_ _ | refine ext_drew ?_ | refine ext_drewN ?_ _ | refine ext_trans ?_ (Aft.use _) | refine ext_trans ?_ (by assumption)))
  refine bodyPost_ret (v := noDc ee) ?h rfl ⟨rfl, ext_trans (ext_set3 hEW (by omega) _ _ _) hWx⟩
  case h => simp [results, Tryz.results58, go_sem, q0, q1, q2, hee]
end Go.Proofs.YtiapoflkeliljaaGreatDoor
end
section
/- The program's decimals: what Of answers. -/
namespace Go.Proofs.YtiapoflkeliljaaGreatDoor
open Go.RowKit
set_option maxHeartbeats 4000000
attribute [local irreducible] Calls
/-- What Of answers of a fraction whose lower number is two to the t, five to the j, and the rest. -/
def ofV (neg : Bool) (a t j r : Nat) : Value :=
  if r ≠ 1 then noDc 0 else if 16384 < (lim (a * ofB t j)).length then noDc 4 else if a = 0 then .tuple #[dcV Dc.zero, .bool true, .int .i64 0] else
  if mkE (ofT a t j) (ofE a t j) = 0 then .tuple #[dcV (mkD neg (ofT a t j) (ofE a t j)), .bool true, .int .i64 0] else noDc (mkE (ofT a t j) (ofE a t j))
theorem mkD_bad {neg : Bool} {l : List UInt8} {E : Int} (h : mkE l E ≠ 0) : mkD neg l E = Dc.zero := by unfold mkD; rw [if_neg h]
theorem pow_room {b t m : Nat} (hb : 2 ≤ b) (hb5 : b ≤ 5) (h : t ≤ 6400) : (lim (b ^ t)).length ≤ 16384 := by
  obtain ⟨T, hT⟩ : ∃ T : Nat, T = t := ⟨_, rfl⟩
  rw [← hT]
  exact lim_fits (n := T) (Nat.pow_le_pow_left (show b ≤ 10 by omega) _) (by omega) (by decide)
theorem two_small {d t m : Nat} (h0 : d ≠ 0) (h : 2 ^ t ∣ d) (hm : (lim d).length ≤ 200) : t ≤ 6400 := by
  have := twos_lt h0 h hm; omega
theorem five_small {d t j : Nat} (h0 : d / 2 ^ t ≠ 0) (h : 5 ^ j ∣ d / 2 ^ t) (hm : (lim d).length ≤ 200) : j ≤ 6400 := by
  have := five_lt h0 h (Nat.le_trans (lim_mono (Nat.div_le_self _ _)) hm); omega
theorem dof_any (neg : Bool) (A : Option Addr) (n c a : Nat) (D : Option Addr) (m k d : Nat) (hd : d ≠ 0) (hn : n ≤ 16384) (hm : m ≤ 200) (hg : Nat.gcd a d = 1) (hng : neg = true → a ≠ 0) (w : World) (hT : Tz w) (hA : Rd w A n c (lim a)) (hD : Rd w D m k (lim d))
    (t j r : Nat) (h1 : 2 ^ t ∣ d) (h2 : d / 2 ^ t % 2 = 1) (h3 : 5 ^ j ∣ d / 2 ^ t) (h4 : d / 2 ^ t / 5 ^ j % 5 ≠ 0) (hr : r = d / 2 ^ t / 5 ^ j) (hdd : d = 2 ^ t * 5 ^ j * r) :
    Calls Tryz.prog 58 #[ratV neg A n c D m k] w fun e w' => e = .returned (ofV neg a t j r) ∧ Ext w w' := by
  have lA : (lim a).length ≤ 16384 := by rw [hA.len]; exact hn
  have lD : (lim d).length ≤ 200 := by rw [hD.len]; exact hm
  have d1 : d / 2 ^ t ≠ 0 := fun e => by rw [e] at h2; simp at h2
  have ht : t ≤ 6400 := two_small (m := m) hd h1 lD
  have hj : j ≤ 6400 := five_small d1 h3 lD
  have hck : ∀ w', Ext w w' → Calls Tryz.prog 30 #[ratV neg A n c D m k] w' fun e w'' => e = .returned (.int .i64 0) ∧ Ext w' w'' := fun w' he => ra_check_yes neg A n c a D m k d hd hn (by omega) hg hng w' (hT.ext he) (hA.ext he) (hD.ext he)
  have kT : ∀ w', Ext w w' → Calls Tryz.prog 137 #[natV D m k] w' fun e w'' => ∃ (A' : Option Addr) (k : Nat), e = .returned (.tuple #[.int .i64 (t : Int), natV A' k k]) ∧ Hid (Rd w'' A' k k (lim (d / 2 ^ t)) ∧ Fr w' A') ∧ Ext w' w'' := fun w' he => twos_any D m k d t hd h1 h2 (by omega) w' (hD.ext he)
  have kO : ∀ A' k' w', Rd w' A' k' k' (lim (d / 2 ^ t)) → Calls Tryz.prog 138 #[natV A' k' k', .int .u64 5] w' fun e w'' => ∃ (B : Option Addr) (k l : Nat), e = .returned (.tuple #[.int .i64 (j : Int), natV B k l]) ∧ Hid (Rd w'' B k l (lim r)) ∧ Ext w' w'' := fun A' k' w' hR =>
    (out_any A' k' k' _ j d1 h3 h4 (by rw [← hR.len]; exact Nat.le_trans (lim_mono (Nat.div_le_self _ _)) (Nat.le_trans lD (by decide))) w' hR).mono fun e w'' ⟨B, k, l, ⟨g1, _⟩, g2, g3⟩ => ⟨B, k, l, g1, by rw [hr]; exact g2, g3⟩
  have hrl : (lim r).length ≤ 16384 := by
    rw [hr]; exact Nat.le_trans (lim_mono (Nat.le_trans (Nat.div_le_self _ _) (Nat.div_le_self _ _))) (Nat.le_trans lD (by decide))
  have kC : ∀ B k l F f w', Rd w' B k l (lim r) → Rd w' F f f (lim 1) → Calls Tryz.prog 139 #[natV B k l, natV F f f] w' fun e w'' => e = .returned (.tuple #[.int .i64 (cmpN r 1), .int .i64 0]) ∧ Ext w' w'' := fun B k l F f w' g1 g2 =>
    ncmp_any B F k l f f r 1 (by rw [← g1.len]; exact hrl) (by rw [← g2.len, show (lim 1).length = 1 by kernel_rfl]; decide) w' g1 g2
  by_cases hr1 : r = 1
  · subst hr1
    have e0 : cmpN 1 1 = 0 := by decide
    rw [e0] at kC
    have lB : (lim (ofB t j)).length ≤ 16384 := by
      unfold ofB
      split
      · exact pow_room (m := 0) (by decide) (by decide) (by omega)
      · exact pow_room (m := 0) (by decide) (by decide) (by omega)
    have hB0 : ofB t j ≠ 0 := by unfold ofB; split <;> exact Nat.ne_of_gt (Nat.pow_pos (by decide))
    have kM : ∀ P p w', (lim (a * ofB t j)).length ≤ 16384 → Ext w w' → Rd w' P p p (lim (ofB t j)) → Calls Tryz.prog 135 #[natV A n c, natV P p p] w' (NatPost0 w' (a * ofB t j)) := fun P p w' hs he hP =>
      pmul_any A P n c p p a (ofB t j) w' (hA.ext he) hP lA lB (by
        have hp := hP.len
        have hn' := hA.len
        by_cases ha : a = 0
        · subst ha; rw [lim_zero] at hn'; simp at hn'; omega
        · have := mul_parts ha hB0; omega) hs
    have kMb : 16384 < (lim (a * ofB t j)).length → ∀ P p w', Ext w w' → Rd w' P p p (lim (ofB t j)) → Calls Tryz.prog 135 #[natV A n c, natV P p p] w' fun e w'' => e = .returned (.tuple #[natV none 0 0, .int .i64 4]) ∧ Ext w' w'' := fun hs P p w' he hP =>
      pmul_big A P n c p p a (ofB t j) w' (hA.ext he) hP lA lB hs
    have kTx : (lim (a * ofB t j)).length ≤ 16384 → ∀ B k w', Rd w' B k k (lim (a * ofB t j)) → Calls Tryz.prog 140 #[natV B k k] w' fun e w'' => e = .returned (.tuple #[.string (bs (dtext (a * ofB t j))), .int .i64 0]) ∧ Ext w' w'' := fun hs B k w' hB => ptext_any B k k _ hs w' hB
    have hTl : (ofT a t j).length ≤ (dtext (a * ofB t j)).length := trimR_le _ _
    have hlen : (lim (a * ofB t j)).length ≤ 16384 → (dtext (a * ofB t j)).length ≤ 600000 := fun hs => by
      have := digs_lim hs
      unfold dtext
      split
      · decide
      · omega
    have kR : (lim (a * ofB t j)).length ≤ 16384 → ∀ w', Calls Tryz.prog 141 #[.string (bs (dtext (a * ofB t j))), .string ⟨#[48]⟩] w' fun e w'' => e = .returned (.string (bs (ofT a t j))) ∧ w' = w'' := fun hs w' => trimRight _ (by have := hlen hs; omega) w'
    have kMk : (lim (a * ofB t j)).length ≤ 16384 → ∀ w', Calls Tryz.prog 142 #[.bool neg, .string (bs (ofT a t j)), .int .i64 (((dtext (a * ofB t j)).length : Int) - ((ofT a t j).length : Int) - ((max t j : Nat) : Int))] w' fun e w'' => e = .returned (.tuple #[dcV (mkD neg (ofT a t j) (ofE a t j)), .int .i64 (mkE (ofT a t j) (ofE a t j))]) ∧ Ext w' w'' := fun hs w' =>
      make_any neg (ofT a t j) (ofE a t j) (by have := hlen hs; omega) w'
    have hmx : max (t : Int) (j : Int) = ((max t j : Nat) : Int) := by omega
    by_cases htj : j ≤ t
    · have hp5 : max (0 : Int) ((t : Int) - (j : Int)) = ((t - j : Nat) : Int) := by omega
      have kP5 : ∀ w', Calls Tryz.prog 134 #[.int .u32 5, .int .i64 ((t - j : Nat) : Int)] w' (NatPost0 w' (ofB t j)) := by
        intro w'
        have eB : ofB t j = 5 ^ (t - j) := by unfold ofB; rw [if_pos htj]
        rw [eB]
        by_cases h0 : t - j = 0
        · rw [h0]; exact npow_zero 5 w'
        · exact npow_wide 5 (t - j) (by decide) (by decide) (by omega) (by omega) (pow_room (m := 0) (by decide) (by decide) (by omega)) w'
      by_cases hl : 16384 < (lim (a * ofB t j)).length
      · have := of_long_ge neg A n c D m k _ _ t j _ _ (by omega) (by omega) (by omega) hp5 w hck kT kO kC kP5 (kMb hl)
        unfold ofV; rw [if_neg (by simp), if_pos hl]; exact this
      · have hs : (lim (a * ofB t j)).length ≤ 16384 := by omega
        by_cases ha : a = 0
        · have := of_nought neg A n c D m k _ _ t j _ _ (by omega) (by omega) (by omega) hp5 w hck kT kO kC kP5 (a * ofB t j) _ _ _ (hlen hs) hTl hmx (fun P p w' => kM P p w' hs) (kTx hs) (kR hs) (by rw [(ofT_nil a t j).2 ha]; rfl) _ _ _ _ (kMk hs)
          unfold ofV; rw [if_neg (by simp), if_neg hl, if_pos ha]; exact this
        · have hT0 : (ofT a t j).isEmpty = false := by
            cases hh : ofT a t j with
            | nil => exact absurd ((ofT_nil a t j).1 hh) ha
            | cons x y => rfl
          by_cases hme : mkE (ofT a t j) (ofE a t j) = 0
          · have kMk := kMk hs
            rw [hme] at kMk
            have := of_good_ge neg A n c D m k _ _ t j _ _ (by omega) (by omega) (by omega) hp5 w hck kT kO kC kP5 (a * ofB t j) _ _ _ (hlen hs) hTl hmx (fun P p w' => kM P p w' hs) (kTx hs) (kR hs) hT0 _ _ _ kMk
            unfold ofV; rw [if_neg (by simp), if_neg hl, if_neg ha, if_pos hme]; exact this
          · have kMk := kMk hs
            rw [mkD_bad hme] at kMk
            have := of_bad_ge neg A n c D m k _ _ t j _ _ (by omega) (by omega) (by omega) hp5 w hck kT kO kC kP5 (a * ofB t j) _ _ _ (hlen hs) hTl hmx (fun P p w' => kM P p w' hs) (kTx hs) (kR hs) hT0 _ (beq_eq_false_iff_ne.2 hme) kMk
            unfold ofV; rw [if_neg (by simp), if_neg hl, if_neg ha, if_neg hme]; exact this
    · have htj' : (t : Int) < (j : Int) := by omega
      have hp5 : max (0 : Int) ((t : Int) - (j : Int)) = ((0 : Nat) : Int) := by omega
      have kP5 : ∀ w', Calls Tryz.prog 134 #[.int .u32 5, .int .i64 ((0 : Nat) : Int)] w' (NatPost0 w' 1) := fun w' => npow_zero 5 w'
      have kP2 : ∀ w', Calls Tryz.prog 134 #[.int .u32 2, .int .i64 ((j : Int) - (t : Int))] w' (NatPost0 w' (ofB t j)) := by
        intro w'
        have eB : ofB t j = 2 ^ (j - t) := by unfold ofB; rw [if_neg htj]
        have e1 : (j : Int) - (t : Int) = ((j - t : Nat) : Int) := by omega
        rw [eB, e1]
        exact npow_wide 2 (j - t) (by decide) (by decide) (by omega) (by omega) (pow_room (m := 0) (by decide) (by decide) (by omega)) w'
      have ha : a ≠ 0 := by
        intro ha
        subst ha
        rw [Nat.gcd_zero_left] at hg
        rw [hg] at h3 d1
        have d1' : 0 < 1 / 2 ^ t := Nat.pos_of_ne_zero d1
        have h5 := Nat.le_of_dvd d1' h3
        have h6 : 1 / 2 ^ t ≤ 1 := Nat.div_le_self _ _
        have h7 : 5 ^ 1 ≤ 5 ^ j := Nat.pow_le_pow_right (by decide) (by omega)
        omega
      by_cases hl : 16384 < (lim (a * ofB t j)).length
      · have := of_long_lt neg A n c D m k _ _ t j _ _ (by omega) (by omega) htj' hp5 w hck kT kO kC kP5 kP2 (kMb hl)
        unfold ofV; rw [if_neg (by simp), if_pos hl]; exact this
      · have hs : (lim (a * ofB t j)).length ≤ 16384 := by omega
        have hT0 : (ofT a t j).isEmpty = false := by
          cases hh : ofT a t j with
          | nil => exact absurd ((ofT_nil a t j).1 hh) ha
          | cons x y => rfl
        by_cases hme : mkE (ofT a t j) (ofE a t j) = 0
        · have kMk := kMk hs
          rw [hme] at kMk
          have := of_good_lt neg A n c D m k _ _ t j _ _ (by omega) (by omega) htj' hp5 w hck kT kO kC kP5 kP2 (a * ofB t j) _ _ _ (hlen hs) hTl hmx (fun P p w' => kM P p w' hs) (kTx hs) (kR hs) hT0 _ _ _ kMk
          unfold ofV; rw [if_neg (by simp), if_neg hl, if_neg ha, if_pos hme]; exact this
        · have kMk := kMk hs
          rw [mkD_bad hme] at kMk
          have := of_bad_lt neg A n c D m k _ _ t j _ _ (by omega) (by omega) htj' hp5 w hck kT kO kC kP5 kP2 (a * ofB t j) _ _ _ (hlen hs) hTl hmx (fun P p w' => kM P p w' hs) (kTx hs) (kR hs) hT0 _ (beq_eq_false_iff_ne.2 hme) kMk
          unfold ofV; rw [if_neg (by simp), if_neg hl, if_neg ha, if_neg hme]; exact this
  · have := of_many neg A n c D m k _ r t j (cmpN r 1) (by unfold cmpN; split; decide; split; decide; omega) w hck kT kO kC
    unfold ofV; rw [if_pos hr1]; exact this
end Go.Proofs.YtiapoflkeliljaaGreatDoor
end
