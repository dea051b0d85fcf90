/- Lemmas of this proof, laid together: Law02, RatioBackW. -/
import Derived.Test.YtnpdpjgkpjodbaaGreatDoorMg27
import Derived.Test.YtnpdpjgkpjodbaaGreatDoorMg28
import Derived.LaidMore
import Derived.Test.YtnpdpjgkpjodbaaGreatDoorMg26
import Derived.Deep.DeepCutAuto
import Derived.Deep.RegionWith
set_option linter.unusedSimpArgs false
set_option linter.unusedVariables false
section
/- The second law: what the walks' ends share. -/
namespace Go.Proofs.YtnpdpjgkpjodbaaGreatDoor
open Go.RowKit
set_option maxRecDepth 100000
attribute [local irreducible] Calls
theorem tz_row {l : List (String × DataW Unit)} (w : World) (h : laidMetH Tryz.prog l w) (hp : ∀ w, laidMetH Tryz.prog l w = laidMet Tryz.prog l w) {rest : List (String × DataW Unit)}
    (e : l = ("math/bits.deBruijn32tab", Lib.tabData .u8 tzTab) :: rest) : Tz w := by
  rw [hp, e] at h
  exact tz_met rest w h
theorem made_op (s : Bool) {A : Option Addr} {n c : Nat} {xs : List Nat} {D : Option Addr} {m k : Nat} {ys : List Nat} {w : World} (hT : Tz w) (hA : Rd w A n c xs) (hD : Rd w D m k ys) {z : Int} {d : Nat} {t : Bool}
    (hz : canN (sgn s (val (xs.take 5))) (rawD (val (ys.take 5))) = z) (hd : canD (sgn s (val (xs.take 5))) (rawD (val (ys.take 5))) = d) (ht : decide (z < 0) = t) :
    Calls Tryz.prog 38 #[.agg #[.bool s, .slice A n c, .slice D m k]] w (MPst w t z d) := by
  subst hz hd ht
  have h1 := hA.cap
  have h2 := hA.mx
  have h3 := hD.cap
  have h4 := hD.mx
  refine (rl_made s A n c xs D m k ys (by omega) (by omega) w hT hA hD).mono ?_
  rintro e w' ⟨A, n, c, D, m, k, rfl, h1, h2⟩
  exact ⟨⟨A, n, c, D, m, k⟩, rfl, h1, h2⟩
theorem rawD_pos (v : Nat) : rawD v ≠ 0 := by unfold rawD; split <;> omega
end Go.Proofs.YtnpdpjgkpjodbaaGreatDoor
end
section
/- RatioBack: the walk. -/
namespace Go.Proofs.YtnpdpjgkpjodbaaGreatDoor
open Go.RowKit
attribute [local go_sem] bs_size bs_extract bs_get bs_append bs_toList const_get
attribute [local go_sem] sz2 sz3 sz4 sz5 sz6 sz7 sz8
set_option maxHeartbeats 8000000
set_option maxRecDepth 100000
attribute [local irreducible] Calls
theorem back_core (x0 : Bool) (x1A : Option Addr) (x1l x1c : Nat) (x2A : Option Addr) (x2l x2c : Nat) (x3 : Bool) (x4A : Option Addr) (x4l x4c : Nat) (x5A : Option Addr) (x5l x5c : Nat) (x6 : Nat) (x7 : Int)
    (X Y ZU ZM : Int) (P Q DU DM : Nat) (sa sb su sm u : Bool) (S T : List UInt8) (B : Nat) (n : Int) (w : World)
    (hB : bits BinOp.or IntKind.u32 (x6 : Int) 1 = (B : Nat)) (hn : x7.tmod 61 = n) (hn1 : -60 ≤ n) (hn2 : n ≤ 60) (hST : (S == T) = u)
    (kL : ∀ w', Ext w w' → Calls Tryz.prog 12 #[] w' fun e w'' => e = .returned (.bool true) ∧ Ext w' w'')
    (kA : ∀ w', Ext w w' → Calls Tryz.prog 38 #[.agg #[.bool x0, .slice x1A x1l x1c, .slice x2A x2l x2c]] w' (MPst w' sa X P))
    (kB : ∀ w', Ext w w' → Calls Tryz.prog 38 #[.agg #[.bool x3, .slice x4A x4l x4c, .slice x5A x5l x5c]] w' (MPst w' sb Y Q))
    (kTa : ∀ (F : FH) (w' : World), Ext w w' → RaF w' X P F → Calls Tryz.prog 26 #[fV sa F] w' fun e w'' => e = .returned (.tuple #[.string (bs S), .int .i64 0]) ∧ Ext w' w'')
    (kTb : ∀ (F : FH) (w' : World), Ext w w' → RaF w' Y Q F → Calls Tryz.prog 26 #[fV sb F] w' fun e w'' => e = .returned (.tuple #[.string (bs T), .int .i64 0]) ∧ Ext w' w'')
    (kPr : ∀ w', Ext w w' → Calls Tryz.prog 14 #[.string (bs S)] w' fun e w'' => ∃ F : FH, e = .returned (.tuple #[fV sa F, .int .i64 0, .int .i64 0]) ∧ Hid (RaF w'' X P F) ∧ Ext w' w'')
    (kU : ∀ (F : FH) (w' : World), Ext w w' → RaF w' X P F → Calls Tryz.prog 52 #[fV sa F, .int .u32 (B : Int), .int .i64 n] w' (FPst w' su ZU DU))
    (kD : ∀ (F : FH) (w' : World), Ext w w' → RaF w' ZU DU F → Calls Tryz.prog 52 #[fV su F, .int .u32 (B : Int), .int .i64 (-n)] w' (FPst w' sa X P))
    (kM : ∀ (F : FH) (w' : World), Ext w w' → RaF w' 1 1 F → Calls Tryz.prog 52 #[fV false F, .int .u32 (B : Int), .int .i64 n] w' (FPst w' sm ZM DM))
    (kQ : Op2 w 47 sa X P sm ZM DM su ZU DU)
    (kSa : ∀ (F G : FH) (w' : World), RaF w' X P F → RaF w' X P G → Calls Tryz.prog 43 #[fV sa F, fV sa G] w' fun e w'' => e = .returned (.bool true) ∧ Ext w' w'')
    (kSu : ∀ (F G : FH) (w' : World), RaF w' ZU DU F → RaF w' ZU DU G → Calls Tryz.prog 43 #[fV su F, fV su G] w' fun e w'' => e = .returned (.bool true) ∧ Ext w' w'')
    (kE : ∀ (F G : FH) (w' : World), RaF w' X P F → RaF w' Y Q G → Calls Tryz.prog 43 #[fV sa F, fV sb G] w' fun e w'' => e = .returned (.bool u) ∧ Ext w' w'') :
    Calls Tryz.prog 10 #[.agg #[.bool x0, .slice x1A x1l x1c, .slice x2A x2l x2c], .agg #[.bool x3, .slice x4A x4l x4c, .slice x5A x5l x5c], .int .u32 (x6 : Int), .int .i64 x7] w fun e w' => e = .returned (.bool true) ∧ Ext w w' := by
  have kW := fun w' => op_Whole (z := 1) (u := false) (by decide) (by decide) rfl w'
  go_enter Tryz.func10, Tryz.ntmps10
  go_upto_region 9 with (first
    | (go_at_call 12; (with_reducible refine (kL _ (by (repeat (first | exact ext_refl _ | assumption | refine ext_setCell ?_ (by simp; try omega) _ | refine ext_alloc ?_ _ | refine ext_drew ?_ | refine ext_drewN ?_ _ | refine ext_trans ?_ (Aft.use _) | refine ext_trans ?_ (by assumption))))).mono ?_); rintro e w1 ⟨rfl, xb1⟩; obtain ⟨xc1, xf1, xl1, xz1⟩ := ext_use xb1; (try simp at xz1); obtain ⟨l1_0, gc, gf⟩ := kp xb1 (w.heap.size) (by first | omega | (simp; try omega)); have r1_0 := gc 0; have f1_0 := gf 0; have r1_0_1 := gc 1; have f1_0_1 := gf 1; have r1_0_2 := gc 2; have f1_0_2 := gf 2; clear gc gf; obtain ⟨l1_1, gc, gf⟩ := kp xb1 (w.heap.size + 1) (by first | omega | (simp; try omega)); have r1_1 := gc 0; have f1_1 := gf 0; have r1_1_1 := gc 1; have f1_1_1 := gf 1; have r1_1_2 := gc 2; have f1_1_2 := gf 2; clear gc gf)
    | (go_at_call 38; (with_reducible refine (kA _ (by (repeat (first | exact ext_refl _ | assumption | refine ext_setCell ?_ (by simp; try omega) _ | refine ext_alloc ?_ _ | refine ext_drew ?_ | refine ext_drewN ?_ _ | refine ext_trans ?_ (Aft.use _) | refine ext_trans ?_ (by assumption))))).mono ?_); rintro e w2 ⟨F2, rfl, hR2, xb2⟩; obtain ⟨xc2, xf2, xl2, xz2⟩ := ext_use xb2; (try simp at xz2); obtain ⟨l2_0, gc, gf⟩ := kp xb2 (w.heap.size) (by first | omega | (simp; try omega)); have r2_0 := gc 0; have f2_0 := gf 0; have r2_0_1 := gc 1; have f2_0_1 := gf 1; have r2_0_2 := gc 2; have f2_0_2 := gf 2; clear gc gf; obtain ⟨l2_1, gc, gf⟩ := kp xb2 (w.heap.size + 1) (by first | omega | (simp; try omega)); have r2_1 := gc 0; have f2_1 := gf 0; have r2_1_1 := gc 1; have f2_1_1 := gf 1; have r2_1_2 := gc 2; have f2_1_2 := gf 2; clear gc gf)
    | (go_at_call 38; (with_reducible refine (kB _ (by (repeat (first | exact ext_refl _ | assumption | refine ext_setCell ?_ (by simp; try omega) _ | refine ext_alloc ?_ _ | refine ext_drew ?_ | refine ext_drewN ?_ _ | refine ext_trans ?_ (Aft.use _) | refine ext_trans ?_ (by assumption))))).mono ?_); rintro e w3 ⟨F3, rfl, hR3, xb3⟩; obtain ⟨xc3, xf3, xl3, xz3⟩ := ext_use xb3; (try simp at xz3); obtain ⟨l3_0, gc, gf⟩ := kp xb3 (w2.heap.size) (by first | omega | (simp; try omega)); have r3_0 := gc 0; have f3_0 := gf 0; have r3_0_1 := gc 1; have f3_0_1 := gf 1; have r3_0_2 := gc 2; have f3_0_2 := gf 2; clear gc gf)
    | (go_at_call 26; (with_reducible refine (kTa _ _ (by (repeat (first | exact ext_refl _ | assumption | refine ext_setCell ?_ (by simp; try omega) _ | refine ext_alloc ?_ _ | refine ext_drew ?_ | refine ext_drewN ?_ _ | refine ext_trans ?_ (Aft.use _) | refine ext_trans ?_ (by assumption)))) (hR2.out.ext (by (repeat (first | exact ext_refl _ | assumption | refine ext_setCell ?_ (by simp; try omega) _ | refine ext_alloc ?_ _ | refine ext_drew ?_ | refine ext_drewN ?_ _ | refine ext_trans ?_ (Aft.use _) | refine ext_trans ?_ (by assumption)))))).mono ?_); rintro e w4 ⟨rfl, xb4⟩; obtain ⟨xc4, xf4, xl4, xz4⟩ := ext_use xb4; (try simp at xz4); obtain ⟨l4_0, gc, gf⟩ := kp xb4 (w2.heap.size) (by first | omega | (simp; try omega)); have r4_0 := gc 0; have f4_0 := gf 0; have r4_0_1 := gc 1; have f4_0_1 := gf 1; have r4_0_2 := gc 2; have f4_0_2 := gf 2; clear gc gf; obtain ⟨l4_1, gc, gf⟩ := kp xb4 (w3.heap.size) (by first | omega | (simp; try omega)); have r4_1 := gc 0; have f4_1 := gf 0; have r4_1_1 := gc 1; have f4_1_1 := gf 1; have r4_1_2 := gc 2; have f4_1_2 := gf 2; clear gc gf)
    | (go_at_call 26; (with_reducible refine (kTb _ _ (by (repeat (first | exact ext_refl _ | assumption | refine ext_setCell ?_ (by simp; try omega) _ | refine ext_alloc ?_ _ | refine ext_drew ?_ | refine ext_drewN ?_ _ | refine ext_trans ?_ (Aft.use _) | refine ext_trans ?_ (by assumption)))) (hR3.out.ext (by (repeat (first | exact ext_refl _ | assumption | refine ext_setCell ?_ (by simp; try omega) _ | refine ext_alloc ?_ _ | refine ext_drew ?_ | refine ext_drewN ?_ _ | refine ext_trans ?_ (Aft.use _) | refine ext_trans ?_ (by assumption)))))).mono ?_); rintro e w5 ⟨rfl, xb5⟩; obtain ⟨xc5, xf5, xl5, xz5⟩ := ext_use xb5; (try simp at xz5); obtain ⟨l5_0, gc, gf⟩ := kp xb5 (w2.heap.size) (by first | omega | (simp; try omega)); have r5_0 := gc 0; have f5_0 := gf 0; have r5_0_1 := gc 1; have f5_0_1 := gf 1; have r5_0_2 := gc 2; have f5_0_2 := gf 2; clear gc gf; obtain ⟨l5_1, gc, gf⟩ := kp xb5 (w3.heap.size) (by first | omega | (simp; try omega)); have r5_1 := gc 0; have f5_1 := gf 0; have r5_1_1 := gc 1; have f5_1_1 := gf 1; have r5_1_2 := gc 2; have f5_1_2 := gf 2; clear gc gf)
    | (go_at_call 14; (with_reducible refine (kPr _ (by (repeat (first | exact ext_refl _ | assumption | refine ext_setCell ?_ (by simp; try omega) _ | refine ext_alloc ?_ _ | refine ext_drew ?_ | refine ext_drewN ?_ _ | refine ext_trans ?_ (Aft.use _) | refine ext_trans ?_ (by assumption))))).mono ?_); rintro e w6 ⟨F6, rfl, hR6, xb6⟩; obtain ⟨xc6, xf6, xl6, xz6⟩ := ext_use xb6; (try simp at xz6); obtain ⟨l6_0, gc, gf⟩ := kp xb6 (w2.heap.size) (by first | omega | (simp; try omega)); have r6_0 := gc 0; have f6_0 := gf 0; have r6_0_1 := gc 1; have f6_0_1 := gf 1; have r6_0_2 := gc 2; have f6_0_2 := gf 2; clear gc gf; obtain ⟨l6_1, gc, gf⟩ := kp xb6 (w3.heap.size) (by first | omega | (simp; try omega)); have r6_1 := gc 0; have f6_1 := gf 0; have r6_1_1 := gc 1; have f6_1_1 := gf 1; have r6_1_2 := gc 2; have f6_1_2 := gf 2; clear gc gf)
   )
  go_upto_region 11 with (first
    | (go_at_call 52; (with_reducible refine (kU _ _ (by (repeat (first | exact ext_refl _ | assumption | refine ext_setCell ?_ (by simp; try omega) _ | refine ext_alloc ?_ _ | refine ext_drew ?_ | refine ext_drewN ?_ _ | refine ext_trans ?_ (Aft.use _) | refine ext_trans ?_ (by assumption)))) (hR2.out.ext (by (repeat (first | exact ext_refl _ | assumption | refine ext_setCell ?_ (by simp; try omega) _ | refine ext_alloc ?_ _ | refine ext_drew ?_ | refine ext_drewN ?_ _ | refine ext_trans ?_ (Aft.use _) | refine ext_trans ?_ (by assumption)))))).mono ?_); rintro e w7 ⟨F7, rfl, hR7, xb7⟩; obtain ⟨xc7, xf7, xl7, xz7⟩ := ext_use xb7; (try simp at xz7); obtain ⟨l7_0, gc, gf⟩ := kp xb7 (w2.heap.size) (by first | omega | (simp; try omega)); have r7_0 := gc 0; have f7_0 := gf 0; have r7_0_1 := gc 1; have f7_0_1 := gf 1; have r7_0_2 := gc 2; have f7_0_2 := gf 2; clear gc gf; obtain ⟨l7_1, gc, gf⟩ := kp xb7 (w3.heap.size) (by first | omega | (simp; try omega)); have r7_1 := gc 0; have f7_1 := gf 0; have r7_1_1 := gc 1; have f7_1_1 := gf 1; have r7_1_2 := gc 2; have f7_1_2 := gf 2; clear gc gf; obtain ⟨l7_2, gc, gf⟩ := kp xb7 (w6.heap.size) (by first | omega | (simp; try omega)); have r7_2 := gc 0; have f7_2 := gf 0; have r7_2_1 := gc 1; have f7_2_1 := gf 1; have r7_2_2 := gc 2; have f7_2_2 := gf 2; clear gc gf)
   )
  go_upto_region 12 with (first
    | (go_at_call 52; (with_reducible refine (kD _ _ (by (repeat (first | exact ext_refl _ | assumption | refine ext_setCell ?_ (by simp; try omega) _ | refine ext_alloc ?_ _ | refine ext_drew ?_ | refine ext_drewN ?_ _ | refine ext_trans ?_ (Aft.use _) | refine ext_trans ?_ (by assumption)))) (hR7.out.ext (by (repeat (first | exact ext_refl _ | assumption | refine ext_setCell ?_ (by simp; try omega) _ | refine ext_alloc ?_ _ | refine ext_drew ?_ | refine ext_drewN ?_ _ | refine ext_trans ?_ (Aft.use _) | refine ext_trans ?_ (by assumption)))))).mono ?_); rintro e w8 ⟨F8, rfl, hR8, xb8⟩; obtain ⟨xc8, xf8, xl8, xz8⟩ := ext_use xb8; (try simp at xz8); obtain ⟨l8_0, gc, gf⟩ := kp xb8 (w2.heap.size) (by first | omega | (simp; try omega)); have r8_0 := gc 0; have f8_0 := gf 0; have r8_0_1 := gc 1; have f8_0_1 := gf 1; have r8_0_2 := gc 2; have f8_0_2 := gf 2; clear gc gf; obtain ⟨l8_1, gc, gf⟩ := kp xb8 (w3.heap.size) (by first | omega | (simp; try omega)); have r8_1 := gc 0; have f8_1 := gf 0; have r8_1_1 := gc 1; have f8_1_1 := gf 1; have r8_1_2 := gc 2; have f8_1_2 := gf 2; clear gc gf; obtain ⟨l8_2, gc, gf⟩ := kp xb8 (w6.heap.size) (by first | omega | (simp; try omega)); have r8_2 := gc 0; have f8_2 := gf 0; have r8_2_1 := gc 1; have f8_2_1 := gf 1; have r8_2_2 := gc 2; have f8_2_2 := gf 2; clear gc gf; obtain ⟨l8_3, gc, gf⟩ := kp xb8 (w7.heap.size) (by first | omega | (simp; try omega)); have r8_3 := gc 0; have f8_3 := gf 0; have r8_3_1 := gc 1; have f8_3_1 := gf 1; have r8_3_2 := gc 2; have f8_3_2 := gf 2; clear gc gf)
   )
  go_upto_region 13 with (first
    | (go_at_call 35; (with_reducible refine (kW _).mono ?_); rintro e w9 ⟨F9, rfl, hR9, xb9⟩; obtain ⟨xc9, xf9, xl9, xz9⟩ := ext_use xb9; (try simp at xz9); obtain ⟨l9_0, gc, gf⟩ := kp xb9 (w2.heap.size) (by first | omega | (simp; try omega)); have r9_0 := gc 0; have f9_0 := gf 0; have r9_0_1 := gc 1; have f9_0_1 := gf 1; have r9_0_2 := gc 2; have f9_0_2 := gf 2; clear gc gf; obtain ⟨l9_1, gc, gf⟩ := kp xb9 (w3.heap.size) (by first | omega | (simp; try omega)); have r9_1 := gc 0; have f9_1 := gf 0; have r9_1_1 := gc 1; have f9_1_1 := gf 1; have r9_1_2 := gc 2; have f9_1_2 := gf 2; clear gc gf; obtain ⟨l9_2, gc, gf⟩ := kp xb9 (w6.heap.size) (by first | omega | (simp; try omega)); have r9_2 := gc 0; have f9_2 := gf 0; have r9_2_1 := gc 1; have f9_2_1 := gf 1; have r9_2_2 := gc 2; have f9_2_2 := gf 2; clear gc gf; obtain ⟨l9_3, gc, gf⟩ := kp xb9 (w7.heap.size) (by first | omega | (simp; try omega)); have r9_3 := gc 0; have f9_3 := gf 0; have r9_3_1 := gc 1; have f9_3_1 := gf 1; have r9_3_2 := gc 2; have f9_3_2 := gf 2; clear gc gf; obtain ⟨l9_4, gc, gf⟩ := kp xb9 (w8.heap.size) (by first | omega | (simp; try omega)); have r9_4 := gc 0; have f9_4 := gf 0; have r9_4_1 := gc 1; have f9_4_1 := gf 1; have r9_4_2 := gc 2; have f9_4_2 := gf 2; clear gc gf)
    | (go_at_call 52; (with_reducible refine (kM _ _ (by (repeat (first | exact ext_refl _ | assumption | refine ext_setCell ?_ (by simp; try omega) _ | refine ext_alloc ?_ _ | refine ext_drew ?_ | refine ext_drewN ?_ _ | refine ext_trans ?_ (Aft.use _) | refine ext_trans ?_ (by assumption)))) (hR9.out.ext (by (repeat (first | exact ext_refl _ | assumption | refine ext_setCell ?_ (by simp; try omega) _ | refine ext_alloc ?_ _ | refine ext_drew ?_ | refine ext_drewN ?_ _ | refine ext_trans ?_ (Aft.use _) | refine ext_trans ?_ (by assumption)))))).mono ?_); rintro e w10 ⟨F10, rfl, hR10, xb10⟩; obtain ⟨xc10, xf10, xl10, xz10⟩ := ext_use xb10; (try simp at xz10); obtain ⟨l10_0, gc, gf⟩ := kp xb10 (w2.heap.size) (by first | omega | (simp; try omega)); have r10_0 := gc 0; have f10_0 := gf 0; have r10_0_1 := gc 1; have f10_0_1 := gf 1; have r10_0_2 := gc 2; have f10_0_2 := gf 2; clear gc gf; obtain ⟨l10_1, gc, gf⟩ := kp xb10 (w3.heap.size) (by first | omega | (simp; try omega)); have r10_1 := gc 0; have f10_1 := gf 0; have r10_1_1 := gc 1; have f10_1_1 := gf 1; have r10_1_2 := gc 2; have f10_1_2 := gf 2; clear gc gf; obtain ⟨l10_2, gc, gf⟩ := kp xb10 (w6.heap.size) (by first | omega | (simp; try omega)); have r10_2 := gc 0; have f10_2 := gf 0; have r10_2_1 := gc 1; have f10_2_1 := gf 1; have r10_2_2 := gc 2; have f10_2_2 := gf 2; clear gc gf; obtain ⟨l10_3, gc, gf⟩ := kp xb10 (w7.heap.size) (by first | omega | (simp; try omega)); have r10_3 := gc 0; have f10_3 := gf 0; have r10_3_1 := gc 1; have f10_3_1 := gf 1; have r10_3_2 := gc 2; have f10_3_2 := gf 2; clear gc gf; obtain ⟨l10_4, gc, gf⟩ := kp xb10 (w8.heap.size) (by first | omega | (simp; try omega)); have r10_4 := gc 0; have f10_4 := gf 0; have r10_4_1 := gc 1; have f10_4_1 := gf 1; have r10_4_2 := gc 2; have f10_4_2 := gf 2; clear gc gf)
   )
  go_upto_region 14 with (first
    | (go_at_call 47; (with_reducible refine (kQ _ _ _ (by (repeat (first | exact ext_refl _ | assumption | refine ext_setCell ?_ (by simp; try omega) _ | refine ext_alloc ?_ _ | refine ext_drew ?_ | refine ext_drewN ?_ _ | refine ext_trans ?_ (Aft.use _) | refine ext_trans ?_ (by assumption)))) (hR2.out.ext (by (repeat (first | exact ext_refl _ | assumption | refine ext_setCell ?_ (by simp; try omega) _ | refine ext_alloc ?_ _ | refine ext_drew ?_ | refine ext_drewN ?_ _ | refine ext_trans ?_ (Aft.use _) | refine ext_trans ?_ (by assumption))))) (hR10.out.ext (by (repeat (first | exact ext_refl _ | assumption | refine ext_setCell ?_ (by simp; try omega) _ | refine ext_alloc ?_ _ | refine ext_drew ?_ | refine ext_drewN ?_ _ | refine ext_trans ?_ (Aft.use _) | refine ext_trans ?_ (by assumption)))))).mono ?_); rintro e w11 ⟨F11, rfl, hR11, xb11⟩; obtain ⟨xc11, xf11, xl11, xz11⟩ := ext_use xb11; (try simp at xz11); obtain ⟨l11_0, gc, gf⟩ := kp xb11 (w2.heap.size) (by first | omega | (simp; try omega)); have r11_0 := gc 0; have f11_0 := gf 0; have r11_0_1 := gc 1; have f11_0_1 := gf 1; have r11_0_2 := gc 2; have f11_0_2 := gf 2; clear gc gf; obtain ⟨l11_1, gc, gf⟩ := kp xb11 (w3.heap.size) (by first | omega | (simp; try omega)); have r11_1 := gc 0; have f11_1 := gf 0; have r11_1_1 := gc 1; have f11_1_1 := gf 1; have r11_1_2 := gc 2; have f11_1_2 := gf 2; clear gc gf; obtain ⟨l11_2, gc, gf⟩ := kp xb11 (w6.heap.size) (by first | omega | (simp; try omega)); have r11_2 := gc 0; have f11_2 := gf 0; have r11_2_1 := gc 1; have f11_2_1 := gf 1; have r11_2_2 := gc 2; have f11_2_2 := gf 2; clear gc gf; obtain ⟨l11_3, gc, gf⟩ := kp xb11 (w7.heap.size) (by first | omega | (simp; try omega)); have r11_3 := gc 0; have f11_3 := gf 0; have r11_3_1 := gc 1; have f11_3_1 := gf 1; have r11_3_2 := gc 2; have f11_3_2 := gf 2; clear gc gf; obtain ⟨l11_4, gc, gf⟩ := kp xb11 (w8.heap.size) (by first | omega | (simp; try omega)); have r11_4 := gc 0; have f11_4 := gf 0; have r11_4_1 := gc 1; have f11_4_1 := gf 1; have r11_4_2 := gc 2; have f11_4_2 := gf 2; clear gc gf)
   )
  go_wp2_with (first
    | (go_at_call 43; (with_reducible refine (kSa _ _ _ (hR6.out.ext (by (repeat (first | exact ext_refl _ | assumption | refine ext_setCell ?_ (by simp; try omega) _ | refine ext_alloc ?_ _ | refine ext_drew ?_ | refine ext_drewN ?_ _ | refine ext_trans ?_ (Aft.use _) | refine ext_trans ?_ (by assumption))))) (hR2.out.ext (by (repeat (first | exact ext_refl _ | assumption | refine ext_setCell ?_ (by simp; try omega) _ | refine ext_alloc ?_ _ | refine ext_drew ?_ | refine ext_drewN ?_ _ | refine ext_trans ?_ (Aft.use _) | refine ext_trans ?_ (by assumption)))))).mono ?_); rintro e w12 ⟨rfl, xb12⟩; obtain ⟨xc12, xf12, xl12, xz12⟩ := ext_use xb12; (try simp at xz12); obtain ⟨l12_0, gc, gf⟩ := kp xb12 (w2.heap.size) (by first | omega | (simp; try omega)); have r12_0 := gc 0; have f12_0 := gf 0; have r12_0_1 := gc 1; have f12_0_1 := gf 1; have r12_0_2 := gc 2; have f12_0_2 := gf 2; clear gc gf; obtain ⟨l12_1, gc, gf⟩ := kp xb12 (w3.heap.size) (by first | omega | (simp; try omega)); have r12_1 := gc 0; have f12_1 := gf 0; have r12_1_1 := gc 1; have f12_1_1 := gf 1; have r12_1_2 := gc 2; have f12_1_2 := gf 2; clear gc gf; obtain ⟨l12_2, gc, gf⟩ := kp xb12 (w7.heap.size) (by first | omega | (simp; try omega)); have r12_2 := gc 0; have f12_2 := gf 0; have r12_2_1 := gc 1; have f12_2_1 := gf 1; have r12_2_2 := gc 2; have f12_2_2 := gf 2; clear gc gf; obtain ⟨l12_3, gc, gf⟩ := kp xb12 (w8.heap.size) (by first | omega | (simp; try omega)); have r12_3 := gc 0; have f12_3 := gf 0; have r12_3_1 := gc 1; have f12_3_1 := gf 1; have r12_3_2 := gc 2; have f12_3_2 := gf 2; clear gc gf; obtain ⟨l12_4, gc, gf⟩ := kp xb12 (w11.heap.size) (by first | omega | (simp; try omega)); have r12_4 := gc 0; have f12_4 := gf 0; have r12_4_1 := gc 1; have f12_4_1 := gf 1; have r12_4_2 := gc 2; have f12_4_2 := gf 2; clear gc gf)
    | (go_at_call 43; (with_reducible refine (kE _ _ _ (hR2.out.ext (by (repeat (first | exact ext_refl _ | assumption | refine ext_setCell ?_ (by simp; try omega) _ | refine ext_alloc ?_ _ | refine ext_drew ?_ | refine ext_drewN ?_ _ | refine ext_trans ?_ (Aft.use _) | refine ext_trans ?_ (by assumption))))) (hR3.out.ext (by (repeat (first | exact ext_refl _ | assumption | refine ext_setCell ?_ (by simp; try omega) _ | refine ext_alloc ?_ _ | refine ext_drew ?_ | refine ext_drewN ?_ _ | refine ext_trans ?_ (Aft.use _) | refine ext_trans ?_ (by assumption)))))).mono ?_); rintro e w13 ⟨rfl, xb13⟩; obtain ⟨xc13, xf13, xl13, xz13⟩ := ext_use xb13; (try simp at xz13); obtain ⟨l13_0, gc, gf⟩ := kp xb13 (w2.heap.size) (by first | omega | (simp; try omega)); have r13_0 := gc 0; have f13_0 := gf 0; have r13_0_1 := gc 1; have f13_0_1 := gf 1; have r13_0_2 := gc 2; have f13_0_2 := gf 2; clear gc gf; obtain ⟨l13_1, gc, gf⟩ := kp xb13 (w7.heap.size) (by first | omega | (simp; try omega)); have r13_1 := gc 0; have f13_1 := gf 0; have r13_1_1 := gc 1; have f13_1_1 := gf 1; have r13_1_2 := gc 2; have f13_1_2 := gf 2; clear gc gf; obtain ⟨l13_2, gc, gf⟩ := kp xb13 (w8.heap.size) (by first | omega | (simp; try omega)); have r13_2 := gc 0; have f13_2 := gf 0; have r13_2_1 := gc 1; have f13_2_1 := gf 1; have r13_2_2 := gc 2; have f13_2_2 := gf 2; clear gc gf; obtain ⟨l13_3, gc, gf⟩ := kp xb13 (w11.heap.size) (by first | omega | (simp; try omega)); have r13_3 := gc 0; have f13_3 := gf 0; have r13_3_1 := gc 1; have f13_3_1 := gf 1; have r13_3_2 := gc 2; have f13_3_2 := gf 2; clear gc gf)
    | (go_at_call 43; (with_reducible refine (kSa _ _ _ (hR8.out.ext (by (repeat (first | exact ext_refl _ | assumption | refine ext_setCell ?_ (by simp; try omega) _ | refine ext_alloc ?_ _ | refine ext_drew ?_ | refine ext_drewN ?_ _ | refine ext_trans ?_ (Aft.use _) | refine ext_trans ?_ (by assumption))))) (hR2.out.ext (by (repeat (first | exact ext_refl _ | assumption | refine ext_setCell ?_ (by simp; try omega) _ | refine ext_alloc ?_ _ | refine ext_drew ?_ | refine ext_drewN ?_ _ | refine ext_trans ?_ (Aft.use _) | refine ext_trans ?_ (by assumption)))))).mono ?_); rintro e w14 ⟨rfl, xb14⟩; obtain ⟨xc14, xf14, xl14, xz14⟩ := ext_use xb14; (try simp at xz14); obtain ⟨l14_0, gc, gf⟩ := kp xb14 (w7.heap.size) (by first | omega | (simp; try omega)); have r14_0 := gc 0; have f14_0 := gf 0; have r14_0_1 := gc 1; have f14_0_1 := gf 1; have r14_0_2 := gc 2; have f14_0_2 := gf 2; clear gc gf; obtain ⟨l14_1, gc, gf⟩ := kp xb14 (w11.heap.size) (by first | omega | (simp; try omega)); have r14_1 := gc 0; have f14_1 := gf 0; have r14_1_1 := gc 1; have f14_1_1 := gf 1; have r14_1_2 := gc 2; have f14_1_2 := gf 2; clear gc gf)
    | (go_at_call 43; (with_reducible refine (kSu _ _ _ (hR11.out.ext (by (repeat (first | exact ext_refl _ | assumption | refine ext_setCell ?_ (by simp; try omega) _ | refine ext_alloc ?_ _ | refine ext_drew ?_ | refine ext_drewN ?_ _ | refine ext_trans ?_ (Aft.use _) | refine ext_trans ?_ (by assumption))))) (hR7.out.ext (by (repeat (first | exact ext_refl _ | assumption | refine ext_setCell ?_ (by simp; try omega) _ | refine ext_alloc ?_ _ | refine ext_drew ?_ | refine ext_drewN ?_ _ | refine ext_trans ?_ (Aft.use _) | refine ext_trans ?_ (by assumption)))))).mono ?_); rintro e w15 ⟨rfl, xb15⟩; obtain ⟨xc15, xf15, xl15, xz15⟩ := ext_use xb15; (try simp at xz15))
   )
  refine bodyPost_ret (v := .bool true) ?h rfl ⟨rfl, ?_⟩
  case h => simp [results, Tryz.results10, go_sem]
  repeat (first | exact ext_refl _ | assumption | refine ext_setCell ?_ (by simp; try omega) _ | refine ext_alloc ?_ _ | refine ext_drew ?_ | refine ext_drewN ?_ _ | refine ext_trans ?_ (Aft.use _) | refine ext_trans ?_ (by assumption))
theorem or_one (x : Nat) (hx : x < 2 ^ 32) : ∃ B : Nat, bits BinOp.or IntKind.u32 (x : Int) 1 = (B : Nat) ∧ 1 ≤ B ∧ B < 4294967296 := by
  have e : bits BinOp.or IntKind.u32 (x : Int) 1 = ((x ||| 1 : Nat) : Int) := by
    have h1 : (BitVec.ofInt 32 (x : Int)).toNat = x := by rw [BitVec.ofInt_natCast, BitVec.toNat_ofNat]; exact Nat.mod_eq_of_lt hx
    have h2 : (BitVec.ofInt 32 (1 : Int)).toNat = 1 := by rfl
    show IntKind.u32.wrap ((BitVec.ofInt 32 (x : Int) ||| BitVec.ofInt 32 (1 : Int)).toNat : Int) = _
    rw [BitVec.toNat_or, h1, h2, IntKind.wrap_u32]
    have h3 : x ||| 1 < 2 ^ 32 := Nat.or_lt_two_pow hx (by decide)
    omega
  refine ⟨x ||| 1, e, ?_, Nat.or_lt_two_pow hx (by decide)⟩
  exact Nat.right_le_or
/-- There and back. -/
theorem pw_back {x : Int} {p b : Nat} (hp : p ≠ 0) (hb : 1 ≤ b) (e : Int) (hg : Nat.gcd x.natAbs p = 1) :
    canN (pwZ (canN (pwZ x b e) (pwD p b e)) b (-e)) (pwD (canD (pwZ x b e) (pwD p b e)) b (-e)) = x ∧ canD (pwZ (canN (pwZ x b e) (pwD p b e)) b (-e)) (pwD (canD (pwZ x b e) (pwD p b e)) b (-e)) = p := by
  have hq := pwD_pos (e := e) hp hb
  have hw := can_worth (z := pwZ x b e) hq
  have hc := canD_pos (z := pwZ x b e) hq
  have := can_uniq (z := x) (d := p) (Z := pwZ (canN (pwZ x b e) (pwD p b e)) b (-e)) (D := pwD (canD (pwZ x b e) (pwD p b e)) b (-e)) hp (pwD_pos hc hb) hg ?_
  · exact ⟨this.1.symm, this.2.symm⟩
  generalize canN (pwZ x b e) (pwD p b e) = N at *
  generalize canD (pwZ x b e) (pwD p b e) = C at *
  unfold pwZ pwD at *
  by_cases h1 : e < 0
  · rw [if_pos h1, if_pos h1] at hw
    rw [if_neg (show ¬ -e < 0 by omega), if_neg (show ¬ -e < 0 by omega)]
    rw [Int.natCast_mul] at hw
    generalize ((b ^ (-e).toNat : Nat) : Int) = t at *
    grind
  · rw [if_neg h1, if_neg h1] at hw
    by_cases h2 : e = 0
    · subst h2
      simp at hw ⊢
      grind
    · rw [if_pos (show -e < 0 by omega), if_pos (show -e < 0 by omega)]
      rw [Int.neg_neg, Int.natCast_mul]
      generalize ((b ^ e.toNat : Nat) : Int) = t at *
      grind
/-- Times the power itself. -/
theorem pw_times {x : Int} {p b : Nat} (hp : p ≠ 0) (hb : 1 ≤ b) (e : Int) :
    canN (x * canN (pwZ 1 b e) (pwD 1 b e)) (p * canD (pwZ 1 b e) (pwD 1 b e)) = canN (pwZ x b e) (pwD p b e) ∧ canD (x * canN (pwZ 1 b e) (pwD 1 b e)) (p * canD (pwZ 1 b e) (pwD 1 b e)) = canD (pwZ x b e) (pwD p b e) := by
  have h := can_mulR x hp (pwD_pos (p := 1) (e := e) (by decide) hb) (Y := pwZ 1 b e)
  have e1 : x * pwZ 1 b e = pwZ x b e := by unfold pwZ; split <;> simp
  have e2 : p * pwD 1 b e = pwD p b e := by unfold pwD; split <;> simp
  rw [e1, e2] at h
  exact h
theorem walk_RatioBack (x0 : Bool) (x1A : Option Addr) (x1l x1c : Nat) (x1 : List Nat) (x2A : Option Addr) (x2l x2c : Nat) (x2 : List Nat) (x3 : Bool) (x4A : Option Addr) (x4l x4c : Nat) (x4 : List Nat) (x5A : Option Addr) (x5l x5c : Nat) (x5 : List Nat) (x6 : Nat) (x7 : Int) (w : World) (hx1 : Rd w x1A x1l x1c x1) (hx2 : Rd w x2A x2l x2c x2) (hx4 : Rd w x4A x4l x4c x4) (hx5 : Rd w x5A x5l x5c x5) (hx6 : x6 < 2 ^ 32) (hx7 : -9223372036854775808 ≤ x7 ∧ x7 ≤ 9223372036854775807) (hL : laidMetH Tryz.prog Rows.ratioBackRow.laid w) :
    Calls Tryz.prog 10 #[.agg #[.bool x0, .slice x1A x1l x1c, .slice x2A x2l x2c], .agg #[.bool x3, .slice x4A x4l x4c, .slice x5A x5l x5c], .int .u32 x6, .int .i64 x7] w fun e w' => e = .returned (.bool true) ∧ Ext w w' := by
  have hT : Tz w := tz_row w hL (fun w => MakeChecks.laidMetH_plain _ _ _ (by kernel_rfl)) (rest := [("unicode/utf8.acceptRanges", Rows.laid_unicode_utf8_acceptRanges), ("unicode/utf8.first", Rows.laid_unicode_utf8_first)]) (by kernel_rfl)
  clear hL
  have qA := rawD_pos (val (x2.take 5))
  have qB := rawD_pos (val (x5.take 5))
  have fA : Few 5 (canN (sgn x0 (val (x1.take 5))) (rawD (val (x2.take 5)))) (canD (sgn x0 (val (x1.take 5))) (rawD (val (x2.take 5)))) := raw_few x0 hx1 hx2
  have fB : Few 5 (canN (sgn x3 (val (x4.take 5))) (rawD (val (x5.take 5)))) (canD (sgn x3 (val (x4.take 5))) (rawD (val (x5.take 5)))) := raw_few x3 hx4 hx5
  have pA := canD_pos (z := sgn x0 (val (x1.take 5))) qA
  have pB := canD_pos (z := sgn x3 (val (x4.take 5))) qB
  have gA := can_gcd (z := sgn x0 (val (x1.take 5))) qA
  have gB := can_gcd (z := sgn x3 (val (x4.take 5))) qB
  obtain ⟨X, hX⟩ : ∃ X, canN (sgn x0 (val (x1.take 5))) (rawD (val (x2.take 5))) = X := ⟨_, rfl⟩
  obtain ⟨P, hP⟩ : ∃ X, canD (sgn x0 (val (x1.take 5))) (rawD (val (x2.take 5))) = X := ⟨_, rfl⟩
  obtain ⟨Y, hY⟩ : ∃ X, canN (sgn x3 (val (x4.take 5))) (rawD (val (x5.take 5))) = X := ⟨_, rfl⟩
  obtain ⟨Q, hQ⟩ : ∃ X, canD (sgn x3 (val (x4.take 5))) (rawD (val (x5.take 5))) = X := ⟨_, rfl⟩
  have kA : ∀ w', Ext w w' → Calls Tryz.prog 38 #[.agg #[.bool x0, .slice x1A x1l x1c, .slice x2A x2l x2c]] w' (MPst w' (decide (X < 0)) X P) := fun w' he => made_op x0 (hT.ext he) (hx1.ext he) (hx2.ext he) hX hP rfl
  have kB : ∀ w', Ext w w' → Calls Tryz.prog 38 #[.agg #[.bool x3, .slice x4A x4l x4c, .slice x5A x5l x5c]] w' (MPst w' (decide (Y < 0)) Y Q) := fun w' he => made_op x3 (hT.ext he) (hx4.ext he) (hx5.ext he) hY hQ rfl
  rw [hX, hP] at fA gA
  rw [hP] at pA
  rw [hY, hQ] at fB gB
  rw [hQ] at pB
  clear hX hP hY hQ qA qB
  have l1 : (lim 1).length = 1 := by kernel_rfl
  have fA' := fA.mono (show 5 ≤ 4000 by decide)
  have fB' := fB.mono (show 5 ≤ 4000 by decide)
  have fO : Few 1 1 1 := ⟨by show (lim 1).length ≤ 1; omega, by omega⟩
  obtain ⟨B, hB, hB1, hB2⟩ := or_one x6 hx6
  obtain ⟨n, hn⟩ : ∃ n, x7.tmod 61 = n := ⟨_, rfl⟩
  have hn1 : -60 ≤ n := by rw [← hn]; have := Int.natAbs_tmod x7 61; have := Nat.mod_lt x7.natAbs (show (61 : Int).natAbs > 0 by decide); have h61 : (61 : Int).natAbs = 61 := rfl; omega
  have hn2 : n ≤ 60 := by rw [← hn]; have := Int.tmod_lt_of_pos x7 (show (0 : Int) < 61 by decide); omega
  have fU := (pw_few (e := n) fA hB2 (by omega) (by omega)).can
  have fM := (pw_few (e := n) fO hB2 (by omega) (by omega)).can
  have hse : ((rtext X P == rtext Y Q) : Bool) = decide (X = Y ∧ P = Q) := by
    rw [Bool.eq_iff_iff, beq_iff_eq, decide_eq_true_eq]
    exact ⟨rtext_inj, fun h => by rw [h.1, h.2]⟩
  exact back_core x0 x1A x1l x1c x2A x2l x2c x3 x4A x4l x4c x5A x5l x5c x6 x7 X Y (canN (pwZ X B n) (pwD P B n)) (canN (pwZ 1 B n) (pwD 1 B n)) P Q (canD (pwZ X B n) (pwD P B n)) (canD (pwZ 1 B n) (pwD 1 B n)) (decide (X < 0)) (decide (Y < 0)) _ _ _ (rtext X P) (rtext Y Q) B n w hB hn hn1 hn2 hse
    (fun w' he => alive2_any w' (hT.ext he)) kA kB
    (fun F w' he h1 => va_Text (hT.ext he) h1 (h1.few fA').1 (h1.few fA').2)
    (fun F w' he h1 => va_Text (hT.ext he) h1 (h1.few fB').1 (h1.few fB').2)
    (fun w' he => (parse_text pA gA (few_text fA) w' (hT.ext he)).mono fun e w'' ⟨A, n, c, D, m, k, h1, h2, h3⟩ => ⟨⟨A, n, c, D, m, k⟩, h1, h2, h3⟩)
    (fun F w' he h1 => op_Scale hT fA' hB1 hB2 (by omega) (by omega) rfl ⟨rfl, rfl⟩ rfl F w' he h1)
    (fun F w' he h1 => op_Scale hT (fU.mono (by decide)) hB1 hB2 (by omega) (by omega) rfl (pw_back pA hB1 n gA) rfl F w' he h1)
    (fun F w' he h1 => op_Scale hT (fO.mono (by decide)) hB1 hB2 (by omega) (by omega) rfl ⟨rfl, rfl⟩ rfl F w' he h1)
    (op_Mul hT fA' (fM.mono (by decide)) rfl rfl (pw_times pA hB1 n) rfl)
    (fun F G w' h1 h2 => op_same rfl rfl (decide_eq_true ⟨rfl, rfl⟩) F G w' h1 h2)
    (fun F G w' h1 h2 => op_same rfl rfl (decide_eq_true ⟨rfl, rfl⟩) F G w' h1 h2)
    (fun F G w' h1 h2 => op_same rfl rfl rfl F G w' h1 h2)
end Go.Proofs.YtnpdpjgkpjodbaaGreatDoor
end
