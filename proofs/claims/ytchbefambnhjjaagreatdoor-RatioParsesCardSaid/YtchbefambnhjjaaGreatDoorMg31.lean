/- Lemmas of this proof, laid together: D2P8. -/
import Derived.Test.YtchbefambnhjjaaGreatDoorMg29
import Derived.Deep.DeepCutAuto
import Derived.Deep.RegionWith
set_option linter.unusedSimpArgs false
set_option linter.unusedVariables false
section
/- The document's fractions out of texts, case by case (written by mkd2p.py). -/
namespace Go.Proofs.YtchbefambnhjjaaGreatDoor.NB
open Go.RowKit
attribute [local go_sem] bs_size bs_extract bs_get bs_append bs_toList const_get
attribute [local go_sem] sz2 sz3 sz4 sz5 sz6 sz7 sz8
set_option maxHeartbeats 4000000
set_option maxRecDepth 100000
attribute [local irreducible] Calls
theorem rd_Parse_over (s : Bool) (l u D : List UInt8) (ei : Int) (i0 i1 : Nat) (hl : l.length ≤ 65536) (hh : Hd l ei i0) (hu : l.drop i0 = u) (hi : u.length + i0 = l.length) (hD : u.takeWhile isD = D) (hi1 : i0 + D.length = i1) (ht : l.take i1 = if s then 45 :: D else D) (h0 : 0 < D.length)
    (E : List UInt8) (i2 i3 k : Nat) (hx : i1 < l.length) (hv : l[i1] = 47) (hi2 : i1 + 1 = i2) (hdE : l.drop i2 = E) (hk : (E.takeWhile isD).length = k) (hi3 : i2 + k = i3) (hk0 : k = E.length) (h3 : 0 < k) (hz : dval E ≠ 0) (w : World) (hT : Tz w) :
    Calls Tryz.prog 10 #[.string (bs l)] w (DYes w (canN (sgn s (dval D)) (dval E)) (canD (sgn s (dval D)) (dval E))) := by
  have hDl : D.length ≤ u.length := by rw [← hD]; exact (tw_run isD u).2.2
  have hi0 : i0 ≤ l.length := by omega
  have hil : i1 ≤ l.length := by omega
  have hDb : digsB D = true := by rw [← hD]; exact take_dig u
  have kD1 : ∀ w', Calls Tryz.prog 48 #[.string (bs l), .int .i64 ei] w' fun e w'' => e = .returned (.int .i64 (i1 : Int)) ∧ Ext w' w'' := fun w' => by have := rd_digits l i0 i1 hi0 (by omega) (by rw [hu, hD]; exact hi1) w'; rwa [hh.1]
  have hne : (((i1 : Nat) : Int) == ei) = false := by rw [beq_eq_false_iff_ne]; rw [hh.1]; omega
  have hne2 : ¬ ((i1 : Nat) : Int) = ei := by rw [hh.1]; omega
  have kS1 := op_SetString s D hDb h0 (by omega) (l.take i1) ht
  clear ht
  have hlt : decide (((i1 : Nat) : Int) < ((l.length : Nat) : Int)) = true := decide_eq_true (by omega)
  have hlt2 : ((i1 : Nat) : Int) < ((l.length : Nat) : Int) := by omega
  have hv0 : l[i1].toNat = 47 := by rw [hv]; rfl
  have hv1 : ((l[i1].toNat : Int) == 47) = true := by rw [hv0]; rfl
  have e2 : ((i1 : Nat) : Int) + 1 = ((i2 : Nat) : Int) := by omega
  have hEl : E.length + i2 = l.length := by rw [← hdE, List.length_drop]; omega
  have hkl : k ≤ E.length := by rw [← hk]; exact (tw_run isD E).2.2
  have hi2l : i2 ≤ l.length := by omega
  have kD2 : ∀ w', Calls Tryz.prog 48 #[.string (bs l), .int .i64 (i2 : Int)] w' fun e w'' => e = .returned (.int .i64 (i3 : Int)) ∧ Ext w' w'' := fun w' => rd_digits l i2 i3 hi2l (by omega) (by rw [hdE, hk]; exact hi3) w'
  clear hv
  have hq : (((i3 : Nat) : Int) == ((i2 : Nat) : Int)) = false := by rw [beq_eq_false_iff_ne]; omega
  have hq2 : ¬ ((i3 : Nat) : Int) = ((i2 : Nat) : Int) := by omega
  have hr : decide (((i3 : Nat) : Int) < ((l.length : Nat) : Int)) = false := decide_eq_false (by omega)
  have hr2 : ¬ ((i3 : Nat) : Int) < ((l.length : Nat) : Int) := by omega
  have hEb2 : digsB E = true := by have h1 := (tw_run isD E).1; unfold digsB; rw [List.all_eq_true]; intro c hc; obtain ⟨j, hj, rfl⟩ := List.getElem_of_mem hc; exact h1 j hj (by rw [hk]; omega)
  have kS2 := op_SetString false E hEb2 (by omega) (by omega) (l.drop i2) hdE
  have hlz : (lim (sgn s (dval D)).natAbs).length ≤ 400000 := by rw [sgn_abs]; have := dval_small hDb (by omega : D.length ≤ 65536); omega
  have hdE0 : dval E ≠ 0 := hz
  have hlE : (lim (dval E)).length ≤ 400000 := by have := dval_small hEb2 (by omega : E.length ≤ 65536); omega
  have hff : Few 16384 (sgn s (dval D)) (dval E) := ⟨by rw [sgn_abs]; have := dval_small hDb (by omega : D.length ≤ 65536); omega, by have := dval_small hEb2 (by omega : E.length ≤ 65536); omega⟩
  have kG : ∀ (b : Nat) (A : Option Addr) (n c : Nat) (w' : World), IntIs w' b 0 ((dval E : Nat) : Int) A n c → Calls Tryz.prog 51 #[.pointer (some ⟨b, 0, none⟩)] w' fun e w'' => e = .returned (.int .i64 1) ∧ Ext w' w'' := fun b A n c w' h => by have := bi_Sign b 0 ((dval E : Nat) : Int) A n c w' h; rwa [Int.sign_eq_one_of_pos (by omega)] at this
  rw [show sgn false (dval E) = ((dval E : Nat) : Int) from rfl] at kS2
  have HT := Lib.hid hT
  have hd0 := hdE0
  have hld := hlE
  clear hT hz hdE0 hlE hdE hk hk0
  obtain ⟨hei, hh⟩ := hh
  clear hei hu hi hD hDb hi1 hDl
  rcases hh with ⟨rfl, hx0, hc⟩ | ⟨rfl, hc⟩
  · have hc0 : l[0].toNat = 45 := by cases l with | nil => simp at hx0 | cons c r => simp at hc; subst hc; rfl
    have hc1 : ((l[0].toNat : Int) == 45) = true := by rw [hc0]; rfl
    clear hc
    go_enter Tryz.func10, Tryz.ntmps10
    go_upto_region 9 with (first
      | (go_at_call 48; (with_reducible refine (kD1 _).mono ?_); rintro e w1 ⟨rfl, xb1⟩; obtain ⟨xc1, xf1, xl1, xz1⟩ := ext_use xb1; (try simp at xz1); obtain ⟨l1_0, gc, gf⟩ := kp xb1 (w.heap.size) (by first | omega | (simp; try omega)); have r1_0 := gc 0; have f1_0 := gf 0; have r1_0_1 := gc 1; have f1_0_1 := gf 1; have r1_0_2 := gc 2; have f1_0_2 := gf 2; clear gc gf)
     )
    go_upto_region 11 with (first
      | (go_at_call 49; (with_reducible refine (kS1 w1).mono ?_); rintro e w2 ⟨A2, n2, c2, rfl, hI2, xb2⟩; obtain ⟨xc2, xf2, xl2, xz2⟩ := ext_use xb2; (try simp at xz2); obtain ⟨l2_0, gc, gf⟩ := kp xb2 (w.heap.size) (by first | omega | (simp; try omega)); have r2_0 := gc 0; have f2_0 := gf 0; have r2_0_1 := gc 1; have f2_0_1 := gf 1; have r2_0_2 := gc 2; have f2_0_2 := gf 2; clear gc gf)
      | (go_at_call 50; (with_reducible refine (op_One _).mono ?_); rintro e w3 ⟨b3, A3, n3, c3, rfl, hI3, xb3⟩; obtain ⟨xc3, xf3, xl3, xz3⟩ := ext_use xb3; (try simp at xz3); obtain ⟨l3_0, gc, gf⟩ := kp xb3 (w.heap.size) (by first | omega | (simp; try omega)); have r3_0 := gc 0; have f3_0 := gf 0; have r3_0_1 := gc 1; have f3_0_1 := gf 1; have r3_0_2 := gc 2; have f3_0_2 := gf 2; clear gc gf)
     )
    go_upto_region 16 with (first
      | (go_at_call 48; (with_reducible refine (kD2 _).mono ?_); rintro e w4 ⟨rfl, xb4⟩; obtain ⟨xc4, xf4, xl4, xz4⟩ := ext_use xb4; (try simp at xz4); obtain ⟨l4_0, gc, gf⟩ := kp xb4 (w.heap.size) (by first | omega | (simp; try omega)); have r4_0 := gc 0; have f4_0 := gf 0; have r4_0_1 := gc 1; have f4_0_1 := gf 1; have r4_0_2 := gc 2; have f4_0_2 := gf 2; clear gc gf)
     )
    go_upto_region 19 with (first
      | (go_at_call 49; (with_reducible refine (kS2 w4).mono ?_); rintro e w5 ⟨A5, n5, c5, rfl, hI5, xb5⟩; obtain ⟨xc5, xf5, xl5, xz5⟩ := ext_use xb5; (try simp at xz5); obtain ⟨l5_0, gc, gf⟩ := kp xb5 (w.heap.size) (by first | omega | (simp; try omega)); have r5_0 := gc 0; have f5_0 := gf 0; have r5_0_1 := gc 1; have f5_0_1 := gf 1; have r5_0_2 := gc 2; have f5_0_2 := gf 2; clear gc gf)
     )
    have hI2' := Lib.hid (hI2.out.ext (ext_trans xb3 (ext_trans xb4 xb5)))
    have hI2 := hI2'
    clear hI2'
    go_upto_region 21 with (first
      | (go_at_call 51; (with_reducible refine (kG _ _ _ _ _ hI5.out).mono ?_); rintro e w6 ⟨rfl, xb6⟩; obtain ⟨xc6, xf6, xl6, xz6⟩ := ext_use xb6; (try simp at xz6); obtain ⟨l6_0, gc, gf⟩ := kp xb6 (w.heap.size) (by first | omega | (simp; try omega)); have r6_0 := gc 0; have f6_0 := gf 0; have r6_0_1 := gc 1; have f6_0_1 := gf 1; have r6_0_2 := gc 2; have f6_0_2 := gf 2; clear gc gf)
     )
    go_wp2_with (first
      | (go_at_call 53; (with_reducible refine (op_SetFrac _ _ hd0 hlz hld _ _ _ _ _ _ _ _ w6 (HT.out.ext (by (repeat (first | exact ext_refl _ | assumption | refine ext_setCell ?_ (by simp; try omega) _ | refine ext_alloc ?_ _ | refine ext_drew ?_ | refine ext_drewN ?_ _ | refine ext_trans ?_ (Aft.use _) | refine ext_trans ?_ (by assumption))))) (hI2.out.ext xb6) (hI5.out.ext xb6)).mono ?_); rintro e w7 ⟨A7, n7, c7, D7, m7, k7, rfl, hR7, xb7⟩; obtain ⟨xc7, xf7, xl7, xz7⟩ := ext_use xb7; (try simp at xz7); obtain ⟨l7_0, gc, gf⟩ := kp xb7 (w.heap.size) (by first | omega | (simp; try omega)); have r7_0 := gc 0; have f7_0 := gf 0; have r7_0_1 := gc 1; have f7_0_1 := gf 1; have r7_0_2 := gc 2; have f7_0_2 := gf 2; clear gc gf)
      | (go_at_call 52; (with_reducible refine (op_Of hd0 hff hR7.out).mono ?_); rintro e w8 ⟨F8, rfl, hR8, xb8⟩; obtain ⟨xc8, xf8, xl8, xz8⟩ := ext_use xb8; (try simp at xz8); obtain ⟨l8_0, gc, gf⟩ := kp xb8 (w.heap.size) (by first | omega | (simp; try omega)); have r8_0 := gc 0; have f8_0 := gf 0; have r8_0_1 := gc 1; have f8_0_1 := gf 1; have r8_0_2 := gc 2; have f8_0_2 := gf 2; clear gc gf)
     )
    have z0 : w8.cell? ⟨w.heap.size, 0, none⟩ = some (.bool false) := by simp [go_sem, *]
    have z1 : w8.cell? ⟨w.heap.size, 1, none⟩ = some (.slice none 0 0) := by simp [go_sem, *]
    have z2 : w8.cell? ⟨w.heap.size, 2, none⟩ = some (.slice none 0 0) := by simp [go_sem, *]
    have rl : w.heap.size < w8.heap.size := by assumption
    have hE : Ext w w8 := by (repeat (first | exact ext_refl _ | assumption | refine ext_setCell ?_ (by simp; try omega) _ | refine ext_alloc ?_ _ | refine ext_drew ?_ | refine ext_drewN ?_ _ | refine ext_trans ?_ (Aft.use _) | refine ext_trans ?_ (by assumption)))
    obtain ⟨q0, q1, q2⟩ := set3 (b := w.heap.size) z0 z1 z2 (.bool (decide (canN (sgn s (dval D)) (dval E) < 0))) (.slice F8.A F8.n F8.c) (.slice F8.D F8.m F8.k)
    have hal : Ext (((w8.setCell ⟨w.heap.size, 0, none⟩ (.bool (decide (canN (sgn s (dval D)) (dval E) < 0)))).setCell ⟨w.heap.size, 1, none⟩ (.slice F8.A F8.n F8.c)).setCell ⟨w.heap.size, 2, none⟩ (.slice F8.D F8.m F8.k)) ((((w8.setCell ⟨w.heap.size, 0, none⟩ (.bool (decide (canN (sgn s (dval D)) (dval E) < 0)))).setCell ⟨w.heap.size, 1, none⟩ (.slice F8.A F8.n F8.c)).setCell ⟨w.heap.size, 2, none⟩ (.slice F8.D F8.m F8.k)).alloc (Obj.cells #[(.bool (decide (canN (sgn s (dval D)) (dval E) < 0))), .slice F8.A F8.n F8.c, .slice F8.D F8.m F8.k] 32)) := ext_alloc (ext_refl _) _
    have rl' : w.heap.size < (((w8.setCell ⟨w.heap.size, 0, none⟩ (.bool (decide (canN (sgn s (dval D)) (dval E) < 0)))).setCell ⟨w.heap.size, 1, none⟩ (.slice F8.A F8.n F8.c)).setCell ⟨w.heap.size, 2, none⟩ (.slice F8.D F8.m F8.k)).heap.size := by simpa using rl
    have q0 := (Below.cell (p := ⟨w.heap.size, 0, none⟩) hal rl').trans q0
    have q1 := (Below.cell (p := ⟨w.heap.size, 1, none⟩) hal rl').trans q1
    have q2 := (Below.cell (p := ⟨w.heap.size, 2, none⟩) hal rl').trans q2
    have n5' : ∀ a, F8.A = some a → w.heap.size < a.block := fun a ha => by have := hR8.out.2.1 a ha; omega
    have n6' : ∀ a, F8.D = some a → w.heap.size < a.block := fun a ha => by have := hR8.out.2.2 a ha; omega
    refine bodyPost_ret (v := .tuple #[fV (decide (canN (sgn s (dval D)) (dval E) < 0)) F8, .int .i64 0, .int .i64 0]) ?h rfl ⟨F8, rfl, ⟨⟨(hR8.out.1.num.set3 n5' _ _ _).ext hal, (hR8.out.1.den.set3 n6' _ _ _).ext hal, hR8.out.1.d0, hR8.out.1.low⟩, fun a ha => Nat.le_of_lt (n5' a ha), fun a ha => Nat.le_of_lt (n6' a ha)⟩, ext_trans (ext_set3 hE (Nat.le_refl _) _ _ _) hal⟩
    case h => simp [results, Tryz.results10, go_sem, q0, q1, q2]
  · have hx0 : 0 < l.length := by omega
    have hc0 : ¬ l[0].toNat = 45 := by
      cases l with
      | nil => simp at hx0
      | cons c r => simp at hc ⊢; intro e; exact hc (UInt8.toNat_inj.1 e)
    have hc1 : ((l[0].toNat : Int) == 45) = false := by rw [beq_eq_false_iff_ne]; omega
    have hc2 : ¬ (l[0].toNat : Int) = 45 := by omega
    clear hc
    go_enter Tryz.func10, Tryz.ntmps10
    go_upto_region 9 with (first
      | (go_at_call 48; (with_reducible refine (kD1 _).mono ?_); rintro e w1 ⟨rfl, xb1⟩; obtain ⟨xc1, xf1, xl1, xz1⟩ := ext_use xb1; (try simp at xz1); obtain ⟨l1_0, gc, gf⟩ := kp xb1 (w.heap.size) (by first | omega | (simp; try omega)); have r1_0 := gc 0; have f1_0 := gf 0; have r1_0_1 := gc 1; have f1_0_1 := gf 1; have r1_0_2 := gc 2; have f1_0_2 := gf 2; clear gc gf)
     )
    go_upto_region 11 with (first
      | (go_at_call 49; (with_reducible refine (kS1 w1).mono ?_); rintro e w2 ⟨A2, n2, c2, rfl, hI2, xb2⟩; obtain ⟨xc2, xf2, xl2, xz2⟩ := ext_use xb2; (try simp at xz2); obtain ⟨l2_0, gc, gf⟩ := kp xb2 (w.heap.size) (by first | omega | (simp; try omega)); have r2_0 := gc 0; have f2_0 := gf 0; have r2_0_1 := gc 1; have f2_0_1 := gf 1; have r2_0_2 := gc 2; have f2_0_2 := gf 2; clear gc gf)
      | (go_at_call 50; (with_reducible refine (op_One _).mono ?_); rintro e w3 ⟨b3, A3, n3, c3, rfl, hI3, xb3⟩; obtain ⟨xc3, xf3, xl3, xz3⟩ := ext_use xb3; (try simp at xz3); obtain ⟨l3_0, gc, gf⟩ := kp xb3 (w.heap.size) (by first | omega | (simp; try omega)); have r3_0 := gc 0; have f3_0 := gf 0; have r3_0_1 := gc 1; have f3_0_1 := gf 1; have r3_0_2 := gc 2; have f3_0_2 := gf 2; clear gc gf)
     )
    go_upto_region 16 with (first
      | (go_at_call 48; (with_reducible refine (kD2 _).mono ?_); rintro e w4 ⟨rfl, xb4⟩; obtain ⟨xc4, xf4, xl4, xz4⟩ := ext_use xb4; (try simp at xz4); obtain ⟨l4_0, gc, gf⟩ := kp xb4 (w.heap.size) (by first | omega | (simp; try omega)); have r4_0 := gc 0; have f4_0 := gf 0; have r4_0_1 := gc 1; have f4_0_1 := gf 1; have r4_0_2 := gc 2; have f4_0_2 := gf 2; clear gc gf)
     )
    go_upto_region 19 with (first
      | (go_at_call 49; (with_reducible refine (kS2 w4).mono ?_); rintro e w5 ⟨A5, n5, c5, rfl, hI5, xb5⟩; obtain ⟨xc5, xf5, xl5, xz5⟩ := ext_use xb5; (try simp at xz5); obtain ⟨l5_0, gc, gf⟩ := kp xb5 (w.heap.size) (by first | omega | (simp; try omega)); have r5_0 := gc 0; have f5_0 := gf 0; have r5_0_1 := gc 1; have f5_0_1 := gf 1; have r5_0_2 := gc 2; have f5_0_2 := gf 2; clear gc gf)
     )
    have hI2' := Lib.hid (hI2.out.ext (ext_trans xb3 (ext_trans xb4 xb5)))
    have hI2 := hI2'
    clear hI2'
    go_upto_region 21 with (first
      | (go_at_call 51; (with_reducible refine (kG _ _ _ _ _ hI5.out).mono ?_); rintro e w6 ⟨rfl, xb6⟩; obtain ⟨xc6, xf6, xl6, xz6⟩ := ext_use xb6; (try simp at xz6); obtain ⟨l6_0, gc, gf⟩ := kp xb6 (w.heap.size) (by first | omega | (simp; try omega)); have r6_0 := gc 0; have f6_0 := gf 0; have r6_0_1 := gc 1; have f6_0_1 := gf 1; have r6_0_2 := gc 2; have f6_0_2 := gf 2; clear gc gf)
     )
    go_wp2_with (first
      | (go_at_call 53; (with_reducible refine (op_SetFrac _ _ hd0 hlz hld _ _ _ _ _ _ _ _ w6 (HT.out.ext (by (repeat (first | exact ext_refl _ | assumption | refine ext_setCell ?_ (by simp; try omega) _ | refine ext_alloc ?_ _ | refine ext_drew ?_ | refine ext_drewN ?_ _ | refine ext_trans ?_ (Aft.use _) | refine ext_trans ?_ (by assumption))))) (hI2.out.ext xb6) (hI5.out.ext xb6)).mono ?_); rintro e w7 ⟨A7, n7, c7, D7, m7, k7, rfl, hR7, xb7⟩; obtain ⟨xc7, xf7, xl7, xz7⟩ := ext_use xb7; (try simp at xz7); obtain ⟨l7_0, gc, gf⟩ := kp xb7 (w.heap.size) (by first | omega | (simp; try omega)); have r7_0 := gc 0; have f7_0 := gf 0; have r7_0_1 := gc 1; have f7_0_1 := gf 1; have r7_0_2 := gc 2; have f7_0_2 := gf 2; clear gc gf)
      | (go_at_call 52; (with_reducible refine (op_Of hd0 hff hR7.out).mono ?_); rintro e w8 ⟨F8, rfl, hR8, xb8⟩; obtain ⟨xc8, xf8, xl8, xz8⟩ := ext_use xb8; (try simp at xz8); obtain ⟨l8_0, gc, gf⟩ := kp xb8 (w.heap.size) (by first | omega | (simp; try omega)); have r8_0 := gc 0; have f8_0 := gf 0; have r8_0_1 := gc 1; have f8_0_1 := gf 1; have r8_0_2 := gc 2; have f8_0_2 := gf 2; clear gc gf)
     )
    have z0 : w8.cell? ⟨w.heap.size, 0, none⟩ = some (.bool false) := by simp [go_sem, *]
    have z1 : w8.cell? ⟨w.heap.size, 1, none⟩ = some (.slice none 0 0) := by simp [go_sem, *]
    have z2 : w8.cell? ⟨w.heap.size, 2, none⟩ = some (.slice none 0 0) := by simp [go_sem, *]
    have rl : w.heap.size < w8.heap.size := by assumption
    have hE : Ext w w8 := by (repeat (first | exact ext_refl _ | assumption | refine ext_setCell ?_ (by simp; try omega) _ | refine ext_alloc ?_ _ | refine ext_drew ?_ | refine ext_drewN ?_ _ | refine ext_trans ?_ (Aft.use _) | refine ext_trans ?_ (by assumption)))
    obtain ⟨q0, q1, q2⟩ := set3 (b := w.heap.size) z0 z1 z2 (.bool (decide (canN (sgn s (dval D)) (dval E) < 0))) (.slice F8.A F8.n F8.c) (.slice F8.D F8.m F8.k)
    have hal : Ext (((w8.setCell ⟨w.heap.size, 0, none⟩ (.bool (decide (canN (sgn s (dval D)) (dval E) < 0)))).setCell ⟨w.heap.size, 1, none⟩ (.slice F8.A F8.n F8.c)).setCell ⟨w.heap.size, 2, none⟩ (.slice F8.D F8.m F8.k)) ((((w8.setCell ⟨w.heap.size, 0, none⟩ (.bool (decide (canN (sgn s (dval D)) (dval E) < 0)))).setCell ⟨w.heap.size, 1, none⟩ (.slice F8.A F8.n F8.c)).setCell ⟨w.heap.size, 2, none⟩ (.slice F8.D F8.m F8.k)).alloc (Obj.cells #[(.bool (decide (canN (sgn s (dval D)) (dval E) < 0))), .slice F8.A F8.n F8.c, .slice F8.D F8.m F8.k] 32)) := ext_alloc (ext_refl _) _
    have rl' : w.heap.size < (((w8.setCell ⟨w.heap.size, 0, none⟩ (.bool (decide (canN (sgn s (dval D)) (dval E) < 0)))).setCell ⟨w.heap.size, 1, none⟩ (.slice F8.A F8.n F8.c)).setCell ⟨w.heap.size, 2, none⟩ (.slice F8.D F8.m F8.k)).heap.size := by simpa using rl
    have q0 := (Below.cell (p := ⟨w.heap.size, 0, none⟩) hal rl').trans q0
    have q1 := (Below.cell (p := ⟨w.heap.size, 1, none⟩) hal rl').trans q1
    have q2 := (Below.cell (p := ⟨w.heap.size, 2, none⟩) hal rl').trans q2
    have n5' : ∀ a, F8.A = some a → w.heap.size < a.block := fun a ha => by have := hR8.out.2.1 a ha; omega
    have n6' : ∀ a, F8.D = some a → w.heap.size < a.block := fun a ha => by have := hR8.out.2.2 a ha; omega
    refine bodyPost_ret (v := .tuple #[fV (decide (canN (sgn s (dval D)) (dval E) < 0)) F8, .int .i64 0, .int .i64 0]) ?h rfl ⟨F8, rfl, ⟨⟨(hR8.out.1.num.set3 n5' _ _ _).ext hal, (hR8.out.1.den.set3 n6' _ _ _).ext hal, hR8.out.1.d0, hR8.out.1.low⟩, fun a ha => Nat.le_of_lt (n5' a ha), fun a ha => Nat.le_of_lt (n6' a ha)⟩, ext_trans (ext_set3 hE (Nat.le_refl _) _ _ _) hal⟩
    case h => simp [results, Tryz.results10, go_sem, q0, q1, q2]
end Go.Proofs.YtchbefambnhjjaaGreatDoor.NB
end
