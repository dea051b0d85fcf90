/- The document's cut where no digit stays. -/
import Derived.Test.YtmpgfibahdiblaaDoorDecH0
import Derived.Test.YtmpgfibahdiblaaDoorDecC
import Derived.Deep.DeepCutAuto
import Derived.Deep.RegionWith
namespace Go.Proofs.YtmpgfibahdiblaaDoor
open Go.RowKit
attribute [local go_sem] bs_size bs_extract bs_get bs_append bs_toList const_get
attribute [local go_sem] sz2 sz3 sz4 sz5 sz6 sz7 sz8
set_option maxHeartbeats 4000000
set_option maxRecDepth 100000
attribute [local irreducible] Calls
theorem mk48 (neg : Bool) (n : Int) : mkD neg [48] n = mkD neg [] n ∧ mkE [48] n = mkE [] n := by
  have h1 : mkDig [48] = [] := rfl
  have h2 : mkDig [] = [] := rfl
  have h3 : mkE [48] n = 0 := by
    unfold mkE; rw [if_neg (by decide), if_neg (by decide), if_pos h1]
  have h4 : mkE [] n = 0 := by
    unfold mkE; rw [if_neg (by decide), if_neg (by decide), if_pos h2]
  refine ⟨?_, by rw [h3, h4]⟩
  unfold mkD
  rw [h3, h4, if_pos rfl, if_pos rfl, if_pos h1, if_pos h2]
theorem rmake_48 (neg : Bool) (exp : Int) (w : World) : Calls Tryd.prog 8 #[.bool neg, .string (bs [48]), .int .i64 exp] w fun e w' => e = .returned (.tuple #[dcV (mkD neg [] exp), .int .i64 (mkE [] exp)]) ∧ Ext w w' := by
  have := rmake_any neg [48] exp (by simp) w
  rw [(mk48 neg exp).1, (mk48 neg exp).2] at this
  exact this
theorem text_nil (w : World) : Calls Tryd.prog 52 #[natV none 0 0] w fun e w' => e = .returned (.tuple #[.string (bs [48]), .int .i64 0]) ∧ Ext w w' := by
  have := text_any none 0 0 0 (by rw [lim_zero]; simp) w (by rw [lim_zero]; exact Rd.nil w)
  exact this
theorem text_one (A : Option Addr) (k c : Nat) (w : World) (hR : Hid (Rd w A k c (lim 1))) : Calls Tryd.prog 52 #[natV A k c] w fun e w' => e = .returned (.tuple #[.string (bs [49]), .int .i64 0]) ∧ Ext w w' := by
  have := text_any A k c 1 lim1 w hR.out
  rwa [show dtext 1 = [49] by unfold dtext; rw [if_neg (by decide), digs_pos (by decide), show 1 / 10 = 0 from rfl, digs_zero]; rfl] at this
theorem more_nil (B : Option Addr) (m d : Nat) (w : World) (hB : Hid (Rd w B m d (lim 1))) :
    Calls Tryd.prog 50 #[natV none 0 0, natV B m d] w fun e w' => ∃ (A' : Option Addr) (k c' : Nat), e = .returned (.tuple #[natV A' k c', .int .i64 0]) ∧ Hid (Rd w' A' k c' (lim 1) ∧ Fr w A') ∧ Ext w w' :=
  more_any none B 0 0 m d 0 (Lib.hid ⟨by rw [lim_zero]; simp, lim1⟩) w (Lib.hid (by rw [lim_zero]; exact Rd.nil w)) hB
theorem rcut_zero (neg : Bool) (l : List UInt8) (exp n : Int) (mode : Nat) (hok : Ok ⟨neg, l, exp⟩) (hm : mode ≤ 4) (hn : -4294967296 ≤ n ∧ n ≤ 4294967296) (hkk : (l.length : Int) - (n - exp) = 0) (w : World) :
    Calls Tryd.prog 29 #[dcV ⟨neg, l, exp⟩, .int .i64 n, .int .u8 (mode : Int)] w fun e w' => e = .returned (.tuple #[dcV (mkD neg (cutL neg l 0 mode) n), .int .i64 (mkE (cutL neg l 0 mode) n)]) ∧ Ext w w' := by
  obtain ⟨hl, hpos, hd, hld, he1, he2⟩ := hok
  simp only at hl hpos hd hld he1 he2
  obtain ⟨x, hxe⟩ : ∃ x, l[0] = x := ⟨_, rfl⟩
  obtain ⟨t, ht⟩ : ∃ t, l.drop 0 = x :: t := ⟨l.drop (0 + 1), by rw [← hxe]; exact List.drop_eq_getElem_cons hpos⟩
  have hcs := cut_cases neg l 0 mode x (l.getD 0 0) t [] hm ht rfl rfl
  have hlx : l = [53] ↔ (x = 53 ∧ t = []) := by
    rw [List.drop_zero] at ht
    rw [ht]; simp
  rw [← hlx] at hcs
  rw [nx_nil] at hcs
  clear hd hld ht hlx
  rcases hcs with ⟨rfl, h5, E⟩ | ⟨rfl, h5, h6, E⟩ | ⟨rfl, h6, h7, E⟩ | ⟨rfl, h6, h7, E⟩ | ⟨rfl, h5, E⟩ | ⟨rfl, h5, E⟩ | ⟨rfl, E⟩ | ⟨rfl, rfl, E⟩ | ⟨rfl, rfl, E⟩ | ⟨rfl, rfl, E⟩ | ⟨rfl, rfl, E⟩
  all_goals (rw [show ((0 : Nat) : Int) = 0 from rfl] at E; rw [E])
  all_goals clear E
  · skip
    go_enter Tryd.func29, Tryd.ntmps29
    go_wp2
    go_quiet (fail)
    go_wp2_with (first
      | (go_at_call 48; (with_reducible refine (number_nil _).mono ?_); rintro e w1 ⟨rfl, xb1⟩; obtain ⟨xc1, xf1, xl1, xz1⟩ := ext_use xb1; (try simp at xz1); have l1_0 := xl1 (w.heap.size) (by first | omega | (simp; try omega)); have r1_0 := xc1 (w.heap.size) 0 (by first | omega | (simp; try omega)); have f1_0 := xf1 (w.heap.size) 0 (by first | omega | (simp; try omega)); have r1_0_1 := xc1 (w.heap.size) 1 (by first | omega | (simp; try omega)); have f1_0_1 := xf1 (w.heap.size) 1 (by first | omega | (simp; try omega)); have r1_0_2 := xc1 (w.heap.size) 2 (by first | omega | (simp; try omega)); have f1_0_2 := xf1 (w.heap.size) 2 (by first | omega | (simp; try omega)); have l1_1 := xl1 (w.heap.size + 1) (by first | omega | (simp; try omega)); have r1_1 := xc1 (w.heap.size + 1) 0 (by first | omega | (simp; try omega)); have f1_1 := xf1 (w.heap.size + 1) 0 (by first | omega | (simp; try omega)); have r1_1_1 := xc1 (w.heap.size + 1) 1 (by first | omega | (simp; try omega)); have f1_1_1 := xf1 (w.heap.size + 1) 1 (by first | omega | (simp; try omega)); have r1_1_2 := xc1 (w.heap.size + 1) 2 (by first | omega | (simp; try omega)); have f1_1_2 := xf1 (w.heap.size + 1) 2 (by first | omega | (simp; try omega)))
      | (go_at_call 49; (with_reducible refine (higher0 _ _ _ _).mono ?_); rintro e w' ⟨rfl, rfl⟩)
      | (go_at_call 52; (with_reducible refine (text_nil _).mono ?_); rintro e w3 ⟨rfl, xb3⟩; obtain ⟨xc3, xf3, xl3, xz3⟩ := ext_use xb3; (try simp at xz3); have l3_0 := xl3 (w.heap.size) (by first | omega | (simp; try omega)); have r3_0 := xc3 (w.heap.size) 0 (by first | omega | (simp; try omega)); have f3_0 := xf3 (w.heap.size) 0 (by first | omega | (simp; try omega)); have r3_0_1 := xc3 (w.heap.size) 1 (by first | omega | (simp; try omega)); have f3_0_1 := xf3 (w.heap.size) 1 (by first | omega | (simp; try omega)); have r3_0_2 := xc3 (w.heap.size) 2 (by first | omega | (simp; try omega)); have f3_0_2 := xf3 (w.heap.size) 2 (by first | omega | (simp; try omega)); have l3_1 := xl3 (w.heap.size + 1) (by first | omega | (simp; try omega)); have r3_1 := xc3 (w.heap.size + 1) 0 (by first | omega | (simp; try omega)); have f3_1 := xf3 (w.heap.size + 1) 0 (by first | omega | (simp; try omega)); have r3_1_1 := xc3 (w.heap.size + 1) 1 (by first | omega | (simp; try omega)); have f3_1_1 := xf3 (w.heap.size + 1) 1 (by first | omega | (simp; try omega)); have r3_1_2 := xc3 (w.heap.size + 1) 2 (by first | omega | (simp; try omega)); have f3_1_2 := xf3 (w.heap.size + 1) 2 (by first | omega | (simp; try omega)))
      | (go_at_call 8; (with_reducible refine (rmake_48 _ _ _).mono ?_); rintro e w4 ⟨rfl, xb4⟩; obtain ⟨xc4, xf4, xl4, xz4⟩ := ext_use xb4; (try simp at xz4); have l4_0 := xl4 (w.heap.size + 1) (by first | omega | (simp; try omega)); have r4_0 := xc4 (w.heap.size + 1) 0 (by first | omega | (simp; try omega)); have f4_0 := xf4 (w.heap.size + 1) 0 (by first | omega | (simp; try omega)); have r4_0_1 := xc4 (w.heap.size + 1) 1 (by first | omega | (simp; try omega)); have f4_0_1 := xf4 (w.heap.size + 1) 1 (by first | omega | (simp; try omega)); have r4_0_2 := xc4 (w.heap.size + 1) 2 (by first | omega | (simp; try omega)); have f4_0_2 := xf4 (w.heap.size + 1) 2 (by first | omega | (simp; try omega)))
     )
    all_goals
      refine bodyPost_ret (v := .tuple #[dcV (mkD neg [] n), .int .i64 (mkE [] n)]) ?h rfl ⟨rfl, ?_⟩
      case h => simp [results, Tryd.results29, go_sem, *]
      repeat (first | exact ext_refl _ | assumption | refine ext_setCell ?_ (by simp; try omega) _ | refine ext_alloc ?_ _ | refine ext_drew ?_ | refine ext_drewN ?_ _ | refine ext_trans ?_ (Aft.use _) | refine ext_trans ?_ (by assumption))
  · have h6b : (l == [53]) = false := by simpa using h6
    go_enter Tryd.func29, Tryd.ntmps29
    go_wp2
    go_quiet (fail)
    go_wp2_with (first
      | (go_at_call 48; (with_reducible refine (number_nil _).mono ?_); rintro e w1 ⟨rfl, xb1⟩; obtain ⟨xc1, xf1, xl1, xz1⟩ := ext_use xb1; (try simp at xz1); have l1_0 := xl1 (w.heap.size) (by first | omega | (simp; try omega)); have r1_0 := xc1 (w.heap.size) 0 (by first | omega | (simp; try omega)); have f1_0 := xf1 (w.heap.size) 0 (by first | omega | (simp; try omega)); have r1_0_1 := xc1 (w.heap.size) 1 (by first | omega | (simp; try omega)); have f1_0_1 := xf1 (w.heap.size) 1 (by first | omega | (simp; try omega)); have r1_0_2 := xc1 (w.heap.size) 2 (by first | omega | (simp; try omega)); have f1_0_2 := xf1 (w.heap.size) 2 (by first | omega | (simp; try omega)); have l1_1 := xl1 (w.heap.size + 1) (by first | omega | (simp; try omega)); have r1_1 := xc1 (w.heap.size + 1) 0 (by first | omega | (simp; try omega)); have f1_1 := xf1 (w.heap.size + 1) 0 (by first | omega | (simp; try omega)); have r1_1_1 := xc1 (w.heap.size + 1) 1 (by first | omega | (simp; try omega)); have f1_1_1 := xf1 (w.heap.size + 1) 1 (by first | omega | (simp; try omega)); have r1_1_2 := xc1 (w.heap.size + 1) 2 (by first | omega | (simp; try omega)); have f1_1_2 := xf1 (w.heap.size + 1) 2 (by first | omega | (simp; try omega)))
      | (go_at_call 49; (with_reducible refine (higher0 _ _ _ _).mono ?_); rintro e w' ⟨rfl, rfl⟩)
     )
    all_goals
      go_cut [13] (fun p wc => ∃ (A5 : Option Addr) (k5 c5 : Nat), p = .pointer (some ⟨w1.heap.size, 0, none⟩) ∧ wc.cell? ⟨w1.heap.size, 0, none⟩ = some (.slice A5 k5 c5) ∧ wc.frozen? ⟨w1.heap.size, 0, none⟩ = false ∧ w1.heap.size < wc.heap.size ∧ Hid (Rd wc A5 k5 c5 (lim 1)) ∧ Hid (Ext w1 wc))
      case first =>
        go_region_with (first
          | (go_at_call 51; (with_reducible refine (one_any _).mono ?_); rintro e w5 ⟨A5, k5, c5, rfl, hR5, xb5⟩; obtain ⟨xc5, xf5, xl5, xz5⟩ := ext_use xb5; (try simp at xz5); have l5_0 := xl5 (w1.heap.size) (by first | omega | (simp; try omega)); have r5_0 := xc5 (w1.heap.size) 0 (by first | omega | (simp; try omega)); have f5_0 := xf5 (w1.heap.size) 0 (by first | omega | (simp; try omega)))
          | (go_at_call 50; (with_reducible refine (more_nil A5 k5 c5 _ (Lib.hid (hR5.out.ext (by (repeat (first | exact ext_refl _ | assumption | refine ext_setCell ?_ (by simp; try omega) _ | refine ext_alloc ?_ _ | refine ext_drew ?_ | refine ext_drewN ?_ _ | refine ext_trans ?_ (Aft.use _) | refine ext_trans ?_ (by assumption))))))).mono ?_); rintro e w6 ⟨A6, k6, c6, rfl, hR6, xb6⟩; obtain ⟨xc6, xf6, xl6, xz6⟩ := ext_use xb6; (try simp at xz6); have l6_0 := xl6 (w1.heap.size) (by first | omega | (simp; try omega)); have r6_0 := xc6 (w1.heap.size) 0 (by first | omega | (simp; try omega)); have f6_0 := xf6 (w1.heap.size) 0 (by first | omega | (simp; try omega)))
         )
        all_goals
          go_wp2_with fail
          go_meet
          case rel =>
            refine ⟨A6, k6, c6, rfl, ?_, ?_, ?_, Lib.hid (hR6.out.1.set _ (fun a ha => by have := hR6.out.2 a ha; simp at this ⊢; omega)), (show Ext _ _ by (repeat (first | exact ext_refl _ | assumption | refine ext_setCell ?_ (by simp; try omega) _ | refine ext_alloc ?_ _ | refine ext_drew ?_ | refine ext_drewN ?_ _ | refine ext_trans ?_ (Aft.use _) | refine ext_trans ?_ (by assumption))))⟩
            all_goals go_simp
      case rest =>
        obtain ⟨A5, k5, c5, rfl, hc5, hf5, hl5, hR5, hE5⟩ := hcut
        obtain ⟨xc9, xf9, xl9, xz9⟩ := ext_use (hE5.out)
        have l9_0 := xl9 (w.heap.size) (by first | omega | (simp; try omega))
        have r9_0 := xc9 (w.heap.size) 0 (by first | omega | (simp; try omega))
        have f9_0 := xf9 (w.heap.size) 0 (by first | omega | (simp; try omega))
        have r9_0_1 := xc9 (w.heap.size) 1 (by first | omega | (simp; try omega))
        have f9_0_1 := xf9 (w.heap.size) 1 (by first | omega | (simp; try omega))
        have r9_0_2 := xc9 (w.heap.size) 2 (by first | omega | (simp; try omega))
        have f9_0_2 := xf9 (w.heap.size) 2 (by first | omega | (simp; try omega))
        have l9_1 := xl9 (w.heap.size + 1) (by first | omega | (simp; try omega))
        have r9_1 := xc9 (w.heap.size + 1) 0 (by first | omega | (simp; try omega))
        have f9_1 := xf9 (w.heap.size + 1) 0 (by first | omega | (simp; try omega))
        have r9_1_1 := xc9 (w.heap.size + 1) 1 (by first | omega | (simp; try omega))
        have f9_1_1 := xf9 (w.heap.size + 1) 1 (by first | omega | (simp; try omega))
        have r9_1_2 := xc9 (w.heap.size + 1) 2 (by first | omega | (simp; try omega))
        have f9_1_2 := xf9 (w.heap.size + 1) 2 (by first | omega | (simp; try omega))
        have hE5' := hE5.out
        go_wp2_with (first
          | (go_at_call 52; (with_reducible refine (text_one A5 k5 c5 _ (Lib.hid (hR5.out.ext (by (repeat (first | exact ext_refl _ | assumption | refine ext_setCell ?_ (by simp; try omega) _ | refine ext_alloc ?_ _ | refine ext_drew ?_ | refine ext_drewN ?_ _ | refine ext_trans ?_ (Aft.use _) | refine ext_trans ?_ (by assumption))))))).mono ?_); rintro e w7 ⟨rfl, xb7⟩; obtain ⟨xc7, xf7, xl7, xz7⟩ := ext_use xb7; (try simp at xz7); have l7_0 := xl7 (w.heap.size) (by first | omega | (simp; try omega)); have r7_0 := xc7 (w.heap.size) 0 (by first | omega | (simp; try omega)); have f7_0 := xf7 (w.heap.size) 0 (by first | omega | (simp; try omega)); have r7_0_1 := xc7 (w.heap.size) 1 (by first | omega | (simp; try omega)); have f7_0_1 := xf7 (w.heap.size) 1 (by first | omega | (simp; try omega)); have r7_0_2 := xc7 (w.heap.size) 2 (by first | omega | (simp; try omega)); have f7_0_2 := xf7 (w.heap.size) 2 (by first | omega | (simp; try omega)); have l7_1 := xl7 (w.heap.size + 1) (by first | omega | (simp; try omega)); have r7_1 := xc7 (w.heap.size + 1) 0 (by first | omega | (simp; try omega)); have f7_1 := xf7 (w.heap.size + 1) 0 (by first | omega | (simp; try omega)); have r7_1_1 := xc7 (w.heap.size + 1) 1 (by first | omega | (simp; try omega)); have f7_1_1 := xf7 (w.heap.size + 1) 1 (by first | omega | (simp; try omega)); have r7_1_2 := xc7 (w.heap.size + 1) 2 (by first | omega | (simp; try omega)); have f7_1_2 := xf7 (w.heap.size + 1) 2 (by first | omega | (simp; try omega)))
          | (go_at_call 8; (with_reducible refine (rmake_any _ _ _ (by simp) _).mono ?_); rintro e w8 ⟨rfl, xb8⟩; obtain ⟨xc8, xf8, xl8, xz8⟩ := ext_use xb8; (try simp at xz8); have l8_0 := xl8 (w.heap.size + 1) (by first | omega | (simp; try omega)); have r8_0 := xc8 (w.heap.size + 1) 0 (by first | omega | (simp; try omega)); have f8_0 := xf8 (w.heap.size + 1) 0 (by first | omega | (simp; try omega)); have r8_0_1 := xc8 (w.heap.size + 1) 1 (by first | omega | (simp; try omega)); have f8_0_1 := xf8 (w.heap.size + 1) 1 (by first | omega | (simp; try omega)); have r8_0_2 := xc8 (w.heap.size + 1) 2 (by first | omega | (simp; try omega)); have f8_0_2 := xf8 (w.heap.size + 1) 2 (by first | omega | (simp; try omega)))
         )
        refine bodyPost_ret (v := .tuple #[dcV (mkD neg [49] n), .int .i64 (mkE [49] n)]) ?h rfl ⟨rfl, ?_⟩
        case h => simp [results, Tryd.results29, go_sem, *]
        repeat (first | exact ext_refl _ | assumption | refine ext_setCell ?_ (by simp; try omega) _ | refine ext_alloc ?_ _ | refine ext_drew ?_ | refine ext_drewN ?_ _ | refine ext_trans ?_ (Aft.use _) | refine ext_trans ?_ (by assumption))
  · exact absurd h7.1 (by decide)
  · skip
    subst h6
    clear h7
    go_enter Tryd.func29, Tryd.ntmps29
    go_wp2
    go_quiet (fail)
    go_wp2_with (first
      | (go_at_call 48; (with_reducible refine (number_nil _).mono ?_); rintro e w1 ⟨rfl, xb1⟩; obtain ⟨xc1, xf1, xl1, xz1⟩ := ext_use xb1; (try simp at xz1); have l1_0 := xl1 (w.heap.size) (by first | omega | (simp; try omega)); have r1_0 := xc1 (w.heap.size) 0 (by first | omega | (simp; try omega)); have f1_0 := xf1 (w.heap.size) 0 (by first | omega | (simp; try omega)); have r1_0_1 := xc1 (w.heap.size) 1 (by first | omega | (simp; try omega)); have f1_0_1 := xf1 (w.heap.size) 1 (by first | omega | (simp; try omega)); have r1_0_2 := xc1 (w.heap.size) 2 (by first | omega | (simp; try omega)); have f1_0_2 := xf1 (w.heap.size) 2 (by first | omega | (simp; try omega)); have l1_1 := xl1 (w.heap.size + 1) (by first | omega | (simp; try omega)); have r1_1 := xc1 (w.heap.size + 1) 0 (by first | omega | (simp; try omega)); have f1_1 := xf1 (w.heap.size + 1) 0 (by first | omega | (simp; try omega)); have r1_1_1 := xc1 (w.heap.size + 1) 1 (by first | omega | (simp; try omega)); have f1_1_1 := xf1 (w.heap.size + 1) 1 (by first | omega | (simp; try omega)); have r1_1_2 := xc1 (w.heap.size + 1) 2 (by first | omega | (simp; try omega)); have f1_1_2 := xf1 (w.heap.size + 1) 2 (by first | omega | (simp; try omega)))
      | (go_at_call 49; (with_reducible refine (higher0 _ _ _ _).mono ?_); rintro e w' ⟨rfl, rfl⟩)
      | (go_at_call 52; (with_reducible refine (text_nil _).mono ?_); rintro e w3 ⟨rfl, xb3⟩; obtain ⟨xc3, xf3, xl3, xz3⟩ := ext_use xb3; (try simp at xz3); have l3_0 := xl3 (w.heap.size) (by first | omega | (simp; try omega)); have r3_0 := xc3 (w.heap.size) 0 (by first | omega | (simp; try omega)); have f3_0 := xf3 (w.heap.size) 0 (by first | omega | (simp; try omega)); have r3_0_1 := xc3 (w.heap.size) 1 (by first | omega | (simp; try omega)); have f3_0_1 := xf3 (w.heap.size) 1 (by first | omega | (simp; try omega)); have r3_0_2 := xc3 (w.heap.size) 2 (by first | omega | (simp; try omega)); have f3_0_2 := xf3 (w.heap.size) 2 (by first | omega | (simp; try omega)); have l3_1 := xl3 (w.heap.size + 1) (by first | omega | (simp; try omega)); have r3_1 := xc3 (w.heap.size + 1) 0 (by first | omega | (simp; try omega)); have f3_1 := xf3 (w.heap.size + 1) 0 (by first | omega | (simp; try omega)); have r3_1_1 := xc3 (w.heap.size + 1) 1 (by first | omega | (simp; try omega)); have f3_1_1 := xf3 (w.heap.size + 1) 1 (by first | omega | (simp; try omega)); have r3_1_2 := xc3 (w.heap.size + 1) 2 (by first | omega | (simp; try omega)); have f3_1_2 := xf3 (w.heap.size + 1) 2 (by first | omega | (simp; try omega)))
      | (go_at_call 8; (with_reducible refine (rmake_48 _ _ _).mono ?_); rintro e w4 ⟨rfl, xb4⟩; obtain ⟨xc4, xf4, xl4, xz4⟩ := ext_use xb4; (try simp at xz4); have l4_0 := xl4 (w.heap.size + 1) (by first | omega | (simp; try omega)); have r4_0 := xc4 (w.heap.size + 1) 0 (by first | omega | (simp; try omega)); have f4_0 := xf4 (w.heap.size + 1) 0 (by first | omega | (simp; try omega)); have r4_0_1 := xc4 (w.heap.size + 1) 1 (by first | omega | (simp; try omega)); have f4_0_1 := xf4 (w.heap.size + 1) 1 (by first | omega | (simp; try omega)); have r4_0_2 := xc4 (w.heap.size + 1) 2 (by first | omega | (simp; try omega)); have f4_0_2 := xf4 (w.heap.size + 1) 2 (by first | omega | (simp; try omega)))
     )
    all_goals
      refine bodyPost_ret (v := .tuple #[dcV (mkD neg [] n), .int .i64 (mkE [] n)]) ?h rfl ⟨rfl, ?_⟩
      case h => simp [results, Tryd.results29, go_sem, *]
      repeat (first | exact ext_refl _ | assumption | refine ext_setCell ?_ (by simp; try omega) _ | refine ext_alloc ?_ _ | refine ext_drew ?_ | refine ext_drewN ?_ _ | refine ext_trans ?_ (Aft.use _) | refine ext_trans ?_ (by assumption))
  · skip
    go_enter Tryd.func29, Tryd.ntmps29
    go_wp2
    go_quiet (fail)
    go_wp2_with (first
      | (go_at_call 48; (with_reducible refine (number_nil _).mono ?_); rintro e w1 ⟨rfl, xb1⟩; obtain ⟨xc1, xf1, xl1, xz1⟩ := ext_use xb1; (try simp at xz1); have l1_0 := xl1 (w.heap.size) (by first | omega | (simp; try omega)); have r1_0 := xc1 (w.heap.size) 0 (by first | omega | (simp; try omega)); have f1_0 := xf1 (w.heap.size) 0 (by first | omega | (simp; try omega)); have r1_0_1 := xc1 (w.heap.size) 1 (by first | omega | (simp; try omega)); have f1_0_1 := xf1 (w.heap.size) 1 (by first | omega | (simp; try omega)); have r1_0_2 := xc1 (w.heap.size) 2 (by first | omega | (simp; try omega)); have f1_0_2 := xf1 (w.heap.size) 2 (by first | omega | (simp; try omega)); have l1_1 := xl1 (w.heap.size + 1) (by first | omega | (simp; try omega)); have r1_1 := xc1 (w.heap.size + 1) 0 (by first | omega | (simp; try omega)); have f1_1 := xf1 (w.heap.size + 1) 0 (by first | omega | (simp; try omega)); have r1_1_1 := xc1 (w.heap.size + 1) 1 (by first | omega | (simp; try omega)); have f1_1_1 := xf1 (w.heap.size + 1) 1 (by first | omega | (simp; try omega)); have r1_1_2 := xc1 (w.heap.size + 1) 2 (by first | omega | (simp; try omega)); have f1_1_2 := xf1 (w.heap.size + 1) 2 (by first | omega | (simp; try omega)))
      | (go_at_call 49; (with_reducible refine (higher1 _ _ _ _).mono ?_); rintro e w' ⟨rfl, rfl⟩)
      | (go_at_call 52; (with_reducible refine (text_nil _).mono ?_); rintro e w3 ⟨rfl, xb3⟩; obtain ⟨xc3, xf3, xl3, xz3⟩ := ext_use xb3; (try simp at xz3); have l3_0 := xl3 (w.heap.size) (by first | omega | (simp; try omega)); have r3_0 := xc3 (w.heap.size) 0 (by first | omega | (simp; try omega)); have f3_0 := xf3 (w.heap.size) 0 (by first | omega | (simp; try omega)); have r3_0_1 := xc3 (w.heap.size) 1 (by first | omega | (simp; try omega)); have f3_0_1 := xf3 (w.heap.size) 1 (by first | omega | (simp; try omega)); have r3_0_2 := xc3 (w.heap.size) 2 (by first | omega | (simp; try omega)); have f3_0_2 := xf3 (w.heap.size) 2 (by first | omega | (simp; try omega)); have l3_1 := xl3 (w.heap.size + 1) (by first | omega | (simp; try omega)); have r3_1 := xc3 (w.heap.size + 1) 0 (by first | omega | (simp; try omega)); have f3_1 := xf3 (w.heap.size + 1) 0 (by first | omega | (simp; try omega)); have r3_1_1 := xc3 (w.heap.size + 1) 1 (by first | omega | (simp; try omega)); have f3_1_1 := xf3 (w.heap.size + 1) 1 (by first | omega | (simp; try omega)); have r3_1_2 := xc3 (w.heap.size + 1) 2 (by first | omega | (simp; try omega)); have f3_1_2 := xf3 (w.heap.size + 1) 2 (by first | omega | (simp; try omega)))
      | (go_at_call 8; (with_reducible refine (rmake_48 _ _ _).mono ?_); rintro e w4 ⟨rfl, xb4⟩; obtain ⟨xc4, xf4, xl4, xz4⟩ := ext_use xb4; (try simp at xz4); have l4_0 := xl4 (w.heap.size + 1) (by first | omega | (simp; try omega)); have r4_0 := xc4 (w.heap.size + 1) 0 (by first | omega | (simp; try omega)); have f4_0 := xf4 (w.heap.size + 1) 0 (by first | omega | (simp; try omega)); have r4_0_1 := xc4 (w.heap.size + 1) 1 (by first | omega | (simp; try omega)); have f4_0_1 := xf4 (w.heap.size + 1) 1 (by first | omega | (simp; try omega)); have r4_0_2 := xc4 (w.heap.size + 1) 2 (by first | omega | (simp; try omega)); have f4_0_2 := xf4 (w.heap.size + 1) 2 (by first | omega | (simp; try omega)))
     )
    all_goals
      refine bodyPost_ret (v := .tuple #[dcV (mkD neg [] n), .int .i64 (mkE [] n)]) ?h rfl ⟨rfl, ?_⟩
      case h => simp [results, Tryd.results29, go_sem, *]
      repeat (first | exact ext_refl _ | assumption | refine ext_setCell ?_ (by simp; try omega) _ | refine ext_alloc ?_ _ | refine ext_drew ?_ | refine ext_drewN ?_ _ | refine ext_trans ?_ (Aft.use _) | refine ext_trans ?_ (by assumption))
  · skip
    go_enter Tryd.func29, Tryd.ntmps29
    go_wp2
    go_quiet (fail)
    go_wp2_with (first
      | (go_at_call 48; (with_reducible refine (number_nil _).mono ?_); rintro e w1 ⟨rfl, xb1⟩; obtain ⟨xc1, xf1, xl1, xz1⟩ := ext_use xb1; (try simp at xz1); have l1_0 := xl1 (w.heap.size) (by first | omega | (simp; try omega)); have r1_0 := xc1 (w.heap.size) 0 (by first | omega | (simp; try omega)); have f1_0 := xf1 (w.heap.size) 0 (by first | omega | (simp; try omega)); have r1_0_1 := xc1 (w.heap.size) 1 (by first | omega | (simp; try omega)); have f1_0_1 := xf1 (w.heap.size) 1 (by first | omega | (simp; try omega)); have r1_0_2 := xc1 (w.heap.size) 2 (by first | omega | (simp; try omega)); have f1_0_2 := xf1 (w.heap.size) 2 (by first | omega | (simp; try omega)); have l1_1 := xl1 (w.heap.size + 1) (by first | omega | (simp; try omega)); have r1_1 := xc1 (w.heap.size + 1) 0 (by first | omega | (simp; try omega)); have f1_1 := xf1 (w.heap.size + 1) 0 (by first | omega | (simp; try omega)); have r1_1_1 := xc1 (w.heap.size + 1) 1 (by first | omega | (simp; try omega)); have f1_1_1 := xf1 (w.heap.size + 1) 1 (by first | omega | (simp; try omega)); have r1_1_2 := xc1 (w.heap.size + 1) 2 (by first | omega | (simp; try omega)); have f1_1_2 := xf1 (w.heap.size + 1) 2 (by first | omega | (simp; try omega)))
      | (go_at_call 49; (with_reducible refine (higher1 _ _ _ _).mono ?_); rintro e w' ⟨rfl, rfl⟩)
     )
    all_goals
      go_cut [13] (fun p wc => ∃ (A5 : Option Addr) (k5 c5 : Nat), p = .pointer (some ⟨w1.heap.size, 0, none⟩) ∧ wc.cell? ⟨w1.heap.size, 0, none⟩ = some (.slice A5 k5 c5) ∧ wc.frozen? ⟨w1.heap.size, 0, none⟩ = false ∧ w1.heap.size < wc.heap.size ∧ Hid (Rd wc A5 k5 c5 (lim 1)) ∧ Hid (Ext w1 wc))
      case first =>
        go_region_with (first
          | (go_at_call 51; (with_reducible refine (one_any _).mono ?_); rintro e w5 ⟨A5, k5, c5, rfl, hR5, xb5⟩; obtain ⟨xc5, xf5, xl5, xz5⟩ := ext_use xb5; (try simp at xz5); have l5_0 := xl5 (w1.heap.size) (by first | omega | (simp; try omega)); have r5_0 := xc5 (w1.heap.size) 0 (by first | omega | (simp; try omega)); have f5_0 := xf5 (w1.heap.size) 0 (by first | omega | (simp; try omega)))
          | (go_at_call 50; (with_reducible refine (more_nil A5 k5 c5 _ (Lib.hid (hR5.out.ext (by (repeat (first | exact ext_refl _ | assumption | refine ext_setCell ?_ (by simp; try omega) _ | refine ext_alloc ?_ _ | refine ext_drew ?_ | refine ext_drewN ?_ _ | refine ext_trans ?_ (Aft.use _) | refine ext_trans ?_ (by assumption))))))).mono ?_); rintro e w6 ⟨A6, k6, c6, rfl, hR6, xb6⟩; obtain ⟨xc6, xf6, xl6, xz6⟩ := ext_use xb6; (try simp at xz6); have l6_0 := xl6 (w1.heap.size) (by first | omega | (simp; try omega)); have r6_0 := xc6 (w1.heap.size) 0 (by first | omega | (simp; try omega)); have f6_0 := xf6 (w1.heap.size) 0 (by first | omega | (simp; try omega)))
         )
        all_goals
          go_wp2_with fail
          go_meet
          case rel =>
            refine ⟨A6, k6, c6, rfl, ?_, ?_, ?_, Lib.hid (hR6.out.1.set _ (fun a ha => by have := hR6.out.2 a ha; simp at this ⊢; omega)), (show Ext _ _ by (repeat (first | exact ext_refl _ | assumption | refine ext_setCell ?_ (by simp; try omega) _ | refine ext_alloc ?_ _ | refine ext_drew ?_ | refine ext_drewN ?_ _ | refine ext_trans ?_ (Aft.use _) | refine ext_trans ?_ (by assumption))))⟩
            all_goals go_simp
      case rest =>
        obtain ⟨A5, k5, c5, rfl, hc5, hf5, hl5, hR5, hE5⟩ := hcut
        obtain ⟨xc9, xf9, xl9, xz9⟩ := ext_use (hE5.out)
        have l9_0 := xl9 (w.heap.size) (by first | omega | (simp; try omega))
        have r9_0 := xc9 (w.heap.size) 0 (by first | omega | (simp; try omega))
        have f9_0 := xf9 (w.heap.size) 0 (by first | omega | (simp; try omega))
        have r9_0_1 := xc9 (w.heap.size) 1 (by first | omega | (simp; try omega))
        have f9_0_1 := xf9 (w.heap.size) 1 (by first | omega | (simp; try omega))
        have r9_0_2 := xc9 (w.heap.size) 2 (by first | omega | (simp; try omega))
        have f9_0_2 := xf9 (w.heap.size) 2 (by first | omega | (simp; try omega))
        have l9_1 := xl9 (w.heap.size + 1) (by first | omega | (simp; try omega))
        have r9_1 := xc9 (w.heap.size + 1) 0 (by first | omega | (simp; try omega))
        have f9_1 := xf9 (w.heap.size + 1) 0 (by first | omega | (simp; try omega))
        have r9_1_1 := xc9 (w.heap.size + 1) 1 (by first | omega | (simp; try omega))
        have f9_1_1 := xf9 (w.heap.size + 1) 1 (by first | omega | (simp; try omega))
        have r9_1_2 := xc9 (w.heap.size + 1) 2 (by first | omega | (simp; try omega))
        have f9_1_2 := xf9 (w.heap.size + 1) 2 (by first | omega | (simp; try omega))
        have hE5' := hE5.out
        go_wp2_with (first
          | (go_at_call 52; (with_reducible refine (text_one A5 k5 c5 _ (Lib.hid (hR5.out.ext (by (repeat (first | exact ext_refl _ | assumption | refine ext_setCell ?_ (by simp; try omega) _ | refine ext_alloc ?_ _ | refine ext_drew ?_ | refine ext_drewN ?_ _ | refine ext_trans ?_ (Aft.use _) | refine ext_trans ?_ (by assumption))))))).mono ?_); rintro e w7 ⟨rfl, xb7⟩; obtain ⟨xc7, xf7, xl7, xz7⟩ := ext_use xb7; (try simp at xz7); have l7_0 := xl7 (w.heap.size) (by first | omega | (simp; try omega)); have r7_0 := xc7 (w.heap.size) 0 (by first | omega | (simp; try omega)); have f7_0 := xf7 (w.heap.size) 0 (by first | omega | (simp; try omega)); have r7_0_1 := xc7 (w.heap.size) 1 (by first | omega | (simp; try omega)); have f7_0_1 := xf7 (w.heap.size) 1 (by first | omega | (simp; try omega)); have r7_0_2 := xc7 (w.heap.size) 2 (by first | omega | (simp; try omega)); have f7_0_2 := xf7 (w.heap.size) 2 (by first | omega | (simp; try omega)); have l7_1 := xl7 (w.heap.size + 1) (by first | omega | (simp; try omega)); have r7_1 := xc7 (w.heap.size + 1) 0 (by first | omega | (simp; try omega)); have f7_1 := xf7 (w.heap.size + 1) 0 (by first | omega | (simp; try omega)); have r7_1_1 := xc7 (w.heap.size + 1) 1 (by first | omega | (simp; try omega)); have f7_1_1 := xf7 (w.heap.size + 1) 1 (by first | omega | (simp; try omega)); have r7_1_2 := xc7 (w.heap.size + 1) 2 (by first | omega | (simp; try omega)); have f7_1_2 := xf7 (w.heap.size + 1) 2 (by first | omega | (simp; try omega)))
          | (go_at_call 8; (with_reducible refine (rmake_any _ _ _ (by simp) _).mono ?_); rintro e w8 ⟨rfl, xb8⟩; obtain ⟨xc8, xf8, xl8, xz8⟩ := ext_use xb8; (try simp at xz8); have l8_0 := xl8 (w.heap.size + 1) (by first | omega | (simp; try omega)); have r8_0 := xc8 (w.heap.size + 1) 0 (by first | omega | (simp; try omega)); have f8_0 := xf8 (w.heap.size + 1) 0 (by first | omega | (simp; try omega)); have r8_0_1 := xc8 (w.heap.size + 1) 1 (by first | omega | (simp; try omega)); have f8_0_1 := xf8 (w.heap.size + 1) 1 (by first | omega | (simp; try omega)); have r8_0_2 := xc8 (w.heap.size + 1) 2 (by first | omega | (simp; try omega)); have f8_0_2 := xf8 (w.heap.size + 1) 2 (by first | omega | (simp; try omega)))
         )
        refine bodyPost_ret (v := .tuple #[dcV (mkD neg [49] n), .int .i64 (mkE [49] n)]) ?h rfl ⟨rfl, ?_⟩
        case h => simp [results, Tryd.results29, go_sem, *]
        repeat (first | exact ext_refl _ | assumption | refine ext_setCell ?_ (by simp; try omega) _ | refine ext_alloc ?_ _ | refine ext_drew ?_ | refine ext_drewN ?_ _ | refine ext_trans ?_ (Aft.use _) | refine ext_trans ?_ (by assumption))
  · skip
    go_enter Tryd.func29, Tryd.ntmps29
    go_wp2
    go_quiet (fail)
    go_wp2_with (first
      | (go_at_call 48; (with_reducible refine (number_nil _).mono ?_); rintro e w1 ⟨rfl, xb1⟩; obtain ⟨xc1, xf1, xl1, xz1⟩ := ext_use xb1; (try simp at xz1); have l1_0 := xl1 (w.heap.size) (by first | omega | (simp; try omega)); have r1_0 := xc1 (w.heap.size) 0 (by first | omega | (simp; try omega)); have f1_0 := xf1 (w.heap.size) 0 (by first | omega | (simp; try omega)); have r1_0_1 := xc1 (w.heap.size) 1 (by first | omega | (simp; try omega)); have f1_0_1 := xf1 (w.heap.size) 1 (by first | omega | (simp; try omega)); have r1_0_2 := xc1 (w.heap.size) 2 (by first | omega | (simp; try omega)); have f1_0_2 := xf1 (w.heap.size) 2 (by first | omega | (simp; try omega)); have l1_1 := xl1 (w.heap.size + 1) (by first | omega | (simp; try omega)); have r1_1 := xc1 (w.heap.size + 1) 0 (by first | omega | (simp; try omega)); have f1_1 := xf1 (w.heap.size + 1) 0 (by first | omega | (simp; try omega)); have r1_1_1 := xc1 (w.heap.size + 1) 1 (by first | omega | (simp; try omega)); have f1_1_1 := xf1 (w.heap.size + 1) 1 (by first | omega | (simp; try omega)); have r1_1_2 := xc1 (w.heap.size + 1) 2 (by first | omega | (simp; try omega)); have f1_1_2 := xf1 (w.heap.size + 1) 2 (by first | omega | (simp; try omega)))
      | (go_at_call 49; (with_reducible refine (higher2 _ _ _ _).mono ?_); rintro e w' ⟨rfl, rfl⟩)
      | (go_at_call 52; (with_reducible refine (text_nil _).mono ?_); rintro e w3 ⟨rfl, xb3⟩; obtain ⟨xc3, xf3, xl3, xz3⟩ := ext_use xb3; (try simp at xz3); have l3_0 := xl3 (w.heap.size) (by first | omega | (simp; try omega)); have r3_0 := xc3 (w.heap.size) 0 (by first | omega | (simp; try omega)); have f3_0 := xf3 (w.heap.size) 0 (by first | omega | (simp; try omega)); have r3_0_1 := xc3 (w.heap.size) 1 (by first | omega | (simp; try omega)); have f3_0_1 := xf3 (w.heap.size) 1 (by first | omega | (simp; try omega)); have r3_0_2 := xc3 (w.heap.size) 2 (by first | omega | (simp; try omega)); have f3_0_2 := xf3 (w.heap.size) 2 (by first | omega | (simp; try omega)); have l3_1 := xl3 (w.heap.size + 1) (by first | omega | (simp; try omega)); have r3_1 := xc3 (w.heap.size + 1) 0 (by first | omega | (simp; try omega)); have f3_1 := xf3 (w.heap.size + 1) 0 (by first | omega | (simp; try omega)); have r3_1_1 := xc3 (w.heap.size + 1) 1 (by first | omega | (simp; try omega)); have f3_1_1 := xf3 (w.heap.size + 1) 1 (by first | omega | (simp; try omega)); have r3_1_2 := xc3 (w.heap.size + 1) 2 (by first | omega | (simp; try omega)); have f3_1_2 := xf3 (w.heap.size + 1) 2 (by first | omega | (simp; try omega)))
      | (go_at_call 8; (with_reducible refine (rmake_48 _ _ _).mono ?_); rintro e w4 ⟨rfl, xb4⟩; obtain ⟨xc4, xf4, xl4, xz4⟩ := ext_use xb4; (try simp at xz4); have l4_0 := xl4 (w.heap.size + 1) (by first | omega | (simp; try omega)); have r4_0 := xc4 (w.heap.size + 1) 0 (by first | omega | (simp; try omega)); have f4_0 := xf4 (w.heap.size + 1) 0 (by first | omega | (simp; try omega)); have r4_0_1 := xc4 (w.heap.size + 1) 1 (by first | omega | (simp; try omega)); have f4_0_1 := xf4 (w.heap.size + 1) 1 (by first | omega | (simp; try omega)); have r4_0_2 := xc4 (w.heap.size + 1) 2 (by first | omega | (simp; try omega)); have f4_0_2 := xf4 (w.heap.size + 1) 2 (by first | omega | (simp; try omega)))
     )
    all_goals
      refine bodyPost_ret (v := .tuple #[dcV (mkD neg [] n), .int .i64 (mkE [] n)]) ?h rfl ⟨rfl, ?_⟩
      case h => simp [results, Tryd.results29, go_sem, *]
      repeat (first | exact ext_refl _ | assumption | refine ext_setCell ?_ (by simp; try omega) _ | refine ext_alloc ?_ _ | refine ext_drew ?_ | refine ext_drewN ?_ _ | refine ext_trans ?_ (Aft.use _) | refine ext_trans ?_ (by assumption))
  · skip
    go_enter Tryd.func29, Tryd.ntmps29
    go_wp2
    go_quiet (fail)
    go_wp2_with (first
      | (go_at_call 48; (with_reducible refine (number_nil _).mono ?_); rintro e w1 ⟨rfl, xb1⟩; obtain ⟨xc1, xf1, xl1, xz1⟩ := ext_use xb1; (try simp at xz1); have l1_0 := xl1 (w.heap.size) (by first | omega | (simp; try omega)); have r1_0 := xc1 (w.heap.size) 0 (by first | omega | (simp; try omega)); have f1_0 := xf1 (w.heap.size) 0 (by first | omega | (simp; try omega)); have r1_0_1 := xc1 (w.heap.size) 1 (by first | omega | (simp; try omega)); have f1_0_1 := xf1 (w.heap.size) 1 (by first | omega | (simp; try omega)); have r1_0_2 := xc1 (w.heap.size) 2 (by first | omega | (simp; try omega)); have f1_0_2 := xf1 (w.heap.size) 2 (by first | omega | (simp; try omega)); have l1_1 := xl1 (w.heap.size + 1) (by first | omega | (simp; try omega)); have r1_1 := xc1 (w.heap.size + 1) 0 (by first | omega | (simp; try omega)); have f1_1 := xf1 (w.heap.size + 1) 0 (by first | omega | (simp; try omega)); have r1_1_1 := xc1 (w.heap.size + 1) 1 (by first | omega | (simp; try omega)); have f1_1_1 := xf1 (w.heap.size + 1) 1 (by first | omega | (simp; try omega)); have r1_1_2 := xc1 (w.heap.size + 1) 2 (by first | omega | (simp; try omega)); have f1_1_2 := xf1 (w.heap.size + 1) 2 (by first | omega | (simp; try omega)))
      | (go_at_call 49; (with_reducible refine (higher3 _ _ _ _).mono ?_); rintro e w' ⟨rfl, rfl⟩)
     )
    all_goals
      go_cut [13] (fun p wc => ∃ (A5 : Option Addr) (k5 c5 : Nat), p = .pointer (some ⟨w1.heap.size, 0, none⟩) ∧ wc.cell? ⟨w1.heap.size, 0, none⟩ = some (.slice A5 k5 c5) ∧ wc.frozen? ⟨w1.heap.size, 0, none⟩ = false ∧ w1.heap.size < wc.heap.size ∧ Hid (Rd wc A5 k5 c5 (lim 1)) ∧ Hid (Ext w1 wc))
      case first =>
        go_region_with (first
          | (go_at_call 51; (with_reducible refine (one_any _).mono ?_); rintro e w5 ⟨A5, k5, c5, rfl, hR5, xb5⟩; obtain ⟨xc5, xf5, xl5, xz5⟩ := ext_use xb5; (try simp at xz5); have l5_0 := xl5 (w1.heap.size) (by first | omega | (simp; try omega)); have r5_0 := xc5 (w1.heap.size) 0 (by first | omega | (simp; try omega)); have f5_0 := xf5 (w1.heap.size) 0 (by first | omega | (simp; try omega)))
          | (go_at_call 50; (with_reducible refine (more_nil A5 k5 c5 _ (Lib.hid (hR5.out.ext (by (repeat (first | exact ext_refl _ | assumption | refine ext_setCell ?_ (by simp; try omega) _ | refine ext_alloc ?_ _ | refine ext_drew ?_ | refine ext_drewN ?_ _ | refine ext_trans ?_ (Aft.use _) | refine ext_trans ?_ (by assumption))))))).mono ?_); rintro e w6 ⟨A6, k6, c6, rfl, hR6, xb6⟩; obtain ⟨xc6, xf6, xl6, xz6⟩ := ext_use xb6; (try simp at xz6); have l6_0 := xl6 (w1.heap.size) (by first | omega | (simp; try omega)); have r6_0 := xc6 (w1.heap.size) 0 (by first | omega | (simp; try omega)); have f6_0 := xf6 (w1.heap.size) 0 (by first | omega | (simp; try omega)))
         )
        all_goals
          go_wp2_with fail
          go_meet
          case rel =>
            refine ⟨A6, k6, c6, rfl, ?_, ?_, ?_, Lib.hid (hR6.out.1.set _ (fun a ha => by have := hR6.out.2 a ha; simp at this ⊢; omega)), (show Ext _ _ by (repeat (first | exact ext_refl _ | assumption | refine ext_setCell ?_ (by simp; try omega) _ | refine ext_alloc ?_ _ | refine ext_drew ?_ | refine ext_drewN ?_ _ | refine ext_trans ?_ (Aft.use _) | refine ext_trans ?_ (by assumption))))⟩
            all_goals go_simp
      case rest =>
        obtain ⟨A5, k5, c5, rfl, hc5, hf5, hl5, hR5, hE5⟩ := hcut
        obtain ⟨xc9, xf9, xl9, xz9⟩ := ext_use (hE5.out)
        have l9_0 := xl9 (w.heap.size) (by first | omega | (simp; try omega))
        have r9_0 := xc9 (w.heap.size) 0 (by first | omega | (simp; try omega))
        have f9_0 := xf9 (w.heap.size) 0 (by first | omega | (simp; try omega))
        have r9_0_1 := xc9 (w.heap.size) 1 (by first | omega | (simp; try omega))
        have f9_0_1 := xf9 (w.heap.size) 1 (by first | omega | (simp; try omega))
        have r9_0_2 := xc9 (w.heap.size) 2 (by first | omega | (simp; try omega))
        have f9_0_2 := xf9 (w.heap.size) 2 (by first | omega | (simp; try omega))
        have l9_1 := xl9 (w.heap.size + 1) (by first | omega | (simp; try omega))
        have r9_1 := xc9 (w.heap.size + 1) 0 (by first | omega | (simp; try omega))
        have f9_1 := xf9 (w.heap.size + 1) 0 (by first | omega | (simp; try omega))
        have r9_1_1 := xc9 (w.heap.size + 1) 1 (by first | omega | (simp; try omega))
        have f9_1_1 := xf9 (w.heap.size + 1) 1 (by first | omega | (simp; try omega))
        have r9_1_2 := xc9 (w.heap.size + 1) 2 (by first | omega | (simp; try omega))
        have f9_1_2 := xf9 (w.heap.size + 1) 2 (by first | omega | (simp; try omega))
        have hE5' := hE5.out
        go_wp2_with (first
          | (go_at_call 52; (with_reducible refine (text_one A5 k5 c5 _ (Lib.hid (hR5.out.ext (by (repeat (first | exact ext_refl _ | assumption | refine ext_setCell ?_ (by simp; try omega) _ | refine ext_alloc ?_ _ | refine ext_drew ?_ | refine ext_drewN ?_ _ | refine ext_trans ?_ (Aft.use _) | refine ext_trans ?_ (by assumption))))))).mono ?_); rintro e w7 ⟨rfl, xb7⟩; obtain ⟨xc7, xf7, xl7, xz7⟩ := ext_use xb7; (try simp at xz7); have l7_0 := xl7 (w.heap.size) (by first | omega | (simp; try omega)); have r7_0 := xc7 (w.heap.size) 0 (by first | omega | (simp; try omega)); have f7_0 := xf7 (w.heap.size) 0 (by first | omega | (simp; try omega)); have r7_0_1 := xc7 (w.heap.size) 1 (by first | omega | (simp; try omega)); have f7_0_1 := xf7 (w.heap.size) 1 (by first | omega | (simp; try omega)); have r7_0_2 := xc7 (w.heap.size) 2 (by first | omega | (simp; try omega)); have f7_0_2 := xf7 (w.heap.size) 2 (by first | omega | (simp; try omega)); have l7_1 := xl7 (w.heap.size + 1) (by first | omega | (simp; try omega)); have r7_1 := xc7 (w.heap.size + 1) 0 (by first | omega | (simp; try omega)); have f7_1 := xf7 (w.heap.size + 1) 0 (by first | omega | (simp; try omega)); have r7_1_1 := xc7 (w.heap.size + 1) 1 (by first | omega | (simp; try omega)); have f7_1_1 := xf7 (w.heap.size + 1) 1 (by first | omega | (simp; try omega)); have r7_1_2 := xc7 (w.heap.size + 1) 2 (by first | omega | (simp; try omega)); have f7_1_2 := xf7 (w.heap.size + 1) 2 (by first | omega | (simp; try omega)))
          | (go_at_call 8; (with_reducible refine (rmake_any _ _ _ (by simp) _).mono ?_); rintro e w8 ⟨rfl, xb8⟩; obtain ⟨xc8, xf8, xl8, xz8⟩ := ext_use xb8; (try simp at xz8); have l8_0 := xl8 (w.heap.size + 1) (by first | omega | (simp; try omega)); have r8_0 := xc8 (w.heap.size + 1) 0 (by first | omega | (simp; try omega)); have f8_0 := xf8 (w.heap.size + 1) 0 (by first | omega | (simp; try omega)); have r8_0_1 := xc8 (w.heap.size + 1) 1 (by first | omega | (simp; try omega)); have f8_0_1 := xf8 (w.heap.size + 1) 1 (by first | omega | (simp; try omega)); have r8_0_2 := xc8 (w.heap.size + 1) 2 (by first | omega | (simp; try omega)); have f8_0_2 := xf8 (w.heap.size + 1) 2 (by first | omega | (simp; try omega)))
         )
        refine bodyPost_ret (v := .tuple #[dcV (mkD false [49] n), .int .i64 (mkE [49] n)]) ?h rfl ⟨rfl, ?_⟩
        case h => simp [results, Tryd.results29, go_sem, *]
        repeat (first | exact ext_refl _ | assumption | refine ext_setCell ?_ (by simp; try omega) _ | refine ext_alloc ?_ _ | refine ext_drew ?_ | refine ext_drewN ?_ _ | refine ext_trans ?_ (Aft.use _) | refine ext_trans ?_ (by assumption))
  · skip
    go_enter Tryd.func29, Tryd.ntmps29
    go_wp2
    go_quiet (fail)
    go_wp2_with (first
      | (go_at_call 48; (with_reducible refine (number_nil _).mono ?_); rintro e w1 ⟨rfl, xb1⟩; obtain ⟨xc1, xf1, xl1, xz1⟩ := ext_use xb1; (try simp at xz1); have l1_0 := xl1 (w.heap.size) (by first | omega | (simp; try omega)); have r1_0 := xc1 (w.heap.size) 0 (by first | omega | (simp; try omega)); have f1_0 := xf1 (w.heap.size) 0 (by first | omega | (simp; try omega)); have r1_0_1 := xc1 (w.heap.size) 1 (by first | omega | (simp; try omega)); have f1_0_1 := xf1 (w.heap.size) 1 (by first | omega | (simp; try omega)); have r1_0_2 := xc1 (w.heap.size) 2 (by first | omega | (simp; try omega)); have f1_0_2 := xf1 (w.heap.size) 2 (by first | omega | (simp; try omega)); have l1_1 := xl1 (w.heap.size + 1) (by first | omega | (simp; try omega)); have r1_1 := xc1 (w.heap.size + 1) 0 (by first | omega | (simp; try omega)); have f1_1 := xf1 (w.heap.size + 1) 0 (by first | omega | (simp; try omega)); have r1_1_1 := xc1 (w.heap.size + 1) 1 (by first | omega | (simp; try omega)); have f1_1_1 := xf1 (w.heap.size + 1) 1 (by first | omega | (simp; try omega)); have r1_1_2 := xc1 (w.heap.size + 1) 2 (by first | omega | (simp; try omega)); have f1_1_2 := xf1 (w.heap.size + 1) 2 (by first | omega | (simp; try omega)))
      | (go_at_call 49; (with_reducible refine (higher3 _ _ _ _).mono ?_); rintro e w' ⟨rfl, rfl⟩)
      | (go_at_call 52; (with_reducible refine (text_nil _).mono ?_); rintro e w3 ⟨rfl, xb3⟩; obtain ⟨xc3, xf3, xl3, xz3⟩ := ext_use xb3; (try simp at xz3); have l3_0 := xl3 (w.heap.size) (by first | omega | (simp; try omega)); have r3_0 := xc3 (w.heap.size) 0 (by first | omega | (simp; try omega)); have f3_0 := xf3 (w.heap.size) 0 (by first | omega | (simp; try omega)); have r3_0_1 := xc3 (w.heap.size) 1 (by first | omega | (simp; try omega)); have f3_0_1 := xf3 (w.heap.size) 1 (by first | omega | (simp; try omega)); have r3_0_2 := xc3 (w.heap.size) 2 (by first | omega | (simp; try omega)); have f3_0_2 := xf3 (w.heap.size) 2 (by first | omega | (simp; try omega)); have l3_1 := xl3 (w.heap.size + 1) (by first | omega | (simp; try omega)); have r3_1 := xc3 (w.heap.size + 1) 0 (by first | omega | (simp; try omega)); have f3_1 := xf3 (w.heap.size + 1) 0 (by first | omega | (simp; try omega)); have r3_1_1 := xc3 (w.heap.size + 1) 1 (by first | omega | (simp; try omega)); have f3_1_1 := xf3 (w.heap.size + 1) 1 (by first | omega | (simp; try omega)); have r3_1_2 := xc3 (w.heap.size + 1) 2 (by first | omega | (simp; try omega)); have f3_1_2 := xf3 (w.heap.size + 1) 2 (by first | omega | (simp; try omega)))
      | (go_at_call 8; (with_reducible refine (rmake_48 _ _ _).mono ?_); rintro e w4 ⟨rfl, xb4⟩; obtain ⟨xc4, xf4, xl4, xz4⟩ := ext_use xb4; (try simp at xz4); have l4_0 := xl4 (w.heap.size + 1) (by first | omega | (simp; try omega)); have r4_0 := xc4 (w.heap.size + 1) 0 (by first | omega | (simp; try omega)); have f4_0 := xf4 (w.heap.size + 1) 0 (by first | omega | (simp; try omega)); have r4_0_1 := xc4 (w.heap.size + 1) 1 (by first | omega | (simp; try omega)); have f4_0_1 := xf4 (w.heap.size + 1) 1 (by first | omega | (simp; try omega)); have r4_0_2 := xc4 (w.heap.size + 1) 2 (by first | omega | (simp; try omega)); have f4_0_2 := xf4 (w.heap.size + 1) 2 (by first | omega | (simp; try omega)))
     )
    all_goals
      refine bodyPost_ret (v := .tuple #[dcV (mkD true [] n), .int .i64 (mkE [] n)]) ?h rfl ⟨rfl, ?_⟩
      case h => simp [results, Tryd.results29, go_sem, *]
      repeat (first | exact ext_refl _ | assumption | refine ext_setCell ?_ (by simp; try omega) _ | refine ext_alloc ?_ _ | refine ext_drew ?_ | refine ext_drewN ?_ _ | refine ext_trans ?_ (Aft.use _) | refine ext_trans ?_ (by assumption))
  · skip
    go_enter Tryd.func29, Tryd.ntmps29
    go_wp2
    go_quiet (fail)
    go_wp2_with (first
      | (go_at_call 48; (with_reducible refine (number_nil _).mono ?_); rintro e w1 ⟨rfl, xb1⟩; obtain ⟨xc1, xf1, xl1, xz1⟩ := ext_use xb1; (try simp at xz1); have l1_0 := xl1 (w.heap.size) (by first | omega | (simp; try omega)); have r1_0 := xc1 (w.heap.size) 0 (by first | omega | (simp; try omega)); have f1_0 := xf1 (w.heap.size) 0 (by first | omega | (simp; try omega)); have r1_0_1 := xc1 (w.heap.size) 1 (by first | omega | (simp; try omega)); have f1_0_1 := xf1 (w.heap.size) 1 (by first | omega | (simp; try omega)); have r1_0_2 := xc1 (w.heap.size) 2 (by first | omega | (simp; try omega)); have f1_0_2 := xf1 (w.heap.size) 2 (by first | omega | (simp; try omega)); have l1_1 := xl1 (w.heap.size + 1) (by first | omega | (simp; try omega)); have r1_1 := xc1 (w.heap.size + 1) 0 (by first | omega | (simp; try omega)); have f1_1 := xf1 (w.heap.size + 1) 0 (by first | omega | (simp; try omega)); have r1_1_1 := xc1 (w.heap.size + 1) 1 (by first | omega | (simp; try omega)); have f1_1_1 := xf1 (w.heap.size + 1) 1 (by first | omega | (simp; try omega)); have r1_1_2 := xc1 (w.heap.size + 1) 2 (by first | omega | (simp; try omega)); have f1_1_2 := xf1 (w.heap.size + 1) 2 (by first | omega | (simp; try omega)))
      | (go_at_call 49; (with_reducible refine (higher4 _ _ _ _).mono ?_); rintro e w' ⟨rfl, rfl⟩)
     )
    all_goals
      go_cut [13] (fun p wc => ∃ (A5 : Option Addr) (k5 c5 : Nat), p = .pointer (some ⟨w1.heap.size, 0, none⟩) ∧ wc.cell? ⟨w1.heap.size, 0, none⟩ = some (.slice A5 k5 c5) ∧ wc.frozen? ⟨w1.heap.size, 0, none⟩ = false ∧ w1.heap.size < wc.heap.size ∧ Hid (Rd wc A5 k5 c5 (lim 1)) ∧ Hid (Ext w1 wc))
      case first =>
        go_region_with (first
          | (go_at_call 51; (with_reducible refine (one_any _).mono ?_); rintro e w5 ⟨A5, k5, c5, rfl, hR5, xb5⟩; obtain ⟨xc5, xf5, xl5, xz5⟩ := ext_use xb5; (try simp at xz5); have l5_0 := xl5 (w1.heap.size) (by first | omega | (simp; try omega)); have r5_0 := xc5 (w1.heap.size) 0 (by first | omega | (simp; try omega)); have f5_0 := xf5 (w1.heap.size) 0 (by first | omega | (simp; try omega)))
          | (go_at_call 50; (with_reducible refine (more_nil A5 k5 c5 _ (Lib.hid (hR5.out.ext (by (repeat (first | exact ext_refl _ | assumption | refine ext_setCell ?_ (by simp; try omega) _ | refine ext_alloc ?_ _ | refine ext_drew ?_ | refine ext_drewN ?_ _ | refine ext_trans ?_ (Aft.use _) | refine ext_trans ?_ (by assumption))))))).mono ?_); rintro e w6 ⟨A6, k6, c6, rfl, hR6, xb6⟩; obtain ⟨xc6, xf6, xl6, xz6⟩ := ext_use xb6; (try simp at xz6); have l6_0 := xl6 (w1.heap.size) (by first | omega | (simp; try omega)); have r6_0 := xc6 (w1.heap.size) 0 (by first | omega | (simp; try omega)); have f6_0 := xf6 (w1.heap.size) 0 (by first | omega | (simp; try omega)))
         )
        all_goals
          go_wp2_with fail
          go_meet
          case rel =>
            refine ⟨A6, k6, c6, rfl, ?_, ?_, ?_, Lib.hid (hR6.out.1.set _ (fun a ha => by have := hR6.out.2 a ha; simp at this ⊢; omega)), (show Ext _ _ by (repeat (first | exact ext_refl _ | assumption | refine ext_setCell ?_ (by simp; try omega) _ | refine ext_alloc ?_ _ | refine ext_drew ?_ | refine ext_drewN ?_ _ | refine ext_trans ?_ (Aft.use _) | refine ext_trans ?_ (by assumption))))⟩
            all_goals go_simp
      case rest =>
        obtain ⟨A5, k5, c5, rfl, hc5, hf5, hl5, hR5, hE5⟩ := hcut
        obtain ⟨xc9, xf9, xl9, xz9⟩ := ext_use (hE5.out)
        have l9_0 := xl9 (w.heap.size) (by first | omega | (simp; try omega))
        have r9_0 := xc9 (w.heap.size) 0 (by first | omega | (simp; try omega))
        have f9_0 := xf9 (w.heap.size) 0 (by first | omega | (simp; try omega))
        have r9_0_1 := xc9 (w.heap.size) 1 (by first | omega | (simp; try omega))
        have f9_0_1 := xf9 (w.heap.size) 1 (by first | omega | (simp; try omega))
        have r9_0_2 := xc9 (w.heap.size) 2 (by first | omega | (simp; try omega))
        have f9_0_2 := xf9 (w.heap.size) 2 (by first | omega | (simp; try omega))
        have l9_1 := xl9 (w.heap.size + 1) (by first | omega | (simp; try omega))
        have r9_1 := xc9 (w.heap.size + 1) 0 (by first | omega | (simp; try omega))
        have f9_1 := xf9 (w.heap.size + 1) 0 (by first | omega | (simp; try omega))
        have r9_1_1 := xc9 (w.heap.size + 1) 1 (by first | omega | (simp; try omega))
        have f9_1_1 := xf9 (w.heap.size + 1) 1 (by first | omega | (simp; try omega))
        have r9_1_2 := xc9 (w.heap.size + 1) 2 (by first | omega | (simp; try omega))
        have f9_1_2 := xf9 (w.heap.size + 1) 2 (by first | omega | (simp; try omega))
        have hE5' := hE5.out
        go_wp2_with (first
          | (go_at_call 52; (with_reducible refine (text_one A5 k5 c5 _ (Lib.hid (hR5.out.ext (by (repeat (first | exact ext_refl _ | assumption | refine ext_setCell ?_ (by simp; try omega) _ | refine ext_alloc ?_ _ | refine ext_drew ?_ | refine ext_drewN ?_ _ | refine ext_trans ?_ (Aft.use _) | refine ext_trans ?_ (by assumption))))))).mono ?_); rintro e w7 ⟨rfl, xb7⟩; obtain ⟨xc7, xf7, xl7, xz7⟩ := ext_use xb7; (try simp at xz7); have l7_0 := xl7 (w.heap.size) (by first | omega | (simp; try omega)); have r7_0 := xc7 (w.heap.size) 0 (by first | omega | (simp; try omega)); have f7_0 := xf7 (w.heap.size) 0 (by first | omega | (simp; try omega)); have r7_0_1 := xc7 (w.heap.size) 1 (by first | omega | (simp; try omega)); have f7_0_1 := xf7 (w.heap.size) 1 (by first | omega | (simp; try omega)); have r7_0_2 := xc7 (w.heap.size) 2 (by first | omega | (simp; try omega)); have f7_0_2 := xf7 (w.heap.size) 2 (by first | omega | (simp; try omega)); have l7_1 := xl7 (w.heap.size + 1) (by first | omega | (simp; try omega)); have r7_1 := xc7 (w.heap.size + 1) 0 (by first | omega | (simp; try omega)); have f7_1 := xf7 (w.heap.size + 1) 0 (by first | omega | (simp; try omega)); have r7_1_1 := xc7 (w.heap.size + 1) 1 (by first | omega | (simp; try omega)); have f7_1_1 := xf7 (w.heap.size + 1) 1 (by first | omega | (simp; try omega)); have r7_1_2 := xc7 (w.heap.size + 1) 2 (by first | omega | (simp; try omega)); have f7_1_2 := xf7 (w.heap.size + 1) 2 (by first | omega | (simp; try omega)))
          | (go_at_call 8; (with_reducible refine (rmake_any _ _ _ (by simp) _).mono ?_); rintro e w8 ⟨rfl, xb8⟩; obtain ⟨xc8, xf8, xl8, xz8⟩ := ext_use xb8; (try simp at xz8); have l8_0 := xl8 (w.heap.size + 1) (by first | omega | (simp; try omega)); have r8_0 := xc8 (w.heap.size + 1) 0 (by first | omega | (simp; try omega)); have f8_0 := xf8 (w.heap.size + 1) 0 (by first | omega | (simp; try omega)); have r8_0_1 := xc8 (w.heap.size + 1) 1 (by first | omega | (simp; try omega)); have f8_0_1 := xf8 (w.heap.size + 1) 1 (by first | omega | (simp; try omega)); have r8_0_2 := xc8 (w.heap.size + 1) 2 (by first | omega | (simp; try omega)); have f8_0_2 := xf8 (w.heap.size + 1) 2 (by first | omega | (simp; try omega)))
         )
        refine bodyPost_ret (v := .tuple #[dcV (mkD true [49] n), .int .i64 (mkE [49] n)]) ?h rfl ⟨rfl, ?_⟩
        case h => simp [results, Tryd.results29, go_sem, *]
        repeat (first | exact ext_refl _ | assumption | refine ext_setCell ?_ (by simp; try omega) _ | refine ext_alloc ?_ _ | refine ext_drew ?_ | refine ext_drewN ?_ _ | refine ext_trans ?_ (Aft.use _) | refine ext_trans ?_ (by assumption))
  · skip
    go_enter Tryd.func29, Tryd.ntmps29
    go_wp2
    go_quiet (fail)
    go_wp2_with (first
      | (go_at_call 48; (with_reducible refine (number_nil _).mono ?_); rintro e w1 ⟨rfl, xb1⟩; obtain ⟨xc1, xf1, xl1, xz1⟩ := ext_use xb1; (try simp at xz1); have l1_0 := xl1 (w.heap.size) (by first | omega | (simp; try omega)); have r1_0 := xc1 (w.heap.size) 0 (by first | omega | (simp; try omega)); have f1_0 := xf1 (w.heap.size) 0 (by first | omega | (simp; try omega)); have r1_0_1 := xc1 (w.heap.size) 1 (by first | omega | (simp; try omega)); have f1_0_1 := xf1 (w.heap.size) 1 (by first | omega | (simp; try omega)); have r1_0_2 := xc1 (w.heap.size) 2 (by first | omega | (simp; try omega)); have f1_0_2 := xf1 (w.heap.size) 2 (by first | omega | (simp; try omega)); have l1_1 := xl1 (w.heap.size + 1) (by first | omega | (simp; try omega)); have r1_1 := xc1 (w.heap.size + 1) 0 (by first | omega | (simp; try omega)); have f1_1 := xf1 (w.heap.size + 1) 0 (by first | omega | (simp; try omega)); have r1_1_1 := xc1 (w.heap.size + 1) 1 (by first | omega | (simp; try omega)); have f1_1_1 := xf1 (w.heap.size + 1) 1 (by first | omega | (simp; try omega)); have r1_1_2 := xc1 (w.heap.size + 1) 2 (by first | omega | (simp; try omega)); have f1_1_2 := xf1 (w.heap.size + 1) 2 (by first | omega | (simp; try omega)))
      | (go_at_call 49; (with_reducible refine (higher4 _ _ _ _).mono ?_); rintro e w' ⟨rfl, rfl⟩)
      | (go_at_call 52; (with_reducible refine (text_nil _).mono ?_); rintro e w3 ⟨rfl, xb3⟩; obtain ⟨xc3, xf3, xl3, xz3⟩ := ext_use xb3; (try simp at xz3); have l3_0 := xl3 (w.heap.size) (by first | omega | (simp; try omega)); have r3_0 := xc3 (w.heap.size) 0 (by first | omega | (simp; try omega)); have f3_0 := xf3 (w.heap.size) 0 (by first | omega | (simp; try omega)); have r3_0_1 := xc3 (w.heap.size) 1 (by first | omega | (simp; try omega)); have f3_0_1 := xf3 (w.heap.size) 1 (by first | omega | (simp; try omega)); have r3_0_2 := xc3 (w.heap.size) 2 (by first | omega | (simp; try omega)); have f3_0_2 := xf3 (w.heap.size) 2 (by first | omega | (simp; try omega)); have l3_1 := xl3 (w.heap.size + 1) (by first | omega | (simp; try omega)); have r3_1 := xc3 (w.heap.size + 1) 0 (by first | omega | (simp; try omega)); have f3_1 := xf3 (w.heap.size + 1) 0 (by first | omega | (simp; try omega)); have r3_1_1 := xc3 (w.heap.size + 1) 1 (by first | omega | (simp; try omega)); have f3_1_1 := xf3 (w.heap.size + 1) 1 (by first | omega | (simp; try omega)); have r3_1_2 := xc3 (w.heap.size + 1) 2 (by first | omega | (simp; try omega)); have f3_1_2 := xf3 (w.heap.size + 1) 2 (by first | omega | (simp; try omega)))
      | (go_at_call 8; (with_reducible refine (rmake_48 _ _ _).mono ?_); rintro e w4 ⟨rfl, xb4⟩; obtain ⟨xc4, xf4, xl4, xz4⟩ := ext_use xb4; (try simp at xz4); have l4_0 := xl4 (w.heap.size + 1) (by first | omega | (simp; try omega)); have r4_0 := xc4 (w.heap.size + 1) 0 (by first | omega | (simp; try omega)); have f4_0 := xf4 (w.heap.size + 1) 0 (by first | omega | (simp; try omega)); have r4_0_1 := xc4 (w.heap.size + 1) 1 (by first | omega | (simp; try omega)); have f4_0_1 := xf4 (w.heap.size + 1) 1 (by first | omega | (simp; try omega)); have r4_0_2 := xc4 (w.heap.size + 1) 2 (by first | omega | (simp; try omega)); have f4_0_2 := xf4 (w.heap.size + 1) 2 (by first | omega | (simp; try omega)))
     )
    all_goals
      refine bodyPost_ret (v := .tuple #[dcV (mkD false [] n), .int .i64 (mkE [] n)]) ?h rfl ⟨rfl, ?_⟩
      case h => simp [results, Tryd.results29, go_sem, *]
      repeat (first | exact ext_refl _ | assumption | refine ext_setCell ?_ (by simp; try omega) _ | refine ext_alloc ?_ _ | refine ext_drew ?_ | refine ext_drewN ?_ _ | refine ext_trans ?_ (Aft.use _) | refine ext_trans ?_ (by assumption))
end Go.Proofs.YtmpgfibahdiblaaDoor
