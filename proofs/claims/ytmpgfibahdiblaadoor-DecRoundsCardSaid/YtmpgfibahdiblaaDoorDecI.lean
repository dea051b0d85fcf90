/- The document's cut, by the other modes. -/
import Derived.Test.YtmpgfibahdiblaaDoorDecH0
import Derived.Deep.DeepCutAuto
import Derived.Deep.RegionWith
namespace Go.Proofs.YtmpgfibahdiblaaDoor
open Go.RowKit
attribute [local go_sem] bs_size bs_extract bs_get bs_append bs_toList const_get
attribute [local go_sem] sz2 sz3 sz4 sz5 sz6 sz7 sz8
set_option maxHeartbeats 4000000
set_option maxRecDepth 100000
attribute [local irreducible] Calls
theorem rcut_posB (neg : Bool) (l : List UInt8) (exp n : Int) (j mode : Nat) (hok : Ok ⟨neg, l, exp⟩) (hm2 : 2 ≤ mode) (hm : mode ≤ 4) (hn : -4294967296 ≤ n ∧ n ≤ 4294967296) (hkk : (l.length : Int) - (n - exp) = (j : Int)) (hjl : j < l.length) (hjp : 0 < j) (w : World) :
    Calls Tryd.prog 29 #[dcV ⟨neg, l, exp⟩, .int .i64 n, .int .u8 (mode : Int)] w fun e w' => e = .returned (.tuple #[dcV (mkD neg (cutL neg l j mode) n), .int .i64 (mkE (cutL neg l j mode) n)]) ∧ Ext w w' := by
  obtain ⟨hl, hpos, hd, hld, he1, he2⟩ := hok
  simp only at hl hpos hd hld he1 he2
  obtain ⟨x, hxe⟩ : ∃ x, l[j] = x := ⟨_, rfl⟩
  obtain ⟨t, ht⟩ : ∃ t, l.drop j = x :: t := ⟨l.drop (j + 1), by rw [← hxe]; exact List.drop_eq_getElem_cons hjl⟩
  obtain ⟨H, hH⟩ : ∃ H, l.take j = H := ⟨_, rfl⟩
  obtain ⟨y, hy⟩ : ∃ y, l.getD (j - 1) 0 = y := ⟨_, rfl⟩
  have hHl : H.length = j := by rw [← hH, List.length_take]; omega
  have HDH : Hid (digsB H = true) := Lib.hid (by rw [← hH]; exact digs_take hd j)
  have HLH : Hid (lead H) := Lib.hid (by rw [← hH]; exact lead_take hld j)
  have hnl := nx_len H HDH.out
  have hyH : H[j - 1]'(by omega) = y := by
    rw [← hy, getD_eq (by omega)]
    simp only [← hH, List.getElem_take]
  have hHne : ¬ H = [] := by intro e; rw [e] at hHl; simp at hHl; omega
  have hHem : H.isEmpty = false := by simp [hHne]
  have hF := Lib.hid (dval_fits HDH.out (by omega))
  have hT0 : Hid (dtext (dval H) = H) := by
    rw [dtext_dval HDH.out HLH.out, if_neg hHne]; exact rfl
  have hT1 : Hid (dtext (dval H + 1) = nx H) := Lib.hid (dtext_next H)
  have hcs := cut_cases neg l j mode x y t H hm ht hH hy
  clear hd hld hxe hy
  rcases hcs with ⟨rfl, h5, E⟩ | ⟨rfl, h5, h6, E⟩ | ⟨rfl, h6, h7, E⟩ | ⟨rfl, h6, h7, E⟩ | ⟨rfl, h5, E⟩ | ⟨rfl, h5, E⟩ | ⟨rfl, E⟩ | ⟨rfl, rfl, E⟩ | ⟨rfl, rfl, E⟩ | ⟨rfl, rfl, E⟩ | ⟨rfl, rfl, E⟩
  all_goals rw [E]
  all_goals clear E
  · omega
  · omega
  · omega
  · omega
  · omega
  · omega
  · skip
    go_enter Tryd.func29, Tryd.ntmps29
    go_wp2
    go_quiet (fail)
    go_wp2
    go_quiet (fail)
    go_wp2_with (first
      | (go_at_call 48; (with_reducible refine (number_some H HDH.out (by omega) (by omega) _).mono ?_); rintro e w1 ⟨A, k, c, rfl, hR, xb1⟩; obtain ⟨xc1, xf1, xl1, xz1⟩ := ext_use xb1; (try simp at xz1); have l1_0 := xl1 (w.heap.size) (by first | omega | (simp; try omega)); have r1_0 := xc1 (w.heap.size) 0 (by first | omega | (simp; try omega)); have f1_0 := xf1 (w.heap.size) 0 (by first | omega | (simp; try omega)); have r1_0_1 := xc1 (w.heap.size) 1 (by first | omega | (simp; try omega)); have f1_0_1 := xf1 (w.heap.size) 1 (by first | omega | (simp; try omega)); have r1_0_2 := xc1 (w.heap.size) 2 (by first | omega | (simp; try omega)); have f1_0_2 := xf1 (w.heap.size) 2 (by first | omega | (simp; try omega)); have l1_1 := xl1 (w.heap.size + 1) (by first | omega | (simp; try omega)); have r1_1 := xc1 (w.heap.size + 1) 0 (by first | omega | (simp; try omega)); have f1_1 := xf1 (w.heap.size + 1) 0 (by first | omega | (simp; try omega)); have r1_1_1 := xc1 (w.heap.size + 1) 1 (by first | omega | (simp; try omega)); have f1_1_1 := xf1 (w.heap.size + 1) 1 (by first | omega | (simp; try omega)); have r1_1_2 := xc1 (w.heap.size + 1) 2 (by first | omega | (simp; try omega)); have f1_1_2 := xf1 (w.heap.size + 1) 2 (by first | omega | (simp; try omega)))
      | (go_at_call 49; (with_reducible refine (higher2 _ _ _ _).mono ?_); rintro e w' ⟨rfl, rfl⟩)
      | (go_at_call 52; (with_reducible refine (text_any A k c (dval H) hF.out.1 _ (hR.out.1.ext (by (repeat (first | exact ext_refl _ | assumption | refine ext_setCell ?_ (by simp; try omega) _ | refine ext_alloc ?_ _ | refine ext_drew ?_ | refine ext_drewN ?_ _ | refine ext_trans ?_ (Aft.use _) | refine ext_trans ?_ (by assumption)))))).mono ?_); rintro e w3 ⟨rfl, xb3⟩; obtain ⟨xc3, xf3, xl3, xz3⟩ := ext_use xb3; (try simp at xz3); have l3_0 := xl3 (w.heap.size) (by first | omega | (simp; try omega)); have r3_0 := xc3 (w.heap.size) 0 (by first | omega | (simp; try omega)); have f3_0 := xf3 (w.heap.size) 0 (by first | omega | (simp; try omega)); have r3_0_1 := xc3 (w.heap.size) 1 (by first | omega | (simp; try omega)); have f3_0_1 := xf3 (w.heap.size) 1 (by first | omega | (simp; try omega)); have r3_0_2 := xc3 (w.heap.size) 2 (by first | omega | (simp; try omega)); have f3_0_2 := xf3 (w.heap.size) 2 (by first | omega | (simp; try omega)); have l3_1 := xl3 (w.heap.size + 1) (by first | omega | (simp; try omega)); have r3_1 := xc3 (w.heap.size + 1) 0 (by first | omega | (simp; try omega)); have f3_1 := xf3 (w.heap.size + 1) 0 (by first | omega | (simp; try omega)); have r3_1_1 := xc3 (w.heap.size + 1) 1 (by first | omega | (simp; try omega)); have f3_1_1 := xf3 (w.heap.size + 1) 1 (by first | omega | (simp; try omega)); have r3_1_2 := xc3 (w.heap.size + 1) 2 (by first | omega | (simp; try omega)); have f3_1_2 := xf3 (w.heap.size + 1) 2 (by first | omega | (simp; try omega)))
      | (go_at_call 8; (with_reducible refine (rmake_any _ _ _ (by rw [hT0.out]; omega) _).mono ?_); rintro e w4 ⟨rfl, xb4⟩; obtain ⟨xc4, xf4, xl4, xz4⟩ := ext_use xb4; (try simp at xz4); have l4_0 := xl4 (w.heap.size + 1) (by first | omega | (simp; try omega)); have r4_0 := xc4 (w.heap.size + 1) 0 (by first | omega | (simp; try omega)); have f4_0 := xf4 (w.heap.size + 1) 0 (by first | omega | (simp; try omega)); have r4_0_1 := xc4 (w.heap.size + 1) 1 (by first | omega | (simp; try omega)); have f4_0_1 := xf4 (w.heap.size + 1) 1 (by first | omega | (simp; try omega)); have r4_0_2 := xc4 (w.heap.size + 1) 2 (by first | omega | (simp; try omega)); have f4_0_2 := xf4 (w.heap.size + 1) 2 (by first | omega | (simp; try omega)))
     )
    all_goals
      refine bodyPost_ret (v := .tuple #[dcV (mkD neg (dtext (dval H)) n), .int .i64 (mkE (dtext (dval H)) n)]) ?h rfl ⟨by rw [hT0.out], ?_⟩
      case h => simp [results, Tryd.results29, go_sem, *]
      repeat (first | exact ext_refl _ | assumption | refine ext_setCell ?_ (by simp; try omega) _ | refine ext_alloc ?_ _ | refine ext_drew ?_ | refine ext_drewN ?_ _ | refine ext_trans ?_ (Aft.use _) | refine ext_trans ?_ (by assumption))
  · skip
    go_enter Tryd.func29, Tryd.ntmps29
    go_wp2
    go_quiet (fail)
    go_wp2
    go_quiet (fail)
    go_wp2_with (first
      | (go_at_call 48; (with_reducible refine (number_some H HDH.out (by omega) (by omega) _).mono ?_); rintro e w1 ⟨A, k, c, rfl, hR, xb1⟩; obtain ⟨xc1, xf1, xl1, xz1⟩ := ext_use xb1; (try simp at xz1); have l1_0 := xl1 (w.heap.size) (by first | omega | (simp; try omega)); have r1_0 := xc1 (w.heap.size) 0 (by first | omega | (simp; try omega)); have f1_0 := xf1 (w.heap.size) 0 (by first | omega | (simp; try omega)); have r1_0_1 := xc1 (w.heap.size) 1 (by first | omega | (simp; try omega)); have f1_0_1 := xf1 (w.heap.size) 1 (by first | omega | (simp; try omega)); have r1_0_2 := xc1 (w.heap.size) 2 (by first | omega | (simp; try omega)); have f1_0_2 := xf1 (w.heap.size) 2 (by first | omega | (simp; try omega)); have l1_1 := xl1 (w.heap.size + 1) (by first | omega | (simp; try omega)); have r1_1 := xc1 (w.heap.size + 1) 0 (by first | omega | (simp; try omega)); have f1_1 := xf1 (w.heap.size + 1) 0 (by first | omega | (simp; try omega)); have r1_1_1 := xc1 (w.heap.size + 1) 1 (by first | omega | (simp; try omega)); have f1_1_1 := xf1 (w.heap.size + 1) 1 (by first | omega | (simp; try omega)); have r1_1_2 := xc1 (w.heap.size + 1) 2 (by first | omega | (simp; try omega)); have f1_1_2 := xf1 (w.heap.size + 1) 2 (by first | omega | (simp; try omega)))
      | (go_at_call 49; (with_reducible refine (higher3 _ _ _ _).mono ?_); rintro e w' ⟨rfl, rfl⟩)
     )
    all_goals
      go_cut [13] (fun p wc => ∃ (A5 : Option Addr) (k5 c5 : Nat), p = .pointer (some ⟨w1.heap.size, 0, none⟩) ∧ wc.cell? ⟨w1.heap.size, 0, none⟩ = some (.slice A5 k5 c5) ∧ wc.frozen? ⟨w1.heap.size, 0, none⟩ = false ∧ w1.heap.size < wc.heap.size ∧ Hid (Rd wc A5 k5 c5 (lim (dval H + 1))) ∧ Hid (Ext w1 wc))
      case first =>
        go_region_with (first
          | (go_at_call 51; (with_reducible refine (one_any _).mono ?_); rintro e w5 ⟨A5, k5, c5, rfl, hR5, xb5⟩; obtain ⟨xc5, xf5, xl5, xz5⟩ := ext_use xb5; (try simp at xz5); have l5_0 := xl5 (w1.heap.size) (by first | omega | (simp; try omega)); have r5_0 := xc5 (w1.heap.size) 0 (by first | omega | (simp; try omega)); have f5_0 := xf5 (w1.heap.size) 0 (by first | omega | (simp; try omega)))
          | (go_at_call 50; (with_reducible refine (more_any A A5 k c k5 c5 (dval H) hF _ (Lib.hid (hR.out.1.ext (by (repeat (first | exact ext_refl _ | assumption | refine ext_setCell ?_ (by simp; try omega) _ | refine ext_alloc ?_ _ | refine ext_drew ?_ | refine ext_drewN ?_ _ | refine ext_trans ?_ (Aft.use _) | refine ext_trans ?_ (by assumption)))))) (Lib.hid (hR5.out.ext (by (repeat (first | exact ext_refl _ | assumption | refine ext_setCell ?_ (by simp; try omega) _ | refine ext_alloc ?_ _ | refine ext_drew ?_ | refine ext_drewN ?_ _ | refine ext_trans ?_ (Aft.use _) | refine ext_trans ?_ (by assumption))))))).mono ?_); rintro e w6 ⟨A6, k6, c6, rfl, hR6, xb6⟩; obtain ⟨xc6, xf6, xl6, xz6⟩ := ext_use xb6; (try simp at xz6); have l6_0 := xl6 (w1.heap.size) (by first | omega | (simp; try omega)); have r6_0 := xc6 (w1.heap.size) 0 (by first | omega | (simp; try omega)); have f6_0 := xf6 (w1.heap.size) 0 (by first | omega | (simp; try omega)))
         )
        all_goals
          go_wp2_with fail
          go_meet
          case rel =>
            refine ⟨A6, k6, c6, rfl, ?_, ?_, ?_, Lib.hid (hR6.out.1.set _ (fun a ha => by have := hR6.out.2 a ha; simp at this ⊢; omega)), (show Ext _ _ by (repeat (first | exact ext_refl _ | assumption | refine ext_setCell ?_ (by simp; try omega) _ | refine ext_alloc ?_ _ | refine ext_drew ?_ | refine ext_drewN ?_ _ | refine ext_trans ?_ (Aft.use _) | refine ext_trans ?_ (by assumption))))⟩
            all_goals go_simp
      case rest =>
        obtain ⟨A5, k5, c5, rfl, hc5, hf5, hl5, hR5, hE5⟩ := hcut
        obtain ⟨xc9, xf9, xl9, xz9⟩ := ext_use (hE5.out)
        have l9_0 := xl9 (w.heap.size) (by first | omega | (simp; try omega))
        have r9_0 := xc9 (w.heap.size) 0 (by first | omega | (simp; try omega))
        have f9_0 := xf9 (w.heap.size) 0 (by first | omega | (simp; try omega))
        have r9_0_1 := xc9 (w.heap.size) 1 (by first | omega | (simp; try omega))
        have f9_0_1 := xf9 (w.heap.size) 1 (by first | omega | (simp; try omega))
        have r9_0_2 := xc9 (w.heap.size) 2 (by first | omega | (simp; try omega))
        have f9_0_2 := xf9 (w.heap.size) 2 (by first | omega | (simp; try omega))
        have l9_1 := xl9 (w.heap.size + 1) (by first | omega | (simp; try omega))
        have r9_1 := xc9 (w.heap.size + 1) 0 (by first | omega | (simp; try omega))
        have f9_1 := xf9 (w.heap.size + 1) 0 (by first | omega | (simp; try omega))
        have r9_1_1 := xc9 (w.heap.size + 1) 1 (by first | omega | (simp; try omega))
        have f9_1_1 := xf9 (w.heap.size + 1) 1 (by first | omega | (simp; try omega))
        have r9_1_2 := xc9 (w.heap.size + 1) 2 (by first | omega | (simp; try omega))
        have f9_1_2 := xf9 (w.heap.size + 1) 2 (by first | omega | (simp; try omega))
        have hE5' := hE5.out
        go_wp2_with (first
          | (go_at_call 52; (with_reducible refine (text_any A5 k5 c5 (dval H + 1) hF.out.2 _ (hR5.out.ext (by (repeat (first | exact ext_refl _ | assumption | refine ext_setCell ?_ (by simp; try omega) _ | refine ext_alloc ?_ _ | refine ext_drew ?_ | refine ext_drewN ?_ _ | refine ext_trans ?_ (Aft.use _) | refine ext_trans ?_ (by assumption)))))).mono ?_); rintro e w7 ⟨rfl, xb7⟩; obtain ⟨xc7, xf7, xl7, xz7⟩ := ext_use xb7; (try simp at xz7); have l7_0 := xl7 (w.heap.size) (by first | omega | (simp; try omega)); have r7_0 := xc7 (w.heap.size) 0 (by first | omega | (simp; try omega)); have f7_0 := xf7 (w.heap.size) 0 (by first | omega | (simp; try omega)); have r7_0_1 := xc7 (w.heap.size) 1 (by first | omega | (simp; try omega)); have f7_0_1 := xf7 (w.heap.size) 1 (by first | omega | (simp; try omega)); have r7_0_2 := xc7 (w.heap.size) 2 (by first | omega | (simp; try omega)); have f7_0_2 := xf7 (w.heap.size) 2 (by first | omega | (simp; try omega)); have l7_1 := xl7 (w.heap.size + 1) (by first | omega | (simp; try omega)); have r7_1 := xc7 (w.heap.size + 1) 0 (by first | omega | (simp; try omega)); have f7_1 := xf7 (w.heap.size + 1) 0 (by first | omega | (simp; try omega)); have r7_1_1 := xc7 (w.heap.size + 1) 1 (by first | omega | (simp; try omega)); have f7_1_1 := xf7 (w.heap.size + 1) 1 (by first | omega | (simp; try omega)); have r7_1_2 := xc7 (w.heap.size + 1) 2 (by first | omega | (simp; try omega)); have f7_1_2 := xf7 (w.heap.size + 1) 2 (by first | omega | (simp; try omega)))
          | (go_at_call 8; (with_reducible refine (rmake_any _ _ _ (by rw [hT1.out]; omega) _).mono ?_); rintro e w8 ⟨rfl, xb8⟩; obtain ⟨xc8, xf8, xl8, xz8⟩ := ext_use xb8; (try simp at xz8); have l8_0 := xl8 (w.heap.size + 1) (by first | omega | (simp; try omega)); have r8_0 := xc8 (w.heap.size + 1) 0 (by first | omega | (simp; try omega)); have f8_0 := xf8 (w.heap.size + 1) 0 (by first | omega | (simp; try omega)); have r8_0_1 := xc8 (w.heap.size + 1) 1 (by first | omega | (simp; try omega)); have f8_0_1 := xf8 (w.heap.size + 1) 1 (by first | omega | (simp; try omega)); have r8_0_2 := xc8 (w.heap.size + 1) 2 (by first | omega | (simp; try omega)); have f8_0_2 := xf8 (w.heap.size + 1) 2 (by first | omega | (simp; try omega)))
         )
        refine bodyPost_ret (v := .tuple #[dcV (mkD false (dtext (dval H + 1)) n), .int .i64 (mkE (dtext (dval H + 1)) n)]) ?h rfl ⟨by rw [hT1.out], ?_⟩
        case h => simp [results, Tryd.results29, go_sem, *]
        repeat (first | exact ext_refl _ | assumption | refine ext_setCell ?_ (by simp; try omega) _ | refine ext_alloc ?_ _ | refine ext_drew ?_ | refine ext_drewN ?_ _ | refine ext_trans ?_ (Aft.use _) | refine ext_trans ?_ (by assumption))
  · skip
    go_enter Tryd.func29, Tryd.ntmps29
    go_wp2
    go_quiet (fail)
    go_wp2
    go_quiet (fail)
    go_wp2_with (first
      | (go_at_call 48; (with_reducible refine (number_some H HDH.out (by omega) (by omega) _).mono ?_); rintro e w1 ⟨A, k, c, rfl, hR, xb1⟩; obtain ⟨xc1, xf1, xl1, xz1⟩ := ext_use xb1; (try simp at xz1); have l1_0 := xl1 (w.heap.size) (by first | omega | (simp; try omega)); have r1_0 := xc1 (w.heap.size) 0 (by first | omega | (simp; try omega)); have f1_0 := xf1 (w.heap.size) 0 (by first | omega | (simp; try omega)); have r1_0_1 := xc1 (w.heap.size) 1 (by first | omega | (simp; try omega)); have f1_0_1 := xf1 (w.heap.size) 1 (by first | omega | (simp; try omega)); have r1_0_2 := xc1 (w.heap.size) 2 (by first | omega | (simp; try omega)); have f1_0_2 := xf1 (w.heap.size) 2 (by first | omega | (simp; try omega)); have l1_1 := xl1 (w.heap.size + 1) (by first | omega | (simp; try omega)); have r1_1 := xc1 (w.heap.size + 1) 0 (by first | omega | (simp; try omega)); have f1_1 := xf1 (w.heap.size + 1) 0 (by first | omega | (simp; try omega)); have r1_1_1 := xc1 (w.heap.size + 1) 1 (by first | omega | (simp; try omega)); have f1_1_1 := xf1 (w.heap.size + 1) 1 (by first | omega | (simp; try omega)); have r1_1_2 := xc1 (w.heap.size + 1) 2 (by first | omega | (simp; try omega)); have f1_1_2 := xf1 (w.heap.size + 1) 2 (by first | omega | (simp; try omega)))
      | (go_at_call 49; (with_reducible refine (higher3 _ _ _ _).mono ?_); rintro e w' ⟨rfl, rfl⟩)
      | (go_at_call 52; (with_reducible refine (text_any A k c (dval H) hF.out.1 _ (hR.out.1.ext (by (repeat (first | exact ext_refl _ | assumption | refine ext_setCell ?_ (by simp; try omega) _ | refine ext_alloc ?_ _ | refine ext_drew ?_ | refine ext_drewN ?_ _ | refine ext_trans ?_ (Aft.use _) | refine ext_trans ?_ (by assumption)))))).mono ?_); rintro e w3 ⟨rfl, xb3⟩; obtain ⟨xc3, xf3, xl3, xz3⟩ := ext_use xb3; (try simp at xz3); have l3_0 := xl3 (w.heap.size) (by first | omega | (simp; try omega)); have r3_0 := xc3 (w.heap.size) 0 (by first | omega | (simp; try omega)); have f3_0 := xf3 (w.heap.size) 0 (by first | omega | (simp; try omega)); have r3_0_1 := xc3 (w.heap.size) 1 (by first | omega | (simp; try omega)); have f3_0_1 := xf3 (w.heap.size) 1 (by first | omega | (simp; try omega)); have r3_0_2 := xc3 (w.heap.size) 2 (by first | omega | (simp; try omega)); have f3_0_2 := xf3 (w.heap.size) 2 (by first | omega | (simp; try omega)); have l3_1 := xl3 (w.heap.size + 1) (by first | omega | (simp; try omega)); have r3_1 := xc3 (w.heap.size + 1) 0 (by first | omega | (simp; try omega)); have f3_1 := xf3 (w.heap.size + 1) 0 (by first | omega | (simp; try omega)); have r3_1_1 := xc3 (w.heap.size + 1) 1 (by first | omega | (simp; try omega)); have f3_1_1 := xf3 (w.heap.size + 1) 1 (by first | omega | (simp; try omega)); have r3_1_2 := xc3 (w.heap.size + 1) 2 (by first | omega | (simp; try omega)); have f3_1_2 := xf3 (w.heap.size + 1) 2 (by first | omega | (simp; try omega)))
      | (go_at_call 8; (with_reducible refine (rmake_any _ _ _ (by rw [hT0.out]; omega) _).mono ?_); rintro e w4 ⟨rfl, xb4⟩; obtain ⟨xc4, xf4, xl4, xz4⟩ := ext_use xb4; (try simp at xz4); have l4_0 := xl4 (w.heap.size + 1) (by first | omega | (simp; try omega)); have r4_0 := xc4 (w.heap.size + 1) 0 (by first | omega | (simp; try omega)); have f4_0 := xf4 (w.heap.size + 1) 0 (by first | omega | (simp; try omega)); have r4_0_1 := xc4 (w.heap.size + 1) 1 (by first | omega | (simp; try omega)); have f4_0_1 := xf4 (w.heap.size + 1) 1 (by first | omega | (simp; try omega)); have r4_0_2 := xc4 (w.heap.size + 1) 2 (by first | omega | (simp; try omega)); have f4_0_2 := xf4 (w.heap.size + 1) 2 (by first | omega | (simp; try omega)))
     )
    all_goals
      refine bodyPost_ret (v := .tuple #[dcV (mkD true (dtext (dval H)) n), .int .i64 (mkE (dtext (dval H)) n)]) ?h rfl ⟨by rw [hT0.out], ?_⟩
      case h => simp [results, Tryd.results29, go_sem, *]
      repeat (first | exact ext_refl _ | assumption | refine ext_setCell ?_ (by simp; try omega) _ | refine ext_alloc ?_ _ | refine ext_drew ?_ | refine ext_drewN ?_ _ | refine ext_trans ?_ (Aft.use _) | refine ext_trans ?_ (by assumption))
  · skip
    go_enter Tryd.func29, Tryd.ntmps29
    go_wp2
    go_quiet (fail)
    go_wp2
    go_quiet (fail)
    go_wp2_with (first
      | (go_at_call 48; (with_reducible refine (number_some H HDH.out (by omega) (by omega) _).mono ?_); rintro e w1 ⟨A, k, c, rfl, hR, xb1⟩; obtain ⟨xc1, xf1, xl1, xz1⟩ := ext_use xb1; (try simp at xz1); have l1_0 := xl1 (w.heap.size) (by first | omega | (simp; try omega)); have r1_0 := xc1 (w.heap.size) 0 (by first | omega | (simp; try omega)); have f1_0 := xf1 (w.heap.size) 0 (by first | omega | (simp; try omega)); have r1_0_1 := xc1 (w.heap.size) 1 (by first | omega | (simp; try omega)); have f1_0_1 := xf1 (w.heap.size) 1 (by first | omega | (simp; try omega)); have r1_0_2 := xc1 (w.heap.size) 2 (by first | omega | (simp; try omega)); have f1_0_2 := xf1 (w.heap.size) 2 (by first | omega | (simp; try omega)); have l1_1 := xl1 (w.heap.size + 1) (by first | omega | (simp; try omega)); have r1_1 := xc1 (w.heap.size + 1) 0 (by first | omega | (simp; try omega)); have f1_1 := xf1 (w.heap.size + 1) 0 (by first | omega | (simp; try omega)); have r1_1_1 := xc1 (w.heap.size + 1) 1 (by first | omega | (simp; try omega)); have f1_1_1 := xf1 (w.heap.size + 1) 1 (by first | omega | (simp; try omega)); have r1_1_2 := xc1 (w.heap.size + 1) 2 (by first | omega | (simp; try omega)); have f1_1_2 := xf1 (w.heap.size + 1) 2 (by first | omega | (simp; try omega)))
      | (go_at_call 49; (with_reducible refine (higher4 _ _ _ _).mono ?_); rintro e w' ⟨rfl, rfl⟩)
     )
    all_goals
      go_cut [13] (fun p wc => ∃ (A5 : Option Addr) (k5 c5 : Nat), p = .pointer (some ⟨w1.heap.size, 0, none⟩) ∧ wc.cell? ⟨w1.heap.size, 0, none⟩ = some (.slice A5 k5 c5) ∧ wc.frozen? ⟨w1.heap.size, 0, none⟩ = false ∧ w1.heap.size < wc.heap.size ∧ Hid (Rd wc A5 k5 c5 (lim (dval H + 1))) ∧ Hid (Ext w1 wc))
      case first =>
        go_region_with (first
          | (go_at_call 51; (with_reducible refine (one_any _).mono ?_); rintro e w5 ⟨A5, k5, c5, rfl, hR5, xb5⟩; obtain ⟨xc5, xf5, xl5, xz5⟩ := ext_use xb5; (try simp at xz5); have l5_0 := xl5 (w1.heap.size) (by first | omega | (simp; try omega)); have r5_0 := xc5 (w1.heap.size) 0 (by first | omega | (simp; try omega)); have f5_0 := xf5 (w1.heap.size) 0 (by first | omega | (simp; try omega)))
          | (go_at_call 50; (with_reducible refine (more_any A A5 k c k5 c5 (dval H) hF _ (Lib.hid (hR.out.1.ext (by (repeat (first | exact ext_refl _ | assumption | refine ext_setCell ?_ (by simp; try omega) _ | refine ext_alloc ?_ _ | refine ext_drew ?_ | refine ext_drewN ?_ _ | refine ext_trans ?_ (Aft.use _) | refine ext_trans ?_ (by assumption)))))) (Lib.hid (hR5.out.ext (by (repeat (first | exact ext_refl _ | assumption | refine ext_setCell ?_ (by simp; try omega) _ | refine ext_alloc ?_ _ | refine ext_drew ?_ | refine ext_drewN ?_ _ | refine ext_trans ?_ (Aft.use _) | refine ext_trans ?_ (by assumption))))))).mono ?_); rintro e w6 ⟨A6, k6, c6, rfl, hR6, xb6⟩; obtain ⟨xc6, xf6, xl6, xz6⟩ := ext_use xb6; (try simp at xz6); have l6_0 := xl6 (w1.heap.size) (by first | omega | (simp; try omega)); have r6_0 := xc6 (w1.heap.size) 0 (by first | omega | (simp; try omega)); have f6_0 := xf6 (w1.heap.size) 0 (by first | omega | (simp; try omega)))
         )
        all_goals
          go_wp2_with fail
          go_meet
          case rel =>
            refine ⟨A6, k6, c6, rfl, ?_, ?_, ?_, Lib.hid (hR6.out.1.set _ (fun a ha => by have := hR6.out.2 a ha; simp at this ⊢; omega)), (show Ext _ _ by (repeat (first | exact ext_refl _ | assumption | refine ext_setCell ?_ (by simp; try omega) _ | refine ext_alloc ?_ _ | refine ext_drew ?_ | refine ext_drewN ?_ _ | refine ext_trans ?_ (Aft.use _) | refine ext_trans ?_ (by assumption))))⟩
            all_goals go_simp
      case rest =>
        obtain ⟨A5, k5, c5, rfl, hc5, hf5, hl5, hR5, hE5⟩ := hcut
        obtain ⟨xc9, xf9, xl9, xz9⟩ := ext_use (hE5.out)
        have l9_0 := xl9 (w.heap.size) (by first | omega | (simp; try omega))
        have r9_0 := xc9 (w.heap.size) 0 (by first | omega | (simp; try omega))
        have f9_0 := xf9 (w.heap.size) 0 (by first | omega | (simp; try omega))
        have r9_0_1 := xc9 (w.heap.size) 1 (by first | omega | (simp; try omega))
        have f9_0_1 := xf9 (w.heap.size) 1 (by first | omega | (simp; try omega))
        have r9_0_2 := xc9 (w.heap.size) 2 (by first | omega | (simp; try omega))
        have f9_0_2 := xf9 (w.heap.size) 2 (by first | omega | (simp; try omega))
        have l9_1 := xl9 (w.heap.size + 1) (by first | omega | (simp; try omega))
        have r9_1 := xc9 (w.heap.size + 1) 0 (by first | omega | (simp; try omega))
        have f9_1 := xf9 (w.heap.size + 1) 0 (by first | omega | (simp; try omega))
        have r9_1_1 := xc9 (w.heap.size + 1) 1 (by first | omega | (simp; try omega))
        have f9_1_1 := xf9 (w.heap.size + 1) 1 (by first | omega | (simp; try omega))
        have r9_1_2 := xc9 (w.heap.size + 1) 2 (by first | omega | (simp; try omega))
        have f9_1_2 := xf9 (w.heap.size + 1) 2 (by first | omega | (simp; try omega))
        have hE5' := hE5.out
        go_wp2_with (first
          | (go_at_call 52; (with_reducible refine (text_any A5 k5 c5 (dval H + 1) hF.out.2 _ (hR5.out.ext (by (repeat (first | exact ext_refl _ | assumption | refine ext_setCell ?_ (by simp; try omega) _ | refine ext_alloc ?_ _ | refine ext_drew ?_ | refine ext_drewN ?_ _ | refine ext_trans ?_ (Aft.use _) | refine ext_trans ?_ (by assumption)))))).mono ?_); rintro e w7 ⟨rfl, xb7⟩; obtain ⟨xc7, xf7, xl7, xz7⟩ := ext_use xb7; (try simp at xz7); have l7_0 := xl7 (w.heap.size) (by first | omega | (simp; try omega)); have r7_0 := xc7 (w.heap.size) 0 (by first | omega | (simp; try omega)); have f7_0 := xf7 (w.heap.size) 0 (by first | omega | (simp; try omega)); have r7_0_1 := xc7 (w.heap.size) 1 (by first | omega | (simp; try omega)); have f7_0_1 := xf7 (w.heap.size) 1 (by first | omega | (simp; try omega)); have r7_0_2 := xc7 (w.heap.size) 2 (by first | omega | (simp; try omega)); have f7_0_2 := xf7 (w.heap.size) 2 (by first | omega | (simp; try omega)); have l7_1 := xl7 (w.heap.size + 1) (by first | omega | (simp; try omega)); have r7_1 := xc7 (w.heap.size + 1) 0 (by first | omega | (simp; try omega)); have f7_1 := xf7 (w.heap.size + 1) 0 (by first | omega | (simp; try omega)); have r7_1_1 := xc7 (w.heap.size + 1) 1 (by first | omega | (simp; try omega)); have f7_1_1 := xf7 (w.heap.size + 1) 1 (by first | omega | (simp; try omega)); have r7_1_2 := xc7 (w.heap.size + 1) 2 (by first | omega | (simp; try omega)); have f7_1_2 := xf7 (w.heap.size + 1) 2 (by first | omega | (simp; try omega)))
          | (go_at_call 8; (with_reducible refine (rmake_any _ _ _ (by rw [hT1.out]; omega) _).mono ?_); rintro e w8 ⟨rfl, xb8⟩; obtain ⟨xc8, xf8, xl8, xz8⟩ := ext_use xb8; (try simp at xz8); have l8_0 := xl8 (w.heap.size + 1) (by first | omega | (simp; try omega)); have r8_0 := xc8 (w.heap.size + 1) 0 (by first | omega | (simp; try omega)); have f8_0 := xf8 (w.heap.size + 1) 0 (by first | omega | (simp; try omega)); have r8_0_1 := xc8 (w.heap.size + 1) 1 (by first | omega | (simp; try omega)); have f8_0_1 := xf8 (w.heap.size + 1) 1 (by first | omega | (simp; try omega)); have r8_0_2 := xc8 (w.heap.size + 1) 2 (by first | omega | (simp; try omega)); have f8_0_2 := xf8 (w.heap.size + 1) 2 (by first | omega | (simp; try omega)))
         )
        refine bodyPost_ret (v := .tuple #[dcV (mkD true (dtext (dval H + 1)) n), .int .i64 (mkE (dtext (dval H + 1)) n)]) ?h rfl ⟨by rw [hT1.out], ?_⟩
        case h => simp [results, Tryd.results29, go_sem, *]
        repeat (first | exact ext_refl _ | assumption | refine ext_setCell ?_ (by simp; try omega) _ | refine ext_alloc ?_ _ | refine ext_drew ?_ | refine ext_drewN ?_ _ | refine ext_trans ?_ (Aft.use _) | refine ext_trans ?_ (by assumption))
  · skip
    go_enter Tryd.func29, Tryd.ntmps29
    go_wp2
    go_quiet (fail)
    go_wp2
    go_quiet (fail)
    go_wp2_with (first
      | (go_at_call 48; (with_reducible refine (number_some H HDH.out (by omega) (by omega) _).mono ?_); rintro e w1 ⟨A, k, c, rfl, hR, xb1⟩; obtain ⟨xc1, xf1, xl1, xz1⟩ := ext_use xb1; (try simp at xz1); have l1_0 := xl1 (w.heap.size) (by first | omega | (simp; try omega)); have r1_0 := xc1 (w.heap.size) 0 (by first | omega | (simp; try omega)); have f1_0 := xf1 (w.heap.size) 0 (by first | omega | (simp; try omega)); have r1_0_1 := xc1 (w.heap.size) 1 (by first | omega | (simp; try omega)); have f1_0_1 := xf1 (w.heap.size) 1 (by first | omega | (simp; try omega)); have r1_0_2 := xc1 (w.heap.size) 2 (by first | omega | (simp; try omega)); have f1_0_2 := xf1 (w.heap.size) 2 (by first | omega | (simp; try omega)); have l1_1 := xl1 (w.heap.size + 1) (by first | omega | (simp; try omega)); have r1_1 := xc1 (w.heap.size + 1) 0 (by first | omega | (simp; try omega)); have f1_1 := xf1 (w.heap.size + 1) 0 (by first | omega | (simp; try omega)); have r1_1_1 := xc1 (w.heap.size + 1) 1 (by first | omega | (simp; try omega)); have f1_1_1 := xf1 (w.heap.size + 1) 1 (by first | omega | (simp; try omega)); have r1_1_2 := xc1 (w.heap.size + 1) 2 (by first | omega | (simp; try omega)); have f1_1_2 := xf1 (w.heap.size + 1) 2 (by first | omega | (simp; try omega)))
      | (go_at_call 49; (with_reducible refine (higher4 _ _ _ _).mono ?_); rintro e w' ⟨rfl, rfl⟩)
      | (go_at_call 52; (with_reducible refine (text_any A k c (dval H) hF.out.1 _ (hR.out.1.ext (by (repeat (first | exact ext_refl _ | assumption | refine ext_setCell ?_ (by simp; try omega) _ | refine ext_alloc ?_ _ | refine ext_drew ?_ | refine ext_drewN ?_ _ | refine ext_trans ?_ (Aft.use _) | refine ext_trans ?_ (by assumption)))))).mono ?_); rintro e w3 ⟨rfl, xb3⟩; obtain ⟨xc3, xf3, xl3, xz3⟩ := ext_use xb3; (try simp at xz3); have l3_0 := xl3 (w.heap.size) (by first | omega | (simp; try omega)); have r3_0 := xc3 (w.heap.size) 0 (by first | omega | (simp; try omega)); have f3_0 := xf3 (w.heap.size) 0 (by first | omega | (simp; try omega)); have r3_0_1 := xc3 (w.heap.size) 1 (by first | omega | (simp; try omega)); have f3_0_1 := xf3 (w.heap.size) 1 (by first | omega | (simp; try omega)); have r3_0_2 := xc3 (w.heap.size) 2 (by first | omega | (simp; try omega)); have f3_0_2 := xf3 (w.heap.size) 2 (by first | omega | (simp; try omega)); have l3_1 := xl3 (w.heap.size + 1) (by first | omega | (simp; try omega)); have r3_1 := xc3 (w.heap.size + 1) 0 (by first | omega | (simp; try omega)); have f3_1 := xf3 (w.heap.size + 1) 0 (by first | omega | (simp; try omega)); have r3_1_1 := xc3 (w.heap.size + 1) 1 (by first | omega | (simp; try omega)); have f3_1_1 := xf3 (w.heap.size + 1) 1 (by first | omega | (simp; try omega)); have r3_1_2 := xc3 (w.heap.size + 1) 2 (by first | omega | (simp; try omega)); have f3_1_2 := xf3 (w.heap.size + 1) 2 (by first | omega | (simp; try omega)))
      | (go_at_call 8; (with_reducible refine (rmake_any _ _ _ (by rw [hT0.out]; omega) _).mono ?_); rintro e w4 ⟨rfl, xb4⟩; obtain ⟨xc4, xf4, xl4, xz4⟩ := ext_use xb4; (try simp at xz4); have l4_0 := xl4 (w.heap.size + 1) (by first | omega | (simp; try omega)); have r4_0 := xc4 (w.heap.size + 1) 0 (by first | omega | (simp; try omega)); have f4_0 := xf4 (w.heap.size + 1) 0 (by first | omega | (simp; try omega)); have r4_0_1 := xc4 (w.heap.size + 1) 1 (by first | omega | (simp; try omega)); have f4_0_1 := xf4 (w.heap.size + 1) 1 (by first | omega | (simp; try omega)); have r4_0_2 := xc4 (w.heap.size + 1) 2 (by first | omega | (simp; try omega)); have f4_0_2 := xf4 (w.heap.size + 1) 2 (by first | omega | (simp; try omega)))
     )
    all_goals
      refine bodyPost_ret (v := .tuple #[dcV (mkD false (dtext (dval H)) n), .int .i64 (mkE (dtext (dval H)) n)]) ?h rfl ⟨by rw [hT0.out], ?_⟩
      case h => simp [results, Tryd.results29, go_sem, *]
      repeat (first | exact ext_refl _ | assumption | refine ext_setCell ?_ (by simp; try omega) _ | refine ext_alloc ?_ _ | refine ext_drew ?_ | refine ext_drewN ?_ _ | refine ext_trans ?_ (Aft.use _) | refine ext_trans ?_ (by assumption))
end Go.Proofs.YtmpgfibahdiblaaDoor
