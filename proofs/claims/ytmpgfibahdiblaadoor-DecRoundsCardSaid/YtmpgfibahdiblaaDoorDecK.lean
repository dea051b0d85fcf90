/- The document's cut ahead of all digits. -/
import Derived.Test.YtmpgfibahdiblaaDoorDecJ
import Derived.Deep.DeepCutAuto
import Derived.Deep.RegionWith
namespace Go.Proofs.YtmpgfibahdiblaaDoor
open Go.RowKit
attribute [local go_sem] bs_size bs_extract bs_get bs_append bs_toList const_get
attribute [local go_sem] sz2 sz3 sz4 sz5 sz6 sz7 sz8
set_option maxHeartbeats 4000000
set_option maxRecDepth 100000
attribute [local irreducible] Calls
theorem rcut_neg (neg : Bool) (l : List UInt8) (exp n : Int) (k : Int) (mode : Nat) (hok : Ok ⟨neg, l, exp⟩) (hm : mode ≤ 4) (hn : -4294967296 ≤ n ∧ n ≤ 4294967296) (hkk : (l.length : Int) - (n - exp) = k) (hk0 : k < 0) (w : World) :
    Calls Tryd.prog 29 #[dcV ⟨neg, l, exp⟩, .int .i64 n, .int .u8 (mode : Int)] w fun e w' => e = .returned (.tuple #[dcV (mkD neg (cutL neg l k mode) n), .int .i64 (mkE (cutL neg l k mode) n)]) ∧ Ext w w' := by
  obtain ⟨hl, hpos, hd, hld, he1, he2⟩ := hok
  simp only at hl hpos hd hld he1 he2
  have hk1 : ¬ 0 < k := by omega
  have hk2 : ¬ 0 ≤ k := by omega
  have hcs : (mode = 0 ∧ cutL neg l k mode = []) ∨ (mode = 1 ∧ cutL neg l k mode = []) ∨ (mode = 2 ∧ cutL neg l k mode = []) ∨
      (mode = 3 ∧ neg = false ∧ cutL neg l k mode = [49]) ∨ (mode = 3 ∧ neg = true ∧ cutL neg l k mode = []) ∨ (mode = 4 ∧ neg = true ∧ cutL neg l k mode = [49]) ∨ (mode = 4 ∧ neg = false ∧ cutL neg l k mode = []) := by
    have h0 : k.toNat = 0 := by omega
    unfold cutL upB
    rw [h0, List.take_zero, nx_nil]
    rcases (show mode = 0 ∨ mode = 1 ∨ mode = 2 ∨ mode = 3 ∨ mode = 4 by omega) with rfl | rfl | rfl | rfl | rfl <;> cases neg <;> simp [hk2]
  clear hd hld
  rcases hcs with ⟨rfl, E⟩ | ⟨rfl, E⟩ | ⟨rfl, E⟩ | ⟨rfl, rfl, E⟩ | ⟨rfl, rfl, E⟩ | ⟨rfl, rfl, E⟩ | ⟨rfl, rfl, E⟩
  all_goals rw [E]
  all_goals clear E
  · skip
    go_enter Tryd.func29, Tryd.ntmps29
    go_wp2
    go_quiet (fail)
    go_wp2_with (first
      | (go_at_call 48; (with_reducible refine (number_nil _).mono ?_); rintro e w1 ⟨rfl, xb1⟩; obtain ⟨xc1, xf1, xl1, xz1⟩ := ext_use xb1; (try simp at xz1); have l1_0 := xl1 (w.heap.size) (by first | omega | (simp; try omega)); have r1_0 := xc1 (w.heap.size) 0 (by first | omega | (simp; try omega)); have f1_0 := xf1 (w.heap.size) 0 (by first | omega | (simp; try omega)); have r1_0_1 := xc1 (w.heap.size) 1 (by first | omega | (simp; try omega)); have f1_0_1 := xf1 (w.heap.size) 1 (by first | omega | (simp; try omega)); have r1_0_2 := xc1 (w.heap.size) 2 (by first | omega | (simp; try omega)); have f1_0_2 := xf1 (w.heap.size) 2 (by first | omega | (simp; try omega)); have l1_1 := xl1 (w.heap.size + 1) (by first | omega | (simp; try omega)); have r1_1 := xc1 (w.heap.size + 1) 0 (by first | omega | (simp; try omega)); have f1_1 := xf1 (w.heap.size + 1) 0 (by first | omega | (simp; try omega)); have r1_1_1 := xc1 (w.heap.size + 1) 1 (by first | omega | (simp; try omega)); have f1_1_1 := xf1 (w.heap.size + 1) 1 (by first | omega | (simp; try omega)); have r1_1_2 := xc1 (w.heap.size + 1) 2 (by first | omega | (simp; try omega)); have f1_1_2 := xf1 (w.heap.size + 1) 2 (by first | omega | (simp; try omega)))
      | (go_at_call 49; (with_reducible refine (higher0 _ _ _ _).mono ?_); rintro e w' ⟨rfl, rfl⟩)
      | (go_at_call 52; (with_reducible refine (text_nil _).mono ?_); rintro e w3 ⟨rfl, xb3⟩; obtain ⟨xc3, xf3, xl3, xz3⟩ := ext_use xb3; (try simp at xz3); have l3_0 := xl3 (w.heap.size) (by first | omega | (simp; try omega)); have r3_0 := xc3 (w.heap.size) 0 (by first | omega | (simp; try omega)); have f3_0 := xf3 (w.heap.size) 0 (by first | omega | (simp; try omega)); have r3_0_1 := xc3 (w.heap.size) 1 (by first | omega | (simp; try omega)); have f3_0_1 := xf3 (w.heap.size) 1 (by first | omega | (simp; try omega)); have r3_0_2 := xc3 (w.heap.size) 2 (by first | omega | (simp; try omega)); have f3_0_2 := xf3 (w.heap.size) 2 (by first | omega | (simp; try omega)); have l3_1 := xl3 (w.heap.size + 1) (by first | omega | (simp; try omega)); have r3_1 := xc3 (w.heap.size + 1) 0 (by first | omega | (simp; try omega)); have f3_1 := xf3 (w.heap.size + 1) 0 (by first | omega | (simp; try omega)); have r3_1_1 := xc3 (w.heap.size + 1) 1 (by first | omega | (simp; try omega)); have f3_1_1 := xf3 (w.heap.size + 1) 1 (by first | omega | (simp; try omega)); have r3_1_2 := xc3 (w.heap.size + 1) 2 (by first | omega | (simp; try omega)); have f3_1_2 := xf3 (w.heap.size + 1) 2 (by first | omega | (simp; try omega)))
      | (go_at_call 8; (with_reducible refine (rmake_48 _ _ _).mono ?_); rintro e w4 ⟨rfl, xb4⟩; obtain ⟨xc4, xf4, xl4, xz4⟩ := ext_use xb4; (try simp at xz4); have l4_0 := xl4 (w.heap.size + 1) (by first | omega | (simp; try omega)); have r4_0 := xc4 (w.heap.size + 1) 0 (by first | omega | (simp; try omega)); have f4_0 := xf4 (w.heap.size + 1) 0 (by first | omega | (simp; try omega)); have r4_0_1 := xc4 (w.heap.size + 1) 1 (by first | omega | (simp; try omega)); have f4_0_1 := xf4 (w.heap.size + 1) 1 (by first | omega | (simp; try omega)); have r4_0_2 := xc4 (w.heap.size + 1) 2 (by first | omega | (simp; try omega)); have f4_0_2 := xf4 (w.heap.size + 1) 2 (by first | omega | (simp; try omega)))
     )
    all_goals
      refine bodyPost_ret (v := .tuple #[dcV (mkD neg [] n), .int .i64 (mkE [] n)]) ?h rfl ⟨rfl, ?_⟩
      case h => simp [results, Tryd.results29, go_sem, *]
      repeat (first | exact ext_refl _ | assumption | refine ext_setCell ?_ (by simp; try omega) _ | refine ext_alloc ?_ _ | refine ext_drew ?_ | refine ext_drewN ?_ _ | refine ext_trans ?_ (Aft.use _) | refine ext_trans ?_ (by assumption))
  · skip
    go_enter Tryd.func29, Tryd.ntmps29
    go_wp2
    go_quiet (fail)
    go_wp2_with (first
      | (go_at_call 48; (with_reducible refine (number_nil _).mono ?_); rintro e w1 ⟨rfl, xb1⟩; obtain ⟨xc1, xf1, xl1, xz1⟩ := ext_use xb1; (try simp at xz1); have l1_0 := xl1 (w.heap.size) (by first | omega | (simp; try omega)); have r1_0 := xc1 (w.heap.size) 0 (by first | omega | (simp; try omega)); have f1_0 := xf1 (w.heap.size) 0 (by first | omega | (simp; try omega)); have r1_0_1 := xc1 (w.heap.size) 1 (by first | omega | (simp; try omega)); have f1_0_1 := xf1 (w.heap.size) 1 (by first | omega | (simp; try omega)); have r1_0_2 := xc1 (w.heap.size) 2 (by first | omega | (simp; try omega)); have f1_0_2 := xf1 (w.heap.size) 2 (by first | omega | (simp; try omega)); have l1_1 := xl1 (w.heap.size + 1) (by first | omega | (simp; try omega)); have r1_1 := xc1 (w.heap.size + 1) 0 (by first | omega | (simp; try omega)); have f1_1 := xf1 (w.heap.size + 1) 0 (by first | omega | (simp; try omega)); have r1_1_1 := xc1 (w.heap.size + 1) 1 (by first | omega | (simp; try omega)); have f1_1_1 := xf1 (w.heap.size + 1) 1 (by first | omega | (simp; try omega)); have r1_1_2 := xc1 (w.heap.size + 1) 2 (by first | omega | (simp; try omega)); have f1_1_2 := xf1 (w.heap.size + 1) 2 (by first | omega | (simp; try omega)))
      | (go_at_call 49; (with_reducible refine (higher1 _ _ _ _).mono ?_); rintro e w' ⟨rfl, rfl⟩)
      | (go_at_call 52; (with_reducible refine (text_nil _).mono ?_); rintro e w3 ⟨rfl, xb3⟩; obtain ⟨xc3, xf3, xl3, xz3⟩ := ext_use xb3; (try simp at xz3); have l3_0 := xl3 (w.heap.size) (by first | omega | (simp; try omega)); have r3_0 := xc3 (w.heap.size) 0 (by first | omega | (simp; try omega)); have f3_0 := xf3 (w.heap.size) 0 (by first | omega | (simp; try omega)); have r3_0_1 := xc3 (w.heap.size) 1 (by first | omega | (simp; try omega)); have f3_0_1 := xf3 (w.heap.size) 1 (by first | omega | (simp; try omega)); have r3_0_2 := xc3 (w.heap.size) 2 (by first | omega | (simp; try omega)); have f3_0_2 := xf3 (w.heap.size) 2 (by first | omega | (simp; try omega)); have l3_1 := xl3 (w.heap.size + 1) (by first | omega | (simp; try omega)); have r3_1 := xc3 (w.heap.size + 1) 0 (by first | omega | (simp; try omega)); have f3_1 := xf3 (w.heap.size + 1) 0 (by first | omega | (simp; try omega)); have r3_1_1 := xc3 (w.heap.size + 1) 1 (by first | omega | (simp; try omega)); have f3_1_1 := xf3 (w.heap.size + 1) 1 (by first | omega | (simp; try omega)); have r3_1_2 := xc3 (w.heap.size + 1) 2 (by first | omega | (simp; try omega)); have f3_1_2 := xf3 (w.heap.size + 1) 2 (by first | omega | (simp; try omega)))
      | (go_at_call 8; (with_reducible refine (rmake_48 _ _ _).mono ?_); rintro e w4 ⟨rfl, xb4⟩; obtain ⟨xc4, xf4, xl4, xz4⟩ := ext_use xb4; (try simp at xz4); have l4_0 := xl4 (w.heap.size + 1) (by first | omega | (simp; try omega)); have r4_0 := xc4 (w.heap.size + 1) 0 (by first | omega | (simp; try omega)); have f4_0 := xf4 (w.heap.size + 1) 0 (by first | omega | (simp; try omega)); have r4_0_1 := xc4 (w.heap.size + 1) 1 (by first | omega | (simp; try omega)); have f4_0_1 := xf4 (w.heap.size + 1) 1 (by first | omega | (simp; try omega)); have r4_0_2 := xc4 (w.heap.size + 1) 2 (by first | omega | (simp; try omega)); have f4_0_2 := xf4 (w.heap.size + 1) 2 (by first | omega | (simp; try omega)))
     )
    all_goals
      refine bodyPost_ret (v := .tuple #[dcV (mkD neg [] n), .int .i64 (mkE [] n)]) ?h rfl ⟨rfl, ?_⟩
      case h => simp [results, Tryd.results29, go_sem, *]
      repeat (first | exact ext_refl _ | assumption | refine ext_setCell ?_ (by simp; try omega) _ | refine ext_alloc ?_ _ | refine ext_drew ?_ | refine ext_drewN ?_ _ | refine ext_trans ?_ (Aft.use _) | refine ext_trans ?_ (by assumption))
  · skip
    go_enter Tryd.func29, Tryd.ntmps29
    go_wp2
    go_quiet (fail)
    go_wp2_with (first
      | (go_at_call 48; (with_reducible refine (number_nil _).mono ?_); rintro e w1 ⟨rfl, xb1⟩; obtain ⟨xc1, xf1, xl1, xz1⟩ := ext_use xb1; (try simp at xz1); have l1_0 := xl1 (w.heap.size) (by first | omega | (simp; try omega)); have r1_0 := xc1 (w.heap.size) 0 (by first | omega | (simp; try omega)); have f1_0 := xf1 (w.heap.size) 0 (by first | omega | (simp; try omega)); have r1_0_1 := xc1 (w.heap.size) 1 (by first | omega | (simp; try omega)); have f1_0_1 := xf1 (w.heap.size) 1 (by first | omega | (simp; try omega)); have r1_0_2 := xc1 (w.heap.size) 2 (by first | omega | (simp; try omega)); have f1_0_2 := xf1 (w.heap.size) 2 (by first | omega | (simp; try omega)); have l1_1 := xl1 (w.heap.size + 1) (by first | omega | (simp; try omega)); have r1_1 := xc1 (w.heap.size + 1) 0 (by first | omega | (simp; try omega)); have f1_1 := xf1 (w.heap.size + 1) 0 (by first | omega | (simp; try omega)); have r1_1_1 := xc1 (w.heap.size + 1) 1 (by first | omega | (simp; try omega)); have f1_1_1 := xf1 (w.heap.size + 1) 1 (by first | omega | (simp; try omega)); have r1_1_2 := xc1 (w.heap.size + 1) 2 (by first | omega | (simp; try omega)); have f1_1_2 := xf1 (w.heap.size + 1) 2 (by first | omega | (simp; try omega)))
      | (go_at_call 49; (with_reducible refine (higher2 _ _ _ _).mono ?_); rintro e w' ⟨rfl, rfl⟩)
      | (go_at_call 52; (with_reducible refine (text_nil _).mono ?_); rintro e w3 ⟨rfl, xb3⟩; obtain ⟨xc3, xf3, xl3, xz3⟩ := ext_use xb3; (try simp at xz3); have l3_0 := xl3 (w.heap.size) (by first | omega | (simp; try omega)); have r3_0 := xc3 (w.heap.size) 0 (by first | omega | (simp; try omega)); have f3_0 := xf3 (w.heap.size) 0 (by first | omega | (simp; try omega)); have r3_0_1 := xc3 (w.heap.size) 1 (by first | omega | (simp; try omega)); have f3_0_1 := xf3 (w.heap.size) 1 (by first | omega | (simp; try omega)); have r3_0_2 := xc3 (w.heap.size) 2 (by first | omega | (simp; try omega)); have f3_0_2 := xf3 (w.heap.size) 2 (by first | omega | (simp; try omega)); have l3_1 := xl3 (w.heap.size + 1) (by first | omega | (simp; try omega)); have r3_1 := xc3 (w.heap.size + 1) 0 (by first | omega | (simp; try omega)); have f3_1 := xf3 (w.heap.size + 1) 0 (by first | omega | (simp; try omega)); have r3_1_1 := xc3 (w.heap.size + 1) 1 (by first | omega | (simp; try omega)); have f3_1_1 := xf3 (w.heap.size + 1) 1 (by first | omega | (simp; try omega)); have r3_1_2 := xc3 (w.heap.size + 1) 2 (by first | omega | (simp; try omega)); have f3_1_2 := xf3 (w.heap.size + 1) 2 (by first | omega | (simp; try omega)))
      | (go_at_call 8; (with_reducible refine (rmake_48 _ _ _).mono ?_); rintro e w4 ⟨rfl, xb4⟩; obtain ⟨xc4, xf4, xl4, xz4⟩ := ext_use xb4; (try simp at xz4); have l4_0 := xl4 (w.heap.size + 1) (by first | omega | (simp; try omega)); have r4_0 := xc4 (w.heap.size + 1) 0 (by first | omega | (simp; try omega)); have f4_0 := xf4 (w.heap.size + 1) 0 (by first | omega | (simp; try omega)); have r4_0_1 := xc4 (w.heap.size + 1) 1 (by first | omega | (simp; try omega)); have f4_0_1 := xf4 (w.heap.size + 1) 1 (by first | omega | (simp; try omega)); have r4_0_2 := xc4 (w.heap.size + 1) 2 (by first | omega | (simp; try omega)); have f4_0_2 := xf4 (w.heap.size + 1) 2 (by first | omega | (simp; try omega)))
     )
    all_goals
      refine bodyPost_ret (v := .tuple #[dcV (mkD neg [] n), .int .i64 (mkE [] n)]) ?h rfl ⟨rfl, ?_⟩
      case h => simp [results, Tryd.results29, go_sem, *]
      repeat (first | exact ext_refl _ | assumption | refine ext_setCell ?_ (by simp; try omega) _ | refine ext_alloc ?_ _ | refine ext_drew ?_ | refine ext_drewN ?_ _ | refine ext_trans ?_ (Aft.use _) | refine ext_trans ?_ (by assumption))
  · skip
    go_enter Tryd.func29, Tryd.ntmps29
    go_wp2
    go_quiet (fail)
    go_wp2_with (first
      | (go_at_call 48; (with_reducible refine (number_nil _).mono ?_); rintro e w1 ⟨rfl, xb1⟩; obtain ⟨xc1, xf1, xl1, xz1⟩ := ext_use xb1; (try simp at xz1); have l1_0 := xl1 (w.heap.size) (by first | omega | (simp; try omega)); have r1_0 := xc1 (w.heap.size) 0 (by first | omega | (simp; try omega)); have f1_0 := xf1 (w.heap.size) 0 (by first | omega | (simp; try omega)); have r1_0_1 := xc1 (w.heap.size) 1 (by first | omega | (simp; try omega)); have f1_0_1 := xf1 (w.heap.size) 1 (by first | omega | (simp; try omega)); have r1_0_2 := xc1 (w.heap.size) 2 (by first | omega | (simp; try omega)); have f1_0_2 := xf1 (w.heap.size) 2 (by first | omega | (simp; try omega)); have l1_1 := xl1 (w.heap.size + 1) (by first | omega | (simp; try omega)); have r1_1 := xc1 (w.heap.size + 1) 0 (by first | omega | (simp; try omega)); have f1_1 := xf1 (w.heap.size + 1) 0 (by first | omega | (simp; try omega)); have r1_1_1 := xc1 (w.heap.size + 1) 1 (by first | omega | (simp; try omega)); have f1_1_1 := xf1 (w.heap.size + 1) 1 (by first | omega | (simp; try omega)); have r1_1_2 := xc1 (w.heap.size + 1) 2 (by first | omega | (simp; try omega)); have f1_1_2 := xf1 (w.heap.size + 1) 2 (by first | omega | (simp; try omega)))
      | (go_at_call 49; (with_reducible refine (higher3 _ _ _ _).mono ?_); rintro e w' ⟨rfl, rfl⟩)
     )
    all_goals
      go_cut [13] (fun p wc => ∃ (A5 : Option Addr) (k5 c5 : Nat), p = .pointer (some ⟨w1.heap.size, 0, none⟩) ∧ wc.cell? ⟨w1.heap.size, 0, none⟩ = some (.slice A5 k5 c5) ∧ wc.frozen? ⟨w1.heap.size, 0, none⟩ = false ∧ w1.heap.size < wc.heap.size ∧ Hid (Rd wc A5 k5 c5 (lim 1)) ∧ Hid (Ext w1 wc))
      case first =>
        go_region_with (first
          | (go_at_call 51; (with_reducible refine (one_any _).mono ?_); rintro e w5 ⟨A5, k5, c5, rfl, hR5, xb5⟩; obtain ⟨xc5, xf5, xl5, xz5⟩ := ext_use xb5; (try simp at xz5); have l5_0 := xl5 (w1.heap.size) (by first | omega | (simp; try omega)); have r5_0 := xc5 (w1.heap.size) 0 (by first | omega | (simp; try omega)); have f5_0 := xf5 (w1.heap.size) 0 (by first | omega | (simp; try omega)))
          | (go_at_call 50; (with_reducible refine (more_nil A5 k5 c5 _ (Lib.hid (hR5.out.ext (by (repeat (first | exact ext_refl _ | assumption | refine ext_setCell ?_ (by simp; try omega) _ | refine ext_alloc ?_ _ | refine ext_drew ?_ | refine ext_drewN ?_ _ | refine ext_trans ?_ (Aft.use _) | refine ext_trans ?_ (by assumption))))))).mono ?_); rintro e w6 ⟨A6, k6, c6, rfl, hR6, xb6⟩; obtain ⟨xc6, xf6, xl6, xz6⟩ := ext_use xb6; (try simp at xz6); have l6_0 := xl6 (w1.heap.size) (by first | omega | (simp; try omega)); have r6_0 := xc6 (w1.heap.size) 0 (by first | omega | (simp; try omega)); have f6_0 := xf6 (w1.heap.size) 0 (by first | omega | (simp; try omega)))
         )
        all_goals
          go_wp2_with fail
          go_meet
          case rel =>
            refine ⟨A6, k6, c6, rfl, ?_, ?_, ?_, Lib.hid (hR6.out.1.set _ (fun a ha => by have := hR6.out.2 a ha; simp at this ⊢; omega)), (show Ext _ _ by (repeat (first | exact ext_refl _ | assumption | refine ext_setCell ?_ (by simp; try omega) _ | refine ext_alloc ?_ _ | refine ext_drew ?_ | refine ext_drewN ?_ _ | refine ext_trans ?_ (Aft.use _) | refine ext_trans ?_ (by assumption))))⟩
            all_goals go_simp
      case rest =>
        obtain ⟨A5, k5, c5, rfl, hc5, hf5, hl5, hR5, hE5⟩ := hcut
        obtain ⟨xc9, xf9, xl9, xz9⟩ := ext_use (hE5.out)
        have l9_0 := xl9 (w.heap.size) (by first | omega | (simp; try omega))
        have r9_0 := xc9 (w.heap.size) 0 (by first | omega | (simp; try omega))
        have f9_0 := xf9 (w.heap.size) 0 (by first | omega | (simp; try omega))
        have r9_0_1 := xc9 (w.heap.size) 1 (by first | omega | (simp; try omega))
        have f9_0_1 := xf9 (w.heap.size) 1 (by first | omega | (simp; try omega))
        have r9_0_2 := xc9 (w.heap.size) 2 (by first | omega | (simp; try omega))
        have f9_0_2 := xf9 (w.heap.size) 2 (by first | omega | (simp; try omega))
        have l9_1 := xl9 (w.heap.size + 1) (by first | omega | (simp; try omega))
        have r9_1 := xc9 (w.heap.size + 1) 0 (by first | omega | (simp; try omega))
        have f9_1 := xf9 (w.heap.size + 1) 0 (by first | omega | (simp; try omega))
        have r9_1_1 := xc9 (w.heap.size + 1) 1 (by first | omega | (simp; try omega))
        have f9_1_1 := xf9 (w.heap.size + 1) 1 (by first | omega | (simp; try omega))
        have r9_1_2 := xc9 (w.heap.size + 1) 2 (by first | omega | (simp; try omega))
        have f9_1_2 := xf9 (w.heap.size + 1) 2 (by first | omega | (simp; try omega))
        have hE5' := hE5.out
        go_wp2_with (first
          | (go_at_call 52; (with_reducible refine (text_one A5 k5 c5 _ (Lib.hid (hR5.out.ext (by (repeat (first | exact ext_refl _ | assumption | refine ext_setCell ?_ (by simp; try omega) _ | refine ext_alloc ?_ _ | refine ext_drew ?_ | refine ext_drewN ?_ _ | refine ext_trans ?_ (Aft.use _) | refine ext_trans ?_ (by assumption))))))).mono ?_); rintro e w7 ⟨rfl, xb7⟩; obtain ⟨xc7, xf7, xl7, xz7⟩ := ext_use xb7; (try simp at xz7); have l7_0 := xl7 (w.heap.size) (by first | omega | (simp; try omega)); have r7_0 := xc7 (w.heap.size) 0 (by first | omega | (simp; try omega)); have f7_0 := xf7 (w.heap.size) 0 (by first | omega | (simp; try omega)); have r7_0_1 := xc7 (w.heap.size) 1 (by first | omega | (simp; try omega)); have f7_0_1 := xf7 (w.heap.size) 1 (by first | omega | (simp; try omega)); have r7_0_2 := xc7 (w.heap.size) 2 (by first | omega | (simp; try omega)); have f7_0_2 := xf7 (w.heap.size) 2 (by first | omega | (simp; try omega)); have l7_1 := xl7 (w.heap.size + 1) (by first | omega | (simp; try omega)); have r7_1 := xc7 (w.heap.size + 1) 0 (by first | omega | (simp; try omega)); have f7_1 := xf7 (w.heap.size + 1) 0 (by first | omega | (simp; try omega)); have r7_1_1 := xc7 (w.heap.size + 1) 1 (by first | omega | (simp; try omega)); have f7_1_1 := xf7 (w.heap.size + 1) 1 (by first | omega | (simp; try omega)); have r7_1_2 := xc7 (w.heap.size + 1) 2 (by first | omega | (simp; try omega)); have f7_1_2 := xf7 (w.heap.size + 1) 2 (by first | omega | (simp; try omega)))
          | (go_at_call 8; (with_reducible refine (rmake_any _ _ _ (by simp) _).mono ?_); rintro e w8 ⟨rfl, xb8⟩; obtain ⟨xc8, xf8, xl8, xz8⟩ := ext_use xb8; (try simp at xz8); have l8_0 := xl8 (w.heap.size + 1) (by first | omega | (simp; try omega)); have r8_0 := xc8 (w.heap.size + 1) 0 (by first | omega | (simp; try omega)); have f8_0 := xf8 (w.heap.size + 1) 0 (by first | omega | (simp; try omega)); have r8_0_1 := xc8 (w.heap.size + 1) 1 (by first | omega | (simp; try omega)); have f8_0_1 := xf8 (w.heap.size + 1) 1 (by first | omega | (simp; try omega)); have r8_0_2 := xc8 (w.heap.size + 1) 2 (by first | omega | (simp; try omega)); have f8_0_2 := xf8 (w.heap.size + 1) 2 (by first | omega | (simp; try omega)))
         )
        refine bodyPost_ret (v := .tuple #[dcV (mkD false [49] n), .int .i64 (mkE [49] n)]) ?h rfl ⟨rfl, ?_⟩
        case h => simp [results, Tryd.results29, go_sem, *]
        repeat (first | exact ext_refl _ | assumption | refine ext_setCell ?_ (by simp; try omega) _ | refine ext_alloc ?_ _ | refine ext_drew ?_ | refine ext_drewN ?_ _ | refine ext_trans ?_ (Aft.use _) | refine ext_trans ?_ (by assumption))
  · skip
    go_enter Tryd.func29, Tryd.ntmps29
    go_wp2
    go_quiet (fail)
    go_wp2_with (first
      | (go_at_call 48; (with_reducible refine (number_nil _).mono ?_); rintro e w1 ⟨rfl, xb1⟩; obtain ⟨xc1, xf1, xl1, xz1⟩ := ext_use xb1; (try simp at xz1); have l1_0 := xl1 (w.heap.size) (by first | omega | (simp; try omega)); have r1_0 := xc1 (w.heap.size) 0 (by first | omega | (simp; try omega)); have f1_0 := xf1 (w.heap.size) 0 (by first | omega | (simp; try omega)); have r1_0_1 := xc1 (w.heap.size) 1 (by first | omega | (simp; try omega)); have f1_0_1 := xf1 (w.heap.size) 1 (by first | omega | (simp; try omega)); have r1_0_2 := xc1 (w.heap.size) 2 (by first | omega | (simp; try omega)); have f1_0_2 := xf1 (w.heap.size) 2 (by first | omega | (simp; try omega)); have l1_1 := xl1 (w.heap.size + 1) (by first | omega | (simp; try omega)); have r1_1 := xc1 (w.heap.size + 1) 0 (by first | omega | (simp; try omega)); have f1_1 := xf1 (w.heap.size + 1) 0 (by first | omega | (simp; try omega)); have r1_1_1 := xc1 (w.heap.size + 1) 1 (by first | omega | (simp; try omega)); have f1_1_1 := xf1 (w.heap.size + 1) 1 (by first | omega | (simp; try omega)); have r1_1_2 := xc1 (w.heap.size + 1) 2 (by first | omega | (simp; try omega)); have f1_1_2 := xf1 (w.heap.size + 1) 2 (by first | omega | (simp; try omega)))
      | (go_at_call 49; (with_reducible refine (higher3 _ _ _ _).mono ?_); rintro e w' ⟨rfl, rfl⟩)
      | (go_at_call 52; (with_reducible refine (text_nil _).mono ?_); rintro e w3 ⟨rfl, xb3⟩; obtain ⟨xc3, xf3, xl3, xz3⟩ := ext_use xb3; (try simp at xz3); have l3_0 := xl3 (w.heap.size) (by first | omega | (simp; try omega)); have r3_0 := xc3 (w.heap.size) 0 (by first | omega | (simp; try omega)); have f3_0 := xf3 (w.heap.size) 0 (by first | omega | (simp; try omega)); have r3_0_1 := xc3 (w.heap.size) 1 (by first | omega | (simp; try omega)); have f3_0_1 := xf3 (w.heap.size) 1 (by first | omega | (simp; try omega)); have r3_0_2 := xc3 (w.heap.size) 2 (by first | omega | (simp; try omega)); have f3_0_2 := xf3 (w.heap.size) 2 (by first | omega | (simp; try omega)); have l3_1 := xl3 (w.heap.size + 1) (by first | omega | (simp; try omega)); have r3_1 := xc3 (w.heap.size + 1) 0 (by first | omega | (simp; try omega)); have f3_1 := xf3 (w.heap.size + 1) 0 (by first | omega | (simp; try omega)); have r3_1_1 := xc3 (w.heap.size + 1) 1 (by first | omega | (simp; try omega)); have f3_1_1 := xf3 (w.heap.size + 1) 1 (by first | omega | (simp; try omega)); have r3_1_2 := xc3 (w.heap.size + 1) 2 (by first | omega | (simp; try omega)); have f3_1_2 := xf3 (w.heap.size + 1) 2 (by first | omega | (simp; try omega)))
      | (go_at_call 8; (with_reducible refine (rmake_48 _ _ _).mono ?_); rintro e w4 ⟨rfl, xb4⟩; obtain ⟨xc4, xf4, xl4, xz4⟩ := ext_use xb4; (try simp at xz4); have l4_0 := xl4 (w.heap.size + 1) (by first | omega | (simp; try omega)); have r4_0 := xc4 (w.heap.size + 1) 0 (by first | omega | (simp; try omega)); have f4_0 := xf4 (w.heap.size + 1) 0 (by first | omega | (simp; try omega)); have r4_0_1 := xc4 (w.heap.size + 1) 1 (by first | omega | (simp; try omega)); have f4_0_1 := xf4 (w.heap.size + 1) 1 (by first | omega | (simp; try omega)); have r4_0_2 := xc4 (w.heap.size + 1) 2 (by first | omega | (simp; try omega)); have f4_0_2 := xf4 (w.heap.size + 1) 2 (by first | omega | (simp; try omega)))
     )
    all_goals
      refine bodyPost_ret (v := .tuple #[dcV (mkD true [] n), .int .i64 (mkE [] n)]) ?h rfl ⟨rfl, ?_⟩
      case h => simp [results, Tryd.results29, go_sem, *]
      repeat (first | exact ext_refl _ | assumption | refine ext_setCell ?_ (by simp; try omega) _ | refine ext_alloc ?_ _ | refine ext_drew ?_ | refine ext_drewN ?_ _ | refine ext_trans ?_ (Aft.use _) | refine ext_trans ?_ (by assumption))
  · skip
    go_enter Tryd.func29, Tryd.ntmps29
    go_wp2
    go_quiet (fail)
    go_wp2_with (first
      | (go_at_call 48; (with_reducible refine (number_nil _).mono ?_); rintro e w1 ⟨rfl, xb1⟩; obtain ⟨xc1, xf1, xl1, xz1⟩ := ext_use xb1; (try simp at xz1); have l1_0 := xl1 (w.heap.size) (by first | omega | (simp; try omega)); have r1_0 := xc1 (w.heap.size) 0 (by first | omega | (simp; try omega)); have f1_0 := xf1 (w.heap.size) 0 (by first | omega | (simp; try omega)); have r1_0_1 := xc1 (w.heap.size) 1 (by first | omega | (simp; try omega)); have f1_0_1 := xf1 (w.heap.size) 1 (by first | omega | (simp; try omega)); have r1_0_2 := xc1 (w.heap.size) 2 (by first | omega | (simp; try omega)); have f1_0_2 := xf1 (w.heap.size) 2 (by first | omega | (simp; try omega)); have l1_1 := xl1 (w.heap.size + 1) (by first | omega | (simp; try omega)); have r1_1 := xc1 (w.heap.size + 1) 0 (by first | omega | (simp; try omega)); have f1_1 := xf1 (w.heap.size + 1) 0 (by first | omega | (simp; try omega)); have r1_1_1 := xc1 (w.heap.size + 1) 1 (by first | omega | (simp; try omega)); have f1_1_1 := xf1 (w.heap.size + 1) 1 (by first | omega | (simp; try omega)); have r1_1_2 := xc1 (w.heap.size + 1) 2 (by first | omega | (simp; try omega)); have f1_1_2 := xf1 (w.heap.size + 1) 2 (by first | omega | (simp; try omega)))
      | (go_at_call 49; (with_reducible refine (higher4 _ _ _ _).mono ?_); rintro e w' ⟨rfl, rfl⟩)
     )
    all_goals
      go_cut [13] (fun p wc => ∃ (A5 : Option Addr) (k5 c5 : Nat), p = .pointer (some ⟨w1.heap.size, 0, none⟩) ∧ wc.cell? ⟨w1.heap.size, 0, none⟩ = some (.slice A5 k5 c5) ∧ wc.frozen? ⟨w1.heap.size, 0, none⟩ = false ∧ w1.heap.size < wc.heap.size ∧ Hid (Rd wc A5 k5 c5 (lim 1)) ∧ Hid (Ext w1 wc))
      case first =>
        go_region_with (first
          | (go_at_call 51; (with_reducible refine (one_any _).mono ?_); rintro e w5 ⟨A5, k5, c5, rfl, hR5, xb5⟩; obtain ⟨xc5, xf5, xl5, xz5⟩ := ext_use xb5; (try simp at xz5); have l5_0 := xl5 (w1.heap.size) (by first | omega | (simp; try omega)); have r5_0 := xc5 (w1.heap.size) 0 (by first | omega | (simp; try omega)); have f5_0 := xf5 (w1.heap.size) 0 (by first | omega | (simp; try omega)))
          | (go_at_call 50; (with_reducible refine (more_nil A5 k5 c5 _ (Lib.hid (hR5.out.ext (by (repeat (first | exact ext_refl _ | assumption | refine ext_setCell ?_ (by simp; try omega) _ | refine ext_alloc ?_ _ | refine ext_drew ?_ | refine ext_drewN ?_ _ | refine ext_trans ?_ (Aft.use _) | refine ext_trans ?_ (by assumption))))))).mono ?_); rintro e w6 ⟨A6, k6, c6, rfl, hR6, xb6⟩; obtain ⟨xc6, xf6, xl6, xz6⟩ := ext_use xb6; (try simp at xz6); have l6_0 := xl6 (w1.heap.size) (by first | omega | (simp; try omega)); have r6_0 := xc6 (w1.heap.size) 0 (by first | omega | (simp; try omega)); have f6_0 := xf6 (w1.heap.size) 0 (by first | omega | (simp; try omega)))
         )
        all_goals
          go_wp2_with fail
          go_meet
          case rel =>
            refine ⟨A6, k6, c6, rfl, ?_, ?_, ?_, Lib.hid (hR6.out.1.set _ (fun a ha => by have := hR6.out.2 a ha; simp at this ⊢; omega)), (show Ext _ _ by (repeat (first | exact ext_refl _ | assumption | refine ext_setCell ?_ (by simp; try omega) _ | refine ext_alloc ?_ _ | refine ext_drew ?_ | refine ext_drewN ?_ _ | refine ext_trans ?_ (Aft.use _) | refine ext_trans ?_ (by assumption))))⟩
            all_goals go_simp
      case rest =>
        obtain ⟨A5, k5, c5, rfl, hc5, hf5, hl5, hR5, hE5⟩ := hcut
        obtain ⟨xc9, xf9, xl9, xz9⟩ := ext_use (hE5.out)
        have l9_0 := xl9 (w.heap.size) (by first | omega | (simp; try omega))
        have r9_0 := xc9 (w.heap.size) 0 (by first | omega | (simp; try omega))
        have f9_0 := xf9 (w.heap.size) 0 (by first | omega | (simp; try omega))
        have r9_0_1 := xc9 (w.heap.size) 1 (by first | omega | (simp; try omega))
        have f9_0_1 := xf9 (w.heap.size) 1 (by first | omega | (simp; try omega))
        have r9_0_2 := xc9 (w.heap.size) 2 (by first | omega | (simp; try omega))
        have f9_0_2 := xf9 (w.heap.size) 2 (by first | omega | (simp; try omega))
        have l9_1 := xl9 (w.heap.size + 1) (by first | omega | (simp; try omega))
        have r9_1 := xc9 (w.heap.size + 1) 0 (by first | omega | (simp; try omega))
        have f9_1 := xf9 (w.heap.size + 1) 0 (by first | omega | (simp; try omega))
        have r9_1_1 := xc9 (w.heap.size + 1) 1 (by first | omega | (simp; try omega))
        have f9_1_1 := xf9 (w.heap.size + 1) 1 (by first | omega | (simp; try omega))
        have r9_1_2 := xc9 (w.heap.size + 1) 2 (by first | omega | (simp; try omega))
        have f9_1_2 := xf9 (w.heap.size + 1) 2 (by first | omega | (simp; try omega))
        have hE5' := hE5.out
        go_wp2_with (first
          | (go_at_call 52; (with_reducible refine (text_one A5 k5 c5 _ (Lib.hid (hR5.out.ext (by (repeat (first | exact ext_refl _ | assumption | refine ext_setCell ?_ (by simp; try omega) _ | refine ext_alloc ?_ _ | refine ext_drew ?_ | refine ext_drewN ?_ _ | refine ext_trans ?_ (Aft.use _) | refine ext_trans ?_ (by assumption))))))).mono ?_); rintro e w7 ⟨rfl, xb7⟩; obtain ⟨xc7, xf7, xl7, xz7⟩ := ext_use xb7; (try simp at xz7); have l7_0 := xl7 (w.heap.size) (by first | omega | (simp; try omega)); have r7_0 := xc7 (w.heap.size) 0 (by first | omega | (simp; try omega)); have f7_0 := xf7 (w.heap.size) 0 (by first | omega | (simp; try omega)); have r7_0_1 := xc7 (w.heap.size) 1 (by first | omega | (simp; try omega)); have f7_0_1 := xf7 (w.heap.size) 1 (by first | omega | (simp; try omega)); have r7_0_2 := xc7 (w.heap.size) 2 (by first | omega | (simp; try omega)); have f7_0_2 := xf7 (w.heap.size) 2 (by first | omega | (simp; try omega)); have l7_1 := xl7 (w.heap.size + 1) (by first | omega | (simp; try omega)); have r7_1 := xc7 (w.heap.size + 1) 0 (by first | omega | (simp; try omega)); have f7_1 := xf7 (w.heap.size + 1) 0 (by first | omega | (simp; try omega)); have r7_1_1 := xc7 (w.heap.size + 1) 1 (by first | omega | (simp; try omega)); have f7_1_1 := xf7 (w.heap.size + 1) 1 (by first | omega | (simp; try omega)); have r7_1_2 := xc7 (w.heap.size + 1) 2 (by first | omega | (simp; try omega)); have f7_1_2 := xf7 (w.heap.size + 1) 2 (by first | omega | (simp; try omega)))
          | (go_at_call 8; (with_reducible refine (rmake_any _ _ _ (by simp) _).mono ?_); rintro e w8 ⟨rfl, xb8⟩; obtain ⟨xc8, xf8, xl8, xz8⟩ := ext_use xb8; (try simp at xz8); have l8_0 := xl8 (w.heap.size + 1) (by first | omega | (simp; try omega)); have r8_0 := xc8 (w.heap.size + 1) 0 (by first | omega | (simp; try omega)); have f8_0 := xf8 (w.heap.size + 1) 0 (by first | omega | (simp; try omega)); have r8_0_1 := xc8 (w.heap.size + 1) 1 (by first | omega | (simp; try omega)); have f8_0_1 := xf8 (w.heap.size + 1) 1 (by first | omega | (simp; try omega)); have r8_0_2 := xc8 (w.heap.size + 1) 2 (by first | omega | (simp; try omega)); have f8_0_2 := xf8 (w.heap.size + 1) 2 (by first | omega | (simp; try omega)))
         )
        refine bodyPost_ret (v := .tuple #[dcV (mkD true [49] n), .int .i64 (mkE [49] n)]) ?h rfl ⟨rfl, ?_⟩
        case h => simp [results, Tryd.results29, go_sem, *]
        repeat (first | exact ext_refl _ | assumption | refine ext_setCell ?_ (by simp; try omega) _ | refine ext_alloc ?_ _ | refine ext_drew ?_ | refine ext_drewN ?_ _ | refine ext_trans ?_ (Aft.use _) | refine ext_trans ?_ (by assumption))
  · skip
    go_enter Tryd.func29, Tryd.ntmps29
    go_wp2
    go_quiet (fail)
    go_wp2_with (first
      | (go_at_call 48; (with_reducible refine (number_nil _).mono ?_); rintro e w1 ⟨rfl, xb1⟩; obtain ⟨xc1, xf1, xl1, xz1⟩ := ext_use xb1; (try simp at xz1); have l1_0 := xl1 (w.heap.size) (by first | omega | (simp; try omega)); have r1_0 := xc1 (w.heap.size) 0 (by first | omega | (simp; try omega)); have f1_0 := xf1 (w.heap.size) 0 (by first | omega | (simp; try omega)); have r1_0_1 := xc1 (w.heap.size) 1 (by first | omega | (simp; try omega)); have f1_0_1 := xf1 (w.heap.size) 1 (by first | omega | (simp; try omega)); have r1_0_2 := xc1 (w.heap.size) 2 (by first | omega | (simp; try omega)); have f1_0_2 := xf1 (w.heap.size) 2 (by first | omega | (simp; try omega)); have l1_1 := xl1 (w.heap.size + 1) (by first | omega | (simp; try omega)); have r1_1 := xc1 (w.heap.size + 1) 0 (by first | omega | (simp; try omega)); have f1_1 := xf1 (w.heap.size + 1) 0 (by first | omega | (simp; try omega)); have r1_1_1 := xc1 (w.heap.size + 1) 1 (by first | omega | (simp; try omega)); have f1_1_1 := xf1 (w.heap.size + 1) 1 (by first | omega | (simp; try omega)); have r1_1_2 := xc1 (w.heap.size + 1) 2 (by first | omega | (simp; try omega)); have f1_1_2 := xf1 (w.heap.size + 1) 2 (by first | omega | (simp; try omega)))
      | (go_at_call 49; (with_reducible refine (higher4 _ _ _ _).mono ?_); rintro e w' ⟨rfl, rfl⟩)
      | (go_at_call 52; (with_reducible refine (text_nil _).mono ?_); rintro e w3 ⟨rfl, xb3⟩; obtain ⟨xc3, xf3, xl3, xz3⟩ := ext_use xb3; (try simp at xz3); have l3_0 := xl3 (w.heap.size) (by first | omega | (simp; try omega)); have r3_0 := xc3 (w.heap.size) 0 (by first | omega | (simp; try omega)); have f3_0 := xf3 (w.heap.size) 0 (by first | omega | (simp; try omega)); have r3_0_1 := xc3 (w.heap.size) 1 (by first | omega | (simp; try omega)); have f3_0_1 := xf3 (w.heap.size) 1 (by first | omega | (simp; try omega)); have r3_0_2 := xc3 (w.heap.size) 2 (by first | omega | (simp; try omega)); have f3_0_2 := xf3 (w.heap.size) 2 (by first | omega | (simp; try omega)); have l3_1 := xl3 (w.heap.size + 1) (by first | omega | (simp; try omega)); have r3_1 := xc3 (w.heap.size + 1) 0 (by first | omega | (simp; try omega)); have f3_1 := xf3 (w.heap.size + 1) 0 (by first | omega | (simp; try omega)); have r3_1_1 := xc3 (w.heap.size + 1) 1 (by first | omega | (simp; try omega)); have f3_1_1 := xf3 (w.heap.size + 1) 1 (by first | omega | (simp; try omega)); have r3_1_2 := xc3 (w.heap.size + 1) 2 (by first | omega | (simp; try omega)); have f3_1_2 := xf3 (w.heap.size + 1) 2 (by first | omega | (simp; try omega)))
      | (go_at_call 8; (with_reducible refine (rmake_48 _ _ _).mono ?_); rintro e w4 ⟨rfl, xb4⟩; obtain ⟨xc4, xf4, xl4, xz4⟩ := ext_use xb4; (try simp at xz4); have l4_0 := xl4 (w.heap.size + 1) (by first | omega | (simp; try omega)); have r4_0 := xc4 (w.heap.size + 1) 0 (by first | omega | (simp; try omega)); have f4_0 := xf4 (w.heap.size + 1) 0 (by first | omega | (simp; try omega)); have r4_0_1 := xc4 (w.heap.size + 1) 1 (by first | omega | (simp; try omega)); have f4_0_1 := xf4 (w.heap.size + 1) 1 (by first | omega | (simp; try omega)); have r4_0_2 := xc4 (w.heap.size + 1) 2 (by first | omega | (simp; try omega)); have f4_0_2 := xf4 (w.heap.size + 1) 2 (by first | omega | (simp; try omega)))
     )
    all_goals
      refine bodyPost_ret (v := .tuple #[dcV (mkD false [] n), .int .i64 (mkE [] n)]) ?h rfl ⟨rfl, ?_⟩
      case h => simp [results, Tryd.results29, go_sem, *]
      repeat (first | exact ext_refl _ | assumption | refine ext_setCell ?_ (by simp; try omega) _ | refine ext_alloc ?_ _ | refine ext_drew ?_ | refine ext_drewN ?_ _ | refine ext_trans ?_ (Aft.use _) | refine ext_trans ?_ (by assumption))
end Go.Proofs.YtmpgfibahdiblaaDoor
