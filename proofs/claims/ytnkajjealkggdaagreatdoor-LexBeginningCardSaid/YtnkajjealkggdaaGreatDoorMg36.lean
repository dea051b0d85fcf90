/- Lemmas of this proof, laid together: LexTailW, LexBeginningW. -/
import Derived.Test.YtnkajjealkggdaaGreatDoorMg33
import Derived.Test.YtnkajjealkggdaaGreatDoorMg35
import Derived.Test.YtnkajjealkggdaaGreatDoorMg02
import Derived.Deep.DeepCutAuto
import Derived.Deep.RegionWith
import Derived.Test.YtnkajjealkggdaaGreatDoorMg28
import Derived.Deep.LoopGhost
set_option linter.unusedSimpArgs false
set_option linter.unusedVariables false
section
/- LexTail: the walk. -/
namespace Go.Proofs.YtnkajjealkggdaaGreatDoor
open Go.RowKit
attribute [local go_sem] bs_size bs_extract bs_get bs_append bs_toList const_get
attribute [local go_sem] sz2 sz3 sz4 sz5 sz6 sz7 sz8 sz9 sz10
attribute [local irreducible] Calls
set_option maxHeartbeats 4000000
set_option maxRecDepth 100000
abbrev n0V (A : Option Addr) (n k : Nat) : Value := .agg #[.int .u8 0, .bool false, .bool false, .string ⟨#[]⟩, .int .i64 0, .bool false, .slice A n k, .int .i64 0, .int .u64 0]
theorem lt_read (l : List UInt8) (hl : l.length ≤ 1000000) (w : World) (hT : LxT w) (c a : Nat) (h0 : c ≠ 0) (h : (readV false l).2 = (c, a)) : Calls Tryz.prog 13 #[.string (bs l)] w fun e w' => ∃ A n k b, e = .returned (.tuple #[n0V A n k, .iface 67 (.pointer (some ⟨b, 0, none⟩))]) ∧ Hid (EIs w' (.iface 67 (.pointer (some ⟨b, 0, none⟩))) c a) ∧ Ext w w' := by
  have h9 := lx_Read l (by omega) w hT
  refine h9.mono fun e w' ⟨A, n, k, v, e1, e2, e3, e4⟩ => ?_
  have hn : (readV false l).1 = num0 := (read_err (by rw [h]; exact h0)).1
  have e5 := e3.out
  rw [h] at e5
  rcases e5 with ⟨rfl, e6⟩ | ⟨e6, b, rfl, e7⟩
  · exact absurd e6 h0
  · refine ⟨A, n, k, b, ?_, .inr ⟨e6, b, rfl, e7⟩, e4⟩
    rw [e1, hn]; rfl
end Go.Proofs.YtnkajjealkggdaaGreatDoor
end
section
/- LexBeginning: the walk (written by tools/mklexbeg.py). -/
namespace Go.Proofs.YtnkajjealkggdaaGreatDoor
open Go.RowKit
attribute [local go_sem] bs_size bs_extract bs_get bs_append bs_toList const_get
attribute [local go_sem] sz2 sz3 sz4 sz5 sz6 sz7 sz8 sz9 sz10
attribute [local irreducible] Calls
set_option maxHeartbeats 4000000
set_option maxRecDepth 100000
theorem lx_same (x y : Num) (A : Option Addr) (n c : Nat) (B : Option Addr) (m d : Nat) (w : World) (hA : Rd w A n c x.mant) (hB : Rd w B m d y.mant) :
    Calls Tryz.prog 28 #[numV x A n c, numV y B m d] w fun e w' => e = .returned (.bool (sameN x y)) ∧ Ext w w' := by
  have k := Lib.hid (fun w' (he : Ext w w') => dx_Same x y A n c B m d w' (hA.ext he) (hB.ext he))
  obtain ⟨S, hS⟩ : ∃ S, sameN x y = S := ⟨_, rfl⟩
  rw [hS] at k ⊢
  clear hA hB hS
  go_enter Tryz.func28, Tryz.ntmps28
  go_wp2_with (first
    | (go_at_call 19; (with_reducible refine (k.out _ (by (repeat (first | exact ext_refl _ | assumption | refine ext_setCell ?_ (by simp; try omega) _ | refine ext_alloc ?_ _ | refine ext_drew ?_ | refine ext_drewN ?_ _ | refine ext_trans ?_ (Aft.use _) | refine ext_trans ?_ (by assumption))))).mono ?_); rintro e w1 ⟨rfl, xb1⟩; obtain ⟨xc1, xf1, xl1, xz1⟩ := ext_use xb1; (try simp at xz1))
   )
  refine bodyPost_ret (v := .bool S) ?h rfl ⟨rfl, ?_⟩
  case h => simp [results, Tryz.results28, go_sem]
  repeat (first | exact ext_refl _ | assumption | refine ext_setCell ?_ (by simp; try omega) _ | refine ext_alloc ?_ _ | refine ext_drew ?_ | refine ext_drewN ?_ _ | refine ext_trans ?_ (Aft.use _) | refine ext_trans ?_ (by assumption))
theorem lx_read_ok (l : List UInt8) (hl : l.length ≤ 1000000) (w : World) (hT : LxT w) (X : Num) (h : readV false l = (X, 0, 0)) : Calls Tryz.prog 13 #[.string (bs l)] w fun e w' => ∃ A n k, e = .returned (.tuple #[numV X A n k, .nilIface]) ∧ Hid (RdO w' A n k X.mant none ∧ Fr w A) ∧ Ext w w' := by
  have h9 := lx_Read l (by omega) w hT
  rw [h] at h9
  exact h9.mono fun e w' ⟨A, n, k, v, e1, e2, e3, e4⟩ => ⟨A, n, k, by rw [e1, e3.out.nil], e2, e4⟩
theorem lx_read_no (l : List UInt8) (hl : l.length ≤ 1000000) (w : World) (hT : LxT w) (h : (readV false l).2.1 ≠ 0) : Calls Tryz.prog 13 #[.string (bs l)] w fun e w' => ∃ A n k b, e = .returned (.tuple #[n0V A n k, .iface 67 (.pointer (some ⟨b, 0, none⟩))]) ∧ Hid (EIs w' (.iface 67 (.pointer (some ⟨b, 0, none⟩))) (readV false l).2.1 (readV false l).2.2) ∧ Ext w w' :=
  lt_read l hl w hT _ _ h rfl
theorem rd_nil0 (w : World) : Rd w none 0 0 num0.mant := Rd.nil w
theorem lb_short0 (s : List UInt8) (hs : s.length ≤ 80) (X : Num) (K : Nat) (hb : beginP s = (X, K)) (hK : K = 0) (hX : X = num0) (hi : ∀ i, K < i → i ≤ s.length → (readV false (s.take i)).2.1 ≠ 0) (w : World) (hL : LxT w) : Calls Tryz.prog 10 #[.string (bs s)] w fun e w' => e = .returned (.bool true) ∧ Ext w w' := by
  have ka := Lib.hid (fun w' (he : Ext w w') => al_alive w' (hL.ext he))
  have kb : Hid (∀ w', Ext w w' → Calls Tryz.prog 15 #[.string (bs s)] w' (BeQ w' (X, K))) := fun w' he => by
    have := lx_Begin s (by omega) w' (hL.ext he)
    rwa [hb] at this
  subst hK hX
  have h0 : (readV false (s.take 0)).2.1 ≠ 0 := by rw [List.take_zero]; have e : (readV false []).2.1 = 110 := by kernel_rfl
                                                   rw [e]; decide
  have kr : Hid (∀ w', Ext w w' → Calls Tryz.prog 13 #[.string ByteArray.empty] w' fun e w'' => ∃ A n k b, e = .returned (.tuple #[n0V A n k, .iface 67 (.pointer (some ⟨b, 0, none⟩))]) ∧ Ext w' w'') := fun w' he => (lx_read_no (s.take 0) (by rw [List.length_take]; omega) w' (hL.ext he) h0).mono fun e w'' ⟨A, n, k, b, e1, _, e3⟩ => ⟨A, n, k, b, e1, e3⟩
  have hall : (readV false s).2.1 ≠ 0 := by
    rcases Nat.eq_zero_or_pos s.length with q | q
    · rw [List.eq_nil_of_length_eq_zero q] at h0 ⊢; exact h0
    · have := hi s.length q (Nat.le_refl _); rwa [List.take_length] at this
  have kl : Hid (∀ w', Ext w w' → _) := fun w' he => lx_read_no s (by omega) w' (hL.ext he) hall
  have ki : Hid (∀ i : Nat, 0 < i → i ≤ s.length → ∀ w', Ext w w' → _) := fun i h1 h2 w' he => lx_read_no (s.take i) (by rw [List.length_take]; omega) w' (hL.ext he) (hi i h1 h2)
  have ks : Hid (∀ A n c w', Ext w w' → Rd w' A n c [] → Calls Tryz.prog 28 #[numV num0 A n c, n0V none 0 0] w' fun e w'' => e = .returned (.bool true) ∧ Ext w' w'') := fun A n c w' he hA => by
    have := lx_same num0 num0 A n c none 0 0 w' hA (rd_nil0 w')
    rw [sameN_self] at this
    exact this
  have hs1 : (s.length : Int) ≤ 80 := by omega
  clear hL hb hi h0 hall
  go_enter Tryz.func10, Tryz.ntmps10
  go_wp2_with (first
    | (go_at_call 12; (with_reducible refine (ka.out _ (by (repeat (first | exact ext_refl _ | assumption | refine ext_setCell ?_ (by simp; try omega) _ | refine ext_alloc ?_ _ | refine ext_drew ?_ | refine ext_drewN ?_ _ | refine ext_trans ?_ (Aft.use _) | refine ext_trans ?_ (by assumption))))).mono ?_); rintro e w1 ⟨rfl, xb1⟩; obtain ⟨xc1, xf1, xl1, xz1⟩ := ext_use xb1; (try simp at xz1))
    | (go_at_call 15; (with_reducible refine (kb.out _ (by (repeat (first | exact ext_refl _ | assumption | refine ext_setCell ?_ (by simp; try omega) _ | refine ext_alloc ?_ _ | refine ext_drew ?_ | refine ext_drewN ?_ _ | refine ext_trans ?_ (Aft.use _) | refine ext_trans ?_ (by assumption))))).mono ?_); rintro e w2 ⟨A, n, c, rfl, hA, xb2⟩; obtain ⟨xc2, xf2, xl2, xz2⟩ := ext_use xb2; (try simp at xz2))
    | (go_at_call 13; (with_reducible refine (kr.out _ (by (repeat (first | exact ext_refl _ | assumption | refine ext_setCell ?_ (by simp; try omega) _ | refine ext_alloc ?_ _ | refine ext_drew ?_ | refine ext_drewN ?_ _ | refine ext_trans ?_ (Aft.use _) | refine ext_trans ?_ (by assumption))))).mono ?_); rintro e w3 ⟨A3, n3, c3, b3, rfl, xb3⟩; obtain ⟨xc3, xf3, xl3, xz3⟩ := ext_use xb3; (try simp at xz3); obtain ⟨l3_0, gc, gf⟩ := kp xb3 (w2.heap.size) (by first | omega | (simp; try omega)); have r3_0 := gc 0; have f3_0 := gf 0; have r3_0_1 := gc 1; have f3_0_1 := gf 1; have r3_0_2 := gc 2; have f3_0_2 := gf 2; have r3_0_3 := gc 3; have f3_0_3 := gf 3; have r3_0_4 := gc 4; have f3_0_4 := gf 4; have r3_0_5 := gc 5; have f3_0_5 := gf 5; have r3_0_6 := gc 6; have f3_0_6 := gf 6; have r3_0_7 := gc 7; have f3_0_7 := gf 7; have r3_0_8 := gc 8; have f3_0_8 := gf 8; clear gc gf)
    | (go_at_call 28; (with_reducible refine (ks.out A n c _ (by (repeat (first | exact ext_refl _ | assumption | refine ext_setCell ?_ (by simp; try omega) _ | refine ext_alloc ?_ _ | refine ext_drew ?_ | refine ext_drewN ?_ _ | refine ext_trans ?_ (Aft.use _) | refine ext_trans ?_ (by assumption)))) (hA.out.1.toRd.ext (by (repeat (first | exact ext_refl _ | assumption | refine ext_setCell ?_ (by simp; try omega) _ | refine ext_alloc ?_ _ | refine ext_drew ?_ | refine ext_drewN ?_ _ | refine ext_trans ?_ (Aft.use _) | refine ext_trans ?_ (by assumption)))))).mono ?_); rintro e w4 ⟨rfl, xb4⟩; obtain ⟨xc4, xf4, xl4, xz4⟩ := ext_use xb4; (try simp at xz4))
   )
  go_loopg [8] (s.length - 0) (fun gk v8 wr => ∃ i : Nat, gk = s.length + 1 - i ∧ 0 < i ∧ i ≤ s.length + 1 ∧ v8 = .int .i64 i ∧ Hid (Ext w wr))
  case atStart => exact ⟨0 + 1, by omega, by omega, by omega, by go_num, by show Ext _ _; (repeat (first | exact ext_refl _ | assumption | refine ext_setCell ?_ (by simp; try omega) _ | refine ext_alloc ?_ _ | refine ext_drew ?_ | refine ext_drewN ?_ _ | refine ext_trans ?_ (Aft.use _) | refine ext_trans ?_ (by assumption)))⟩
  case round =>
    obtain ⟨i, rfl, hi0, hi1, rfl, hE⟩ := hrel
    have hE1 := hE.out
    have hi2 := Lib.hid hi0
    by_cases hle : i ≤ s.length
    · have hlei : (i : Int) ≤ s.length := by omega
      have ki2 := Lib.hid (ki.out i hi2.out hle)
      have HJ : Hid (s.length + 1 - (i + 1) < s.length + 1 - i) := by show _ < _; omega
      have hle2 := Lib.hid hle
      clear hi0 hi1 hle ki
      go_wp2_with (first
        | (go_at_call 13; (with_reducible refine (ki2.out _ (by (repeat (first | exact ext_refl _ | assumption | refine ext_setCell ?_ (by simp; try omega) _ | refine ext_alloc ?_ _ | refine ext_drew ?_ | refine ext_drewN ?_ _ | refine ext_trans ?_ (Aft.use _) | refine ext_trans ?_ (by assumption))))).mono ?_); rintro e w5 ⟨A5, n5, c5, b5, rfl, hV5, xb5⟩; obtain ⟨xc5, xf5, xl5, xz5⟩ := ext_use xb5; (try simp at xz5))
       )
      go_roundg (s.length + 1 - (i + 1))
      case measure => exact HJ.out
      case rel => exact ⟨i + 1, rfl, by have := hi2.out; omega, by have := hle2.out; omega, by go_num, by show Ext _ _; (repeat (first | exact ext_refl _ | assumption | refine ext_setCell ?_ (by simp; try omega) _ | refine ext_alloc ?_ _ | refine ext_drew ?_ | refine ext_drewN ?_ _ | refine ext_trans ?_ (Aft.use _) | refine ext_trans ?_ (by assumption)))⟩
    · obtain rfl : i = s.length + 1 := by omega
      have hlei : ¬ ((s.length + 1 : Nat) : Int) ≤ s.length := by omega
      clear hi0 hi1 hle
      go_wp2_with (first
        | (go_at_call 13; (with_reducible refine (kl.out _ (by (repeat (first | exact ext_refl _ | assumption | refine ext_setCell ?_ (by simp; try omega) _ | refine ext_alloc ?_ _ | refine ext_drew ?_ | refine ext_drewN ?_ _ | refine ext_trans ?_ (Aft.use _) | refine ext_trans ?_ (by assumption))))).mono ?_); rintro e w6 ⟨A6, n6, c6, b6, rfl, hV6, xb6⟩; obtain ⟨xc6, xf6, xl6, xz6⟩ := ext_use xb6; (try simp at xz6))
       )
      all_goals
        refine bodyPost_ret (v := .bool true) ?h rfl ⟨rfl, ?_⟩
        case h => simp [results, Tryz.results10, go_sem]
        repeat (first | exact ext_refl _ | assumption | refine ext_setCell ?_ (by simp; try omega) _ | refine ext_alloc ?_ _ | refine ext_drew ?_ | refine ext_drewN ?_ _ | refine ext_trans ?_ (Aft.use _) | refine ext_trans ?_ (by assumption))
theorem lb_short1 (s : List UInt8) (hs : s.length ≤ 80) (X : Num) (K : Nat) (hb : beginP s = (X, K)) (hK : 0 < K) (hK2 : K < s.length) (hr : readV false (s.take K) = (X, 0, 0)) (hi : ∀ i, K < i → i ≤ s.length → (readV false (s.take i)).2.1 ≠ 0) (w : World) (hL : LxT w) : Calls Tryz.prog 10 #[.string (bs s)] w fun e w' => e = .returned (.bool true) ∧ Ext w w' := by
  have ka := Lib.hid (fun w' (he : Ext w w') => al_alive w' (hL.ext he))
  have kb : Hid (∀ w', Ext w w' → Calls Tryz.prog 15 #[.string (bs s)] w' (BeQ w' (X, K))) := fun w' he => by
    have := lx_Begin s (by omega) w' (hL.ext he)
    rwa [hb] at this
  have kr : Hid (∀ w', Ext w w' → _) := fun w' he => lx_read_ok (s.take K) (by rw [List.length_take]; omega) w' (hL.ext he) X hr
  have kl : Hid (∀ w', Ext w w' → _) := fun w' he => lx_read_no s (by omega) w' (hL.ext he) (by have := hi s.length hK2 (Nat.le_refl _); rwa [List.take_length] at this)
  have ki : Hid (∀ i : Nat, K < i → i ≤ s.length → ∀ w', Ext w w' → _) := fun i h1 h2 w' he => lx_read_no (s.take i) (by rw [List.length_take]; omega) w' (hL.ext he) (hi i h1 h2)
  have ks : Hid (∀ A n c B m d w', Ext w w' → Rd w' A n c X.mant → Rd w' B m d X.mant → Calls Tryz.prog 28 #[numV X A n c, numV X B m d] w' fun e w'' => e = .returned (.bool true) ∧ Ext w' w'') := fun A n c B m d w' he hA hB => by
    have := lx_same X X A n c B m d w' hA hB
    rwa [sameN_self] at this
  have z1 : ¬ (K : Int) = 0 := by omega
  have z2 : (0 : Int) ≤ K := by omega
  have z3 : (K : Int) ≤ s.length := by omega
  have hs1 : (s.length : Int) ≤ 80 := by omega
  clear hL hb hi hr
  go_enter Tryz.func10, Tryz.ntmps10
  go_wp2_with (first
    | (go_at_call 12; (with_reducible refine (ka.out _ (by (repeat (first | exact ext_refl _ | assumption | refine ext_setCell ?_ (by simp; try omega) _ | refine ext_alloc ?_ _ | refine ext_drew ?_ | refine ext_drewN ?_ _ | refine ext_trans ?_ (Aft.use _) | refine ext_trans ?_ (by assumption))))).mono ?_); rintro e w1 ⟨rfl, xb1⟩; obtain ⟨xc1, xf1, xl1, xz1⟩ := ext_use xb1; (try simp at xz1))
    | (go_at_call 15; (with_reducible refine (kb.out _ (by (repeat (first | exact ext_refl _ | assumption | refine ext_setCell ?_ (by simp; try omega) _ | refine ext_alloc ?_ _ | refine ext_drew ?_ | refine ext_drewN ?_ _ | refine ext_trans ?_ (Aft.use _) | refine ext_trans ?_ (by assumption))))).mono ?_); rintro e w2 ⟨A, n, c, rfl, hA, xb2⟩; obtain ⟨xc2, xf2, xl2, xz2⟩ := ext_use xb2; (try simp at xz2))
    | (go_at_call 13; (with_reducible refine (kr.out _ (by (repeat (first | exact ext_refl _ | assumption | refine ext_setCell ?_ (by simp; try omega) _ | refine ext_alloc ?_ _ | refine ext_drew ?_ | refine ext_drewN ?_ _ | refine ext_trans ?_ (Aft.use _) | refine ext_trans ?_ (by assumption))))).mono ?_); rintro e w3 ⟨B, m, d, rfl, hB, xb3⟩; obtain ⟨xc3, xf3, xl3, xz3⟩ := ext_use xb3; (try simp at xz3); obtain ⟨l3_0, gc, gf⟩ := kp xb3 (w2.heap.size) (by first | omega | (simp; try omega)); have r3_0 := gc 0; have f3_0 := gf 0; have r3_0_1 := gc 1; have f3_0_1 := gf 1; have r3_0_2 := gc 2; have f3_0_2 := gf 2; have r3_0_3 := gc 3; have f3_0_3 := gf 3; have r3_0_4 := gc 4; have f3_0_4 := gf 4; have r3_0_5 := gc 5; have f3_0_5 := gf 5; have r3_0_6 := gc 6; have f3_0_6 := gf 6; have r3_0_7 := gc 7; have f3_0_7 := gf 7; have r3_0_8 := gc 8; have f3_0_8 := gf 8; clear gc gf)
    | (go_at_call 28; (with_reducible refine (ks.out A n c B m d _ (by (repeat (first | exact ext_refl _ | assumption | refine ext_setCell ?_ (by simp; try omega) _ | refine ext_alloc ?_ _ | refine ext_drew ?_ | refine ext_drewN ?_ _ | refine ext_trans ?_ (Aft.use _) | refine ext_trans ?_ (by assumption)))) (hA.out.1.toRd.ext (by (repeat (first | exact ext_refl _ | assumption | refine ext_setCell ?_ (by simp; try omega) _ | refine ext_alloc ?_ _ | refine ext_drew ?_ | refine ext_drewN ?_ _ | refine ext_trans ?_ (Aft.use _) | refine ext_trans ?_ (by assumption))))) (hB.out.1.toRd.ext (by (repeat (first | exact ext_refl _ | assumption | refine ext_setCell ?_ (by simp; try omega) _ | refine ext_alloc ?_ _ | refine ext_drew ?_ | refine ext_drewN ?_ _ | refine ext_trans ?_ (Aft.use _) | refine ext_trans ?_ (by assumption)))))).mono ?_); rintro e w4 ⟨rfl, xb4⟩; obtain ⟨xc4, xf4, xl4, xz4⟩ := ext_use xb4; (try simp at xz4))
   )
  go_loopg [8] (s.length - K) (fun gk v8 wr => ∃ i : Nat, gk = s.length + 1 - i ∧ K < i ∧ i ≤ s.length + 1 ∧ v8 = .int .i64 i ∧ Hid (Ext w wr))
  case atStart => exact ⟨K + 1, by omega, by omega, by omega, by go_num, by show Ext _ _; (repeat (first | exact ext_refl _ | assumption | refine ext_setCell ?_ (by simp; try omega) _ | refine ext_alloc ?_ _ | refine ext_drew ?_ | refine ext_drewN ?_ _ | refine ext_trans ?_ (Aft.use _) | refine ext_trans ?_ (by assumption)))⟩
  case round =>
    obtain ⟨i, rfl, hi0, hi1, rfl, hE⟩ := hrel
    have hE1 := hE.out
    have hi2 := Lib.hid hi0
    by_cases hle : i ≤ s.length
    · have hlei : (i : Int) ≤ s.length := by omega
      have ki2 := Lib.hid (ki.out i hi2.out hle)
      have HJ : Hid (s.length + 1 - (i + 1) < s.length + 1 - i) := by show _ < _; omega
      have hle2 := Lib.hid hle
      clear hi0 hi1 hle ki
      go_wp2_with (first
        | (go_at_call 13; (with_reducible refine (ki2.out _ (by (repeat (first | exact ext_refl _ | assumption | refine ext_setCell ?_ (by simp; try omega) _ | refine ext_alloc ?_ _ | refine ext_drew ?_ | refine ext_drewN ?_ _ | refine ext_trans ?_ (Aft.use _) | refine ext_trans ?_ (by assumption))))).mono ?_); rintro e w5 ⟨A5, n5, c5, b5, rfl, hV5, xb5⟩; obtain ⟨xc5, xf5, xl5, xz5⟩ := ext_use xb5; (try simp at xz5))
       )
      go_roundg (s.length + 1 - (i + 1))
      case measure => exact HJ.out
      case rel => exact ⟨i + 1, rfl, by have := hi2.out; omega, by have := hle2.out; omega, by go_num, by show Ext _ _; (repeat (first | exact ext_refl _ | assumption | refine ext_setCell ?_ (by simp; try omega) _ | refine ext_alloc ?_ _ | refine ext_drew ?_ | refine ext_drewN ?_ _ | refine ext_trans ?_ (Aft.use _) | refine ext_trans ?_ (by assumption)))⟩
    · obtain rfl : i = s.length + 1 := by omega
      have hlei : ¬ ((s.length + 1 : Nat) : Int) ≤ s.length := by omega
      clear hi0 hi1 hle
      go_wp2_with (first
        | (go_at_call 13; (with_reducible refine (kl.out _ (by (repeat (first | exact ext_refl _ | assumption | refine ext_setCell ?_ (by simp; try omega) _ | refine ext_alloc ?_ _ | refine ext_drew ?_ | refine ext_drewN ?_ _ | refine ext_trans ?_ (Aft.use _) | refine ext_trans ?_ (by assumption))))).mono ?_); rintro e w6 ⟨A6, n6, c6, b6, rfl, hV6, xb6⟩; obtain ⟨xc6, xf6, xl6, xz6⟩ := ext_use xb6; (try simp at xz6))
       )
      all_goals
        refine bodyPost_ret (v := .bool true) ?h rfl ⟨rfl, ?_⟩
        case h => simp [results, Tryz.results10, go_sem]
        repeat (first | exact ext_refl _ | assumption | refine ext_setCell ?_ (by simp; try omega) _ | refine ext_alloc ?_ _ | refine ext_drew ?_ | refine ext_drewN ?_ _ | refine ext_trans ?_ (Aft.use _) | refine ext_trans ?_ (by assumption))
theorem lb_short2 (s : List UInt8) (hs : s.length ≤ 80) (X : Num) (K : Nat) (hb : beginP s = (X, K)) (hK : 0 < K) (hK2 : K = s.length) (hrs : readV false s = (X, 0, 0)) (hi : ∀ i, K < i → i ≤ s.length → (readV false (s.take i)).2.1 ≠ 0) (w : World) (hL : LxT w) : Calls Tryz.prog 10 #[.string (bs s)] w fun e w' => e = .returned (.bool true) ∧ Ext w w' := by
  have ka := Lib.hid (fun w' (he : Ext w w') => al_alive w' (hL.ext he))
  have kb : Hid (∀ w', Ext w w' → Calls Tryz.prog 15 #[.string (bs s)] w' (BeQ w' (X, K))) := fun w' he => by
    have := lx_Begin s (by omega) w' (hL.ext he)
    rwa [hb] at this
  subst hK2
  have kr : Hid (∀ w', Ext w w' → _) := fun w' he => lx_read_ok s (by omega) w' (hL.ext he) X hrs
  have ki : Hid (∀ i : Nat, s.length < i → i ≤ s.length → ∀ w', Ext w w' → _) := fun i h1 h2 w' he => lx_read_no (s.take i) (by rw [List.length_take]; omega) w' (hL.ext he) (hi i h1 h2)
  have ks : Hid (∀ A n c B m d w', Ext w w' → Rd w' A n c X.mant → Rd w' B m d X.mant → Calls Tryz.prog 28 #[numV X A n c, numV X B m d] w' fun e w'' => e = .returned (.bool true) ∧ Ext w' w'') := fun A n c B m d w' he hA hB => by
    have := lx_same X X A n c B m d w' hA hB
    rwa [sameN_self] at this
  have z1 : ¬ (s.length : Int) = 0 := by omega
  have z2 : (0 : Int) ≤ s.length := by omega
  have z3 : (s.length : Int) ≤ s.length := by omega
  have hs1 : (s.length : Int) ≤ 80 := by omega
  clear hL hb hi hrs
  go_enter Tryz.func10, Tryz.ntmps10
  go_wp2_with (first
    | (go_at_call 12; (with_reducible refine (ka.out _ (by (repeat (first | exact ext_refl _ | assumption | refine ext_setCell ?_ (by simp; try omega) _ | refine ext_alloc ?_ _ | refine ext_drew ?_ | refine ext_drewN ?_ _ | refine ext_trans ?_ (Aft.use _) | refine ext_trans ?_ (by assumption))))).mono ?_); rintro e w1 ⟨rfl, xb1⟩; obtain ⟨xc1, xf1, xl1, xz1⟩ := ext_use xb1; (try simp at xz1))
    | (go_at_call 15; (with_reducible refine (kb.out _ (by (repeat (first | exact ext_refl _ | assumption | refine ext_setCell ?_ (by simp; try omega) _ | refine ext_alloc ?_ _ | refine ext_drew ?_ | refine ext_drewN ?_ _ | refine ext_trans ?_ (Aft.use _) | refine ext_trans ?_ (by assumption))))).mono ?_); rintro e w2 ⟨A, n, c, rfl, hA, xb2⟩; obtain ⟨xc2, xf2, xl2, xz2⟩ := ext_use xb2; (try simp at xz2))
    | (go_at_call 13; (with_reducible refine (kr.out _ (by (repeat (first | exact ext_refl _ | assumption | refine ext_setCell ?_ (by simp; try omega) _ | refine ext_alloc ?_ _ | refine ext_drew ?_ | refine ext_drewN ?_ _ | refine ext_trans ?_ (Aft.use _) | refine ext_trans ?_ (by assumption))))).mono ?_); rintro e w3 ⟨B, m, d, rfl, hB, xb3⟩; obtain ⟨xc3, xf3, xl3, xz3⟩ := ext_use xb3; (try simp at xz3); obtain ⟨l3_0, gc, gf⟩ := kp xb3 (w2.heap.size) (by first | omega | (simp; try omega)); have r3_0 := gc 0; have f3_0 := gf 0; have r3_0_1 := gc 1; have f3_0_1 := gf 1; have r3_0_2 := gc 2; have f3_0_2 := gf 2; have r3_0_3 := gc 3; have f3_0_3 := gf 3; have r3_0_4 := gc 4; have f3_0_4 := gf 4; have r3_0_5 := gc 5; have f3_0_5 := gf 5; have r3_0_6 := gc 6; have f3_0_6 := gf 6; have r3_0_7 := gc 7; have f3_0_7 := gf 7; have r3_0_8 := gc 8; have f3_0_8 := gf 8; clear gc gf)
    | (go_at_call 28; (with_reducible refine (ks.out A n c B m d _ (by (repeat (first | exact ext_refl _ | assumption | refine ext_setCell ?_ (by simp; try omega) _ | refine ext_alloc ?_ _ | refine ext_drew ?_ | refine ext_drewN ?_ _ | refine ext_trans ?_ (Aft.use _) | refine ext_trans ?_ (by assumption)))) (hA.out.1.toRd.ext (by (repeat (first | exact ext_refl _ | assumption | refine ext_setCell ?_ (by simp; try omega) _ | refine ext_alloc ?_ _ | refine ext_drew ?_ | refine ext_drewN ?_ _ | refine ext_trans ?_ (Aft.use _) | refine ext_trans ?_ (by assumption))))) (hB.out.1.toRd.ext (by (repeat (first | exact ext_refl _ | assumption | refine ext_setCell ?_ (by simp; try omega) _ | refine ext_alloc ?_ _ | refine ext_drew ?_ | refine ext_drewN ?_ _ | refine ext_trans ?_ (Aft.use _) | refine ext_trans ?_ (by assumption)))))).mono ?_); rintro e w4 ⟨rfl, xb4⟩; obtain ⟨xc4, xf4, xl4, xz4⟩ := ext_use xb4; (try simp at xz4))
   )
  go_loopg [8] (s.length - s.length) (fun gk v8 wr => ∃ i : Nat, gk = s.length + 1 - i ∧ s.length < i ∧ i ≤ s.length + 1 ∧ v8 = .int .i64 i ∧ Hid (Ext w wr))
  case atStart => exact ⟨s.length + 1, by omega, by omega, by omega, by go_num, by show Ext _ _; (repeat (first | exact ext_refl _ | assumption | refine ext_setCell ?_ (by simp; try omega) _ | refine ext_alloc ?_ _ | refine ext_drew ?_ | refine ext_drewN ?_ _ | refine ext_trans ?_ (Aft.use _) | refine ext_trans ?_ (by assumption)))⟩
  case round =>
    obtain ⟨i, rfl, hi0, hi1, rfl, hE⟩ := hrel
    have hE1 := hE.out
    have hi2 := Lib.hid hi0
    by_cases hle : i ≤ s.length
    · exfalso; omega
    · obtain rfl : i = s.length + 1 := by omega
      have hlei : ¬ ((s.length + 1 : Nat) : Int) ≤ s.length := by omega
      clear hi0 hi1 hle
      go_wp2_with (first
        | (go_at_call 13; (with_reducible refine (kr.out _ (by (repeat (first | exact ext_refl _ | assumption | refine ext_setCell ?_ (by simp; try omega) _ | refine ext_alloc ?_ _ | refine ext_drew ?_ | refine ext_drewN ?_ _ | refine ext_trans ?_ (Aft.use _) | refine ext_trans ?_ (by assumption))))).mono ?_); rintro e w6 ⟨A6, n6, c6, rfl, hB6, xb6⟩; obtain ⟨xc6, xf6, xl6, xz6⟩ := ext_use xb6; (try simp at xz6))
       )
      all_goals
        refine bodyPost_ret (v := .bool true) ?h rfl ⟨rfl, ?_⟩
        case h => simp [results, Tryz.results10, go_sem]
        repeat (first | exact ext_refl _ | assumption | refine ext_setCell ?_ (by simp; try omega) _ | refine ext_alloc ?_ _ | refine ext_drew ?_ | refine ext_drewN ?_ _ | refine ext_trans ?_ (Aft.use _) | refine ext_trans ?_ (by assumption))
theorem lb_long0 (s : List UInt8) (l : List UInt8) (hl : 80 < l.length) (hl2 : l.length ≤ maxLen) (hcut : List.take 80 l = s) (hs : s.length ≤ 80) (X : Num) (K : Nat) (hb : beginP s = (X, K)) (hK : K = 0) (hX : X = num0) (hi : ∀ i, K < i → i ≤ s.length → (readV false (s.take i)).2.1 ≠ 0) (w : World) (hL : LxT w) : Calls Tryz.prog 10 #[.string (bs l)] w fun e w' => e = .returned (.bool true) ∧ Ext w w' := by
  have ka := Lib.hid (fun w' (he : Ext w w') => al_alive w' (hL.ext he))
  have kb : Hid (∀ w', Ext w w' → Calls Tryz.prog 15 #[.string (bs s)] w' (BeQ w' (X, K))) := fun w' he => by
    have := lx_Begin s (by omega) w' (hL.ext he)
    rwa [hb] at this
  subst hK hX
  have h0 : (readV false (s.take 0)).2.1 ≠ 0 := by rw [List.take_zero]; have e : (readV false []).2.1 = 110 := by kernel_rfl
                                                   rw [e]; decide
  have kr : Hid (∀ w', Ext w w' → Calls Tryz.prog 13 #[.string ByteArray.empty] w' fun e w'' => ∃ A n k b, e = .returned (.tuple #[n0V A n k, .iface 67 (.pointer (some ⟨b, 0, none⟩))]) ∧ Ext w' w'') := fun w' he => (lx_read_no (s.take 0) (by rw [List.length_take]; omega) w' (hL.ext he) h0).mono fun e w'' ⟨A, n, k, b, e1, _, e3⟩ => ⟨A, n, k, b, e1, e3⟩
  have hall : (readV false s).2.1 ≠ 0 := by
    rcases Nat.eq_zero_or_pos s.length with q | q
    · rw [List.eq_nil_of_length_eq_zero q] at h0 ⊢; exact h0
    · have := hi s.length q (Nat.le_refl _); rwa [List.take_length] at this
  have kl : Hid (∀ w', Ext w w' → _) := fun w' he => lx_read_no s (by omega) w' (hL.ext he) hall
  have ki : Hid (∀ i : Nat, 0 < i → i ≤ s.length → ∀ w', Ext w w' → _) := fun i h1 h2 w' he => lx_read_no (s.take i) (by rw [List.length_take]; omega) w' (hL.ext he) (hi i h1 h2)
  have ks : Hid (∀ A n c w', Ext w w' → Rd w' A n c [] → Calls Tryz.prog 28 #[numV num0 A n c, n0V none 0 0] w' fun e w'' => e = .returned (.bool true) ∧ Ext w' w'') := fun A n c w' he hA => by
    have := lx_same num0 num0 A n c none 0 0 w' hA (rd_nil0 w')
    rw [sameN_self] at this
    exact this
  have hs1 : (s.length : Int) ≤ 80 := by omega
  have hl1 : ¬ (l.length : Int) ≤ 80 := by omega
  have hl3 : (80 : Int) ≤ l.length := by omega
  clear hL hb hi h0 hall
  go_enter Tryz.func10, Tryz.ntmps10
  go_wp2_with (first
    | (go_at_call 12; (with_reducible refine (ka.out _ (by (repeat (first | exact ext_refl _ | assumption | refine ext_setCell ?_ (by simp; try omega) _ | refine ext_alloc ?_ _ | refine ext_drew ?_ | refine ext_drewN ?_ _ | refine ext_trans ?_ (Aft.use _) | refine ext_trans ?_ (by assumption))))).mono ?_); rintro e w1 ⟨rfl, xb1⟩; obtain ⟨xc1, xf1, xl1, xz1⟩ := ext_use xb1; (try simp at xz1))
    | (go_at_call 15; (with_reducible refine (kb.out _ (by (repeat (first | exact ext_refl _ | assumption | refine ext_setCell ?_ (by simp; try omega) _ | refine ext_alloc ?_ _ | refine ext_drew ?_ | refine ext_drewN ?_ _ | refine ext_trans ?_ (Aft.use _) | refine ext_trans ?_ (by assumption))))).mono ?_); rintro e w2 ⟨A, n, c, rfl, hA, xb2⟩; obtain ⟨xc2, xf2, xl2, xz2⟩ := ext_use xb2; (try simp at xz2))
    | (go_at_call 13; (with_reducible refine (kr.out _ (by (repeat (first | exact ext_refl _ | assumption | refine ext_setCell ?_ (by simp; try omega) _ | refine ext_alloc ?_ _ | refine ext_drew ?_ | refine ext_drewN ?_ _ | refine ext_trans ?_ (Aft.use _) | refine ext_trans ?_ (by assumption))))).mono ?_); rintro e w3 ⟨A3, n3, c3, b3, rfl, xb3⟩; obtain ⟨xc3, xf3, xl3, xz3⟩ := ext_use xb3; (try simp at xz3); obtain ⟨l3_0, gc, gf⟩ := kp xb3 (w2.heap.size) (by first | omega | (simp; try omega)); have r3_0 := gc 0; have f3_0 := gf 0; have r3_0_1 := gc 1; have f3_0_1 := gf 1; have r3_0_2 := gc 2; have f3_0_2 := gf 2; have r3_0_3 := gc 3; have f3_0_3 := gf 3; have r3_0_4 := gc 4; have f3_0_4 := gf 4; have r3_0_5 := gc 5; have f3_0_5 := gf 5; have r3_0_6 := gc 6; have f3_0_6 := gf 6; have r3_0_7 := gc 7; have f3_0_7 := gf 7; have r3_0_8 := gc 8; have f3_0_8 := gf 8; clear gc gf)
    | (go_at_call 28; (with_reducible refine (ks.out A n c _ (by (repeat (first | exact ext_refl _ | assumption | refine ext_setCell ?_ (by simp; try omega) _ | refine ext_alloc ?_ _ | refine ext_drew ?_ | refine ext_drewN ?_ _ | refine ext_trans ?_ (Aft.use _) | refine ext_trans ?_ (by assumption)))) (hA.out.1.toRd.ext (by (repeat (first | exact ext_refl _ | assumption | refine ext_setCell ?_ (by simp; try omega) _ | refine ext_alloc ?_ _ | refine ext_drew ?_ | refine ext_drewN ?_ _ | refine ext_trans ?_ (Aft.use _) | refine ext_trans ?_ (by assumption)))))).mono ?_); rintro e w4 ⟨rfl, xb4⟩; obtain ⟨xc4, xf4, xl4, xz4⟩ := ext_use xb4; (try simp at xz4))
   )
  go_loopg [8] (s.length - 0) (fun gk v8 wr => ∃ i : Nat, gk = s.length + 1 - i ∧ 0 < i ∧ i ≤ s.length + 1 ∧ v8 = .int .i64 i ∧ Hid (Ext w wr))
  case atStart => exact ⟨0 + 1, by omega, by omega, by omega, by go_num, by show Ext _ _; (repeat (first | exact ext_refl _ | assumption | refine ext_setCell ?_ (by simp; try omega) _ | refine ext_alloc ?_ _ | refine ext_drew ?_ | refine ext_drewN ?_ _ | refine ext_trans ?_ (Aft.use _) | refine ext_trans ?_ (by assumption)))⟩
  case round =>
    obtain ⟨i, rfl, hi0, hi1, rfl, hE⟩ := hrel
    have hE1 := hE.out
    have hi2 := Lib.hid hi0
    by_cases hle : i ≤ s.length
    · have hlei : (i : Int) ≤ s.length := by omega
      have ki2 := Lib.hid (ki.out i hi2.out hle)
      have HJ : Hid (s.length + 1 - (i + 1) < s.length + 1 - i) := by show _ < _; omega
      have hle2 := Lib.hid hle
      clear hi0 hi1 hle ki
      go_wp2_with (first
        | (go_at_call 13; (with_reducible refine (ki2.out _ (by (repeat (first | exact ext_refl _ | assumption | refine ext_setCell ?_ (by simp; try omega) _ | refine ext_alloc ?_ _ | refine ext_drew ?_ | refine ext_drewN ?_ _ | refine ext_trans ?_ (Aft.use _) | refine ext_trans ?_ (by assumption))))).mono ?_); rintro e w5 ⟨A5, n5, c5, b5, rfl, hV5, xb5⟩; obtain ⟨xc5, xf5, xl5, xz5⟩ := ext_use xb5; (try simp at xz5))
       )
      go_roundg (s.length + 1 - (i + 1))
      case measure => exact HJ.out
      case rel => exact ⟨i + 1, rfl, by have := hi2.out; omega, by have := hle2.out; omega, by go_num, by show Ext _ _; (repeat (first | exact ext_refl _ | assumption | refine ext_setCell ?_ (by simp; try omega) _ | refine ext_alloc ?_ _ | refine ext_drew ?_ | refine ext_drewN ?_ _ | refine ext_trans ?_ (Aft.use _) | refine ext_trans ?_ (by assumption)))⟩
    · obtain rfl : i = s.length + 1 := by omega
      have hlei : ¬ ((s.length + 1 : Nat) : Int) ≤ s.length := by omega
      clear hi0 hi1 hle
      go_wp2_with (first
        | (go_at_call 13; (with_reducible refine (kl.out _ (by (repeat (first | exact ext_refl _ | assumption | refine ext_setCell ?_ (by simp; try omega) _ | refine ext_alloc ?_ _ | refine ext_drew ?_ | refine ext_drewN ?_ _ | refine ext_trans ?_ (Aft.use _) | refine ext_trans ?_ (by assumption))))).mono ?_); rintro e w6 ⟨A6, n6, c6, b6, rfl, hV6, xb6⟩; obtain ⟨xc6, xf6, xl6, xz6⟩ := ext_use xb6; (try simp at xz6))
       )
      all_goals
        refine bodyPost_ret (v := .bool true) ?h rfl ⟨rfl, ?_⟩
        case h => simp [results, Tryz.results10, go_sem]
        repeat (first | exact ext_refl _ | assumption | refine ext_setCell ?_ (by simp; try omega) _ | refine ext_alloc ?_ _ | refine ext_drew ?_ | refine ext_drewN ?_ _ | refine ext_trans ?_ (Aft.use _) | refine ext_trans ?_ (by assumption))
theorem lb_long1 (s : List UInt8) (l : List UInt8) (hl : 80 < l.length) (hl2 : l.length ≤ maxLen) (hcut : List.take 80 l = s) (hs : s.length ≤ 80) (X : Num) (K : Nat) (hb : beginP s = (X, K)) (hK : 0 < K) (hK2 : K < s.length) (hr : readV false (s.take K) = (X, 0, 0)) (hi : ∀ i, K < i → i ≤ s.length → (readV false (s.take i)).2.1 ≠ 0) (w : World) (hL : LxT w) : Calls Tryz.prog 10 #[.string (bs l)] w fun e w' => e = .returned (.bool true) ∧ Ext w w' := by
  have ka := Lib.hid (fun w' (he : Ext w w') => al_alive w' (hL.ext he))
  have kb : Hid (∀ w', Ext w w' → Calls Tryz.prog 15 #[.string (bs s)] w' (BeQ w' (X, K))) := fun w' he => by
    have := lx_Begin s (by omega) w' (hL.ext he)
    rwa [hb] at this
  have kr : Hid (∀ w', Ext w w' → _) := fun w' he => lx_read_ok (s.take K) (by rw [List.length_take]; omega) w' (hL.ext he) X hr
  have kl : Hid (∀ w', Ext w w' → _) := fun w' he => lx_read_no s (by omega) w' (hL.ext he) (by have := hi s.length hK2 (Nat.le_refl _); rwa [List.take_length] at this)
  have ki : Hid (∀ i : Nat, K < i → i ≤ s.length → ∀ w', Ext w w' → _) := fun i h1 h2 w' he => lx_read_no (s.take i) (by rw [List.length_take]; omega) w' (hL.ext he) (hi i h1 h2)
  have ks : Hid (∀ A n c B m d w', Ext w w' → Rd w' A n c X.mant → Rd w' B m d X.mant → Calls Tryz.prog 28 #[numV X A n c, numV X B m d] w' fun e w'' => e = .returned (.bool true) ∧ Ext w' w'') := fun A n c B m d w' he hA hB => by
    have := lx_same X X A n c B m d w' hA hB
    rwa [sameN_self] at this
  have z1 : ¬ (K : Int) = 0 := by omega
  have z2 : (0 : Int) ≤ K := by omega
  have z3 : (K : Int) ≤ s.length := by omega
  have hs1 : (s.length : Int) ≤ 80 := by omega
  have hl1 : ¬ (l.length : Int) ≤ 80 := by omega
  have hl3 : (80 : Int) ≤ l.length := by omega
  clear hL hb hi hr
  go_enter Tryz.func10, Tryz.ntmps10
  go_wp2_with (first
    | (go_at_call 12; (with_reducible refine (ka.out _ (by (repeat (first | exact ext_refl _ | assumption | refine ext_setCell ?_ (by simp; try omega) _ | refine ext_alloc ?_ _ | refine ext_drew ?_ | refine ext_drewN ?_ _ | refine ext_trans ?_ (Aft.use _) | refine ext_trans ?_ (by assumption))))).mono ?_); rintro e w1 ⟨rfl, xb1⟩; obtain ⟨xc1, xf1, xl1, xz1⟩ := ext_use xb1; (try simp at xz1))
    | (go_at_call 15; (with_reducible refine (kb.out _ (by (repeat (first | exact ext_refl _ | assumption | refine ext_setCell ?_ (by simp; try omega) _ | refine ext_alloc ?_ _ | refine ext_drew ?_ | refine ext_drewN ?_ _ | refine ext_trans ?_ (Aft.use _) | refine ext_trans ?_ (by assumption))))).mono ?_); rintro e w2 ⟨A, n, c, rfl, hA, xb2⟩; obtain ⟨xc2, xf2, xl2, xz2⟩ := ext_use xb2; (try simp at xz2))
    | (go_at_call 13; (with_reducible refine (kr.out _ (by (repeat (first | exact ext_refl _ | assumption | refine ext_setCell ?_ (by simp; try omega) _ | refine ext_alloc ?_ _ | refine ext_drew ?_ | refine ext_drewN ?_ _ | refine ext_trans ?_ (Aft.use _) | refine ext_trans ?_ (by assumption))))).mono ?_); rintro e w3 ⟨B, m, d, rfl, hB, xb3⟩; obtain ⟨xc3, xf3, xl3, xz3⟩ := ext_use xb3; (try simp at xz3); obtain ⟨l3_0, gc, gf⟩ := kp xb3 (w2.heap.size) (by first | omega | (simp; try omega)); have r3_0 := gc 0; have f3_0 := gf 0; have r3_0_1 := gc 1; have f3_0_1 := gf 1; have r3_0_2 := gc 2; have f3_0_2 := gf 2; have r3_0_3 := gc 3; have f3_0_3 := gf 3; have r3_0_4 := gc 4; have f3_0_4 := gf 4; have r3_0_5 := gc 5; have f3_0_5 := gf 5; have r3_0_6 := gc 6; have f3_0_6 := gf 6; have r3_0_7 := gc 7; have f3_0_7 := gf 7; have r3_0_8 := gc 8; have f3_0_8 := gf 8; clear gc gf)
    | (go_at_call 28; (with_reducible refine (ks.out A n c B m d _ (by (repeat (first | exact ext_refl _ | assumption | refine ext_setCell ?_ (by simp; try omega) _ | refine ext_alloc ?_ _ | refine ext_drew ?_ | refine ext_drewN ?_ _ | refine ext_trans ?_ (Aft.use _) | refine ext_trans ?_ (by assumption)))) (hA.out.1.toRd.ext (by (repeat (first | exact ext_refl _ | assumption | refine ext_setCell ?_ (by simp; try omega) _ | refine ext_alloc ?_ _ | refine ext_drew ?_ | refine ext_drewN ?_ _ | refine ext_trans ?_ (Aft.use _) | refine ext_trans ?_ (by assumption))))) (hB.out.1.toRd.ext (by (repeat (first | exact ext_refl _ | assumption | refine ext_setCell ?_ (by simp; try omega) _ | refine ext_alloc ?_ _ | refine ext_drew ?_ | refine ext_drewN ?_ _ | refine ext_trans ?_ (Aft.use _) | refine ext_trans ?_ (by assumption)))))).mono ?_); rintro e w4 ⟨rfl, xb4⟩; obtain ⟨xc4, xf4, xl4, xz4⟩ := ext_use xb4; (try simp at xz4))
   )
  go_loopg [8] (s.length - K) (fun gk v8 wr => ∃ i : Nat, gk = s.length + 1 - i ∧ K < i ∧ i ≤ s.length + 1 ∧ v8 = .int .i64 i ∧ Hid (Ext w wr))
  case atStart => exact ⟨K + 1, by omega, by omega, by omega, by go_num, by show Ext _ _; (repeat (first | exact ext_refl _ | assumption | refine ext_setCell ?_ (by simp; try omega) _ | refine ext_alloc ?_ _ | refine ext_drew ?_ | refine ext_drewN ?_ _ | refine ext_trans ?_ (Aft.use _) | refine ext_trans ?_ (by assumption)))⟩
  case round =>
    obtain ⟨i, rfl, hi0, hi1, rfl, hE⟩ := hrel
    have hE1 := hE.out
    have hi2 := Lib.hid hi0
    by_cases hle : i ≤ s.length
    · have hlei : (i : Int) ≤ s.length := by omega
      have ki2 := Lib.hid (ki.out i hi2.out hle)
      have HJ : Hid (s.length + 1 - (i + 1) < s.length + 1 - i) := by show _ < _; omega
      have hle2 := Lib.hid hle
      clear hi0 hi1 hle ki
      go_wp2_with (first
        | (go_at_call 13; (with_reducible refine (ki2.out _ (by (repeat (first | exact ext_refl _ | assumption | refine ext_setCell ?_ (by simp; try omega) _ | refine ext_alloc ?_ _ | refine ext_drew ?_ | refine ext_drewN ?_ _ | refine ext_trans ?_ (Aft.use _) | refine ext_trans ?_ (by assumption))))).mono ?_); rintro e w5 ⟨A5, n5, c5, b5, rfl, hV5, xb5⟩; obtain ⟨xc5, xf5, xl5, xz5⟩ := ext_use xb5; (try simp at xz5))
       )
      go_roundg (s.length + 1 - (i + 1))
      case measure => exact HJ.out
      case rel => exact ⟨i + 1, rfl, by have := hi2.out; omega, by have := hle2.out; omega, by go_num, by show Ext _ _; (repeat (first | exact ext_refl _ | assumption | refine ext_setCell ?_ (by simp; try omega) _ | refine ext_alloc ?_ _ | refine ext_drew ?_ | refine ext_drewN ?_ _ | refine ext_trans ?_ (Aft.use _) | refine ext_trans ?_ (by assumption)))⟩
    · obtain rfl : i = s.length + 1 := by omega
      have hlei : ¬ ((s.length + 1 : Nat) : Int) ≤ s.length := by omega
      clear hi0 hi1 hle
      go_wp2_with (first
        | (go_at_call 13; (with_reducible refine (kl.out _ (by (repeat (first | exact ext_refl _ | assumption | refine ext_setCell ?_ (by simp; try omega) _ | refine ext_alloc ?_ _ | refine ext_drew ?_ | refine ext_drewN ?_ _ | refine ext_trans ?_ (Aft.use _) | refine ext_trans ?_ (by assumption))))).mono ?_); rintro e w6 ⟨A6, n6, c6, b6, rfl, hV6, xb6⟩; obtain ⟨xc6, xf6, xl6, xz6⟩ := ext_use xb6; (try simp at xz6))
       )
      all_goals
        refine bodyPost_ret (v := .bool true) ?h rfl ⟨rfl, ?_⟩
        case h => simp [results, Tryz.results10, go_sem]
        repeat (first | exact ext_refl _ | assumption | refine ext_setCell ?_ (by simp; try omega) _ | refine ext_alloc ?_ _ | refine ext_drew ?_ | refine ext_drewN ?_ _ | refine ext_trans ?_ (Aft.use _) | refine ext_trans ?_ (by assumption))
theorem lb_long2 (s : List UInt8) (l : List UInt8) (hl : 80 < l.length) (hl2 : l.length ≤ maxLen) (hcut : List.take 80 l = s) (hs : s.length ≤ 80) (X : Num) (K : Nat) (hb : beginP s = (X, K)) (hK : 0 < K) (hK2 : K = s.length) (hrs : readV false s = (X, 0, 0)) (hi : ∀ i, K < i → i ≤ s.length → (readV false (s.take i)).2.1 ≠ 0) (w : World) (hL : LxT w) : Calls Tryz.prog 10 #[.string (bs l)] w fun e w' => e = .returned (.bool true) ∧ Ext w w' := by
  have ka := Lib.hid (fun w' (he : Ext w w') => al_alive w' (hL.ext he))
  have kb : Hid (∀ w', Ext w w' → Calls Tryz.prog 15 #[.string (bs s)] w' (BeQ w' (X, K))) := fun w' he => by
    have := lx_Begin s (by omega) w' (hL.ext he)
    rwa [hb] at this
  subst hK2
  have kr : Hid (∀ w', Ext w w' → _) := fun w' he => lx_read_ok s (by omega) w' (hL.ext he) X hrs
  have ki : Hid (∀ i : Nat, s.length < i → i ≤ s.length → ∀ w', Ext w w' → _) := fun i h1 h2 w' he => lx_read_no (s.take i) (by rw [List.length_take]; omega) w' (hL.ext he) (hi i h1 h2)
  have ks : Hid (∀ A n c B m d w', Ext w w' → Rd w' A n c X.mant → Rd w' B m d X.mant → Calls Tryz.prog 28 #[numV X A n c, numV X B m d] w' fun e w'' => e = .returned (.bool true) ∧ Ext w' w'') := fun A n c B m d w' he hA hB => by
    have := lx_same X X A n c B m d w' hA hB
    rwa [sameN_self] at this
  have z1 : ¬ (s.length : Int) = 0 := by omega
  have z2 : (0 : Int) ≤ s.length := by omega
  have z3 : (s.length : Int) ≤ s.length := by omega
  have hs1 : (s.length : Int) ≤ 80 := by omega
  have hl1 : ¬ (l.length : Int) ≤ 80 := by omega
  have hl3 : (80 : Int) ≤ l.length := by omega
  clear hL hb hi hrs
  go_enter Tryz.func10, Tryz.ntmps10
  go_wp2_with (first
    | (go_at_call 12; (with_reducible refine (ka.out _ (by (repeat (first | exact ext_refl _ | assumption | refine ext_setCell ?_ (by simp; try omega) _ | refine ext_alloc ?_ _ | refine ext_drew ?_ | refine ext_drewN ?_ _ | refine ext_trans ?_ (Aft.use _) | refine ext_trans ?_ (by assumption))))).mono ?_); rintro e w1 ⟨rfl, xb1⟩; obtain ⟨xc1, xf1, xl1, xz1⟩ := ext_use xb1; (try simp at xz1))
    | (go_at_call 15; (with_reducible refine (kb.out _ (by (repeat (first | exact ext_refl _ | assumption | refine ext_setCell ?_ (by simp; try omega) _ | refine ext_alloc ?_ _ | refine ext_drew ?_ | refine ext_drewN ?_ _ | refine ext_trans ?_ (Aft.use _) | refine ext_trans ?_ (by assumption))))).mono ?_); rintro e w2 ⟨A, n, c, rfl, hA, xb2⟩; obtain ⟨xc2, xf2, xl2, xz2⟩ := ext_use xb2; (try simp at xz2))
    | (go_at_call 13; (with_reducible refine (kr.out _ (by (repeat (first | exact ext_refl _ | assumption | refine ext_setCell ?_ (by simp; try omega) _ | refine ext_alloc ?_ _ | refine ext_drew ?_ | refine ext_drewN ?_ _ | refine ext_trans ?_ (Aft.use _) | refine ext_trans ?_ (by assumption))))).mono ?_); rintro e w3 ⟨B, m, d, rfl, hB, xb3⟩; obtain ⟨xc3, xf3, xl3, xz3⟩ := ext_use xb3; (try simp at xz3); obtain ⟨l3_0, gc, gf⟩ := kp xb3 (w2.heap.size) (by first | omega | (simp; try omega)); have r3_0 := gc 0; have f3_0 := gf 0; have r3_0_1 := gc 1; have f3_0_1 := gf 1; have r3_0_2 := gc 2; have f3_0_2 := gf 2; have r3_0_3 := gc 3; have f3_0_3 := gf 3; have r3_0_4 := gc 4; have f3_0_4 := gf 4; have r3_0_5 := gc 5; have f3_0_5 := gf 5; have r3_0_6 := gc 6; have f3_0_6 := gf 6; have r3_0_7 := gc 7; have f3_0_7 := gf 7; have r3_0_8 := gc 8; have f3_0_8 := gf 8; clear gc gf)
    | (go_at_call 28; (with_reducible refine (ks.out A n c B m d _ (by (repeat (first | exact ext_refl _ | assumption | refine ext_setCell ?_ (by simp; try omega) _ | refine ext_alloc ?_ _ | refine ext_drew ?_ | refine ext_drewN ?_ _ | refine ext_trans ?_ (Aft.use _) | refine ext_trans ?_ (by assumption)))) (hA.out.1.toRd.ext (by (repeat (first | exact ext_refl _ | assumption | refine ext_setCell ?_ (by simp; try omega) _ | refine ext_alloc ?_ _ | refine ext_drew ?_ | refine ext_drewN ?_ _ | refine ext_trans ?_ (Aft.use _) | refine ext_trans ?_ (by assumption))))) (hB.out.1.toRd.ext (by (repeat (first | exact ext_refl _ | assumption | refine ext_setCell ?_ (by simp; try omega) _ | refine ext_alloc ?_ _ | refine ext_drew ?_ | refine ext_drewN ?_ _ | refine ext_trans ?_ (Aft.use _) | refine ext_trans ?_ (by assumption)))))).mono ?_); rintro e w4 ⟨rfl, xb4⟩; obtain ⟨xc4, xf4, xl4, xz4⟩ := ext_use xb4; (try simp at xz4))
   )
  go_loopg [8] (s.length - s.length) (fun gk v8 wr => ∃ i : Nat, gk = s.length + 1 - i ∧ s.length < i ∧ i ≤ s.length + 1 ∧ v8 = .int .i64 i ∧ Hid (Ext w wr))
  case atStart => exact ⟨s.length + 1, by omega, by omega, by omega, by go_num, by show Ext _ _; (repeat (first | exact ext_refl _ | assumption | refine ext_setCell ?_ (by simp; try omega) _ | refine ext_alloc ?_ _ | refine ext_drew ?_ | refine ext_drewN ?_ _ | refine ext_trans ?_ (Aft.use _) | refine ext_trans ?_ (by assumption)))⟩
  case round =>
    obtain ⟨i, rfl, hi0, hi1, rfl, hE⟩ := hrel
    have hE1 := hE.out
    have hi2 := Lib.hid hi0
    by_cases hle : i ≤ s.length
    · exfalso; omega
    · obtain rfl : i = s.length + 1 := by omega
      have hlei : ¬ ((s.length + 1 : Nat) : Int) ≤ s.length := by omega
      clear hi0 hi1 hle
      go_wp2_with (first
        | (go_at_call 13; (with_reducible refine (kr.out _ (by (repeat (first | exact ext_refl _ | assumption | refine ext_setCell ?_ (by simp; try omega) _ | refine ext_alloc ?_ _ | refine ext_drew ?_ | refine ext_drewN ?_ _ | refine ext_trans ?_ (Aft.use _) | refine ext_trans ?_ (by assumption))))).mono ?_); rintro e w6 ⟨A6, n6, c6, rfl, hB6, xb6⟩; obtain ⟨xc6, xf6, xl6, xz6⟩ := ext_use xb6; (try simp at xz6))
       )
      all_goals
        refine bodyPost_ret (v := .bool true) ?h rfl ⟨rfl, ?_⟩
        case h => simp [results, Tryz.results10, go_sem]
        repeat (first | exact ext_refl _ | assumption | refine ext_setCell ?_ (by simp; try omega) _ | refine ext_alloc ?_ _ | refine ext_drew ?_ | refine ext_drewN ?_ _ | refine ext_trans ?_ (Aft.use _) | refine ext_trans ?_ (by assumption))
theorem walk_LexBeginning (x0 : ByteArray) (w : World) (hx0 : x0.size ≤ maxLen) (hL : LxT w) :
    Calls Tryz.prog 10 #[.string x0] w fun e w' => e = .returned (.bool true) ∧ Ext w w' := by
  obtain ⟨l, rfl⟩ := bs_of x0
  rw [bs_size] at hx0
  obtain ⟨s, hcut⟩ : ∃ s, List.take 80 l = s := ⟨_, rfl⟩
  have hs : s.length ≤ 80 := by rw [← hcut, List.length_take]; omega
  obtain ⟨h1, h2, h3, h4⟩ := beg_spec s (by omega)
  obtain ⟨⟨X, K⟩, hb⟩ : ∃ P, beginP s = P := ⟨_, rfl⟩
  rw [hb] at h1 h2 h3 h4
  dsimp only at h1 h2 h3 h4
  by_cases q : 80 < l.length
  · rcases Nat.eq_zero_or_pos K with k0 | k0
    · exact lb_long0 s l q hx0 hcut hs X K hb k0 (h2 k0) h4 w hL
    · by_cases k1 : K = s.length
      · exact lb_long2 s l q hx0 hcut hs X K hb k0 k1 (by have := h3 k0; rwa [k1, List.take_length] at this) h4 w hL
      · exact lb_long1 s l q hx0 hcut hs X K hb k0 (by omega) (h3 k0) h4 w hL
  · have e : l = s := by rw [← hcut, List.take_of_length_le (by omega)]
    rw [e]
    rcases Nat.eq_zero_or_pos K with k0 | k0
    · exact lb_short0 s hs X K hb k0 (h2 k0) h4 w hL
    · by_cases k1 : K = s.length
      · exact lb_short2 s hs X K hb k0 k1 (by have := h3 k0; rwa [k1, List.take_length] at this) h4 w hL
      · exact lb_short1 s hs X K hb k0 (by omega) (h3 k0) h4 w hL
end Go.Proofs.YtnkajjealkggdaaGreatDoor
end
