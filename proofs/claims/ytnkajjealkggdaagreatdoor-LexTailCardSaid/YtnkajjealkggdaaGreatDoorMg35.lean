/- Lemmas of this proof, laid together: LexTailW. -/
import Derived.Test.YtnkajjealkggdaaGreatDoorMg32
import Derived.Test.YtnkajjealkggdaaGreatDoorMg34
import Derived.Test.YtnkajjealkggdaaGreatDoorMg02
import Derived.Deep.DeepCutAuto
import Derived.Deep.RegionWith
set_option linter.unusedSimpArgs false
set_option linter.unusedVariables false
section
/- LexTail: the walk. -/
namespace Go.Proofs.YtnkajjealkggdaaGreatDoor
open Go.RowKit
attribute [local go_sem] bs_size bs_extract bs_get bs_append bs_toList const_get
attribute [local go_sem] sz2 sz3 sz4 sz5 sz6 sz7 sz8 sz9 sz10
attribute [local irreducible] Calls
set_option maxHeartbeats 4000000
set_option maxRecDepth 100000
abbrev n0V (A : Option Addr) (n k : Nat) : Value := .agg #[.int .u8 0, .bool false, .bool false, .string ⟨#[]⟩, .int .i64 0, .bool false, .slice A n k, .int .i64 0, .int .u64 0]
theorem lt_read (l : List UInt8) (hl : l.length ≤ 1000000) (w : World) (hT : LxT w) (c a : Nat) (h0 : c ≠ 0) (h : (readV false l).2 = (c, a)) : Calls Tryz.prog 13 #[.string (bs l)] w fun e w' => ∃ A n k b, e = .returned (.tuple #[n0V A n k, .iface 67 (.pointer (some ⟨b, 0, none⟩))]) ∧ Hid (EIs w' (.iface 67 (.pointer (some ⟨b, 0, none⟩))) c a) ∧ Ext w w' := by
  have h9 := lx_Read l (by omega) w hT
  refine h9.mono fun e w' ⟨A, n, k, v, e1, e2, e3, e4⟩ => ?_
  have hn : (readV false l).1 = num0 := (read_err (by rw [h]; exact h0)).1
  have e5 := e3.out
  rw [h] at e5
  rcases e5 with ⟨rfl, e6⟩ | ⟨e6, b, rfl, e7⟩
  · exact absurd e6 h0
  · refine ⟨A, n, k, b, ?_, .inr ⟨e6, b, rfl, e7⟩, e4⟩
    rw [e1, hn]; rfl
theorem lt_long (s t : List UInt8) (w : World) (hs : s.length ≤ maxLen) (ht : t.length ≤ maxLen) (hL : LxT w) (h : ¬ (s.length ≤ 4000 ∧ t.length ≤ 4000)) : Calls Tryz.prog 11 #[.string (bs s), .string (bs t)] w fun e w' => e = .returned (.bool true) ∧ Ext w w' := by
  have ka := Lib.hid (fun w' (he : Ext w w') => al_alive w' (hL.ext he))
  have h1 : ¬ ((s.length : Int) ≤ 4000 ∧ (t.length : Int) ≤ 4000) := by omega
  clear hL h
  by_cases q : (s.length : Int) ≤ 4000
  · have q2 : ¬ (t.length : Int) ≤ 4000 := fun e => h1 ⟨q, e⟩
    go_enter Tryz.func11, Tryz.ntmps11
    go_wp2_with (first
      | (go_at_call 12; (with_reducible refine (ka.out _ (by (repeat (first | exact ext_refl _ | assumption | refine ext_setCell ?_ (by simp; try omega) _ | refine ext_alloc ?_ _ | refine ext_drew ?_ | refine ext_drewN ?_ _ | refine ext_trans ?_ (Aft.use _) | refine ext_trans ?_ (by assumption))))).mono ?_); rintro e w1 ⟨rfl, xb1⟩; obtain ⟨xc1, xf1, xl1, xz1⟩ := ext_use xb1; (try simp at xz1))
     )
    refine bodyPost_ret (v := .bool true) ?h rfl ⟨rfl, ?_⟩
    case h => simp [results, Tryz.results11, go_sem]
    repeat (first | exact ext_refl _ | assumption | refine ext_setCell ?_ (by simp; try omega) _ | refine ext_alloc ?_ _ | refine ext_drew ?_ | refine ext_drewN ?_ _ | refine ext_trans ?_ (Aft.use _) | refine ext_trans ?_ (by assumption))
  · skip
    go_enter Tryz.func11, Tryz.ntmps11
    go_wp2_with (first
      | (go_at_call 12; (with_reducible refine (ka.out _ (by (repeat (first | exact ext_refl _ | assumption | refine ext_setCell ?_ (by simp; try omega) _ | refine ext_alloc ?_ _ | refine ext_drew ?_ | refine ext_drewN ?_ _ | refine ext_trans ?_ (Aft.use _) | refine ext_trans ?_ (by assumption))))).mono ?_); rintro e w1 ⟨rfl, xb1⟩; obtain ⟨xc1, xf1, xl1, xz1⟩ := ext_use xb1; (try simp at xz1))
     )
    refine bodyPost_ret (v := .bool true) ?h rfl ⟨rfl, ?_⟩
    case h => simp [results, Tryz.results11, go_sem]
    repeat (first | exact ext_refl _ | assumption | refine ext_setCell ?_ (by simp; try omega) _ | refine ext_alloc ?_ _ | refine ext_drew ?_ | refine ext_drewN ?_ _ | refine ext_trans ?_ (Aft.use _) | refine ext_trans ?_ (by assumption))
theorem lt_none (s t : List UInt8) (w : World) (hs : s.length ≤ 4000) (ht : t.length ≤ 4000) (hL : LxT w) (h : (readV false s).2.1 = 0) : Calls Tryz.prog 11 #[.string (bs s), .string (bs t)] w fun e w' => e = .returned (.bool true) ∧ Ext w w' := by
  have ka := Lib.hid (fun w' (he : Ext w w') => al_alive w' (hL.ext he))
  have kr : Hid (∀ w', Ext w w' → Calls Tryz.prog 13 #[.string (bs s)] w' fun e w'' => ∃ A n k, e = .returned (.tuple #[numV (readV false s).1 A n k, .nilIface]) ∧ Ext w' w'') := fun w' he => by
    refine (lx_Read s (by omega) w' (hL.ext he)).mono fun e w'' ⟨A, n, k, v, e1, e2, e3, e4⟩ => ?_
    rw [h] at e3
    exact ⟨A, n, k, by rw [e1, e3.out.nil], e4⟩
  have kf : Hid (∀ w', Ext w w' → Calls Tryz.prog 14 #[.nilIface] w' fun e w'' => e = .returned (.tuple #[.agg #[.int .i64 0, .int .i64 0], .bool true]) ∧ Ext w' w'') := fun w' he => fa_fault .nilIface 0 0 w' (hL.ext he) (.inl ⟨rfl, rfl⟩) (fun _ => rfl)
  obtain ⟨X, hX⟩ : ∃ X, (readV false s).1 = X := ⟨_, rfl⟩
  rw [hX] at kr
  have h1 : (s.length : Int) ≤ 4000 ∧ (t.length : Int) ≤ 4000 := by omega
  clear hL h hX
  go_enter Tryz.func11, Tryz.ntmps11
  go_wp2_with (first
    | (go_at_call 12; (with_reducible refine (ka.out _ (by (repeat (first | exact ext_refl _ | assumption | refine ext_setCell ?_ (by simp; try omega) _ | refine ext_alloc ?_ _ | refine ext_drew ?_ | refine ext_drewN ?_ _ | refine ext_trans ?_ (Aft.use _) | refine ext_trans ?_ (by assumption))))).mono ?_); rintro e w1 ⟨rfl, xb1⟩; obtain ⟨xc1, xf1, xl1, xz1⟩ := ext_use xb1; (try simp at xz1))
    | (go_at_call 13; (with_reducible refine (kr.out _ (by (repeat (first | exact ext_refl _ | assumption | refine ext_setCell ?_ (by simp; try omega) _ | refine ext_alloc ?_ _ | refine ext_drew ?_ | refine ext_drewN ?_ _ | refine ext_trans ?_ (Aft.use _) | refine ext_trans ?_ (by assumption))))).mono ?_); rintro e w2 ⟨A, n, k, rfl, xb2⟩; obtain ⟨xc2, xf2, xl2, xz2⟩ := ext_use xb2; (try simp at xz2))
    | (go_at_call 14; (with_reducible refine (kf.out _ (by (repeat (first | exact ext_refl _ | assumption | refine ext_setCell ?_ (by simp; try omega) _ | refine ext_alloc ?_ _ | refine ext_drew ?_ | refine ext_drewN ?_ _ | refine ext_trans ?_ (Aft.use _) | refine ext_trans ?_ (by assumption))))).mono ?_); rintro e w3 ⟨rfl, xb3⟩; obtain ⟨xc3, xf3, xl3, xz3⟩ := ext_use xb3; (try simp at xz3))
   )
  refine bodyPost_ret (v := .bool true) ?h rfl ⟨rfl, ?_⟩
  case h => simp [results, Tryz.results11, go_sem]
  repeat (first | exact ext_refl _ | assumption | refine ext_setCell ?_ (by simp; try omega) _ | refine ext_alloc ?_ _ | refine ext_drew ?_ | refine ext_drewN ?_ _ | refine ext_trans ?_ (Aft.use _) | refine ext_trans ?_ (by assumption))
theorem lt_some (s t : List UInt8) (w : World) (hs : s.length ≤ 4000) (ht : t.length ≤ 4000) (hL : LxT w) (c a : Nat) (hc : c ≠ 0) (ha : a ≤ s.length) (h : (readV false s).2 = (c, a)) (h2 : a + 8 ≤ s.length → c ≠ 115 → (readV false (s ++ t)).2 = (c, a)) : Calls Tryz.prog 11 #[.string (bs s), .string (bs t)] w fun e w' => e = .returned (.bool true) ∧ Ext w w' := by
  have ka := Lib.hid (fun w' (he : Ext w w') => al_alive w' (hL.ext he))
  have kr := Lib.hid (fun w' (he : Ext w w') => lt_read s (by omega) w' (hL.ext he) c a hc h)
  have kf : Hid (∀ v w', Ext w w' → EIs w' v c a → Calls Tryz.prog 14 #[v] w' fun e w'' => e = .returned (.tuple #[.agg #[.int .i64 (c : Int), .int .i64 (a : Int)], .bool true]) ∧ Ext w' w'') := fun v w' he hv => fa_fault v c a w' (hL.ext he) hv (fun e => absurd e hc)
  have k2 : Hid (a + 8 ≤ s.length → c ≠ 115 → ∀ w', Ext w w' → Calls Tryz.prog 13 #[.string (bs (s ++ t))] w' fun e w'' => ∃ A n k b, e = .returned (.tuple #[n0V A n k, .iface 67 (.pointer (some ⟨b, 0, none⟩))]) ∧ Hid (EIs w'' (.iface 67 (.pointer (some ⟨b, 0, none⟩))) c a) ∧ Ext w' w'') := fun q1 q2 w' he => lt_read (s ++ t) (by rw [List.length_append]; omega) w' (hL.ext he) c a hc (h2 q1 q2)
  have h1 : (s.length : Int) ≤ 4000 ∧ (t.length : Int) ≤ 4000 := by omega
  have h3 : (0 : Int) ≤ a := by omega
  have h4 : (a : Int) ≤ s.length := by omega
  clear hL h h2
  by_cases q1 : (a : Int) + 8 ≤ s.length
  · by_cases q2 : (c : Int) = 115
    · skip
      go_enter Tryz.func11, Tryz.ntmps11
      go_wp2_with (first
        | (go_at_call 12; (with_reducible refine (ka.out _ (by (repeat (first | exact ext_refl _ | assumption | refine ext_setCell ?_ (by simp; try omega) _ | refine ext_alloc ?_ _ | refine ext_drew ?_ | refine ext_drewN ?_ _ | refine ext_trans ?_ (Aft.use _) | refine ext_trans ?_ (by assumption))))).mono ?_); rintro e w1 ⟨rfl, xb1⟩; obtain ⟨xc1, xf1, xl1, xz1⟩ := ext_use xb1; (try simp at xz1))
        | (go_at_call 13; (with_reducible refine (kr.out _ (by (repeat (first | exact ext_refl _ | assumption | refine ext_setCell ?_ (by simp; try omega) _ | refine ext_alloc ?_ _ | refine ext_drew ?_ | refine ext_drewN ?_ _ | refine ext_trans ?_ (Aft.use _) | refine ext_trans ?_ (by assumption))))).mono ?_); rintro e w2 ⟨A, n, k, b, rfl, hV, xb2⟩; obtain ⟨xc2, xf2, xl2, xz2⟩ := ext_use xb2; (try simp at xz2))
        | (go_at_call 14; (with_reducible refine (kf.out _ _ (by (repeat (first | exact ext_refl _ | assumption | refine ext_setCell ?_ (by simp; try omega) _ | refine ext_alloc ?_ _ | refine ext_drew ?_ | refine ext_drewN ?_ _ | refine ext_trans ?_ (Aft.use _) | refine ext_trans ?_ (by assumption)))) (hV.out.ext (by (repeat (first | exact ext_refl _ | assumption | refine ext_setCell ?_ (by simp; try omega) _ | refine ext_alloc ?_ _ | refine ext_drew ?_ | refine ext_drewN ?_ _ | refine ext_trans ?_ (Aft.use _) | refine ext_trans ?_ (by assumption)))))).mono ?_); rintro e w3 ⟨rfl, xb3⟩; obtain ⟨xc3, xf3, xl3, xz3⟩ := ext_use xb3; (try simp at xz3))
       )
      refine bodyPost_ret (v := .bool true) ?h rfl ⟨rfl, ?_⟩
      case h => simp [results, Tryz.results11, go_sem]
      repeat (first | exact ext_refl _ | assumption | refine ext_setCell ?_ (by simp; try omega) _ | refine ext_alloc ?_ _ | refine ext_drew ?_ | refine ext_drewN ?_ _ | refine ext_trans ?_ (Aft.use _) | refine ext_trans ?_ (by assumption))
    · have kr2 : Hid _ := k2.out (by omega) (by omega)
      go_enter Tryz.func11, Tryz.ntmps11
      go_wp2_with (first
        | (go_at_call 12; (with_reducible refine (ka.out _ (by (repeat (first | exact ext_refl _ | assumption | refine ext_setCell ?_ (by simp; try omega) _ | refine ext_alloc ?_ _ | refine ext_drew ?_ | refine ext_drewN ?_ _ | refine ext_trans ?_ (Aft.use _) | refine ext_trans ?_ (by assumption))))).mono ?_); rintro e w1 ⟨rfl, xb1⟩; obtain ⟨xc1, xf1, xl1, xz1⟩ := ext_use xb1; (try simp at xz1))
        | (go_at_call 13; (with_reducible refine (kr.out _ (by (repeat (first | exact ext_refl _ | assumption | refine ext_setCell ?_ (by simp; try omega) _ | refine ext_alloc ?_ _ | refine ext_drew ?_ | refine ext_drewN ?_ _ | refine ext_trans ?_ (Aft.use _) | refine ext_trans ?_ (by assumption))))).mono ?_); rintro e w2 ⟨A, n, k, b, rfl, hV, xb2⟩; obtain ⟨xc2, xf2, xl2, xz2⟩ := ext_use xb2; (try simp at xz2))
        | (go_at_call 14; (with_reducible refine (kf.out _ _ (by (repeat (first | exact ext_refl _ | assumption | refine ext_setCell ?_ (by simp; try omega) _ | refine ext_alloc ?_ _ | refine ext_drew ?_ | refine ext_drewN ?_ _ | refine ext_trans ?_ (Aft.use _) | refine ext_trans ?_ (by assumption)))) (hV.out.ext (by (repeat (first | exact ext_refl _ | assumption | refine ext_setCell ?_ (by simp; try omega) _ | refine ext_alloc ?_ _ | refine ext_drew ?_ | refine ext_drewN ?_ _ | refine ext_trans ?_ (Aft.use _) | refine ext_trans ?_ (by assumption)))))).mono ?_); rintro e w3 ⟨rfl, xb3⟩; obtain ⟨xc3, xf3, xl3, xz3⟩ := ext_use xb3; (try simp at xz3))
        | (go_at_call 13; (with_reducible refine (kr2.out _ (by (repeat (first | exact ext_refl _ | assumption | refine ext_setCell ?_ (by simp; try omega) _ | refine ext_alloc ?_ _ | refine ext_drew ?_ | refine ext_drewN ?_ _ | refine ext_trans ?_ (Aft.use _) | refine ext_trans ?_ (by assumption))))).mono ?_); rintro e w4 ⟨A4, n4, k4, b4, rfl, hV4, xb4⟩; obtain ⟨xc4, xf4, xl4, xz4⟩ := ext_use xb4; (try simp at xz4); obtain ⟨l4_0, gc, gf⟩ := kp xb4 (w3.heap.size) (by first | omega | (simp; try omega)); have r4_0 := gc 0; have f4_0 := gf 0; have r4_0_1 := gc 1; have f4_0_1 := gf 1; clear gc gf)
        | (go_at_call 14; (with_reducible refine (kf.out _ _ (by (repeat (first | exact ext_refl _ | assumption | refine ext_setCell ?_ (by simp; try omega) _ | refine ext_alloc ?_ _ | refine ext_drew ?_ | refine ext_drewN ?_ _ | refine ext_trans ?_ (Aft.use _) | refine ext_trans ?_ (by assumption)))) (hV4.out.ext (by (repeat (first | exact ext_refl _ | assumption | refine ext_setCell ?_ (by simp; try omega) _ | refine ext_alloc ?_ _ | refine ext_drew ?_ | refine ext_drewN ?_ _ | refine ext_trans ?_ (Aft.use _) | refine ext_trans ?_ (by assumption)))))).mono ?_); rintro e w5 ⟨rfl, xb5⟩; obtain ⟨xc5, xf5, xl5, xz5⟩ := ext_use xb5; (try simp at xz5); obtain ⟨l5_0, gc, gf⟩ := kp xb5 (w3.heap.size) (by first | omega | (simp; try omega)); have r5_0 := gc 0; have f5_0 := gf 0; have r5_0_1 := gc 1; have f5_0_1 := gf 1; clear gc gf)
       )
      all_goals
        refine bodyPost_ret (v := .bool true) ?h rfl ⟨rfl, ?_⟩
        case h => simp [results, Tryz.results11, go_sem]
        repeat (first | exact ext_refl _ | assumption | refine ext_setCell ?_ (by simp; try omega) _ | refine ext_alloc ?_ _ | refine ext_drew ?_ | refine ext_drewN ?_ _ | refine ext_trans ?_ (Aft.use _) | refine ext_trans ?_ (by assumption))
  · skip
    go_enter Tryz.func11, Tryz.ntmps11
    go_wp2_with (first
      | (go_at_call 12; (with_reducible refine (ka.out _ (by (repeat (first | exact ext_refl _ | assumption | refine ext_setCell ?_ (by simp; try omega) _ | refine ext_alloc ?_ _ | refine ext_drew ?_ | refine ext_drewN ?_ _ | refine ext_trans ?_ (Aft.use _) | refine ext_trans ?_ (by assumption))))).mono ?_); rintro e w1 ⟨rfl, xb1⟩; obtain ⟨xc1, xf1, xl1, xz1⟩ := ext_use xb1; (try simp at xz1))
      | (go_at_call 13; (with_reducible refine (kr.out _ (by (repeat (first | exact ext_refl _ | assumption | refine ext_setCell ?_ (by simp; try omega) _ | refine ext_alloc ?_ _ | refine ext_drew ?_ | refine ext_drewN ?_ _ | refine ext_trans ?_ (Aft.use _) | refine ext_trans ?_ (by assumption))))).mono ?_); rintro e w2 ⟨A, n, k, b, rfl, hV, xb2⟩; obtain ⟨xc2, xf2, xl2, xz2⟩ := ext_use xb2; (try simp at xz2))
      | (go_at_call 14; (with_reducible refine (kf.out _ _ (by (repeat (first | exact ext_refl _ | assumption | refine ext_setCell ?_ (by simp; try omega) _ | refine ext_alloc ?_ _ | refine ext_drew ?_ | refine ext_drewN ?_ _ | refine ext_trans ?_ (Aft.use _) | refine ext_trans ?_ (by assumption)))) (hV.out.ext (by (repeat (first | exact ext_refl _ | assumption | refine ext_setCell ?_ (by simp; try omega) _ | refine ext_alloc ?_ _ | refine ext_drew ?_ | refine ext_drewN ?_ _ | refine ext_trans ?_ (Aft.use _) | refine ext_trans ?_ (by assumption)))))).mono ?_); rintro e w3 ⟨rfl, xb3⟩; obtain ⟨xc3, xf3, xl3, xz3⟩ := ext_use xb3; (try simp at xz3))
     )
    refine bodyPost_ret (v := .bool true) ?h rfl ⟨rfl, ?_⟩
    case h => simp [results, Tryz.results11, go_sem]
    repeat (first | exact ext_refl _ | assumption | refine ext_setCell ?_ (by simp; try omega) _ | refine ext_alloc ?_ _ | refine ext_drew ?_ | refine ext_drewN ?_ _ | refine ext_trans ?_ (Aft.use _) | refine ext_trans ?_ (by assumption))
theorem walk_LexTail (x0 : ByteArray) (x1 : ByteArray) (w : World) (hx0 : x0.size ≤ maxLen) (hx1 : x1.size ≤ maxLen) (hL : LxT w) :
    Calls Tryz.prog 11 #[.string x0, .string x1] w fun e w' => e = .returned (.bool true) ∧ Ext w w' := by
  obtain ⟨s, rfl⟩ := bs_of x0
  obtain ⟨t, rfl⟩ := bs_of x1
  rw [bs_size] at hx0 hx1
  by_cases q : s.length ≤ 4000 ∧ t.length ≤ 4000
  · by_cases h : (readV false s).2.1 = 0
    · exact lt_none s t w q.1 q.2 hL h
    · exact lt_some s t w q.1 q.2 hL _ _ h (read_err h).2 rfl (fun h1 h2 => tail_law s t q.1 q.2 h h1 h2)
  · exact lt_long s t w hx0 hx1 hL q
end Go.Proofs.YtnkajjealkggdaaGreatDoor
end
