/- Lemmas of this proof, laid together: SumA, SumB, DecRp. -/
import Derived.Test.YtiapoflkeliljaaGreatDoorMg08
import Derived.Test.YtiapoflkeliljaaGreatDoorShelf
import Derived.Deep.DeepCutAuto
import Derived.Deep.RegionWith
set_option linter.unusedSimpArgs false
set_option linter.unusedVariables false
section
/- Order of decimals: what it comes to; small pieces. -/
namespace Go.Proofs.YtiapoflkeliljaaGreatDoor
open Go.RowKit
attribute [local go_sem] bs_size bs_extract bs_get bs_append bs_toList const_get
attribute [local go_sem] sz2 sz3 sz4 sz5 sz6 sz7 sz8
set_option maxHeartbeats 4000000
set_option maxRecDepth 100000
attribute [local irreducible] Calls
def chkD (a b : Dc) : Int := if dcE a = 0 then dcE b else dcE a
theorem both_any (a b : Dc) (ha : a.dig.length ≤ 9223372036854775807) (hb : b.dig.length ≤ 9223372036854775807) (w : World) : Calls Tryz.prog 192 #[dcV a, dcV b] w fun e w' => e = .returned (.int .i64 (chkD a b)) ∧ Ext w w' := by
  have ca := fun w => check_any' a ha w
  have cb := fun w => check_any' b hb w
  by_cases h : dcE a = 0
  · rw [show chkD a b = dcE b by unfold chkD; rw [if_pos h]]
    rw [h] at ca
    generalize dcE b = E at cb
    clear h
    obtain ⟨neg, l, exp⟩ := a
    obtain ⟨neg2, l2, exp2⟩ := b
    go_enter Tryz.func192, Tryz.ntmps192
    go_wp2_with (first
      | (go_at_call 132; (with_reducible refine (ca _).mono ?_); rintro e w1 ⟨rfl, xb1⟩; obtain ⟨xc1, xf1, xl1, xz1⟩ := ext_use xb1; (try simp at xz1); obtain ⟨l1_0, gc, gf⟩ := kp xb1 (w.heap.size) (by first | omega | (simp; try omega)); have r1_0 := gc 0; have f1_0 := gf 0; have r1_0_1 := gc 1; have f1_0_1 := gf 1; have r1_0_2 := gc 2; have f1_0_2 := gf 2; clear gc gf; obtain ⟨l1_1, gc, gf⟩ := kp xb1 (w.heap.size + 1) (by first | omega | (simp; try omega)); have r1_1 := gc 0; have f1_1 := gf 0; have r1_1_1 := gc 1; have f1_1_1 := gf 1; have r1_1_2 := gc 2; have f1_1_2 := gf 2; clear gc gf)
      | (go_at_call 132; (with_reducible refine (cb _).mono ?_); rintro e w2 ⟨rfl, xb2⟩; obtain ⟨xc2, xf2, xl2, xz2⟩ := ext_use xb2; (try simp at xz2); obtain ⟨l2_0, gc, gf⟩ := kp xb2 (w.heap.size) (by first | omega | (simp; try omega)); have r2_0 := gc 0; have f2_0 := gf 0; have r2_0_1 := gc 1; have f2_0_1 := gf 1; have r2_0_2 := gc 2; have f2_0_2 := gf 2; clear gc gf; obtain ⟨l2_1, gc, gf⟩ := kp xb2 (w.heap.size + 1) (by first | omega | (simp; try omega)); have r2_1 := gc 0; have f2_1 := gf 0; have r2_1_1 := gc 1; have f2_1_1 := gf 1; have r2_1_2 := gc 2; have f2_1_2 := gf 2; clear gc gf)
     )
    refine bodyPost_ret (v := _) ?h rfl ⟨rfl, ?_⟩
    case h => simp [results, Tryz.results192, go_sem]
    repeat (first | exact ext_refl _ | assumption | refine ext_setCell ?_ (by simp; try omega) _ | refine ext_alloc ?_ _ | refine ext_drew ?_ | refine ext_drewN ?_ _ | refine ext_trans ?_ (Aft.use _) | refine ext_trans ?_ (by assumption))
  · rw [show chkD a b = dcE a by unfold chkD; rw [if_neg h]]
    generalize dcE a = E at ca h
    have hne : (E == 0) = false := by rw [beq_eq_false_iff_ne]; exact h
    clear h
    obtain ⟨neg, l, exp⟩ := a
    obtain ⟨neg2, l2, exp2⟩ := b
    go_enter Tryz.func192, Tryz.ntmps192
    go_wp2_with (first
      | (go_at_call 132; (with_reducible refine (ca _).mono ?_); rintro e w1 ⟨rfl, xb1⟩; obtain ⟨xc1, xf1, xl1, xz1⟩ := ext_use xb1; (try simp at xz1); obtain ⟨l1_0, gc, gf⟩ := kp xb1 (w.heap.size) (by first | omega | (simp; try omega)); have r1_0 := gc 0; have f1_0 := gf 0; have r1_0_1 := gc 1; have f1_0_1 := gf 1; have r1_0_2 := gc 2; have f1_0_2 := gf 2; clear gc gf; obtain ⟨l1_1, gc, gf⟩ := kp xb1 (w.heap.size + 1) (by first | omega | (simp; try omega)); have r1_1 := gc 0; have f1_1 := gf 0; have r1_1_1 := gc 1; have f1_1_1 := gf 1; have r1_1_2 := gc 2; have f1_1_2 := gf 2; clear gc gf)
     )
    refine bodyPost_ret (v := _) ?h rfl ⟨rfl, ?_⟩
    case h => simp [results, Tryz.results192, go_sem]
    repeat (first | exact ext_refl _ | assumption | refine ext_setCell ?_ (by simp; try omega) _ | refine ext_alloc ?_ _ | refine ext_drew ?_ | refine ext_drewN ?_ _ | refine ext_trans ?_ (Aft.use _) | refine ext_trans ?_ (by assumption))
end Go.Proofs.YtiapoflkeliljaaGreatDoor
end
section
/- Order of decimals: the program's and the document's. -/
namespace Go.Proofs.YtiapoflkeliljaaGreatDoor
open Go.RowKit
attribute [local go_sem] bs_size bs_extract bs_get bs_append bs_toList const_get
attribute [local go_sem] sz2 sz3 sz4 sz5 sz6 sz7 sz8
set_option maxHeartbeats 4000000
set_option maxRecDepth 100000
attribute [local irreducible] Calls
end Go.Proofs.YtiapoflkeliljaaGreatDoor
end
section
/- Noughts of the library. -/
namespace Go.Proofs.YtiapoflkeliljaaGreatDoor
open Go.RowKit
attribute [local go_sem] bs_size bs_extract bs_get bs_append bs_toList const_get
attribute [local go_sem] sz2 sz3 sz4 sz5 sz6 sz7 sz8
set_option maxHeartbeats 4000000
set_option maxRecDepth 100000
attribute [local irreducible] Calls
theorem bs_app_lit (a : List UInt8) (b : Array UInt8) : bs a ++ (⟨b⟩ : ByteArray) = bs (a ++ b.toList) := by
  rw [← bs_append]; rfl
theorem lit_app_bs (a : Array UInt8) (b : List UInt8) : (⟨a⟩ : ByteArray) ++ bs b = bs (a.toList ++ b) := by
  rw [← bs_append]; rfl
attribute [local go_sem] bs_app_lit lit_app_bs
theorem repeat_any (c : Nat) (hc : c ≤ 1000000) (w : World) : Calls Tryz.prog 199 #[.string ⟨#[48]⟩, .int .i64 (c : Int)] w fun e w' => e = .returned (.string (bs (zerosL c))) ∧ Ext w w' := by
  refine (Tryz.strings_Repeat ⟨#[48]⟩ c w (by omega) (by show 1 * c ≤ _; omega)).mono ?_
  rintro e w' ⟨he, hx⟩
  refine ⟨?_, hx⟩
  rw [he]
  have : Lib.repeatL [48] c = zerosL c := by
    have := Lib.repeatL_replicate 48 1 c
    rw [Nat.mul_one] at this
    exact this
  show Ending.returned (.string (bs (Lib.repeatL [48] c))) = _
  rw [this]
theorem longer_any (l : List UInt8) (n : Nat) (hl : l.length ≤ 1000000) (hn : n ≤ 1000000) (w : World) : Calls Tryz.prog 194 #[.string (bs l), .int .i64 (n : Int)] w fun e w' => e = .returned (.string (bs (l ++ zerosL n))) ∧ Ext w w' := by
  have hz : (zerosL n).length = n := by simp [zerosL]
  go_enter Tryz.func194, Tryz.ntmps194
  go_wp2_with (first
    | (go_at_call 199; (with_reducible refine (repeat_any n hn _).mono ?_); rintro e w' ⟨rfl, xb⟩; obtain ⟨xc, xf, xl, xz⟩ := ext_use xb; (try simp at xz))
   )
  go_ret
  refine ⟨rfl, ?_⟩
  repeat (first | exact ext_refl _ | assumption | refine ext_setCell ?_ (by simp; try omega) _ | refine ext_alloc ?_ _ | refine ext_drew ?_ | refine ext_drewN ?_ _ | refine ext_trans ?_ (Aft.use _) | refine ext_trans ?_ (by assumption))
end Go.Proofs.YtiapoflkeliljaaGreatDoor
end
