/- Lemmas of this proof, laid together: QuickWholesW. -/
import Derived.Test.YtchchnohmmncfaaGreatDoorMg41
import Derived.Test.YtchchnohmmncfaaGreatDoorMg42
import Derived.Deep.DeepCutAuto
import Derived.Deep.RegionWith
set_option linter.unusedSimpArgs false
set_option linter.unusedVariables false
section
/- QuickWholes: the walk. -/
namespace Go.Proofs.YtchchnohmmncfaaGreatDoor
open Go.RowKit
attribute [local go_sem] bs_size bs_extract bs_get bs_append bs_toList const_get
attribute [local go_sem] sz2 sz3 sz4 sz5 sz6 sz7 sz8
set_option maxHeartbeats 8000000
set_option maxRecDepth 100000
theorem qw_wholes (w : World) (h : laidMetH Tryz.prog Rows.quickWholesRow.laid w) : Qw w ∧ Es w := by
  rw [MakeChecks.laidMetH_plain _ _ _ (by kernel_rfl)] at h
  exact ⟨qw_short _ (by kernel_rfl) w h, es_short _ (by kernel_rfl) w h⟩
attribute [local go_sem] fbits
attribute [local irreducible] Calls
theorem walk_QuickWholes (x0 : ByteArray) (w : World) (hx0 : x0.size ≤ maxLen) (hL : laidMetH Tryz.prog Rows.quickWholesRow.laid w) :
    Calls Tryz.prog 3 #[.string x0] w fun e w' => e = .returned (.bool true) ∧ Ext w w' := by
  obtain ⟨l, rfl⟩ := bs_of x0
  obtain ⟨hQ, hS⟩ := qw_wholes w hL
  have hlen : l.length ≤ 9223372036854775807 := by have h := hx0; rw [bs_size] at h; unfold maxLen at h; omega
  have kA := Lib.hid (fun w' (he : Ext w w') => alive14_any w' (hQ.tz.ext he) (hQ.er.ext he))
  have hone : ∃ b X, Hid (∀ w', Ext w w' → Calls Tryz.prog 6 #[.string (bs l)] w' fun e w'' => e = .returned (.tuple #[.float .f64 X, .bool b]) ∧ Ext w' w'') ∧ Hid (∀ w', Ext w w' → Calls Tryz.prog 7 #[.string (bs l)] w' fun e w'' => e = .returned (.tuple #[.int .u64 (X : Nat), .bool b]) ∧ Ext w' w'') := by
    by_cases h0 : l.length = 0 ∨ 19 < l.length
    · refine ⟨false, 0, Lib.hid fun w' he => qk_Whole_no l hlen ?_ w' (hQ.er.ext he) (hS.ext he), Lib.hid fun w' he => NB.r14_Whole_no l hlen h0 w'⟩
      rcases h0 with h | h
      · exact .inl (List.eq_nil_of_length_eq_zero h)
      · exact .inr (.inl h)
    · have h1 : 0 < l.length := by omega
      have h2 : l.length ≤ 19 := by omega
      cases hd : digsB l with
      | false =>
        refine ⟨false, 0, Lib.hid fun w' he => qk_Whole_no l hlen (.inr (.inr hd)) w' (hQ.er.ext he) (hS.ext he), Lib.hid fun w' he => ?_⟩
        have := NB.r14_Whole l h1 h2 w' (hQ.tz.ext he)
        rwa [if_neg (by rw [hd]; decide)] at this
      | true =>
        refine ⟨true, nearB (dval l), Lib.hid fun w' he => qk_Whole l hd h1 h2 w' (hQ.tz.ext he), Lib.hid fun w' he => ?_⟩
        have := NB.r14_Whole l h1 h2 w' (hQ.tz.ext he)
        rwa [if_pos hd] at this
  obtain ⟨b, X, kW, kD⟩ := hone
  clear hQ hS hL
  go_enter Tryz.func3, Tryz.ntmps3
  go_wp2_with (first
    | (go_at_call 5; (with_reducible refine (kA.out _ (by (repeat (first | exact ext_refl _ | assumption | refine ext_setCell ?_ (by simp; try omega) _ | refine ext_alloc ?_ _ | refine ext_drew ?_ | refine ext_drewN ?_ _ | refine ext_trans ?_ (Aft.use _) | refine ext_trans ?_ (by assumption))))).mono ?_); rintro e w1 ⟨rfl, xb1⟩)
    | (go_at_call 6; (with_reducible refine (kW.out _ (by (repeat (first | exact ext_refl _ | assumption | refine ext_setCell ?_ (by simp; try omega) _ | refine ext_alloc ?_ _ | refine ext_drew ?_ | refine ext_drewN ?_ _ | refine ext_trans ?_ (Aft.use _) | refine ext_trans ?_ (by assumption))))).mono ?_); rintro e w2 ⟨rfl, xb2⟩)
    | (go_at_call 7; (with_reducible refine (kD.out _ (by (repeat (first | exact ext_refl _ | assumption | refine ext_setCell ?_ (by simp; try omega) _ | refine ext_alloc ?_ _ | refine ext_drew ?_ | refine ext_drewN ?_ _ | refine ext_trans ?_ (Aft.use _) | refine ext_trans ?_ (by assumption))))).mono ?_); rintro e w3 ⟨rfl, xb3⟩))
  refine bodyPost_ret (v := .bool true) ?h rfl ⟨rfl, ?_⟩
  case h => simp [results, Tryz.results3, go_sem]
  repeat (first | exact ext_refl _ | assumption | refine ext_setCell ?_ (by simp; try omega) _ | refine ext_alloc ?_ _ | refine ext_drew ?_ | refine ext_drewN ?_ _ | refine ext_trans ?_ (Aft.use _) | refine ext_trans ?_ (by assumption))
end Go.Proofs.YtchchnohmmncfaaGreatDoor
end
