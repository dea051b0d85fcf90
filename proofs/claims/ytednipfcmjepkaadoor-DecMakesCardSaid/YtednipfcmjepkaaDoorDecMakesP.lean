/- The law DecMakes of the given program answers true for every input, and leaves its arguments as they were. No condition. -/
import Derived.Test.YtednipfcmjepkaaDoorDecMakesW
import Derived.Test.YtednipfcmjepkaaDoorLaw
import Derived.Test.YtednipfcmjepkaaDoorCards
import Derived.Test.YtednipfcmjepkaaDoorTie
import Derived.LaidMore
import Derived.Lay
import Derived.Stop.Joined
import Derived.SevenTiedAt
namespace Go.Proofs.YtednipfcmjepkaaDoor.decMakesProof
open Go.ChangeShapes Go.WideShapes Go.ChangeAt Go.RowKit
theorem cells3 : Tryd.prog.cellsOf 3 = 1 := by kernel_rfl
theorem cells4 : Tryd.prog.cellsOf 4 = 1 := by kernel_rfl
theorem cells9 : Tryd.prog.cellsOf 9 = 1 := by kernel_rfl
set_option maxRecDepth 100000 in
theorem lifted (os : Os) (started : os.Started) (H : Type) (enc : TypeId × Value → H) :
    ReturnsInHanded {} Tryd.checked os 3 .any (fun w args => (Rows.decMakesSpec.pre enc Tryd.prog Tryd.f3 [] false w args ∧ laidMetH Tryd.prog Rows.decMakesRow.laid w) ∧ sizedMet enc Tryd.prog Tryd.f3 (OpenSpec.ofChange Rows.decMakesSpec) false w args)
      (Rows.decMakesSpec.post enc Tryd.prog Tryd.f3 false true false false) := by
  refine returnsInHanded_of_change_and (C := Tryd.checked) (X := fun w _ => laidMetH Tryd.prog Rows.decMakesRow.laid w) (fun _ _ _ hh h => h.of_heap hh) ownKnobNone started (by kernel_rfl) Tryd.func3
    (ChangeSpec.witness_shaped (enc := enc) (C := Tryd.checked) (os := os) (X := fun w _ => laidMetH Tryd.prog Rows.decMakesRow.laid w) false (World.laidAll Tryd.prog os Rows.decMakesRow.laid) #[.bool false, .string ⟨#[]⟩, .int .i64 0] 8 (World.laidAll_os _ _ _)
      (World.shaped_of_ZipB (by kernel_rfl) (by kernel_rfl)) (by kernel_rfl) (by kernel_rfl) (by kernel_rfl) (by rw [MakeChecks.laidMetH_plain _ _ _ (by kernel_rfl)]; exact laidMet_laidAll _ (by kernel_rfl) (by kernel_rfl))) ?_
  intro W base args ds gs before hval0 hW _ _ hL _
  have hval : ∀ (j : Nat) t v, Tryd.f3.params[j]? = some t → args[j]? = some v → Value.okWide Tryd.prog W .any base t v := hval0
  have hW' := hW
  obtain ⟨p, q, hA0, hV, rfl, hfz, hnd⟩ := hW
  have hA : DataW.TrodAll enc Tryd.prog W 0 (fun _ => true) true Tryd.f3.params.toList args.toList ds p := hA0
  have hall : ∀ W', Ext W W' → DataW.TrodAll enc Tryd.prog W' 0 (fun b => decide (b < W.heap.size)) true Tryd.f3.params.toList args.toList ds p := fun W' hx => all_stay laidOutP (by
    rw [Tryd.params3]
    intro t ht
    simp only [List.mem_cons, List.not_mem_nil, or_false] at ht
    rcases ht with rfl | rfl | rfl <;> exact ⟨by kernel_rfl, of_decide_eq_true (by kernel_rfl)⟩) hx hA (all_lt hA)
  rw [Tryd.params3] at hA hval
  obtain ⟨v0, vs0, d0, ds0, p0, q0, hargs, rfl, rfl, h0, rr0⟩ := trodAll_cons hA
  obtain ⟨v1, vs1, d1, ds1, p1, q1, rfl, rfl, rfl, h1, rr1⟩ := trodAll_cons rr0
  obtain ⟨v2, vs2, d2, ds2, p2, q2, rfl, rfl, rfl, h2, rr2⟩ := trodAll_cons rr1
  obtain ⟨rfl, rfl, rfl⟩ := trodAll_nil rr2
  obtain rfl : args = #[v0, v1, v2] := by cases args; simp_all
  obtain ⟨rfl, rfl⟩ := trodVars_none hV
  have cc0 : v0.cells.toList = [v0] := by obtain ⟨_, rfl⟩ := okWide_bool Tryd.underlying4 (hval 0 4 v0 rfl rfl); rfl
  have R0 := rdc_of h0
  rw [cc0] at R0
  obtain ⟨x0, rfl⟩ := rdc_bool Tryd.underlying4 R0
  have cc1 : v1.cells.toList = [v1] := by obtain ⟨_, rfl⟩ := okWide_string Tryd.underlying9 (hval 1 9 v1 rfl rfl); rfl
  have R1 := rdc_of h1
  rw [cc1] at R1
  obtain ⟨x1, rfl, hx1⟩ := rdc_string Tryd.underlying9 R1
  have cc2 : v2.cells.toList = [v2] := by obtain ⟨_, rfl⟩ := okWide_int Tryd.underlying3 (hval 2 3 v2 rfl rfl); rfl
  have R2 := rdc_of h2
  rw [cc2] at R2
  obtain ⟨x2, rfl, hx2⟩ := rdc_i64 Tryd.underlying3 R2
  refine (walk_DecMakes x0 x1 x2 W hx1 hx2).mono fun e W' ⟨he, bel⟩ => ?_
  subst he
  exact ⟨_, rfl, _, _, _, [], _, [], hW', trodAll_mk1 (shut_bool Tryd.underlying4 _), hall W' bel, rfl, Below.frame bel _, fun h => by cases h⟩
theorem over : Rows.decMakesRow.holds Tryd.pinned (OpenSpec.ofChange Rows.decMakesSpec) :=
  OpenClaim.holds_of_wide 3 Tryd.f3 rfl rfl rfl rfl rfl rfl rfl ⟨rfl, rfl, rfl, rfl, rfl⟩ rfl rfl rfl rfl rfl (by kernel_rfl) Tryd.func3 (by kernel_rfl)
    (of_decide_eq_true (by kernel_rfl)) (by unfold Func.isWrapper; rw [if_neg (of_decide_eq_false (by kernel_rfl))]; exact ⟨rfl, rfl⟩)
    (fun os started H enc _ => lifted os started H enc)
end Go.Proofs.YtednipfcmjepkaaDoor.decMakesProof
namespace Go.Proofs.YtednipfcmjepkaaDoor
theorem decMakes_row : Rows.DecMakesSaid := decMakesProof.over
theorem decMakes_holds : Rows.DecMakesCardSaid :=
  Claim7.holds_tied_plain_at .later [] [.data, .pinned] true (true, "04c685e0249a5efa9644ec78e3149f78507e4b8cc6659e91b9bbd71a15b69011") false
    decMakes_row (fun _ h => by cases h) (by kernel_rfl) (fun _ h => by cases h) decMakes_row_tie rfl ⟨rfl, rfl⟩ (by kernel_rfl) rfl
    (fun f fn hf hfn => by
      obtain rfl : f = 3 := Option.some.inj ((show Tryd.prog.funcNamed "numeral/numerallaw10.DecMakes" = some 3 by kernel_rfl).symm.trans hf) |>.symm
      obtain rfl : fn = Tryd.f3 := (Option.some.inj (Tryd.func3.symm.trans hfn)).symm
      exact ⟨by kernel_rfl, fun j t ht => by
        rw [Tryd.params3] at ht
        have hm : t ∈ [4, 9, 3] := by simpa using Array.mem_of_getElem? ht
        have hall : ([4, 9, 3].all fun u => !Tryd.prog.wantsStandIn u) = true := by kernel_rfl
        exact (show Tryd.prog.wantsStandIn t = false by simpa using List.all_eq_true.1 hall t hm)⟩)
    (by kernel_rfl)
#print axioms decMakes_holds
end Go.Proofs.YtednipfcmjepkaaDoor
