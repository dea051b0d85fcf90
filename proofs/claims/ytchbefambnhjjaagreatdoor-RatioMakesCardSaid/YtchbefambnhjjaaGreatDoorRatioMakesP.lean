/- The law RatioMakes of the given program answers true for every input, and leaves its arguments as they were. No condition. -/
import Derived.Test.YtchbefambnhjjaaGreatDoorMg35
import Derived.Test.YtchbefambnhjjaaGreatDoorMg37
import Derived.Test.YtchbefambnhjjaaGreatDoorCards
import Derived.Test.YtchbefambnhjjaaGreatDoorTie
import Derived.LaidMore
import Derived.Lay
import Derived.Stop.Joined
import Derived.SevenTiedAt
set_option linter.unusedSimpArgs false
set_option linter.unusedVariables false
namespace Go.Proofs.YtchbefambnhjjaaGreatDoor.ratioMakesProof
open Go.ChangeShapes Go.WideShapes Go.ChangeAt Go.RowKit
theorem cells3 : Tryz.prog.cellsOf 3 = 1 := by kernel_rfl
theorem cells4 : Tryz.prog.cellsOf 4 = 1 := by kernel_rfl
theorem cells28 : Tryz.prog.cellsOf 28 = 1 := by kernel_rfl
theorem cells30 : Tryz.prog.cellsOf 30 = 1 := by kernel_rfl
theorem cells54 : Tryz.prog.cellsOf 54 = 1 := by kernel_rfl
set_option maxRecDepth 100000 in
theorem lifted (os : Os) (started : os.Started) (H : Type) (enc : TypeId × Value → H) :
    ReturnsInHanded {} Tryz.checked os 5 .any (fun w args => (Rows.ratioMakesSpec.pre enc Tryz.prog Tryz.f5 [] false w args ∧ laidMetH Tryz.prog Rows.ratioMakesRow.laid w) ∧ sizedMet enc Tryz.prog Tryz.f5 (OpenSpec.ofChange Rows.ratioMakesSpec) false w args)
      (Rows.ratioMakesSpec.post enc Tryz.prog Tryz.f5 false true false false) := by
  refine returnsInHanded_of_change_and (C := Tryz.checked) (X := fun w _ => laidMetH Tryz.prog Rows.ratioMakesRow.laid w) (fun _ _ _ hh h => h.of_heap hh) ownKnobNone started (by as_aux_lemma => kernel_rfl) Tryz.func5
    (ChangeSpec.witness_shaped (enc := enc) (C := Tryz.checked) (os := os) (X := fun w _ => laidMetH Tryz.prog Rows.ratioMakesRow.laid w) false (World.laidAll Tryz.prog os Rows.ratioMakesRow.laid) #[.bool false, .agg #[.slice none 0 0], .agg #[.slice none 0 0], .int .i64 0] 8 (World.laidAll_os _ _ _)
      (World.shaped_of_ZipB (by as_aux_lemma => kernel_rfl) (by as_aux_lemma => kernel_rfl)) (by as_aux_lemma => kernel_rfl) (by as_aux_lemma => kernel_rfl) (by as_aux_lemma => kernel_rfl) (by rw [MakeChecks.laidMetH_plain _ _ _ (by as_aux_lemma => kernel_rfl)]; exact laidMet_laidAll _ (by as_aux_lemma => kernel_rfl) (by as_aux_lemma => kernel_rfl))) ?_
  intro W base args ds gs before hval0 hW _ _ hL _
  have hval : ∀ (j : Nat) t v, Tryz.f5.params[j]? = some t → args[j]? = some v → Value.okWide Tryz.prog W .any base t v := hval0
  have hW' := hW
  obtain ⟨p, q, hA0, hV, rfl, hfz, hnd⟩ := hW
  have hA : DataW.TrodAll enc Tryz.prog W 0 (fun _ => true) true Tryz.f5.params.toList args.toList ds p := hA0
  have hall : ∀ W', Ext W W' → DataW.TrodAll enc Tryz.prog W' 0 (fun b => decide (b < W.heap.size)) true Tryz.f5.params.toList args.toList ds p := fun W' hx => all_stay laidOutP (by
    rw [Tryz.params5]
    intro t ht
    simp only [List.mem_cons, List.not_mem_nil, or_false] at ht
    rcases ht with rfl | rfl | rfl | rfl <;> exact ⟨by kernel_rfl, of_decide_eq_true (by as_aux_lemma => kernel_rfl)⟩) hx hA (all_lt hA)
  rw [Tryz.params5] at hA hval
  obtain ⟨v0, vs0, d0, ds0, p0, q0, hargs, rfl, rfl, h0, rr0⟩ := trodAll_cons hA
  obtain ⟨v1, vs1, d1, ds1, p1, q1, rfl, rfl, rfl, h1, rr1⟩ := trodAll_cons rr0
  obtain ⟨v2, vs2, d2, ds2, p2, q2, rfl, rfl, rfl, h2, rr2⟩ := trodAll_cons rr1
  obtain ⟨v3, vs3, d3, ds3, p3, q3, rfl, rfl, rfl, h3, rr3⟩ := trodAll_cons rr2
  obtain ⟨rfl, rfl, rfl⟩ := trodAll_nil rr3
  obtain rfl : args = #[v0, v1, v2, v3] := by cases args; simp_all
  obtain ⟨rfl, rfl⟩ := trodVars_none hV
  have cc0 : v0.cells.toList = [v0] := by obtain ⟨_, rfl⟩ := okWide_bool Tryz.underlying4 (hval 0 4 v0 rfl rfl); rfl
  have R0 := rdc_of h0
  rw [cc0] at R0
  obtain ⟨x0, rfl⟩ := rdc_bool Tryz.underlying4 R0
  obtain ⟨cs1, rfl, hs1⟩ := okWide_struct Tryz.underlying30 (hval 1 30 v1 rfl rfl)
  obtain ⟨c1_0, hl1⟩ := llen1 (show cs1.toList.length = 1 from hs1.trans cells30)
  obtain rfl := arr_of hl1
  have R1 : Rdc H enc Tryz.prog W 30 [c1_0] := rdc_of h1
  have O1 := okWide_cells Tryz.underlying30 (hval 1 30 _ rfl rfl)
  have r0 := rdc_field Tryz.underlying30 R1 0 _ rfl 0 1 rfl cells28
  simp only [List.drop_succ_cons, List.drop_zero, List.take_succ_cons, List.take_zero, List.take_nil] at r0
  obtain ⟨x1A, x1l, x1c, x1, rfl, hx1⟩ := rdc_u32s Tryz.underlying28 Tryz.underlying54 cells54 r0 (O1 0 _ rfl)
  obtain ⟨cs2, rfl, hs2⟩ := okWide_struct Tryz.underlying30 (hval 2 30 v2 rfl rfl)
  obtain ⟨c2_0, hl2⟩ := llen1 (show cs2.toList.length = 1 from hs2.trans cells30)
  obtain rfl := arr_of hl2
  have R2 : Rdc H enc Tryz.prog W 30 [c2_0] := rdc_of h2
  have O2 := okWide_cells Tryz.underlying30 (hval 2 30 _ rfl rfl)
  have r0 := rdc_field Tryz.underlying30 R2 0 _ rfl 0 1 rfl cells28
  simp only [List.drop_succ_cons, List.drop_zero, List.take_succ_cons, List.take_zero, List.take_nil] at r0
  obtain ⟨x2A, x2l, x2c, x2, rfl, hx2⟩ := rdc_u32s Tryz.underlying28 Tryz.underlying54 cells54 r0 (O2 0 _ rfl)
  have cc3 : v3.cells.toList = [v3] := by obtain ⟨_, rfl⟩ := okWide_int Tryz.underlying3 (hval 3 3 v3 rfl rfl); rfl
  have R3 := rdc_of h3
  rw [cc3] at R3
  obtain ⟨x3, rfl, hx3⟩ := rdc_i64 Tryz.underlying3 R3
  refine (walk_RatioMakes x0 x1A x1l x1c x1 x2A x2l x2c x2 x3 W hx1 hx2 hx3 hL).mono fun e W' ⟨he, bel⟩ => ?_
  subst he
  exact ⟨_, rfl, _, _, _, [], _, [], hW', trodAll_mk1 (shut_bool Tryz.underlying4 _), hall W' bel, rfl, Below.frame bel _, fun h => by cases h⟩
theorem band {a b : Bool} (ha : a = true) (hb : b = true) : (a && b) = true := by rw [ha, hb]; rfl
set_option maxRecDepth 100000 in
set_option maxHeartbeats 40000000 in
theorem closed : joinedFacts Tryz.prog 5 Tryz.f5 Rows.ratioMakesSpec Rows.ratioMakesRow = true := by
  unfold joinedFacts
  repeat' with_reducible refine band ?_ ?_
  all_goals as_aux_lemma => kernel_rfl
theorem over : Rows.ratioMakesRow.holds Tryz.pinned (OpenSpec.ofChange Rows.ratioMakesSpec) :=
  OpenClaim.holds_of_wide 5 Tryz.f5 rfl rfl rfl rfl rfl rfl rfl ⟨rfl, rfl, rfl, rfl, rfl⟩ rfl rfl rfl rfl rfl (by as_aux_lemma => kernel_rfl) Tryz.func5 closed
    (of_decide_eq_true (by as_aux_lemma => kernel_rfl)) (by unfold Func.isWrapper; rw [if_neg (of_decide_eq_false (by as_aux_lemma => kernel_rfl))]; exact ⟨rfl, rfl⟩)
    (fun os started H enc _ => lifted os started H enc)
end Go.Proofs.YtchbefambnhjjaaGreatDoor.ratioMakesProof
namespace Go.Proofs.YtchbefambnhjjaaGreatDoor
theorem ratioMakes_row : Rows.RatioMakesSaid := ratioMakesProof.over
theorem ratioMakes_holds : Rows.RatioMakesCardSaid :=
  Claim7.holds_tied_plain_at .later [] [.data, .data, .pinned] true (true, "fcc9bd5cfc8f8eeede21c4e4bddb45c4d5758194f0ce39c6f6fc5d8f5f33084a") false
    ratioMakes_row (fun _ h => by cases h) (by as_aux_lemma => kernel_rfl) (fun _ h => by cases h) ratioMakes_row_tie rfl ⟨rfl, rfl⟩ (by as_aux_lemma => kernel_rfl) rfl
    (fun f fn hf hfn => by
      obtain rfl : f = 5 := Option.some.inj ((show Tryz.prog.funcNamed "numeral/numerallaw02.RatioMakes" = some 5 by kernel_rfl).symm.trans hf) |>.symm
      obtain rfl : fn = Tryz.f5 := (Option.some.inj (Tryz.func5.symm.trans hfn)).symm
      exact ⟨by kernel_rfl, fun j t ht => by
        rw [Tryz.params5] at ht
        have hm : t ∈ [4, 30, 30, 3] := by simpa using Array.mem_of_getElem? ht
        have hall : ([4, 30, 30, 3].all fun u => !Tryz.prog.wantsStandIn u) = true := by kernel_rfl
        exact (show Tryz.prog.wantsStandIn t = false by simpa using List.all_eq_true.1 hall t hm)⟩)
    (by as_aux_lemma => kernel_rfl)
#print axioms ratioMakes_holds
end Go.Proofs.YtchbefambnhjjaaGreatDoor
