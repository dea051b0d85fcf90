/- The law RatioScales of the given program answers true for every input, and leaves its arguments as they were. No condition. -/
import Derived.Test.YtchbefambnhjjaaGreatDoorMg36
import Derived.Test.YtchbefambnhjjaaGreatDoorMg38
import Derived.Test.YtchbefambnhjjaaGreatDoorCards
import Derived.Test.YtchbefambnhjjaaGreatDoorTie
import Derived.LaidMore
import Derived.Lay
import Derived.Stop.Joined
import Derived.SevenTiedAt
set_option linter.unusedSimpArgs false
set_option linter.unusedVariables false
namespace Go.Proofs.YtchbefambnhjjaaGreatDoor.ratioScalesProof
open Go.ChangeShapes Go.WideShapes Go.ChangeAt Go.RowKit
theorem cells3 : Tryz.prog.cellsOf 3 = 1 := by kernel_rfl
theorem cells4 : Tryz.prog.cellsOf 4 = 1 := by kernel_rfl
theorem cells28 : Tryz.prog.cellsOf 28 = 1 := by kernel_rfl
theorem cells30 : Tryz.prog.cellsOf 30 = 1 := by kernel_rfl
theorem cells32 : Tryz.prog.cellsOf 32 = 3 := by kernel_rfl
theorem cells54 : Tryz.prog.cellsOf 54 = 1 := by kernel_rfl
set_option maxRecDepth 100000 in
theorem lifted (os : Os) (started : os.Started) (H : Type) (enc : TypeId × Value → H) :
    ReturnsInHanded {} Tryz.checked os 7 .any (fun w args => (Rows.ratioScalesSpec.pre enc Tryz.prog Tryz.f7 [] false w args ∧ laidMetH Tryz.prog Rows.ratioScalesRow.laid w) ∧ sizedMet enc Tryz.prog Tryz.f7 (OpenSpec.ofChange Rows.ratioScalesSpec) false w args)
      (Rows.ratioScalesSpec.post enc Tryz.prog Tryz.f7 false true false false) := by
  refine returnsInHanded_of_change_and (C := Tryz.checked) (X := fun w _ => laidMetH Tryz.prog Rows.ratioScalesRow.laid w) (fun _ _ _ hh h => h.of_heap hh) ownKnobNone started (by as_aux_lemma => kernel_rfl) Tryz.func7
    (ChangeSpec.witness_shaped (enc := enc) (C := Tryz.checked) (os := os) (X := fun w _ => laidMetH Tryz.prog Rows.ratioScalesRow.laid w) false (World.laidAll Tryz.prog os Rows.ratioScalesRow.laid) #[.agg #[.bool false, .slice none 0 0, .slice none 0 0], .int .u32 0, .int .i64 0] 8 (World.laidAll_os _ _ _)
      (World.shaped_of_ZipB (by as_aux_lemma => kernel_rfl) (by as_aux_lemma => kernel_rfl)) (by as_aux_lemma => kernel_rfl) (by as_aux_lemma => kernel_rfl) (by as_aux_lemma => kernel_rfl) (by rw [MakeChecks.laidMetH_plain _ _ _ (by as_aux_lemma => kernel_rfl)]; exact laidMet_laidAll _ (by as_aux_lemma => kernel_rfl) (by as_aux_lemma => kernel_rfl))) ?_
  intro W base args ds gs before hval0 hW _ _ hL _
  have hval : ∀ (j : Nat) t v, Tryz.f7.params[j]? = some t → args[j]? = some v → Value.okWide Tryz.prog W .any base t v := hval0
  have hW' := hW
  obtain ⟨p, q, hA0, hV, rfl, hfz, hnd⟩ := hW
  have hA : DataW.TrodAll enc Tryz.prog W 0 (fun _ => true) true Tryz.f7.params.toList args.toList ds p := hA0
  have hall : ∀ W', Ext W W' → DataW.TrodAll enc Tryz.prog W' 0 (fun b => decide (b < W.heap.size)) true Tryz.f7.params.toList args.toList ds p := fun W' hx => all_stay laidOutP (by
    rw [Tryz.params7]
    intro t ht
    simp only [List.mem_cons, List.not_mem_nil, or_false] at ht
    rcases ht with rfl | rfl | rfl <;> exact ⟨by kernel_rfl, of_decide_eq_true (by as_aux_lemma => kernel_rfl)⟩) hx hA (all_lt hA)
  rw [Tryz.params7] at hA hval
  obtain ⟨v0, vs0, d0, ds0, p0, q0, hargs, rfl, rfl, h0, rr0⟩ := trodAll_cons hA
  obtain ⟨v1, vs1, d1, ds1, p1, q1, rfl, rfl, rfl, h1, rr1⟩ := trodAll_cons rr0
  obtain ⟨v2, vs2, d2, ds2, p2, q2, rfl, rfl, rfl, h2, rr2⟩ := trodAll_cons rr1
  obtain ⟨rfl, rfl, rfl⟩ := trodAll_nil rr2
  obtain rfl : args = #[v0, v1, v2] := by cases args; simp_all
  obtain ⟨rfl, rfl⟩ := trodVars_none hV
  obtain ⟨cs0, rfl, hs0⟩ := okWide_struct Tryz.underlying32 (hval 0 32 v0 rfl rfl)
  obtain ⟨c0_0, c0_1, c0_2, hl0⟩ := llen3 (show cs0.toList.length = 3 from hs0.trans cells32)
  obtain rfl := arr_of hl0
  have R0 : Rdc H enc Tryz.prog W 32 [c0_0, c0_1, c0_2] := rdc_of h0
  have O0 := okWide_cells Tryz.underlying32 (hval 0 32 _ rfl rfl)
  have r0 := rdc_field Tryz.underlying32 R0 0 _ rfl 0 1 rfl cells4
  simp only [List.drop_succ_cons, List.drop_zero, List.take_succ_cons, List.take_zero, List.take_nil] at r0
  obtain ⟨x0, rfl⟩ := rdc_bool Tryz.underlying4 r0
  have r3 := rdc_field Tryz.underlying32 R0 1 _ rfl 1 1 rfl cells30
  simp only [List.drop_succ_cons, List.drop_zero, List.take_succ_cons, List.take_zero, List.take_nil] at r3
  have r5 := rdc_field Tryz.underlying30 r3 0 _ rfl 0 1 rfl cells28
  simp only [List.drop_succ_cons, List.drop_zero, List.take_succ_cons, List.take_zero, List.take_nil] at r5
  obtain ⟨x1A, x1l, x1c, x1, rfl, hx1⟩ := rdc_u32s Tryz.underlying28 Tryz.underlying54 cells54 r5 (O0 1 _ rfl)
  have r8 := rdc_field Tryz.underlying32 R0 2 _ rfl 2 1 rfl cells30
  simp only [List.drop_succ_cons, List.drop_zero, List.take_succ_cons, List.take_zero, List.take_nil] at r8
  have r10 := rdc_field Tryz.underlying30 r8 0 _ rfl 0 1 rfl cells28
  simp only [List.drop_succ_cons, List.drop_zero, List.take_succ_cons, List.take_zero, List.take_nil] at r10
  obtain ⟨x2A, x2l, x2c, x2, rfl, hx2⟩ := rdc_u32s Tryz.underlying28 Tryz.underlying54 cells54 r10 (O0 2 _ rfl)
  have cc1 : v1.cells.toList = [v1] := by obtain ⟨_, rfl⟩ := okWide_int Tryz.underlying54 (hval 1 54 v1 rfl rfl); rfl
  have R1 := rdc_of h1
  rw [cc1] at R1
  obtain ⟨x3, rfl, hx3⟩ := rdc_u32 Tryz.underlying54 R1
  have cc2 : v2.cells.toList = [v2] := by obtain ⟨_, rfl⟩ := okWide_int Tryz.underlying3 (hval 2 3 v2 rfl rfl); rfl
  have R2 := rdc_of h2
  rw [cc2] at R2
  obtain ⟨x4, rfl, hx4⟩ := rdc_i64 Tryz.underlying3 R2
  refine (walk_RatioScales x0 x1A x1l x1c x1 x2A x2l x2c x2 x3 x4 W hx1 hx2 hx3 hx4 hL).mono fun e W' ⟨he, bel⟩ => ?_
  subst he
  exact ⟨_, rfl, _, _, _, [], _, [], hW', trodAll_mk1 (shut_bool Tryz.underlying4 _), hall W' bel, rfl, Below.frame bel _, fun h => by cases h⟩
theorem band {a b : Bool} (ha : a = true) (hb : b = true) : (a && b) = true := by rw [ha, hb]; rfl
set_option maxRecDepth 100000 in
set_option maxHeartbeats 40000000 in
theorem closed : joinedFacts Tryz.prog 7 Tryz.f7 Rows.ratioScalesSpec Rows.ratioScalesRow = true := by
  unfold joinedFacts
  repeat' with_reducible refine band ?_ ?_
  all_goals as_aux_lemma => kernel_rfl
theorem over : Rows.ratioScalesRow.holds Tryz.pinned (OpenSpec.ofChange Rows.ratioScalesSpec) :=
  OpenClaim.holds_of_wide 7 Tryz.f7 rfl rfl rfl rfl rfl rfl rfl ⟨rfl, rfl, rfl, rfl, rfl⟩ rfl rfl rfl rfl rfl (by as_aux_lemma => kernel_rfl) Tryz.func7 closed
    (of_decide_eq_true (by as_aux_lemma => kernel_rfl)) (by unfold Func.isWrapper; rw [if_neg (of_decide_eq_false (by as_aux_lemma => kernel_rfl))]; exact ⟨rfl, rfl⟩)
    (fun os started H enc _ => lifted os started H enc)
end Go.Proofs.YtchbefambnhjjaaGreatDoor.ratioScalesProof
namespace Go.Proofs.YtchbefambnhjjaaGreatDoor
theorem ratioScales_row : Rows.RatioScalesSaid := ratioScalesProof.over
theorem ratioScales_holds : Rows.RatioScalesCardSaid :=
  Claim7.holds_tied_plain_at .later [] [.data, .data, .pinned] true (true, "fcc9bd5cfc8f8eeede21c4e4bddb45c4d5758194f0ce39c6f6fc5d8f5f33084a") false
    ratioScales_row (fun _ h => by cases h) (by as_aux_lemma => kernel_rfl) (fun _ h => by cases h) ratioScales_row_tie rfl ⟨rfl, rfl⟩ (by as_aux_lemma => kernel_rfl) rfl
    (fun f fn hf hfn => by
      obtain rfl : f = 7 := Option.some.inj ((show Tryz.prog.funcNamed "numeral/numerallaw02.RatioScales" = some 7 by kernel_rfl).symm.trans hf) |>.symm
      obtain rfl : fn = Tryz.f7 := (Option.some.inj (Tryz.func7.symm.trans hfn)).symm
      exact ⟨by kernel_rfl, fun j t ht => by
        rw [Tryz.params7] at ht
        have hm : t ∈ [32, 54, 3] := by simpa using Array.mem_of_getElem? ht
        have hall : ([32, 54, 3].all fun u => !Tryz.prog.wantsStandIn u) = true := by kernel_rfl
        exact (show Tryz.prog.wantsStandIn t = false by simpa using List.all_eq_true.1 hall t hm)⟩)
    (by as_aux_lemma => kernel_rfl)
#print axioms ratioScales_holds
end Go.Proofs.YtchbefambnhjjaaGreatDoor
