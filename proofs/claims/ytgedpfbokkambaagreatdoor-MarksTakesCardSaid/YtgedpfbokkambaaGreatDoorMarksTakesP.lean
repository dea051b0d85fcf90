/- The law MarksTakes of the given program answers true for every input, and leaves its arguments as they were. No condition. -/
import Derived.Test.YtgedpfbokkambaaGreatDoorMg22
import Derived.Test.YtgedpfbokkambaaGreatDoorMg26
import Derived.Test.YtgedpfbokkambaaGreatDoorCards
import Derived.Test.YtgedpfbokkambaaGreatDoorTie
import Derived.LaidMore
import Derived.Lay
import Derived.Stop.Joined
import Derived.SevenTiedAt
set_option linter.unusedSimpArgs false
set_option linter.unusedVariables false
namespace Go.Proofs.YtgedpfbokkambaaGreatDoor.marksTakesProof
open Go.ChangeShapes Go.WideShapes Go.ChangeAt Go.RowKit
theorem cells3 : Tryz.prog.cellsOf 3 = 1 := by kernel_rfl
theorem cells9 : Tryz.prog.cellsOf 9 = 1 := by kernel_rfl
theorem cells21 : Tryz.prog.cellsOf 21 = 1 := by kernel_rfl
theorem cells22 : Tryz.prog.cellsOf 22 = 1 := by kernel_rfl
theorem cells24 : Tryz.prog.cellsOf 24 = 5 := by kernel_rfl
set_option maxRecDepth 100000 in
theorem lifted (os : Os) (started : os.Started) (H : Type) (enc : TypeId × Value → H) :
    ReturnsInHanded {} Tryz.checked os 3 .any (fun w args => (Rows.marksTakesSpec.pre enc Tryz.prog Tryz.f3 [] false w args ∧ laidMetH Tryz.prog Rows.marksTakesRow.laid w) ∧ sizedMet enc Tryz.prog Tryz.f3 (OpenSpec.ofChange Rows.marksTakesSpec) false w args)
      (Rows.marksTakesSpec.post enc Tryz.prog Tryz.f3 false true false false) := by
  refine returnsInHanded_of_change_and (C := Tryz.checked) (X := fun w _ => laidMetH Tryz.prog Rows.marksTakesRow.laid w) (fun _ _ _ hh h => h.of_heap hh) ownKnobNone started (by as_aux_lemma => kernel_rfl) Tryz.func3
    (ChangeSpec.witness_shaped (enc := enc) (C := Tryz.checked) (os := os) (X := fun w _ => laidMetH Tryz.prog Rows.marksTakesRow.laid w) false (lwWit os) #[.agg #[.int .i32 0, .int .i32 0, .int .i32 0, .int .i32 0, .slice none 0 0], .string ⟨#[]⟩] 8 (lwWit_os os)
      (World.shaped_of_ZipB (by as_aux_lemma => kernel_rfl) (by as_aux_lemma => kernel_rfl)) (by as_aux_lemma => kernel_rfl) (by as_aux_lemma => kernel_rfl) (by as_aux_lemma => kernel_rfl) (lwWit_met os _)) ?_
  intro W base args ds gs before hval0 hW _ hz hL _
  have hval : ∀ (j : Nat) t v, Tryz.f3.params[j]? = some t → args[j]? = some v → Value.okWide Tryz.prog W .any base t v := hval0
  have hW' := hW
  obtain ⟨p, q, hA0, hV, rfl, hfz, hnd⟩ := hW
  have hA : DataW.TrodAll enc Tryz.prog W 0 (fun _ => true) true Tryz.f3.params.toList args.toList ds p := hA0
  have hall : ∀ W', Ext W W' → DataW.TrodAll enc Tryz.prog W' 0 (fun b => decide (b < W.heap.size)) true Tryz.f3.params.toList args.toList ds p := fun W' hx => all_stay laidOutP (by
    rw [Tryz.params3]
    intro t ht
    simp only [List.mem_cons, List.not_mem_nil, or_false] at ht
    rcases ht with rfl | rfl <;> exact ⟨by kernel_rfl, of_decide_eq_true (by as_aux_lemma => kernel_rfl)⟩) hx hA (all_lt hA)
  rw [Tryz.params3] at hA hval hz
  obtain ⟨v0, vs0, d0, ds0, p0, q0, hargs, rfl, rfl, h0, rr0⟩ := trodAll_cons hA
  obtain ⟨v1, vs1, d1, ds1, p1, q1, rfl, rfl, rfl, h1, rr1⟩ := trodAll_cons rr0
  obtain ⟨rfl, rfl, rfl⟩ := trodAll_nil rr1
  obtain rfl : args = #[v0, v1] := by cases args; simp_all
  obtain ⟨rfl, rfl⟩ := trodVars_none hV
  obtain ⟨cs0, rfl, hs0⟩ := okWide_struct Tryz.underlying24 (hval 0 24 v0 rfl rfl)
  obtain ⟨c0_0, c0_1, c0_2, c0_3, c0_4, hl0⟩ := llen5 (show cs0.toList.length = 5 from hs0.trans cells24)
  obtain rfl := arr_of hl0
  have R0 : Rdc H enc Tryz.prog W 24 [c0_0, c0_1, c0_2, c0_3, c0_4] := rdc_of h0
  have O0 := okWide_cells Tryz.underlying24 (hval 0 24 _ rfl rfl)
  have r0 := rdc_field Tryz.underlying24 R0 0 _ rfl 0 1 rfl cells21
  simp only [List.drop_succ_cons, List.drop_zero, List.take_succ_cons, List.take_zero, List.take_nil] at r0
  obtain ⟨x0, rfl, hx0⟩ := rdc_i32 Tryz.underlying21 r0
  have r3 := rdc_field Tryz.underlying24 R0 1 _ rfl 1 1 rfl cells21
  simp only [List.drop_succ_cons, List.drop_zero, List.take_succ_cons, List.take_zero, List.take_nil] at r3
  obtain ⟨x1, rfl, hx1⟩ := rdc_i32 Tryz.underlying21 r3
  have r6 := rdc_field Tryz.underlying24 R0 2 _ rfl 2 1 rfl cells21
  simp only [List.drop_succ_cons, List.drop_zero, List.take_succ_cons, List.take_zero, List.take_nil] at r6
  obtain ⟨x2, rfl, hx2⟩ := rdc_i32 Tryz.underlying21 r6
  have r9 := rdc_field Tryz.underlying24 R0 3 _ rfl 3 1 rfl cells21
  simp only [List.drop_succ_cons, List.drop_zero, List.take_succ_cons, List.take_zero, List.take_nil] at r9
  obtain ⟨x3, rfl, hx3⟩ := rdc_i32 Tryz.underlying21 r9
  have r12 := rdc_field Tryz.underlying24 R0 4 _ rfl 4 1 rfl cells22
  simp only [List.drop_succ_cons, List.drop_zero, List.take_succ_cons, List.take_zero, List.take_nil] at r12
  obtain ⟨x4A, x4l, x4c, x4, rfl, hx4⟩ := rdc_i64s Tryz.underlying22 Tryz.underlying3 cells3 r12 (O0 4 _ rfl)
  have hwx4 : x4c * 8 ≤ 140737488351232 := weight_field (P := Tryz.prog) (j := 0) hz rfl rfl h0 Tryz.underlying24 4 _ rfl 4 rfl cells22 Tryz.underlying22 (A := x4A) (n := x4l) (c := x4c) rfl
  have cc1 : v1.cells.toList = [v1] := by obtain ⟨_, rfl⟩ := okWide_string Tryz.underlying9 (hval 1 9 v1 rfl rfl); rfl
  have R1 := rdc_of h1
  rw [cc1] at R1
  obtain ⟨x5, rfl, hx5⟩ := rdc_string Tryz.underlying9 R1
  refine (walk_MarksTakes x0 x1 x2 x3 x4A x4l x4c x4 x5 W hx0 hx1 hx2 hx3 hx4 hwx4 hx5 (lw_met hL)).mono fun e W' ⟨he, bel⟩ => ?_
  subst he
  exact ⟨_, rfl, _, _, _, [], _, [], hW', trodAll_mk1 (shut_bool Tryz.underlying4 _), hall W' bel, rfl, Below.frame bel _, fun h => by cases h⟩
theorem band {a b : Bool} (ha : a = true) (hb : b = true) : (a && b) = true := by rw [ha, hb]; rfl
set_option maxRecDepth 100000 in
set_option maxHeartbeats 40000000 in
theorem closed : joinedFacts Tryz.prog 3 Tryz.f3 Rows.marksTakesSpec Rows.marksTakesRow = true := by
  unfold joinedFacts
  repeat' with_reducible refine band ?_ ?_
  all_goals as_aux_lemma => kernel_rfl
theorem over : Rows.marksTakesRow.holds Tryz.pinned (OpenSpec.ofChange Rows.marksTakesSpec) :=
  OpenClaim.holds_of_wide 3 Tryz.f3 rfl rfl rfl rfl rfl rfl rfl ⟨rfl, rfl, rfl, rfl, rfl⟩ rfl rfl rfl rfl rfl (by as_aux_lemma => kernel_rfl) Tryz.func3 closed
    (of_decide_eq_true (by as_aux_lemma => kernel_rfl)) (by unfold Func.isWrapper; rw [if_neg (of_decide_eq_false (by as_aux_lemma => kernel_rfl))]; exact ⟨rfl, rfl⟩)
    (fun os started H enc _ => lifted os started H enc)
end Go.Proofs.YtgedpfbokkambaaGreatDoor.marksTakesProof
namespace Go.Proofs.YtgedpfbokkambaaGreatDoor
theorem marksTakes_row : Rows.MarksTakesSaid := marksTakesProof.over
theorem marksTakes_holds : Rows.MarksTakesCardSaid :=
  Claim7.holds_tied_plain_at .later [] [.data, .handle, .pinned] true (true, "85474572ddcb7706e096457bf3ea9f517d94a002c2c20b689d536a59aae57687") true
    marksTakes_row (fun _ h => by cases h) (by as_aux_lemma => kernel_rfl) (fun _ h => by cases h) marksTakes_row_tie rfl ⟨rfl, rfl⟩ (by as_aux_lemma => kernel_rfl) rfl
    (fun f fn hf hfn => by
      obtain rfl : f = 3 := Option.some.inj ((show Tryz.prog.funcNamed "numeral/numerallaw23.MarksTakes" = some 3 by kernel_rfl).symm.trans hf) |>.symm
      obtain rfl : fn = Tryz.f3 := (Option.some.inj (Tryz.func3.symm.trans hfn)).symm
      exact ⟨by kernel_rfl, fun j t ht => by
        rw [Tryz.params3] at ht
        have hm : t ∈ [24, 9] := by simpa using Array.mem_of_getElem? ht
        have hall : ([24, 9].all fun u => !Tryz.prog.wantsStandIn u) = true := by kernel_rfl
        exact (show Tryz.prog.wantsStandIn t = false by simpa using List.all_eq_true.1 hall t hm)⟩)
    (by as_aux_lemma => kernel_rfl)
#print axioms marksTakes_holds
end Go.Proofs.YtgedpfbokkambaaGreatDoor
