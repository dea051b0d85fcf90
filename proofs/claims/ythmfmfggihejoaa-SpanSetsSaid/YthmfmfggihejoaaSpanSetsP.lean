/- The law SpanSets of the given program answers true for every input, and leaves its arguments as they were. No condition. -/
import Derived.Test.YthmfmfggihejoaaSpanSetsW
import Derived.Test.YthmfmfggihejoaaLaw
namespace Go.Proofs.Ythmfmfggihejoaa.spanSetsProof
open Go.ChangeShapes Go.WideShapes Go.ChangeAt Go.RowKit
theorem cells22 : Try.prog.cellsOf 22 = 1 := by kernel_rfl
theorem cells24 : Try.prog.cellsOf 24 = 2 := by kernel_rfl
set_option maxRecDepth 100000 in
theorem lifted (os : Os) (started : os.Started) (H : Type) (enc : TypeId × Value → H) :
    ReturnsInHanded {} Try.checked os 4 .any (Rows.spanSetsSpec.pre6 enc Try.prog Try.f4 Rows.spanSetsRow.domain false) (Rows.spanSetsSpec.post enc Try.prog Try.f4 false true false false) := by
  refine returnsInHanded_of_change (C := Try.checked) ownKnobNone started (by kernel_rfl) Try.func4
    (ChangeSpec.witness6 (enc := enc) (C := Try.checked) false ⟨#[], #[.agg #[.int .u64 0, .int .u64 0], .agg #[.int .u64 0, .int .u64 0], .int .u64 0], []⟩ 8 (by kernel_rfl) (by kernel_rfl) (by kernel_rfl) (by kernel_rfl)) ?_
  intro W base args ds gs before hval0 hW hcnd _
  have hval : ∀ (j : Nat) t v, Try.f4.params[j]? = some t → args[j]? = some v → Value.okWide Try.prog W .any base t v := hval0
  have hW' := hW
  obtain ⟨p, q, hA0, hV, rfl, hfz, hnd⟩ := hW
  have hA : DataW.TrodAll enc Try.prog W 0 (fun _ => true) true Try.f4.params.toList args.toList ds p := hA0
  have hall : ∀ W', Ext W W' → DataW.TrodAll enc Try.prog W' 0 (fun b => decide (b < W.heap.size)) true Try.f4.params.toList args.toList ds p := fun W' hx => all_stay laidOutP (by
    rw [Try.params4]
    intro t ht
    simp only [List.mem_cons, List.not_mem_nil, or_false] at ht
    rcases ht with rfl | rfl | rfl <;> exact ⟨by kernel_rfl, of_decide_eq_true (by kernel_rfl)⟩) hx hA (all_lt hA)
  rw [Try.params4] at hA hval
  obtain ⟨v0, vs0, d0, ds0, p0, q0, hargs, rfl, rfl, h0, rr0⟩ := trodAll_cons hA
  obtain ⟨v1, vs1, d1, ds1, p1, q1, rfl, rfl, rfl, h1, rr1⟩ := trodAll_cons rr0
  obtain ⟨v2, vs2, d2, ds2, p2, q2, rfl, rfl, rfl, h2, rr2⟩ := trodAll_cons rr1
  obtain ⟨rfl, rfl, rfl⟩ := trodAll_nil rr2
  obtain rfl : args = #[v0, v1, v2] := by cases args; simp_all
  obtain ⟨rfl, rfl⟩ := trodVars_none hV
  obtain ⟨cs0, rfl, hs0⟩ := okWide_struct Try.underlying24 (hval 0 24 v0 rfl rfl)
  obtain ⟨c0_0, c0_1, hl0⟩ := len2 (show cs0.toList.length = 2 from hs0.trans cells24)
  obtain rfl := arr_of hl0
  have R0 : Rdc H enc Try.prog W 24 [c0_0, c0_1] := rdc_of h0
  have r0 := rdc_field Try.underlying24 R0 0 _ rfl 0 1 rfl cells22
  simp only [List.drop_succ_cons, List.drop_zero, List.take_succ_cons, List.take_zero, List.take_nil] at r0
  obtain ⟨x0, rfl, hx0⟩ := rdc_u64 Try.underlying22 r0
  have r3 := rdc_field Try.underlying24 R0 1 _ rfl 1 1 rfl cells22
  simp only [List.drop_succ_cons, List.drop_zero, List.take_succ_cons, List.take_zero, List.take_nil] at r3
  obtain ⟨x1, rfl, hx1⟩ := rdc_u64 Try.underlying22 r3
  obtain ⟨cs1, rfl, hs1⟩ := okWide_struct Try.underlying24 (hval 1 24 v1 rfl rfl)
  obtain ⟨c1_0, c1_1, hl1⟩ := len2 (show cs1.toList.length = 2 from hs1.trans cells24)
  obtain rfl := arr_of hl1
  have R1 : Rdc H enc Try.prog W 24 [c1_0, c1_1] := rdc_of h1
  have r0 := rdc_field Try.underlying24 R1 0 _ rfl 0 1 rfl cells22
  simp only [List.drop_succ_cons, List.drop_zero, List.take_succ_cons, List.take_zero, List.take_nil] at r0
  obtain ⟨x2, rfl, hx2⟩ := rdc_u64 Try.underlying22 r0
  have r3 := rdc_field Try.underlying24 R1 1 _ rfl 1 1 rfl cells22
  simp only [List.drop_succ_cons, List.drop_zero, List.take_succ_cons, List.take_zero, List.take_nil] at r3
  obtain ⟨x3, rfl, hx3⟩ := rdc_u64 Try.underlying22 r3
  have cc2 : v2.cells.toList = [v2] := by obtain ⟨_, rfl⟩ := okWide_int Try.underlying22 (hval 2 22 v2 rfl rfl); rfl
  have R2 := rdc_of h2
  rw [cc2] at R2
  obtain ⟨x4, rfl, hx4⟩ := rdc_u64 Try.underlying22 R2
  refine (walk_SpanSets x0 x1 x2 x3 x4 W hx0 hx1 hx2 hx3 hx4).mono fun e W' ⟨he, bel⟩ => ?_
  subst he
  exact ⟨_, rfl, _, _, _, [], _, [], hW', trodAll_mk1 (shut_bool Try.underlying4 _), hall W' bel, rfl, Below.frame bel _, fun h => by cases h⟩
theorem over : Rows.spanSetsRow.holds Try.pinned (OpenSpec.ofChange Rows.spanSetsSpec) :=
  OpenClaim.holds_of_wide 4 Try.f4 rfl rfl rfl rfl rfl rfl rfl ⟨rfl, rfl, rfl, rfl, rfl⟩ rfl rfl rfl rfl rfl (by kernel_rfl) Try.func4 (by kernel_rfl)
    (of_decide_eq_true (by kernel_rfl)) (by unfold Func.isWrapper; rw [if_neg (of_decide_eq_false (by kernel_rfl))]; exact ⟨rfl, rfl⟩)
    (fun os started H enc _ => lifted os started H enc)
end Go.Proofs.Ythmfmfggihejoaa.spanSetsProof
namespace Go.Proofs.Ythmfmfggihejoaa
theorem spanSets_holds : Rows.SpanSetsSaid := spanSetsProof.over
#print axioms spanSets_holds
end Go.Proofs.Ythmfmfggihejoaa
