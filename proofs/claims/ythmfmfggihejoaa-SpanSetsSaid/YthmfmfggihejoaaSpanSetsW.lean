import Derived.Test.YthmfmfggihejoaaSpanT
import Derived.Test.YthmfmfggihejoaaDrawn
import Derived.Deep.DeepCutAuto
import Derived.Deep.RegionWith
namespace Go.Proofs.Ythmfmfggihejoaa
open Go.RowKit
attribute [local go_sem high] run_feq run_fne run_flt run_fle run_fgt run_fge run_fmax run_fmin
attribute [local go_sem] Oper.detAt detUpon relUpon
attribute [local go_sem] unary_neg_float fbits fromb run_store_float sz2 sz3 sz4 sz5 sz6 sz7 sz8
set_option maxRecDepth 100000 in
set_option maxHeartbeats 2000000 in
theorem walk_SpanSets (x0 : Nat) (x1 : Nat) (x2 : Nat) (x3 : Nat) (x4 : Nat) (w : World) (hx0 : x0 < 2 ^ 64) (hx1 : x1 < 2 ^ 64) (hx2 : x2 < 2 ^ 64) (hx3 : x3 < 2 ^ 64) (hx4 : x4 < 2 ^ 64) :
    Calls Try.prog 4 #[.agg #[.int .u64 x0, .int .u64 x1], .agg #[.int .u64 x2, .int .u64 x3], .int .u64 x4] w fun e w' => e = .returned (.bool true) ∧ Ext w w' := by
  go_enter Try.func4, Try.ntmps4
  go_upto_region 1 with (fail)
  go_cut [7, 8] (fun p q wc => ∃ A B : Nat, p = .pointer (some ⟨A, 0, none⟩) ∧ q = .pointer (some ⟨B, 0, none⟩) ∧ Ext w wc ∧ A < wc.heap.size ∧ B < wc.heap.size ∧ wc.cell? ⟨A, 0, none⟩ = some (.float .f64 x0) ∧ wc.cell? ⟨A, 1, none⟩ = some (.float .f64 x1) ∧ wc.cell? ⟨B, 0, none⟩ = some (.float .f64 x2) ∧ wc.cell? ⟨B, 1, none⟩ = some (.float .f64 x3))
  case first =>
    refine wp_drawn_tail 6 (tab [(4, RAlloc (w.heap.size + 1 + 1) (.cells #[.float .f64 0, .float .f64 0] 27)), (5, RAlloc (w.heap.size + 1 + 1) (.cells #[.float .f64 0, .float .f64 0] 27))]) (by kernel_rfl) (by kernel_rfl) (by kernel_rfl)
      (tab_stays (by simp [stays_alloc])) (fun hq hqf => ?_)
    simp only [List.take_succ_cons, List.take_zero, List.drop_succ_cons, List.drop_zero]
    iterate 4
      (refine wpK_det rfl (fun K hK => ?_)
       go_simp
       first
         | (refine hK _ ?_; clear hK K)
         | (apply Exists.intro; refine ⟨fun _ => ?_, hK _ ?_⟩; (exact ends_span _ _ _); clear hK K))
    refine wpK_rel _ rfl rfl ?_ ?_
    · rintro _ ⟨n, rfl⟩ _
      unfold Oper.relAt
      go_simp
      exact rAlloc_new (vals := []) (by have := ext_size n.use; simpa using this)
    rintro v ⟨_, ⟨n, rfl⟩, hr⟩
    obtain ⟨A, rfl, leA⟩ := rAlloc_open (vals := []) hr
    clear hr n
    simp only [Act.put, List.setIfInBounds_toArray, List.set_cons_zero, List.set_cons_succ]
    refine wpK_rel _ rfl rfl ?_ ?_
    · rintro _ ⟨n, rfl⟩ _
      unfold Oper.relAt
      go_simp
      exact rAlloc_new (vals := []) (by have := ext_size n.use; simpa using this)
    rintro v ⟨_, ⟨n, rfl⟩, hr⟩
    obtain ⟨B, rfl, leB⟩ := rAlloc_open (vals := []) hr
    clear hr n
    simp only [Act.put, List.setIfInBounds_toArray, List.set_cons_zero, List.set_cons_succ]
    refine wpK_nil ?_
    intro nq hG
    have hAB : A ≠ B := fun e => hG.apart 4 5 A (by decide) (by simp [Facts.put, blk]) (by simp [Facts.put, blk, e])
    have hBA : B ≠ A := fun e => hAB e.symm
    have fA := hG.fact 4
    have ltA := hG.there 4 A (by simp [Facts.put, blk])
    simp [Facts.put, RAlloc] at fA
    have ceA := fun i => cell_of_block fA.2 i
    have frA := fun i => frozen_of_block fA.2 i
    have neA : ∀ b, b < _ → (b = A) = False := fun b hb => eq_false (Nat.ne_of_lt (Nat.lt_of_lt_of_le hb fA.1))
    clear fA
    have fB := hG.fact 5
    have ltB := hG.there 5 B (by simp [Facts.put, blk])
    simp [Facts.put, RAlloc] at fB
    have ceB := fun i => cell_of_block fB.2 i
    have frB := fun i => frozen_of_block fB.2 i
    have neB : ∀ b, b < _ → (b = B) = False := fun b hb => eq_false (Nat.ne_of_lt (Nat.lt_of_lt_of_le hb fB.1))
    clear fB
    clear hG
    go_wp2
    go_meet
    case rel =>
      refine ⟨A, B, rfl, rfl, ?_, ?_, ?_, ?_, ?_, ?_, ?_⟩
      · (repeat (first | exact ext_refl _ | assumption | refine ext_setCell ?_ (by simp; try omega) _ | refine ext_alloc ?_ _ | refine ext_drew ?_ | refine ext_drewN ?_ _ | refine ext_trans ?_ (Aft.use _) | refine ext_trans ?_ (by assumption)))
      all_goals go_simp
  case rest =>
    obtain ⟨A, B, rfl, rfl, hE, ltA, ltB, a0, a1, b0, b1⟩ := hcut

    go_wp2
    refine wp_aft (by kernel_rfl) (by kernel_rfl) (fun hq hqf => ?_)
    repeat (go_big_quiet_step (first
      | (go_at_call 11; exact aft_of (has_any _ _ _ hx0 hx1 _))
      ))
    refine wpQuiet_nil ?_
    rintro _ ⟨nq, rfl⟩
    have xl := ext_lt nq.use
    have xz := ext_size nq.use
    try simp at xz
    (have xE : Ext wc nq.out := (by repeat (first | exact ext_refl _ | assumption | refine ext_setCell ?_ (by simp; try omega) _ | refine ext_alloc ?_ _ | refine ext_drew ?_ | refine ext_drewN ?_ _ | refine ext_trans ?_ (Aft.use _) | refine ext_trans ?_ (by assumption))))
    have y_a0 := (Below.cell (p := ⟨A, 0, none⟩) xE ltA).trans a0
    have y_a1 := (Below.cell (p := ⟨A, 1, none⟩) xE ltA).trans a1
    have y_ltA := ext_lt xE A ltA
    have y_b0 := (Below.cell (p := ⟨B, 0, none⟩) xE ltB).trans b0
    have y_b1 := (Below.cell (p := ⟨B, 1, none⟩) xE ltB).trans b1
    have y_ltB := ext_lt xE B ltB
    clear xE
    go_wp2
    refine wp_aft (by kernel_rfl) (by kernel_rfl) (fun hq hqf => ?_)
    repeat (go_big_quiet_step (first
      | (go_at_call 13; exact aft_of (rhas_any _ _ _ hx0 hx1 _))
      ))
    refine wpQuiet_nil ?_
    rintro _ ⟨nq, rfl⟩
    have xl := ext_lt nq.use
    have xz := ext_size nq.use
    try simp at xz
    (have xE : Ext wc nq.out := (by repeat (first | exact ext_refl _ | assumption | refine ext_setCell ?_ (by simp; try omega) _ | refine ext_alloc ?_ _ | refine ext_drew ?_ | refine ext_drewN ?_ _ | refine ext_trans ?_ (Aft.use _) | refine ext_trans ?_ (by assumption))))
    have y_a0 := (Below.cell (p := ⟨A, 0, none⟩) xE ltA).trans a0
    have y_a1 := (Below.cell (p := ⟨A, 1, none⟩) xE ltA).trans a1
    have y_ltA := ext_lt xE A ltA
    have y_b0 := (Below.cell (p := ⟨B, 0, none⟩) xE ltB).trans b0
    have y_b1 := (Below.cell (p := ⟨B, 1, none⟩) xE ltB).trans b1
    have y_ltB := ext_lt xE B ltB
    clear xE
    go_wp2_with (first
      | (go_at_call 14; (with_reducible refine (in_any _ _ _ _ hx0 hx1 hx2 hx3 _).mono ?_); rintro e w' ⟨rfl, xb⟩; obtain ⟨xc, xf, xl, xz⟩ := ext_use xb; (try simp at xz); (have xE : Ext wc w' := (by repeat (first | exact ext_refl _ | assumption | refine ext_setCell ?_ (by simp; try omega) _ | refine ext_alloc ?_ _ | refine ext_drew ?_ | refine ext_drewN ?_ _ | refine ext_trans ?_ (Aft.use _) | refine ext_trans ?_ (by assumption)))); have y_a0 := (Below.cell (p := ⟨A, 0, none⟩) xE ltA).trans a0; have y_a1 := (Below.cell (p := ⟨A, 1, none⟩) xE ltA).trans a1; have y_ltA := ext_lt xE A ltA; have y_b0 := (Below.cell (p := ⟨B, 0, none⟩) xE ltB).trans b0; have y_b1 := (Below.cell (p := ⟨B, 1, none⟩) xE ltB).trans b1; have y_ltB := ext_lt xE B ltB; clear xE)
      | (go_at_call 15; (with_reducible refine (rin_any _ _ _ _ hx0 hx1 hx2 hx3 _).mono ?_); rintro e w' ⟨rfl, xb⟩; obtain ⟨xc, xf, xl, xz⟩ := ext_use xb; (try simp at xz); (have xE : Ext wc w' := (by repeat (first | exact ext_refl _ | assumption | refine ext_setCell ?_ (by simp; try omega) _ | refine ext_alloc ?_ _ | refine ext_drew ?_ | refine ext_drewN ?_ _ | refine ext_trans ?_ (Aft.use _) | refine ext_trans ?_ (by assumption)))); have y_a0 := (Below.cell (p := ⟨A, 0, none⟩) xE ltA).trans a0; have y_a1 := (Below.cell (p := ⟨A, 1, none⟩) xE ltA).trans a1; have y_ltA := ext_lt xE A ltA; have y_b0 := (Below.cell (p := ⟨B, 0, none⟩) xE ltB).trans b0; have y_b1 := (Below.cell (p := ⟨B, 1, none⟩) xE ltB).trans b1; have y_ltB := ext_lt xE B ltB; clear xE)
      | (go_at_call 16; (with_reducible refine (meet_any _ _ _ _ hx0 hx1 hx2 hx3 _).mono ?_); rintro e w3 ⟨rfl, xb⟩; obtain ⟨xc, xf, xl, xz⟩ := ext_use xb; (try simp at xz); (have xE : Ext wc w3 := (by repeat (first | exact ext_refl _ | assumption | refine ext_setCell ?_ (by simp; try omega) _ | refine ext_alloc ?_ _ | refine ext_drew ?_ | refine ext_drewN ?_ _ | refine ext_trans ?_ (Aft.use _) | refine ext_trans ?_ (by assumption)))); have y_a0 := (Below.cell (p := ⟨A, 0, none⟩) xE ltA).trans a0; have y_a1 := (Below.cell (p := ⟨A, 1, none⟩) xE ltA).trans a1; have y_ltA := ext_lt xE A ltA; have y_b0 := (Below.cell (p := ⟨B, 0, none⟩) xE ltB).trans b0; have y_b1 := (Below.cell (p := ⟨B, 1, none⟩) xE ltB).trans b1; have y_ltB := ext_lt xE B ltB; clear xE)
      | (go_at_call 17; (with_reducible refine (rmeet_any _ _ _ _ hx0 hx1 hx2 hx3 _).mono ?_); rintro e w4 ⟨rfl, xb⟩; obtain ⟨xc, xf, xl, xz⟩ := ext_use xb; (try simp at xz); (have xE : Ext wc w4 := (by repeat (first | exact ext_refl _ | assumption | refine ext_setCell ?_ (by simp; try omega) _ | refine ext_alloc ?_ _ | refine ext_drew ?_ | refine ext_drewN ?_ _ | refine ext_trans ?_ (Aft.use _) | refine ext_trans ?_ (by assumption)))); have y_a0 := (Below.cell (p := ⟨A, 0, none⟩) xE ltA).trans a0; have y_a1 := (Below.cell (p := ⟨A, 1, none⟩) xE ltA).trans a1; have y_ltA := ext_lt xE A ltA; have y_b0 := (Below.cell (p := ⟨B, 0, none⟩) xE ltB).trans b0; have y_b1 := (Below.cell (p := ⟨B, 1, none⟩) xE ltB).trans b1; have y_ltB := ext_lt xE B ltB; clear xE; have m0 := (xc w3.heap.size 0 (by simp)); have m1 := (xc w3.heap.size 1 (by simp)); (have ltM : w3.heap.size < w4.heap.size := by omega))
     )
    refine wp_aft (by kernel_rfl) (by kernel_rfl) (fun hq hqf => ?_)
    repeat (go_big_quiet_step (first
      | (go_at_call 18; exact aft_of (join_any _ _ _ _ hx0 hx1 hx2 hx3 _))
      | (go_at_call 19; exact aft_of (rjoin_any _ _ _ _ hx0 hx1 hx2 hx3 _))
      | (go_at_call 6; exact aft_of (of_any _ _ _ _))
      ))
    refine wpQuiet_nil ?_
    rintro _ ⟨nq, rfl⟩
    have xl := ext_lt nq.use
    have xz := ext_size nq.use
    try simp at xz
    (have xE : Ext wc nq.out := (by repeat (first | exact ext_refl _ | assumption | refine ext_setCell ?_ (by simp; try omega) _ | refine ext_alloc ?_ _ | refine ext_drew ?_ | refine ext_drewN ?_ _ | refine ext_trans ?_ (Aft.use _) | refine ext_trans ?_ (by assumption))))
    have y_a0 := (Below.cell (p := ⟨A, 0, none⟩) xE ltA).trans a0
    have y_a1 := (Below.cell (p := ⟨A, 1, none⟩) xE ltA).trans a1
    have y_ltA := ext_lt xE A ltA
    have y_b0 := (Below.cell (p := ⟨B, 0, none⟩) xE ltB).trans b0
    have y_b1 := (Below.cell (p := ⟨B, 1, none⟩) xE ltB).trans b1
    have y_ltB := ext_lt xE B ltB
    clear xE
    go_wp2
    go_ret
    refine ⟨rfl, ?_⟩
    repeat (first | exact ext_refl _ | assumption | refine ext_setCell ?_ (by simp; try omega) _ | refine ext_alloc ?_ _ | refine ext_drew ?_ | refine ext_drewN ?_ _ | refine ext_trans ?_ (Aft.use _) | refine ext_trans ?_ (by assumption))
end Go.Proofs.Ythmfmfggihejoaa
