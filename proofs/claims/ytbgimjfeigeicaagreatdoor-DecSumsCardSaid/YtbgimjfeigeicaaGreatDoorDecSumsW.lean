/- DecSums: the walk. -/
import Derived.Test.YtbgimjfeigeicaaGreatDoorSumB
import Derived.Test.YtbgimjfeigeicaaGreatDoorSumE
import Derived.Test.YtbgimjfeigeicaaGreatDoorSumF
import Derived.Test.YtbgimjfeigeicaaGreatDoorSumH
import Derived.Test.YtbgimjfeigeicaaGreatDoorSumJ
import Derived.Test.YtbgimjfeigeicaaGreatDoorDecTw
namespace Go.Proofs.YtbgimjfeigeicaaGreatDoor
open Go.RowKit
attribute [local go_sem] bs_size bs_extract bs_get bs_append bs_toList const_get
attribute [local go_sem] sz2 sz3 sz4 sz5 sz6 sz7 sz8
set_option maxHeartbeats 4000000
set_option maxRecDepth 100000
attribute [local irreducible] Calls
theorem walk_DecSums (x0 : Bool) (x1 : ByteArray) (x2 : Int) (x3 : Bool) (x4 : ByteArray) (x5 : Int) (w : World) (hx1 : x1.size ≤ maxLen) (hx2 : -9223372036854775808 ≤ x2 ∧ x2 ≤ 9223372036854775807) (hx4 : x4.size ≤ maxLen) (hx5 : -9223372036854775808 ≤ x5 ∧ x5 ≤ 9223372036854775807) :
    Calls Tryz.prog 3 #[.agg #[.bool x0, .string x1, .int .i64 x2], .agg #[.bool x3, .string x4, .int .i64 x5]] w fun e w' => e = .returned (.bool true) ∧ Ext w w' := by
  obtain ⟨l, rfl⟩ := bs_of x1
  obtain ⟨r, rfl⟩ := bs_of x4
  rw [bs_size] at hx1 hx4
  unfold maxLen at hx1 hx4
  have c1 := cmp_any ⟨x0, l, x2⟩ ⟨x3, r, x5⟩ hx1 hx4
  have c2 := rcmp_any10 ⟨x0, l, x2⟩ ⟨x3, r, x5⟩ hx1 hx4
  have a1 := dadd_any ⟨x0, l, x2⟩ ⟨x3, r, x5⟩ hx1 hx4
  have a2 := rdadd_any ⟨x0, l, x2⟩ ⟨x3, r, x5⟩ hx1 hx4
  have a3 := dadd_any ⟨x3, r, x5⟩ ⟨x0, l, x2⟩ hx4 hx1
  have a4 := rdadd_any ⟨x3, r, x5⟩ ⟨x0, l, x2⟩ hx4 hx1
  have a5 := dadd_any ⟨x0, l, x2⟩ ⟨x0, l, x2⟩ hx1 hx1
  have a6 := rdadd_any ⟨x0, l, x2⟩ ⟨x0, l, x2⟩ hx1 hx1
  have m1 := mul_any ⟨x0, l, x2⟩ ⟨x3, r, x5⟩ hx1 hx4
  have m2 := rdmul_any ⟨x0, l, x2⟩ ⟨x3, r, x5⟩ hx1 hx4
  have m3 := mul_any ⟨x3, r, x5⟩ ⟨x3, r, x5⟩ hx4 hx4
  have m4 := rdmul_any ⟨x3, r, x5⟩ ⟨x3, r, x5⟩ hx4 hx4
  have k1 := check_any' ⟨x0, l, x2⟩ hx1
  have k2 := rcheck_any ⟨x0, l, x2⟩ hx1
  generalize cmpR ⟨x0, l, x2⟩ ⟨x3, r, x5⟩ = C at c1 c2
  generalize addR ⟨x0, l, x2⟩ ⟨x3, r, x5⟩ = R1 at a1 a2
  generalize addR ⟨x3, r, x5⟩ ⟨x0, l, x2⟩ = R2 at a3 a4
  generalize addR ⟨x0, l, x2⟩ ⟨x0, l, x2⟩ = R3 at a5 a6
  generalize mulR ⟨x0, l, x2⟩ ⟨x3, r, x5⟩ = S1 at m1 m2
  generalize mulR ⟨x3, r, x5⟩ ⟨x3, r, x5⟩ = S2 at m3 m4
  generalize dcE ⟨x0, l, x2⟩ = K at k1 k2
  obtain ⟨cc, ce⟩ := C
  obtain ⟨⟨p1, q1, r1⟩, e1⟩ := R1
  obtain ⟨⟨p2, q2, r2⟩, e2⟩ := R2
  obtain ⟨⟨p3, q3, r3⟩, e3⟩ := R3
  obtain ⟨⟨p4, q4, r4⟩, e4⟩ := S1
  obtain ⟨⟨p5, q5, r5⟩, e5⟩ := S2
  clear hx1 hx2 hx4 hx5
  go_enter Tryz.func3, Tryz.ntmps3
  go_wp2_with (first
    | (go_at_call 9; (with_reducible refine (c1 _).mono ?_); rintro e w1 ⟨rfl, xb1⟩; obtain ⟨xc1, xf1, xl1, xz1⟩ := ext_use xb1; (try simp at xz1); have l1_0 := xl1 (w.heap.size) (by first | omega | (simp; try omega)); have r1_0 := xc1 (w.heap.size) 0 (by first | omega | (simp; try omega)); have f1_0 := xf1 (w.heap.size) 0 (by first | omega | (simp; try omega)); have r1_0_1 := xc1 (w.heap.size) 1 (by first | omega | (simp; try omega)); have f1_0_1 := xf1 (w.heap.size) 1 (by first | omega | (simp; try omega)); have r1_0_2 := xc1 (w.heap.size) 2 (by first | omega | (simp; try omega)); have f1_0_2 := xf1 (w.heap.size) 2 (by first | omega | (simp; try omega)); have l1_1 := xl1 (w.heap.size + 1) (by first | omega | (simp; try omega)); have r1_1 := xc1 (w.heap.size + 1) 0 (by first | omega | (simp; try omega)); have f1_1 := xf1 (w.heap.size + 1) 0 (by first | omega | (simp; try omega)); have r1_1_1 := xc1 (w.heap.size + 1) 1 (by first | omega | (simp; try omega)); have f1_1_1 := xf1 (w.heap.size + 1) 1 (by first | omega | (simp; try omega)); have r1_1_2 := xc1 (w.heap.size + 1) 2 (by first | omega | (simp; try omega)); have f1_1_2 := xf1 (w.heap.size + 1) 2 (by first | omega | (simp; try omega)))
    | (go_at_call 10; (with_reducible refine (c2 _).mono ?_); rintro e w2 ⟨rfl, xb2⟩; obtain ⟨xc2, xf2, xl2, xz2⟩ := ext_use xb2; (try simp at xz2); have l2_0 := xl2 (w.heap.size) (by first | omega | (simp; try omega)); have r2_0 := xc2 (w.heap.size) 0 (by first | omega | (simp; try omega)); have f2_0 := xf2 (w.heap.size) 0 (by first | omega | (simp; try omega)); have r2_0_1 := xc2 (w.heap.size) 1 (by first | omega | (simp; try omega)); have f2_0_1 := xf2 (w.heap.size) 1 (by first | omega | (simp; try omega)); have r2_0_2 := xc2 (w.heap.size) 2 (by first | omega | (simp; try omega)); have f2_0_2 := xf2 (w.heap.size) 2 (by first | omega | (simp; try omega)); have l2_1 := xl2 (w.heap.size + 1) (by first | omega | (simp; try omega)); have r2_1 := xc2 (w.heap.size + 1) 0 (by first | omega | (simp; try omega)); have f2_1 := xf2 (w.heap.size + 1) 0 (by first | omega | (simp; try omega)); have r2_1_1 := xc2 (w.heap.size + 1) 1 (by first | omega | (simp; try omega)); have f2_1_1 := xf2 (w.heap.size + 1) 1 (by first | omega | (simp; try omega)); have r2_1_2 := xc2 (w.heap.size + 1) 2 (by first | omega | (simp; try omega)); have f2_1_2 := xf2 (w.heap.size + 1) 2 (by first | omega | (simp; try omega)))
   )
  refine wp_aft (by kernel_rfl) (by kernel_rfl) (fun hq hqf => ?_)
  repeat (go_big_quiet_step (first
    | (go_at_call 12; exact aft_of (a1 _))
    | (go_at_call 12; exact aft_of (a3 _))
    | (go_at_call 12; exact aft_of (a5 _))
    | (go_at_call 13; exact aft_of (a2 _))
    | (go_at_call 13; exact aft_of (a4 _))
    | (go_at_call 13; exact aft_of (a6 _))
    | (go_at_call 11; exact aft_of (two_any _ _ _ _ _))
    ))
  refine wpQuiet_nil ?_
  rintro _ ⟨nq, rfl⟩
  have xl := ext_lt nq.use
  have xz := ext_size nq.use
  try simp at xz
  obtain ⟨xc3, xf3, xl3, xz3⟩ := ext_use (nq.use)
  have l3_0 := xl3 (w.heap.size) (by first | omega | (simp; try omega))
  have r3_0 := xc3 (w.heap.size) 0 (by first | omega | (simp; try omega))
  have f3_0 := xf3 (w.heap.size) 0 (by first | omega | (simp; try omega))
  have r3_0_1 := xc3 (w.heap.size) 1 (by first | omega | (simp; try omega))
  have f3_0_1 := xf3 (w.heap.size) 1 (by first | omega | (simp; try omega))
  have r3_0_2 := xc3 (w.heap.size) 2 (by first | omega | (simp; try omega))
  have f3_0_2 := xf3 (w.heap.size) 2 (by first | omega | (simp; try omega))
  have l3_1 := xl3 (w.heap.size + 1) (by first | omega | (simp; try omega))
  have r3_1 := xc3 (w.heap.size + 1) 0 (by first | omega | (simp; try omega))
  have f3_1 := xf3 (w.heap.size + 1) 0 (by first | omega | (simp; try omega))
  have r3_1_1 := xc3 (w.heap.size + 1) 1 (by first | omega | (simp; try omega))
  have f3_1_1 := xf3 (w.heap.size + 1) 1 (by first | omega | (simp; try omega))
  have r3_1_2 := xc3 (w.heap.size + 1) 2 (by first | omega | (simp; try omega))
  have f3_1_2 := xf3 (w.heap.size + 1) 2 (by first | omega | (simp; try omega))
  have hE1 := nq.use
  go_wp2
  refine wp_aft (by kernel_rfl) (by kernel_rfl) (fun hq hqf => ?_)
  repeat (go_big_quiet_step (first
    | (go_at_call 14; exact aft_of (m1 _))
    | (go_at_call 14; exact aft_of (m3 _))
    | (go_at_call 15; exact aft_of (m2 _))
    | (go_at_call 15; exact aft_of (m4 _))
    | (go_at_call 11; exact aft_of (two_any _ _ _ _ _))
    ))
  refine wpQuiet_nil ?_
  rintro _ ⟨nq, rfl⟩
  have xl := ext_lt nq.use
  have xz := ext_size nq.use
  try simp at xz
  obtain ⟨xc4, xf4, xl4, xz4⟩ := ext_use (nq.use)
  have l4_0 := xl4 (w.heap.size) (by first | omega | (simp; try omega))
  have r4_0 := xc4 (w.heap.size) 0 (by first | omega | (simp; try omega))
  have f4_0 := xf4 (w.heap.size) 0 (by first | omega | (simp; try omega))
  have r4_0_1 := xc4 (w.heap.size) 1 (by first | omega | (simp; try omega))
  have f4_0_1 := xf4 (w.heap.size) 1 (by first | omega | (simp; try omega))
  have r4_0_2 := xc4 (w.heap.size) 2 (by first | omega | (simp; try omega))
  have f4_0_2 := xf4 (w.heap.size) 2 (by first | omega | (simp; try omega))
  have l4_1 := xl4 (w.heap.size + 1) (by first | omega | (simp; try omega))
  have r4_1 := xc4 (w.heap.size + 1) 0 (by first | omega | (simp; try omega))
  have f4_1 := xf4 (w.heap.size + 1) 0 (by first | omega | (simp; try omega))
  have r4_1_1 := xc4 (w.heap.size + 1) 1 (by first | omega | (simp; try omega))
  have f4_1_1 := xf4 (w.heap.size + 1) 1 (by first | omega | (simp; try omega))
  have r4_1_2 := xc4 (w.heap.size + 1) 2 (by first | omega | (simp; try omega))
  have f4_1_2 := xf4 (w.heap.size + 1) 2 (by first | omega | (simp; try omega))
  have hE2 := nq.use
  go_wp2
  refine wp_aft (by kernel_rfl) (by kernel_rfl) (fun hq hqf => ?_)
  repeat (go_big_quiet_step (first
    | (go_at_call 16; exact aft_of (k1 _))
    | (go_at_call 17; exact aft_of (k2 _))
    ))
  refine wpQuiet_nil ?_
  rintro _ ⟨nq, rfl⟩
  have xl := ext_lt nq.use
  have xz := ext_size nq.use
  try simp at xz
  go_wp2
  go_ret
  refine ⟨rfl, ?_⟩
  repeat (first | exact ext_refl _ | assumption | refine ext_setCell ?_ (by simp; try omega) _ | refine ext_alloc ?_ _ | refine ext_drew ?_ | refine ext_drewN ?_ _ | refine ext_trans ?_ (Aft.use _) | refine ext_trans ?_ (by assumption))
end Go.Proofs.YtbgimjfeigeicaaGreatDoor
