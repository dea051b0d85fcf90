/- DecRounds: the walk. -/
import Derived.Test.YtmpgfibahdiblaaDoorDecL2
import Derived.Test.YtmpgfibahdiblaaDoorDecM2
import Derived.Test.YtmpgfibahdiblaaDoorDecMakesW
namespace Go.Proofs.YtmpgfibahdiblaaDoor
open Go.RowKit
attribute [local go_sem] bs_size bs_extract bs_get bs_append bs_toList const_get
attribute [local go_sem] sz2 sz3 sz4 sz5 sz6 sz7 sz8
set_option maxHeartbeats 4000000
set_option maxRecDepth 100000
attribute [local irreducible] Calls
theorem three_any (b : Bool) (l : List UInt8) (n : Int) (ok : Bool) (e : Int) (w : World) : Calls Tryd.prog 9 #[.agg #[.bool b, .string (bs l), .int .i64 n], .bool ok, .int .i64 e] w fun x w' => x = .returned (.agg #[.bool b, .string (bs l), .int .i64 n, .bool ok, .int .i64 e]) ∧ Ext w w' := by
  go_enter Tryd.func9, Tryd.ntmps9
  go_wp2
  refine bodyPost_ret (v := _) ?h rfl ⟨rfl, ?_⟩
  case h => simp [results, Tryd.results9, go_sem]
  repeat (first | exact ext_refl _ | assumption | refine ext_setCell ?_ (by simp; try omega) _ | refine ext_alloc ?_ _ | refine ext_drew ?_ | refine ext_drewN ?_ _ | refine ext_trans ?_ (Aft.use _) | refine ext_trans ?_ (by assumption))
theorem walk_DecRounds (x0 : Bool) (x1 : ByteArray) (x2 : Int) (x3 : Int) (x4 : Nat) (w : World) (hx1 : x1.size ≤ maxLen) (hx2 : -9223372036854775808 ≤ x2 ∧ x2 ≤ 9223372036854775807) (hx3 : -9223372036854775808 ≤ x3 ∧ x3 ≤ 9223372036854775807) (hx4 : x4 < 2 ^ 8) :
    Calls Tryd.prog 4 #[.agg #[.bool x0, .string x1, .int .i64 x2], .int .i64 x3, .int .u8 x4] w fun e w' => e = .returned (.bool true) ∧ Ext w w' := by
  obtain ⟨l, rfl⟩ := bs_of x1
  rw [bs_size] at hx1
  unfold maxLen at hx1
  have c1 := round_any ⟨x0, l, x2⟩ x3 x4 hx1 hx3 (by omega)
  have c2 := rround_any ⟨x0, l, x2⟩ x3 x4 hx1 hx3 (by omega)
  have c3 := places_any ⟨x0, l, x2⟩ x3 x4 hx1 hx3 (by omega)
  have c4 := rplaces_any ⟨x0, l, x2⟩ x3 x4 hx1 hx3 (by omega)
  generalize rndR ⟨x0, l, x2⟩ x3 x4 = R at c1 c2
  generalize plcR ⟨x0, l, x2⟩ x3 x4 = S at c3 c4
  obtain ⟨⟨rn, rl, re⟩, ro, rE⟩ := R
  obtain ⟨⟨sn, sl, se⟩, so, sE⟩ := S
  clear hx1 hx2 hx3 hx4
  go_enter Tryd.func4, Tryd.ntmps4
  go_wp2
  refine wp_aft (by kernel_rfl) (by kernel_rfl) (fun hq hqf => ?_)
  repeat (go_big_quiet_step (first
    | (go_at_call 10; exact aft_of (c1 _))
    | (go_at_call 11; exact aft_of (c2 _))
    | (go_at_call 12; exact aft_of (c3 _))
    | (go_at_call 13; exact aft_of (c4 _))
    | (go_at_call 9; exact aft_of (three_any _ _ _ _ _ _))
    ))
  refine wpQuiet_nil ?_
  rintro _ ⟨nq, rfl⟩
  have xl := ext_lt nq.use
  have xz := ext_size nq.use
  try simp at xz
  go_wp2
  go_ret
  refine ⟨rfl, ?_⟩
  repeat (first | exact ext_refl _ | assumption | refine ext_setCell ?_ (by simp; try omega) _ | refine ext_alloc ?_ _ | refine ext_drew ?_ | refine ext_drewN ?_ _ | refine ext_trans ?_ (Aft.use _) | refine ext_trans ?_ (by assumption))
end Go.Proofs.YtmpgfibahdiblaaDoor
