import Derived.Test.YtbgimjfeigeicaaGreatDoorDecC
namespace Go.Proofs.YtbgimjfeigeicaaGreatDoor
open Go.RowKit
attribute [local go_sem] bs_size bs_extract bs_get bs_append bs_toList const_get
attribute [local go_sem] sz2 sz3 sz4 sz5 sz6 sz7 sz8
theorem two_any (b : Bool) (l : List UInt8) (n e : Int) (w : World) : Calls Tryz.prog 11 #[.agg #[.bool b, .string (bs l), .int .i64 n], .int .i64 e] w fun x w' => x = .returned (.agg #[.bool b, .string (bs l), .int .i64 n, .bool false, .int .i64 e]) ∧ Ext w w' := by
  go_enter Tryz.func11, Tryz.ntmps11
  go_wp2
  refine bodyPost_ret (v := _) ?h rfl ⟨rfl, ?_⟩
  case h => simp [results, Tryz.results11, go_sem]
  repeat (first | exact ext_refl _ | assumption | refine ext_setCell ?_ (by simp; try omega) _ | refine ext_alloc ?_ _ | refine ext_drew ?_ | refine ext_drewN ?_ _ | refine ext_trans ?_ (Aft.use _) | refine ext_trans ?_ (by assumption))
end Go.Proofs.YtbgimjfeigeicaaGreatDoor
