/- The document's cut. -/
import Derived.Test.YtmpgfibahdiblaaDoorDecG
import Derived.Test.YtmpgfibahdiblaaDoorDecC
import Derived.Deep.DeepCutAuto
import Derived.Deep.RegionWith
namespace Go.Proofs.YtmpgfibahdiblaaDoor
open Go.RowKit
attribute [local go_sem] bs_size bs_extract bs_get bs_append bs_toList const_get
attribute [local go_sem] sz2 sz3 sz4 sz5 sz6 sz7 sz8
set_option maxHeartbeats 4000000
set_option maxRecDepth 100000
attribute [local irreducible] Calls
theorem higher0 (neg odd : Bool) (c : Int) (w : World) : Calls Tryd.prog 49 #[.bool neg, .bool odd, .int .i64 c, .int .u8 0] w fun e w' => e = .returned (.bool (decide (0 < c) || (c == 0 && odd))) ∧ w = w' := higher_any neg odd c 0 w
theorem higher1 (neg odd : Bool) (c : Int) (w : World) : Calls Tryd.prog 49 #[.bool neg, .bool odd, .int .i64 c, .int .u8 1] w fun e w' => e = .returned (.bool (decide (0 ≤ c))) ∧ w = w' := higher_any neg odd c 1 w
theorem higher2 (neg odd : Bool) (c : Int) (w : World) : Calls Tryd.prog 49 #[.bool neg, .bool odd, .int .i64 c, .int .u8 2] w fun e w' => e = .returned (.bool false) ∧ w = w' := higher_any neg odd c 2 w
theorem higher3 (neg odd : Bool) (c : Int) (w : World) : Calls Tryd.prog 49 #[.bool neg, .bool odd, .int .i64 c, .int .u8 3] w fun e w' => e = .returned (.bool (!neg)) ∧ w = w' := higher_any neg odd c 3 w
theorem higher4 (neg odd : Bool) (c : Int) (w : World) : Calls Tryd.prog 49 #[.bool neg, .bool odd, .int .i64 c, .int .u8 4] w fun e w' => e = .returned (.bool neg) ∧ w = w' := higher_any neg odd c 4 w
theorem one_any (w : World) : Calls Tryd.prog 51 #[.int .u64 1] w fun e w' => ∃ (A : Option Addr) (k c : Nat), e = .returned (natV A k c) ∧ Hid (Rd w' A k c (lim 1)) ∧ Ext w w' := by
  refine (of_any 1 (by decide) w).mono ?_
  rintro e w' ⟨A, k, c, he, h1, _, h3⟩
  exact ⟨A, k, c, he, h1, h3⟩
theorem lim1 : (lim 1).length ≤ 16384 := by rw [lim_one (by decide) (by decide)]; decide
theorem more_any (A B : Option Addr) (n c m d a : Nat) (ha : Hid ((lim a).length ≤ 16384 ∧ (lim (a + 1)).length ≤ 16384)) (w : World) (hA : Hid (Rd w A n c (lim a))) (hB : Hid (Rd w B m d (lim 1))) :
    Calls Tryd.prog 50 #[natV A n c, natV B m d] w fun e w' => ∃ (A' : Option Addr) (k c' : Nat), e = .returned (.tuple #[natV A' k c', .int .i64 0]) ∧ Hid (Rd w' A' k c' (lim (a + 1)) ∧ Fr w A') ∧ Ext w w' := by
  refine (add_any A B n c m d a 1 w hA.out hB.out ha.out.1 lim1 ha.out.2).mono ?_
  rintro e w' ⟨A', k, c', he, h1, h2, h3⟩
  exact ⟨A', k, c', he, ⟨h1, h2⟩, h3⟩
end Go.Proofs.YtmpgfibahdiblaaDoor
