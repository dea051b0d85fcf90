/- Lemmas of this proof, laid together: RouI. -/
import Derived.Test.YtkhkoeibpkglkaaGreatDoorMg27
import Derived.Deep.DeepCutAuto
import Derived.Deep.RegionWith
set_option linter.unusedSimpArgs false
set_option linter.unusedVariables false
section
/- Rounding: fractions, as exported. -/
namespace Go.Proofs.YtkhkoeibpkglkaaGreatDoor
open Go.RowKit
attribute [local go_sem] sz2 sz3 sz4 sz5 sz6 sz7 sz8
set_option maxHeartbeats 8000000
set_option maxRecDepth 100000
attribute [local irreducible] Calls
theorem ro_ratio (E F mode : Nat) (neg below : Bool) (A : Option Addr) (n c a : Nat) (D : Option Addr) (m k d : Nat) (hE : 2 ≤ E ∧ E ≤ 11) (hF : 1 ≤ F ∧ F ≤ 52) (hm : mode ≤ 4) (hd : d ≠ 0) (hn : n ≤ 16384) (hmm : m ≤ 16384) (hg : Nat.gcd a d = 1) (hng : below = true → a ≠ 0) (w : World) (hT : Tz w) (hA : Rd w A n c (lim a)) (hD : Rd w D m k (lim d)) :
    Calls Tryz.prog 13 #[fmV E F, ratV below A n c D m k, .bool neg, .int .u8 (mode : Int)] w fun e w' => e = .returned (.tuple #[.int .u64 (bitsS E F mode below neg a d : Nat), .int .u8 (flagS E F mode below a d : Nat), .int .i64 0]) ∧ Ext w w' := by
  have KS := Lib.hid (fun w' (he : Ext w w') => ro_ratio0 E F mode neg below A n c a D m k d hE hF hm hd hn hmm hg hng w' (hT.ext he) (hA.ext he) (hD.ext he))
  generalize bitsS E F mode below neg a d = X at *
  generalize flagS E F mode below a d = Y at *
  clear hE hF hm hn hmm hg hng hT hA hD
  go_enter Tryz.func13, Tryz.ntmps13
  go_wp2_with (first
    | (go_at_call 38; (with_reducible refine (KS.out _ (by (repeat (first | exact ext_refl _ | assumption | refine ext_setCell ?_ (by simp; try omega) _ | refine ext_alloc ?_ _ | refine ext_drew ?_ | refine ext_drewN ?_ _ | refine ext_trans ?_ (Aft.use _) | refine ext_trans ?_ (by assumption))))).mono ?_); rintro e w1 ⟨rfl, xb1⟩))
  refine bodyPost_ret (v := .tuple #[.int .u64 ↑X, .int .u8 ↑Y, .int .i64 0]) ?h rfl ⟨rfl, ?_⟩
  case h => simp [results, Tryz.results13, go_sem]
  repeat (first | exact ext_refl _ | assumption | refine ext_setCell ?_ (by simp; try omega) _ | refine ext_alloc ?_ _ | refine ext_drew ?_ | refine ext_drewN ?_ _ | refine ext_trans ?_ (Aft.use _) | refine ext_trans ?_ (by assumption))
end Go.Proofs.YtkhkoeibpkglkaaGreatDoor
end
