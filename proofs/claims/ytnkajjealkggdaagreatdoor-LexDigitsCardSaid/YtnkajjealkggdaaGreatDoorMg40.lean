/- Lemmas of this proof, laid together: LexDigitsW. -/
import Derived.Test.YtnkajjealkggdaaGreatDoorMg32
import Derived.Test.YtnkajjealkggdaaGreatDoorMg34
import Derived.Test.YtnkajjealkggdaaGreatDoorMg39
set_option linter.unusedSimpArgs false
set_option linter.unusedVariables false
section
/- LexDigits: the walk. -/
namespace Go.Proofs.YtnkajjealkggdaaGreatDoor
open Go.RowKit
attribute [local go_sem] bs_size bs_extract bs_get bs_append bs_toList const_get
attribute [local go_sem] sz2 sz3 sz4 sz5 sz6 sz7 sz8 sz9 sz10
attribute [local irreducible] Calls
set_option maxHeartbeats 4000000
set_option maxRecDepth 100000
theorem walk_LexDigits (x0 : Int) (w : World) (hx0 : -2147483648 ≤ x0 ∧ x0 ≤ 2147483647) (hL : LxT w) :
    Calls Tryz.prog 5 #[.int .i32 x0] w fun e w' => e = .returned (.bool true) ∧ Ext w w' := by
  have ka := Lib.hid (fun w' (he : Ext w w') => al_alive w' (hL.ext he))
  have k1 := Lib.hid (fun w' => lx_Digit x0 hx0 w')
  have k2 := Lib.hid (fun w' => dx_Digit x0 hx0 w')
  obtain ⟨⟨d, b⟩, hX⟩ : ∃ X, digV x0 = X := ⟨_, rfl⟩
  rw [hX] at k1 k2
  clear hL hX
  go_enter Tryz.func5, Tryz.ntmps5
  go_wp2_with (first
    | (go_at_call 12; (with_reducible refine (ka.out _ (by (repeat (first | exact ext_refl _ | assumption | refine ext_setCell ?_ (by simp; try omega) _ | refine ext_alloc ?_ _ | refine ext_drew ?_ | refine ext_drewN ?_ _ | refine ext_trans ?_ (Aft.use _) | refine ext_trans ?_ (by assumption))))).mono ?_); rintro e w1 ⟨rfl, xb1⟩; obtain ⟨xc1, xf1, xl1, xz1⟩ := ext_use xb1; (try simp at xz1))
    | (go_at_call 21; (with_reducible refine (k1.out _).mono ?_); rintro e w2 ⟨rfl, xb2⟩; obtain ⟨xc2, xf2, xl2, xz2⟩ := ext_use xb2; (try simp at xz2))
    | (go_at_call 22; (with_reducible refine (k2.out _).mono ?_); rintro e w3 ⟨rfl, xb3⟩; obtain ⟨xc3, xf3, xl3, xz3⟩ := ext_use xb3; (try simp at xz3))
   )
  refine bodyPost_ret (v := .bool true) ?h rfl ⟨rfl, ?_⟩
  case h => simp [results, Tryz.results5, go_sem]
  repeat (first | exact ext_refl _ | assumption | refine ext_setCell ?_ (by simp; try omega) _ | refine ext_alloc ?_ _ | refine ext_drew ?_ | refine ext_drewN ?_ _ | refine ext_trans ?_ (Aft.use _) | refine ext_trans ?_ (by assumption))
end Go.Proofs.YtnkajjealkggdaaGreatDoor
end
