/- Lemmas of this proof, laid together: DecRp, DecT, DecU, DecV, SumA, DecX. -/
import Derived.Test.YtnkajjealkggdaaGreatDoorMg11
import Derived.Test.YtnkajjealkggdaaGreatDoorShelf
import Derived.Lib.ItoaNum
import Derived.Lib.LaidTab
import Derived.Sort.Grow
import Derived.Lib.Bytealg
set_option linter.unusedSimpArgs false
set_option linter.unusedVariables false
section
/- Noughts of the library. -/
namespace Go.Proofs.YtnkajjealkggdaaGreatDoor
open Go.RowKit
attribute [local go_sem] bs_size bs_extract bs_get bs_append bs_toList const_get
attribute [local go_sem] sz2 sz3 sz4 sz5 sz6 sz7 sz8
set_option maxHeartbeats 4000000
set_option maxRecDepth 100000
attribute [local irreducible] Calls
theorem bs_app_lit (a : List UInt8) (b : Array UInt8) : bs a ++ (⟨b⟩ : ByteArray) = bs (a ++ b.toList) := by
  rw [← bs_append]; rfl
theorem lit_app_bs (a : Array UInt8) (b : List UInt8) : (⟨a⟩ : ByteArray) ++ bs b = bs (a.toList ++ b) := by
  rw [← bs_append]; rfl
attribute [local go_sem] bs_app_lit lit_app_bs
end Go.Proofs.YtnkajjealkggdaaGreatDoor
end
section
/- Plain texts: what they come to; the library's texts. -/
namespace Go.Proofs.YtnkajjealkggdaaGreatDoor
open Go.RowKit
attribute [local go_sem] bs_size bs_extract bs_get bs_append bs_toList const_get
attribute [local go_sem] sz2 sz3 sz4 sz5 sz6 sz7 sz8
set_option maxHeartbeats 4000000
set_option maxRecDepth 100000
attribute [local irreducible] Calls
attribute [local go_sem] bs_app_lit lit_app_bs
theorem dec_digits (n : Nat) : Lib.decDigits n = dtext n := by
  induction n using Nat.strongRecOn with
  | _ n ih =>
    rw [Lib.decDigits]
    by_cases h : n < 10
    · rw [dif_pos h]
      unfold dtext
      by_cases h0 : n = 0
      · subst h0; rfl
      · rw [if_neg h0, digs_pos h0, Nat.div_eq_of_lt h, digs_zero, Nat.mod_eq_of_lt h]; rfl
    · rw [dif_neg h, ih (n / 10) (by omega)]
      unfold dtext
      rw [if_neg (by omega), if_neg (by omega), digs_pos (n := n) (by omega)]
theorem itoa_eq (n : Int) : Lib.itoa n = itoaL n := by
  unfold Lib.itoa itoaL minusL
  by_cases h : n < 0
  · rw [if_pos h, dec_digits]; simp [h]
  · rw [if_neg h, dec_digits]
    have : n.natAbs = n.toNat := by omega
    simp [h, this]
end Go.Proofs.YtnkajjealkggdaaGreatDoor
end
section
/- Scientific texts, shifts. -/
namespace Go.Proofs.YtnkajjealkggdaaGreatDoor
open Go.RowKit
attribute [local go_sem] bs_size bs_extract bs_get bs_append bs_toList const_get
attribute [local go_sem] sz2 sz3 sz4 sz5 sz6 sz7 sz8
set_option maxHeartbeats 4000000
set_option maxRecDepth 100000
attribute [local irreducible] Calls
attribute [local go_sem] bs_app_lit lit_app_bs
/-- The library's table of powers stands in memory. -/
abbrev Pw (w : World) : Prop := Lib.TabIs Tryz.prog w "internal/strconv.uint64pow10" .u64 Lib.pow10Tab
theorem pw_ext {w w' : World} (h : Pw w) (he : Ext w w') : Pw w' := by
  unfold Pw Lib.TabIs World.var? at *
  cases hg : Program.globalNamed Tryz.prog "internal/strconv.uint64pow10" with
  | none => rw [hg] at h; cases h
  | some g =>
    rw [hg] at h
    simp only [Option.bind_some] at h ⊢
    have hlt : g < w.heap.size := by
      rcases Nat.lt_or_ge g w.heap.size with h1 | h1
      · exact h1
      · rw [Array.getElem?_eq_none h1] at h; cases h
    rw [he.block g hlt]
    exact h
theorem ext_grow (w : World) (k : Nat) (os : Array Obj) : Ext w (Go.Sort.grow (w.drewN k) os) := by
  refine ⟨rfl, rfl, rfl, by simp [Go.Sort.grow], fun i hi => ?_⟩
  show (w.heap ++ os)[i]? = w.heap[i]?
  rw [Array.getElem?_append_left hi]
theorem itoa_any (n : Int) (hn : -9223372036854775807 ≤ n ∧ n ≤ 9223372036854775807) (w : World) (hp : Hid (Pw w)) : Calls Tryz.prog 31 #[.int .i64 n] w fun e w' => e = .returned (.string (bs (itoaL n))) ∧ Ext w w' := by
  refine (Tryz.strconv_Itoa n (by omega) (by omega) w hp.out).mono ?_
  rintro e w' ⟨he, k, os, rfl⟩
  refine ⟨?_, ext_grow w k os⟩
  rw [he, itoa_eq]
  rfl
end Go.Proofs.YtnkajjealkggdaaGreatDoor
end
