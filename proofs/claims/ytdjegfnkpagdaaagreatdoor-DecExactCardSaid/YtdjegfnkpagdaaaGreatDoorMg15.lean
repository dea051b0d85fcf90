/- Lemmas of this proof, laid together: DecV, DecX. -/
import Derived.Test.YtdjegfnkpagdaaaGreatDoorMg14
import Derived.Lib.LaidTab
import Derived.Sort.Grow
set_option linter.unusedSimpArgs false
set_option linter.unusedVariables false
section
/- Scientific texts, shifts. -/
namespace Go.Proofs.YtdjegfnkpagdaaaGreatDoor
open Go.RowKit
attribute [local go_sem] bs_size bs_extract bs_get bs_append bs_toList const_get
attribute [local go_sem] sz2 sz3 sz4 sz5 sz6 sz7 sz8
set_option maxHeartbeats 4000000
set_option maxRecDepth 100000
attribute [local irreducible] Calls
attribute [local go_sem] bs_app_lit lit_app_bs
def sciL (neg : Bool) (l : List UInt8) (exp : Int) : List UInt8 := (minusL neg ++ l.take 1 ++ (if 1 < l.length then 46 :: l.drop 1 else [])) ++ [101] ++ itoaL (exp + l.length - 1)
def sciR (d : Dc) : Tt :=
  if dcE d ≠ 0 then ⟨[], dcE d⟩ else if d.dig.length = 0 then ⟨minusL d.neg ++ [48, 101, 48], 0⟩ else ⟨sciL d.neg d.dig d.exp, 0⟩
structure Dt where
  d : Dc
  e : Int
abbrev dtV (t : Dt) : Value := .tuple #[dcV t.d, .int .i64 t.e]
def shfR (d : Dc) (n : Int) : Dt :=
  if dcE d ≠ 0 then ⟨Dc.zero, dcE d⟩ else if d.dig.length = 0 then ⟨d, 0⟩ else if 2147483648 < n ∨ n < -2147483648 ∨ far (d.exp + n) = true then ⟨Dc.zero, 4⟩ else ⟨⟨d.neg, d.dig, d.exp + n⟩, 0⟩
/-- The library's table of powers stands in memory. -/
abbrev Pw (w : World) : Prop := Lib.TabIs Tryz.prog w "internal/strconv.uint64pow10" .u64 Lib.pow10Tab
theorem pw_ext {w w' : World} (h : Pw w) (he : Ext w w') : Pw w' := by
  unfold Pw Lib.TabIs World.var? at *
  cases hg : Program.globalNamed Tryz.prog "internal/strconv.uint64pow10" with
  | none => rw [hg] at h; cases h
  | some g =>
    rw [hg] at h
    simp only [Option.bind_some] at h ⊢
    have hlt : g < w.heap.size := by
      rcases Nat.lt_or_ge g w.heap.size with h1 | h1
      · exact h1
      · rw [Array.getElem?_eq_none h1] at h; cases h
    rw [he.block g hlt]
    exact h
theorem ext_grow (w : World) (k : Nat) (os : Array Obj) : Ext w (Go.Sort.grow (w.drewN k) os) := by
  refine ⟨rfl, rfl, rfl, by simp [Go.Sort.grow], fun i hi => ?_⟩
  show (w.heap ++ os)[i]? = w.heap[i]?
  rw [Array.getElem?_append_left hi]
theorem itoa_len (n : Int) (hn : -9223372036854775807 ≤ n ∧ n ≤ 9223372036854775807) : (itoaL n).length ≤ 21 := by
  have h1 : (dtext n.natAbs).length ≤ 20 := by
    unfold dtext
    split
    · simp
    · exact digs_len (by omega)
  have h2 := minus_len (decide (n < 0))
  unfold itoaL
  rw [List.length_append]
  omega
end Go.Proofs.YtdjegfnkpagdaaaGreatDoor
end
section
/- Shifts. -/
namespace Go.Proofs.YtdjegfnkpagdaaaGreatDoor
open Go.RowKit
attribute [local go_sem] bs_size bs_extract bs_get bs_append bs_toList const_get
attribute [local go_sem] sz2 sz3 sz4 sz5 sz6 sz7 sz8
set_option maxHeartbeats 4000000
set_option maxRecDepth 100000
attribute [local irreducible] Calls
attribute [local go_sem] bs_app_lit lit_app_bs
end Go.Proofs.YtdjegfnkpagdaaaGreatDoor
end
