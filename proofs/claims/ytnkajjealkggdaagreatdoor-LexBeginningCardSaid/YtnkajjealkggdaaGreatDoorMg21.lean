/- Lemmas of this proof, laid together: RouA, RouB, RouC, RouD, RouE, RouF, RouG, QkA. -/
import Derived.Test.YtnkajjealkggdaaGreatDoorMg20
import Derived.Laws.EntriesVeiled
import Derived.Deep.DeepCutAuto
import Derived.Deep.RegionWith
import Derived.Test.YtnkajjealkggdaaGreatDoorMg19
set_option linter.unusedSimpArgs false
set_option linter.unusedVariables false
section
/- Rounding: a fraction rounded to a whole number. -/
namespace Go.Proofs.YtnkajjealkggdaaGreatDoor
open Go.RowKit
attribute [local go_sem] sz2 sz3 sz4 sz5 sz6 sz7 sz8
set_option maxHeartbeats 8000000
set_option maxRecDepth 100000
attribute [local irreducible] Calls
abbrev ZeroI : Obj := .cells #[.bool false, .slice none 0 0] 112
end Go.Proofs.YtnkajjealkggdaaGreatDoor
end
section
/- Rounding: a fraction times a power of two; its logarithm. -/
namespace Go.Proofs.YtnkajjealkggdaaGreatDoor
open Go.RowKit
attribute [local go_sem] sz2 sz3 sz4 sz5 sz6 sz7 sz8
set_option maxHeartbeats 8000000
set_option maxRecDepth 100000
attribute [local irreducible] Calls
/-- Two whole numbers stand there. -/
structure NbIs (w : World) (p q a d : Nat) : Prop where
  num : ∃ A n c, IntIs w p 0 (a : Int) A n c
  den : ∃ A n c, IntIs w q 0 (d : Int) A n c
theorem NbIs.ext {w w' : World} {p q a d : Nat} (h : NbIs w p q a d) (he : Ext w w') : NbIs w' p q a d := by
  obtain ⟨⟨A, n, c, h1⟩, ⟨B, m, k, h2⟩⟩ := h
  exact ⟨⟨A, n, c, h1.ext he⟩, ⟨B, m, k, h2.ext he⟩⟩
end Go.Proofs.YtnkajjealkggdaaGreatDoor
end
section
/- Rounding: limbs as a number of the library's. -/
namespace Go.Proofs.YtnkajjealkggdaaGreatDoor
open Go.RowKit
attribute [local go_sem] sz2 sz3 sz4 sz5 sz6 sz7 sz8
set_option maxHeartbeats 8000000
set_option maxRecDepth 100000
attribute [local irreducible] Calls
theorem lim_getD_lt (a i : Nat) : (lim a).getD i 0 < 4294967296 := by
  rw [limb_at]; exact Nat.mod_lt _ (by decide)
theorem drop_step (a i : Nat) : a / Bs ^ i = a / Bs ^ (i + 1) * 4294967296 + (lim a).getD i 0 := by
  rw [limb_at, Nat.pow_succ, ← Nat.div_div_eq_div_mul]
  have := Nat.div_add_mod (a / Bs ^ i) Bs
  have e : Bs = 4294967296 := rfl
  rw [e] at this ⊢
  omega
theorem zero_int (w : World) : IntIs (w.alloc ZeroI) w.heap.size 0 ((0 : Nat) : Int) none 0 0 :=
  ⟨int_room w, by simp [go_sem], by simp [go_sem], by show Rd _ _ _ _ (lim 0); rw [lim_zero]; exact Rd.nil _, fun x h => by cases h⟩
/-- While a number is put together in block b: all else is as it was in W. -/
structure StL (W : World) (b : Nat) (u : World) (v L : Nat) : Prop where
  is : ∃ X k l, IntIs u b 0 (v : Int) X k l
  tch : Tch b W u
  le : (lim v).length ≤ L
def OneL (W : World) (b : Nat) (u : World) (g c : Nat) : Prop := ∃ Y m k, IntIs u g 0 (c : Int) Y m k ∧ g ≠ b ∧ Off Y m b
theorem stL_lsh (W : World) (b v L : Nat) (hL : L ≤ 450000) (u : World) (h : StL W b u v L) :
    Calls Tryz.prog 61 #[.pointer (some ⟨b, 0, none⟩), .pointer (some ⟨b, 0, none⟩), .int .u64 32] u fun e u' => e = .returned (.pointer (some ⟨b, 0, none⟩)) ∧ Hid (StL W b u' (v * 4294967296) (L + 1)) ∧ Hid (∀ g c, OneL W b u g c → OneL W b u' g c) := by
  obtain ⟨⟨X, k, l, hx⟩, ht, hl⟩ := h
  have hk : k = (lim v).length := by have := hx.rd.len; rw [Int.natAbs_natCast] at this; exact this.symm
  refine (bi_Lsh b 0 b 0 (v : Int) 32 X k l (by omega) (by decide) u hx.room hx).mono ?_
  rintro e u' ⟨he, X', k', l', hI, xt⟩
  have e0 : (2 : Int) ^ 32 = 4294967296 := by decide
  have e1 : (v : Int) * 2 ^ 32 = ((v * 4294967296 : Nat) : Int) := by rw [e0]; omega
  rw [e1] at hI
  refine ⟨he, ⟨⟨X', k', l', hI.out.1⟩, ht.trans xt, ?_⟩, fun g c hg => ?_⟩
  · by_cases h0 : v = 0
    · subst h0; rw [Nat.zero_mul]; omega
    · rw [lim_shl v h0, List.length_cons]; omega
  · obtain ⟨Y, m, kk, hy, hgb, ho⟩ := hg
    exact ⟨Y, m, kk, hy.tch xt hgb ho, hgb, ho⟩
theorem stL_new (W : World) (b v L c : Nat) (hc : c < 4294967296) (u : World) (h : StL W b u v L) :
    Calls Tryz.prog 63 #[.int .i64 (c : Int)] u fun e u' => ∃ g, e = .returned (.pointer (some ⟨g, 0, none⟩)) ∧ Hid (StL W b u' v L) ∧ Hid (OneL W b u' g c) := by
  obtain ⟨⟨X, k, l, hx⟩, ht, hl⟩ := h
  refine (bi_NewInt (c : Int) (by omega) (by omega) u).mono ?_
  rintro e u' ⟨g, B, k2, l2, he, hI, hg, hE⟩
  have hb := hx.room.lt
  exact ⟨g, he, ⟨⟨X, k, l, hx.ext hE⟩, ht.trans (Tch.of hE), hl⟩, ⟨B, k2, l2, hI.out.1, by omega, hI.out.2.off hb k2⟩⟩
theorem stL_or (W : World) (b v L g c : Nat) (hL : L ≤ 450001) (hc : c < 4294967296) (u : World) (h : StL W b u (v * 4294967296) L) (ho : OneL W b u g c) :
    Calls Tryz.prog 62 #[.pointer (some ⟨b, 0, none⟩), .pointer (some ⟨b, 0, none⟩), .pointer (some ⟨g, 0, none⟩)] u fun e u' => e = .returned (.pointer (some ⟨b, 0, none⟩)) ∧ Hid (∃ X k l, IntIs u' b 0 ((v * 4294967296 + c : Nat) : Int) X k l ∧ Fr W X) ∧ Hid (Tch b W u') := by
  obtain ⟨⟨X, k, l, hx⟩, ht, hl⟩ := h
  obtain ⟨Y, m, kk, hy, _, _⟩ := ho
  have hk : k = (lim (v * 4294967296)).length := by have := hx.rd.len; rw [Int.natAbs_natCast] at this; exact this.symm
  refine (bi_Or b 0 b 0 g 0 v c hc X k l Y m kk (by omega) u hx.room hx hy).mono ?_
  rintro e u' ⟨he, X', k', l', hI, xt⟩
  exact ⟨he, ⟨X', k', l', hI.out.1, fun x hx => Nat.le_trans ht.size (hI.out.2 x hx)⟩, ht.trans xt⟩
end Go.Proofs.YtnkajjealkggdaaGreatDoor
end
section
/- Exact numbers: which may be; the exact number of a whole one. The known forms. -/
namespace Go.Proofs.YtnkajjealkggdaaGreatDoor
open Go.RowKit
attribute [local go_sem] sz2 sz3 sz4 sz5 sz6 sz7 sz8
set_option maxHeartbeats 8000000
set_option maxRecDepth 100000
attribute [local irreducible] Calls
abbrev dyV (neg : Bool) (A : Option Addr) (n c : Nat) (x : Int) : Value := .agg #[.bool neg, .slice A n c, .int .i64 x]
end Go.Proofs.YtnkajjealkggdaaGreatDoor
end
