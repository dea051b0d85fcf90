/- Lemmas of this proof, laid together: SumC, SumD, SumE, SumF. -/
import Derived.Test.YtkhkoeibpkglkaaGreatDoorMg10
import Derived.Test.YtkhkoeibpkglkaaGreatDoorMg23
import Derived.Test.YtkhkoeibpkglkaaGreatDoorMg08
import Derived.Test.YtkhkoeibpkglkaaGreatDoorMg07
import Derived.Test.YtkhkoeibpkglkaaGreatDoorMg15
set_option linter.unusedSimpArgs false
set_option linter.unusedVariables false
section
/- Sums of decimals: what they come to; the program's Add. -/
namespace Go.Proofs.YtkhkoeibpkglkaaGreatDoor
open Go.RowKit
attribute [local go_sem] bs_size bs_extract bs_get bs_append bs_toList const_get
attribute [local go_sem] sz2 sz3 sz4 sz5 sz6 sz7 sz8
set_option maxHeartbeats 4000000
set_option maxRecDepth 100000
attribute [local irreducible] Calls
theorem pow_big {n k : Nat} (j : Nat) (h1 : n ≤ 8 * j) (h2 : 27 * j ≤ 32 * k) : 10 ^ n ≤ Bs ^ k := by
  have e1 : 10 ^ n ≤ 10 ^ (8 * j) := Nat.pow_le_pow_right (by decide) h1
  have e2 : (10 ^ 8) ^ j ≤ (2 ^ 27) ^ j := Nat.pow_le_pow_left (by decide) j
  have e3 : 2 ^ (27 * j) ≤ 2 ^ (32 * k) := Nat.pow_le_pow_right (by decide) h2
  rw [← Nat.pow_mul] at e2
  rw [← Nat.pow_mul] at e2
  have e4 : (2 ^ 32) ^ k = 2 ^ (32 * k) := (Nat.pow_mul 2 32 k).symm
  have e5 : Bs = 2 ^ 32 := rfl
  rw [e5, e4]
  exact Nat.le_trans e1 (Nat.le_trans e2 e3)
theorem lim_small {v n k : Nat} (j : Nat) (hv : v < 10 ^ n) (h1 : n ≤ 8 * j) (h2 : 27 * j ≤ 32 * k) : (lim v).length ≤ k := lim_le (Nat.lt_of_lt_of_le hv (pow_big j h1 h2))
theorem dval_small {l : List UInt8} (hd : digsB l = true) (hl : l.length ≤ 65536) : (lim (dval l)).length ≤ 6912 := lim_small (n := l.length) 8192 (dval_lt l hd) (by omega) (by decide)
theorem pnumber_some (l : List UInt8) (hd : digsB l = true) (h0 : 0 < l.length) (hl : l.length ≤ 65536) (w : World) :
    Calls Tryz.prog 52 #[.string (bs l)] w fun e w' => ∃ (A : Option Addr) (k : Nat), e = .returned (.tuple #[natV A k k, .int .i64 0]) ∧ Hid (Rd w' A k k (lim (dval l)) ∧ Fr w A) ∧ Ext w w' := by
  have hp := fun w' => pparse_any l hd h0 hl w'
  have hne : l.isEmpty = false := by simp [List.length_pos_iff.1 h0]
  clear hd
  go_enter Tryz.func52, Tryz.ntmps52
  go_wp2_with (first
    | (go_at_call 104; (with_reducible refine (hp _).mono ?_); rintro e w1 ⟨A, k, rfl, hR, xb1⟩; obtain ⟨xc1, xf1, xl1, xz1⟩ := ext_use xb1; (try simp at xz1); obtain ⟨l1_0, gc, gf⟩ := kp xb1 (w.heap.size) (by first | omega | (simp; try omega)); have r1_0 := gc 0; have f1_0 := gf 0; clear gc gf)
   )
  refine bodyPost_ret (v := .tuple #[natV A k k, .int .i64 0]) ?h rfl ⟨A, k, rfl, ⟨?_, ?_⟩, ?_⟩
  case h => simp [results, Tryz.results52, go_sem, *]
  · exact (hR.out.1.set _ (fun a ha => by have := hR.out.2 a ha; simp at this ⊢; omega)).ext (ext_alloc (ext_refl _) _)
  · exact hR.out.2.mono (by (repeat (first | exact ext_refl _ | assumption | refine ext_setCell ?_ (by simp; try omega) _ | refine ext_alloc ?_ _ | refine ext_drew ?_ | refine ext_drewN ?_ _ | refine ext_trans ?_ (Aft.use _) | refine ext_trans ?_ (by assumption))))
  · (repeat (first | exact ext_refl _ | assumption | refine ext_setCell ?_ (by simp; try omega) _ | refine ext_alloc ?_ _ | refine ext_drew ?_ | refine ext_drewN ?_ _ | refine ext_trans ?_ (Aft.use _) | refine ext_trans ?_ (by assumption)))
end Go.Proofs.YtkhkoeibpkglkaaGreatDoor
end
