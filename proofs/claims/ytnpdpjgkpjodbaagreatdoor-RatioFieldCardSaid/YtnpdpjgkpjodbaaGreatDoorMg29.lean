/- Lemmas of this proof, laid together: Law02. -/
import Derived.Test.YtnpdpjgkpjodbaaGreatDoorMg27
import Derived.Test.YtnpdpjgkpjodbaaGreatDoorMg28
import Derived.LaidMore
set_option linter.unusedSimpArgs false
set_option linter.unusedVariables false
section
/- The second law: what the walks' ends share. -/
namespace Go.Proofs.YtnpdpjgkpjodbaaGreatDoor
open Go.RowKit
set_option maxRecDepth 100000
attribute [local irreducible] Calls
theorem tz_row {l : List (String × DataW Unit)} (w : World) (h : laidMetH Tryz.prog l w) (hp : ∀ w, laidMetH Tryz.prog l w = laidMet Tryz.prog l w) {rest : List (String × DataW Unit)}
    (e : l = ("math/bits.deBruijn32tab", Lib.tabData .u8 tzTab) :: rest) : Tz w := by
  rw [hp, e] at h
  exact tz_met rest w h
theorem made_op (s : Bool) {A : Option Addr} {n c : Nat} {xs : List Nat} {D : Option Addr} {m k : Nat} {ys : List Nat} {w : World} (hT : Tz w) (hA : Rd w A n c xs) (hD : Rd w D m k ys) {z : Int} {d : Nat} {t : Bool}
    (hz : canN (sgn s (val (xs.take 5))) (rawD (val (ys.take 5))) = z) (hd : canD (sgn s (val (xs.take 5))) (rawD (val (ys.take 5))) = d) (ht : decide (z < 0) = t) :
    Calls Tryz.prog 38 #[.agg #[.bool s, .slice A n c, .slice D m k]] w (MPst w t z d) := by
  subst hz hd ht
  have h1 := hA.cap
  have h2 := hA.mx
  have h3 := hD.cap
  have h4 := hD.mx
  refine (rl_made s A n c xs D m k ys (by omega) (by omega) w hT hA hD).mono ?_
  rintro e w' ⟨A, n, c, D, m, k, rfl, h1, h2⟩
  exact ⟨⟨A, n, c, D, m, k⟩, rfl, h1, h2⟩
theorem rawD_pos (v : Nat) : rawD v ≠ 0 := by unfold rawD; split <;> omega
theorem op_sign {z : Int} {d : Nat} {s : Bool} (hs : decide (z < 0) = s) {C : Int} (hC : z.sign = C) (F : FH) (w : World) (h : RaF w z d F) : Calls Tryz.prog 42 #[fV s F] w fun e w' => e = .returned (.int .i64 C) ∧ Ext w w' := by
  subst hs hC
  have e : (if F.n = 0 then 0 else if decide (z < 0) = true then -1 else 1) = z.sign := by
    by_cases h0 : z = 0
    · subst h0
      have : F.n = 0 := by have := h.num.len; rw [Int.natAbs_zero, lim_zero] at this; simpa using this.symm
      rw [if_pos this]; rfl
    · have hn : ¬ F.n = 0 := by
        intro h1
        have h2 := h.num.len
        have h3 : z.natAbs = 0 := lim_nil.1 (List.eq_nil_of_length_eq_zero (by omega))
        omega
      rw [if_neg hn]
      by_cases h1 : z < 0
      · rw [if_pos (by simpa using h1), Int.sign_eq_neg_one_of_neg h1]
      · rw [if_neg (by simpa using h1), Int.sign_eq_one_of_pos (by omega)]
  rw [← e]
  exact rl_sign _ _ _ _ _ _ _ w
theorem op_Floor {z : Int} {d : Nat} {W : World} (hT : Tz W) (hz : Few 4000 z d) {s : Bool} (hs : decide (z < 0) = s) {L : Int} (hL : z / (d : Int) = L) {t : Bool} (ht : decide (L < 0) = t) (F : FH) (w : World) (hw : Ext W w) (h : RaF w z d F) :
    Calls Tryz.prog 23 #[fV s F] w fun e w' => ∃ (B : Option Addr) (j l : Nat), e = .returned (.tuple #[.bool t, natV B j l, .int .i64 0]) ∧ Hid (Rd w' B j l (lim L.natAbs)) ∧ Ext w w' := by
  subst hs ht hL
  refine (va_Floor (hT.ext hw) h (h.few hz).1 (h.few hz).2).mono ?_
  rintro e w' ⟨B, j, l, rfl, h1, h2⟩
  exact ⟨B, j, l, rfl, Lib.hid h1.out.1, h2⟩
theorem op_Make1 {L : Int} {W : World} (hT : Tz W) (hl : (lim L.natAbs).length ≤ 4000) {t : Bool} (ht : decide (L < 0) = t) (B : Option Addr) (j l : Nat) (D : Option Addr) (m k : Nat) (w : World) (hw : Ext W w) (h1 : Rd w B j l (lim L.natAbs)) (h2 : Rd w D m k (lim 1)) :
    Calls Tryz.prog 34 #[.bool t, natV B j l, natV D m k] w (FPst w t L 1) := by
  subst ht
  have hl1 : (lim 1).length = 1 := by kernel_rfl
  have h := va_Make (decide (L < 0)) B j l L.natAbs D m k 1 (by decide) (by rw [← h1.len]; exact hl) (by rw [← h2.len, hl1]; decide) w (hT.ext hw) h1 h2
  rw [ra_own, (can_one L).1, (can_one L).2] at h
  refine h.mono ?_
  rintro e w' ⟨A, n, c, D, m, k, rfl, h1, h2⟩
  exact ⟨⟨A, n, c, D, m, k⟩, rfl, Lib.hid h1.out.1, h2⟩
end Go.Proofs.YtnpdpjgkpjodbaaGreatDoor
end
