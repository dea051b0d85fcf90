/- Lemmas of this proof, laid together: RatioFieldW. -/
import Derived.Test.YtnpdpjgkpjodbaaGreatDoorMg35
import Derived.Deep.DeepCutAuto
import Derived.Deep.RegionWith
set_option linter.unusedSimpArgs false
set_option linter.unusedVariables false
section
/- RatioField: the walk. -/
namespace Go.Proofs.YtnpdpjgkpjodbaaGreatDoor
open Go.RowKit
attribute [local go_sem] sz2 sz3 sz4 sz5 sz6 sz7 sz8
set_option maxHeartbeats 8000000
set_option maxRecDepth 100000
attribute [local irreducible] Calls
theorem field_end (x0 : Bool) (x1A : Option Addr) (x1l x1c : Nat) (x2A : Option Addr) (x2l x2c : Nat) (x3 : Bool) (x4A : Option Addr) (x4l x4c : Nat) (x5A : Option Addr) (x5l x5c : Nat) (x6 : Bool) (x7A : Option Addr) (x7l x7c : Nat) (x8A : Option Addr) (x8l x8c : Nat)
    (zA zB zC : Int) (dA dB dC : Nat) (w : World) (hT : Tz w) (fA : Few 5 zA dA) (fB : Few 5 zB dB) (fC : Few 5 zC dC) (pA : dA ≠ 0) (pB : dB ≠ 0) (pC : dC ≠ 0) (gA : Nat.gcd zA.natAbs dA = 1) (gB : Nat.gcd zB.natAbs dB = 1) (gC : Nat.gcd zC.natAbs dC = 1)
    (kA : ∀ w', Ext w w' → Calls Tryz.prog 38 #[.agg #[.bool x0, .slice x1A x1l x1c, .slice x2A x2l x2c]] w' (MPst w' (decide (zA < 0)) zA dA))
    (kB : ∀ w', Ext w w' → Calls Tryz.prog 38 #[.agg #[.bool x3, .slice x4A x4l x4c, .slice x5A x5l x5c]] w' (MPst w' (decide (zB < 0)) zB dB))
    (kC : ∀ w', Ext w w' → Calls Tryz.prog 38 #[.agg #[.bool x6, .slice x7A x7l x7c, .slice x8A x8l x8c]] w' (MPst w' (decide (zC < 0)) zC dC))
    : Calls Tryz.prog 8 #[.agg #[.bool x0, .slice x1A x1l x1c, .slice x2A x2l x2c], .agg #[.bool x3, .slice x4A x4l x4c, .slice x5A x5l x5c], .agg #[.bool x6, .slice x7A x7l x7c, .slice x8A x8l x8c]] w fun e w' => e = .returned (.bool true) ∧ Ext w w' := by
  have rAB : dA * dB ≠ 0 := Nat.mul_ne_zero pA pB
  have fAB := (Few.add fA fB).can
  have rBC : dB * dC ≠ 0 := Nat.mul_ne_zero pB pC
  have fBC := (Few.add fB fC).can
  have rP : dA * dB ≠ 0 := Nat.mul_ne_zero pA pB
  have fP := (Few.mul fA fB).can
  have rBCP : dB * dC ≠ 0 := Nat.mul_ne_zero pB pC
  have fBCP := (Few.mul fB fC).can
  have rAC : dA * dC ≠ 0 := Nat.mul_ne_zero pA pC
  have fAC := (Few.mul fA fC).can
  have rT : (dA * dB) * dC ≠ 0 := Nat.mul_ne_zero rAB pC
  have cABC := can_addL rAB (Z := zA * dB + zB * dA) zC pC
  have cPC := can_mulL rAB (Z := zA * zB) zC pC
  have cLF := can_mulL rAB (Z := zA * dB + zB * dA) zC pC
  have fABC := (Few.add fAB fC).can
  rw [cABC.1, cABC.2] at fABC
  have fPC := (Few.mul fP fC).can
  rw [cPC.1, cPC.2] at fPC
  have fLF := (Few.mul fAB fC).can
  rw [cLF.1, cLF.2] at fLF
  have eBA : canN (zB * dA + zA * dB) (dB * dA) = (canN (zA * dB + zB * dA) (dA * dB)) ∧ canD (zB * dA + zA * dB) (dB * dA) = (canD (zA * dB + zB * dA) (dA * dB)) := by rw [Nat.mul_comm dB dA, Int.add_comm (zB * dA)]; exact ⟨rfl, rfl⟩
  have eQ : canN (zB * zA) (dB * dA) = (canN (zA * zB) (dA * dB)) ∧ canD (zB * zA) (dB * dA) = (canD (zA * zB) (dA * dB)) := by rw [Nat.mul_comm dB dA, Int.mul_comm zB zA]; exact ⟨rfl, rfl⟩
  have eAlso : canN (zA * (canD (zB * dC + zC * dB) (dB * dC)) + (canN (zB * dC + zC * dB) (dB * dC)) * dA) (dA * (canD (zB * dC + zC * dB) (dB * dC))) = (canN ((zA * dB + zB * dA) * dC + zC * ((dA * dB : Nat) : Int)) ((dA * dB) * dC)) ∧ canD (zA * (canD (zB * dC + zC * dB) (dB * dC)) + (canN (zB * dC + zC * dB) (dB * dC)) * dA) (dA * (canD (zB * dC + zC * dB) (dB * dC))) = (canD ((zA * dB + zB * dA) * dC + zC * ((dA * dB : Nat) : Int)) ((dA * dB) * dC)) := by
    have h1 := can_addR zA pA rBC (Y := zB * dC + zC * dB)
    have h2 : (zA * ((dB * dC : Nat) : Int) + (zB * dC + zC * dB) * dA) = (zA * dB + zB * dA) * dC + zC * ((dA * dB : Nat) : Int) := by rw [Int.natCast_mul, Int.natCast_mul]; grind
    rw [h2, ← Nat.mul_assoc] at h1; exact h1
  have eApq : canN (zA * (canN (zB * zC) (dB * dC))) (dA * (canD (zB * zC) (dB * dC))) = (canN (zA * zB * zC) ((dA * dB) * dC)) ∧ canD (zA * (canN (zB * zC) (dB * dC))) (dA * (canD (zB * zC) (dB * dC))) = (canD (zA * zB * zC) ((dA * dB) * dC)) := by
    have h1 := can_mulR zA pA rBC (Y := zB * zC)
    rw [← Int.mul_assoc, ← Nat.mul_assoc] at h1; exact h1
  have eRight : canN ((canN (zA * zC) (dA * dC)) * (canD (zB * zC) (dB * dC)) + (canN (zB * zC) (dB * dC)) * (canD (zA * zC) (dA * dC))) ((canD (zA * zC) (dA * dC)) * (canD (zB * zC) (dB * dC))) = (canN ((zA * dB + zB * dA) * zC) ((dA * dB) * dC)) ∧ canD ((canN (zA * zC) (dA * dC)) * (canD (zB * zC) (dB * dC)) + (canN (zB * zC) (dB * dC)) * (canD (zA * zC) (dA * dC))) ((canD (zA * zC) (dA * dC)) * (canD (zB * zC) (dB * dC))) = (canD ((zA * dB + zB * dA) * zC) ((dA * dB) * dC)) := by
    have h1 := can_addL rAC (Z := zA * zC) (canN (zB * zC) (dB * dC)) (r := (canD (zB * zC) (dB * dC))) (canD_pos rBC)
    have h2 := can_addR (zA * zC) rAC rBC (Y := zB * zC)
    have h3 : canN (zA * zC * ((dB * dC : Nat) : Int) + zB * zC * ((dA * dC : Nat) : Int)) (dA * dC * (dB * dC)) = (canN ((zA * dB + zB * dA) * zC) ((dA * dB) * dC)) ∧ canD (zA * zC * ((dB * dC : Nat) : Int) + zB * zC * ((dA * dC : Nat) : Int)) (dA * dC * (dB * dC)) = (canD ((zA * dB + zB * dA) * zC) ((dA * dB) * dC)) := by
      refine can_eq (Nat.mul_ne_zero rAC rBC) rT ?_
      simp only [Int.natCast_mul]; grind
    exact ⟨h1.1.trans (h2.1.trans h3.1), h1.2.trans (h2.2.trans h3.2)⟩
  have eBack : canN ((canN (zA * dB + zB * dA) (dA * dB)) * dB - zB * (canD (zA * dB + zB * dA) (dA * dB))) ((canD (zA * dB + zB * dA) (dA * dB)) * dB) = zA ∧ canD ((canN (zA * dB + zB * dA) (dA * dB)) * dB - zB * (canD (zA * dB + zB * dA) (dA * dB))) ((canD (zA * dB + zB * dA) (dA * dB)) * dB) = dA := by
    have h1 := can_subL rAB (Z := zA * dB + zB * dA) zB pB
    have h2 := can_self pA gA
    have h3 : canN ((zA * dB + zB * dA) * dB - zB * ((dA * dB : Nat) : Int)) (dA * dB * dB) = canN zA dA ∧ canD ((zA * dB + zB * dA) * dB - zB * ((dA * dB : Nat) : Int)) (dA * dB * dB) = canD zA dA := by
      refine can_eq (Nat.mul_ne_zero rAB pB) pA ?_
      simp only [Int.natCast_mul]; grind
    exact ⟨h1.1.trans (h3.1.trans h2.1), h1.2.trans (h3.2.trans h2.2)⟩
  have FAB := fAB.mono (show _ ≤ 4000 by decide)
  have FBC := fBC.mono (show _ ≤ 4000 by decide)
  have FP := fP.mono (show _ ≤ 4000 by decide)
  have FBCP := fBCP.mono (show _ ≤ 4000 by decide)
  have FAC := fAC.mono (show _ ≤ 4000 by decide)
  have FABC := fABC.mono (show _ ≤ 4000 by decide)
  have FPC := fPC.mono (show _ ≤ 4000 by decide)
  have FLF := fLF.mono (show _ ≤ 4000 by decide)
  have FA := fA.mono (show _ ≤ 4000 by decide)
  have FB := fB.mono (show _ ≤ 4000 by decide)
  have FC := fC.mono (show _ ≤ 4000 by decide)
  clear gC
  by_cases hz : zB = 0
  · exact field_zero x0 x1A x1l x1c x2A x2l x2c x3 x4A x4l x4c x5A x5l x5c x6 x7A x7l x7c x8A x8l x8c zA zB zC (canN (zA * dB + zB * dA) (dA * dB)) (canN ((zA * dB + zB * dA) * dC + zC * ((dA * dB : Nat) : Int)) ((dA * dB) * dC)) (canN (zB * dC + zC * dB) (dB * dC)) (canN (zA * zB) (dA * dB)) (canN (zA * zB * zC) ((dA * dB) * dC)) (canN (zB * zC) (dB * dC)) (canN ((zA * dB + zB * dA) * zC) ((dA * dB) * dC)) (canN (zA * zC) (dA * dC)) dA dB dC (canD (zA * dB + zB * dA) (dA * dB)) (canD ((zA * dB + zB * dA) * dC + zC * ((dA * dB : Nat) : Int)) ((dA * dB) * dC)) (canD (zB * dC + zC * dB) (dB * dC)) (canD (zA * zB) (dA * dB)) (canD (zA * zB * zC) ((dA * dB) * dC)) (canD (zB * zC) (dB * dC)) (canD ((zA * dB + zB * dA) * zC) ((dA * dB) * dC)) (canD (zA * zC) (dA * dC)) _ _ _ _ _ _ _ _ _ _ _ w hz (fun w' he => alive2_any w' (hT.ext he)) kA kB kC (op_Add hT FA FB rfl rfl ⟨rfl, rfl⟩ rfl) (op_Add hT FB FA rfl rfl eBA rfl) (op_Add hT FAB FC rfl rfl cABC rfl) (op_Add hT FB FC rfl rfl ⟨rfl, rfl⟩ rfl) (op_Add hT FA FBC rfl rfl eAlso rfl) (op_Mul hT FA FB rfl rfl ⟨rfl, rfl⟩ rfl) (op_Mul hT FB FA rfl rfl eQ rfl) (op_Mul hT FP FC rfl rfl cPC rfl) (op_Mul hT FB FC rfl rfl ⟨rfl, rfl⟩ rfl) (op_Mul hT FA FBCP rfl rfl eApq rfl) (op_Mul hT FAB FC rfl rfl cLF rfl) (op_Mul hT FA FC rfl rfl ⟨rfl, rfl⟩ rfl) (op_Add hT FAC FBCP rfl rfl eRight rfl) (op_Sub hT FAB FB rfl rfl eBack rfl) (fun F G w' he h1 h2 => by subst hz; exact op_DivZ hT FP FB rfl F G w' he h1 h2) (fun s z d hs F G w' h1 h2 => op_same hs hs (decide_eq_true ⟨rfl, rfl⟩) F G w' h1 h2) rfl rfl rfl rfl rfl rfl
  · have eDiv := can_divmul pA pB hz gA (x := zA) (y := zB)
    exact field_more x0 x1A x1l x1c x2A x2l x2c x3 x4A x4l x4c x5A x5l x5c x6 x7A x7l x7c x8A x8l x8c zA zB zC (canN (zA * dB + zB * dA) (dA * dB)) (canN ((zA * dB + zB * dA) * dC + zC * ((dA * dB : Nat) : Int)) ((dA * dB) * dC)) (canN (zB * dC + zC * dB) (dB * dC)) (canN (zA * zB) (dA * dB)) (canN (zA * zB * zC) ((dA * dB) * dC)) (canN (zB * zC) (dB * dC)) (canN ((zA * dB + zB * dA) * zC) ((dA * dB) * dC)) (canN (zA * zC) (dA * dC)) dA dB dC (canD (zA * dB + zB * dA) (dA * dB)) (canD ((zA * dB + zB * dA) * dC + zC * ((dA * dB : Nat) : Int)) ((dA * dB) * dC)) (canD (zB * dC + zC * dB) (dB * dC)) (canD (zA * zB) (dA * dB)) (canD (zA * zB * zC) ((dA * dB) * dC)) (canD (zB * zC) (dB * dC)) (canD ((zA * dB + zB * dA) * zC) ((dA * dB) * dC)) (canD (zA * zC) (dA * dC)) _ _ _ _ _ _ _ _ _ _ _ w hz (fun w' he => alive2_any w' (hT.ext he)) kA kB kC (op_Add hT FA FB rfl rfl ⟨rfl, rfl⟩ rfl) (op_Add hT FB FA rfl rfl eBA rfl) (op_Add hT FAB FC rfl rfl cABC rfl) (op_Add hT FB FC rfl rfl ⟨rfl, rfl⟩ rfl) (op_Add hT FA FBC rfl rfl eAlso rfl) (op_Mul hT FA FB rfl rfl ⟨rfl, rfl⟩ rfl) (op_Mul hT FB FA rfl rfl eQ rfl) (op_Mul hT FP FC rfl rfl cPC rfl) (op_Mul hT FB FC rfl rfl ⟨rfl, rfl⟩ rfl) (op_Mul hT FA FBCP rfl rfl eApq rfl) (op_Mul hT FAB FC rfl rfl cLF rfl) (op_Mul hT FA FC rfl rfl ⟨rfl, rfl⟩ rfl) (op_Add hT FAC FBCP rfl rfl eRight rfl) (op_Sub hT FAB FB rfl rfl eBack rfl) (op_Div hT FP FB hz rfl rfl eDiv rfl) (fun s z d hs F G w' h1 h2 => op_same hs hs (decide_eq_true ⟨rfl, rfl⟩) F G w' h1 h2) rfl rfl rfl rfl rfl rfl
theorem walk_RatioField (x0 : Bool) (x1A : Option Addr) (x1l x1c : Nat) (x1 : List Nat) (x2A : Option Addr) (x2l x2c : Nat) (x2 : List Nat) (x3 : Bool) (x4A : Option Addr) (x4l x4c : Nat) (x4 : List Nat) (x5A : Option Addr) (x5l x5c : Nat) (x5 : List Nat) (x6 : Bool) (x7A : Option Addr) (x7l x7c : Nat) (x7 : List Nat) (x8A : Option Addr) (x8l x8c : Nat) (x8 : List Nat) (w : World) (hx1 : Rd w x1A x1l x1c x1) (hx2 : Rd w x2A x2l x2c x2) (hx4 : Rd w x4A x4l x4c x4) (hx5 : Rd w x5A x5l x5c x5) (hx7 : Rd w x7A x7l x7c x7) (hx8 : Rd w x8A x8l x8c x8) (hL : laidMetH Tryz.prog Rows.ratioFieldRow.laid w) :
    Calls Tryz.prog 8 #[.agg #[.bool x0, .slice x1A x1l x1c, .slice x2A x2l x2c], .agg #[.bool x3, .slice x4A x4l x4c, .slice x5A x5l x5c], .agg #[.bool x6, .slice x7A x7l x7c, .slice x8A x8l x8c]] w fun e w' => e = .returned (.bool true) ∧ Ext w w' := by
  have hT : Tz w := tz_row w hL (fun w => MakeChecks.laidMetH_plain _ _ _ (by kernel_rfl)) (rest := [("unicode/utf8.acceptRanges", Rows.laid_unicode_utf8_acceptRanges), ("unicode/utf8.first", Rows.laid_unicode_utf8_first)]) (by kernel_rfl)
  clear hL
  have qA := rawD_pos (val (x2.take 5))
  have fA : Few 5 (canN (sgn x0 (val (x1.take 5))) (rawD (val (x2.take 5)))) (canD (sgn x0 (val (x1.take 5))) (rawD (val (x2.take 5)))) := raw_few x0 hx1 hx2
  have pA := canD_pos (z := sgn x0 (val (x1.take 5))) qA
  have gA := can_gcd (z := sgn x0 (val (x1.take 5))) qA
  obtain ⟨zA, hZA⟩ : ∃ X, canN (sgn x0 (val (x1.take 5))) (rawD (val (x2.take 5))) = X := ⟨_, rfl⟩
  obtain ⟨dA, hDA⟩ : ∃ X, canD (sgn x0 (val (x1.take 5))) (rawD (val (x2.take 5))) = X := ⟨_, rfl⟩
  have kA : ∀ w', Ext w w' → Calls Tryz.prog 38 #[.agg #[.bool x0, .slice x1A x1l x1c, .slice x2A x2l x2c]] w' (MPst w' (decide (zA < 0)) zA dA) := fun w' he => made_op x0 (hT.ext he) (hx1.ext he) (hx2.ext he) hZA hDA rfl
  rw [hZA, hDA] at fA gA
  rw [hDA] at pA
  clear hZA hDA qA
  have qB := rawD_pos (val (x5.take 5))
  have fB : Few 5 (canN (sgn x3 (val (x4.take 5))) (rawD (val (x5.take 5)))) (canD (sgn x3 (val (x4.take 5))) (rawD (val (x5.take 5)))) := raw_few x3 hx4 hx5
  have pB := canD_pos (z := sgn x3 (val (x4.take 5))) qB
  have gB := can_gcd (z := sgn x3 (val (x4.take 5))) qB
  obtain ⟨zB, hZB⟩ : ∃ X, canN (sgn x3 (val (x4.take 5))) (rawD (val (x5.take 5))) = X := ⟨_, rfl⟩
  obtain ⟨dB, hDB⟩ : ∃ X, canD (sgn x3 (val (x4.take 5))) (rawD (val (x5.take 5))) = X := ⟨_, rfl⟩
  have kB : ∀ w', Ext w w' → Calls Tryz.prog 38 #[.agg #[.bool x3, .slice x4A x4l x4c, .slice x5A x5l x5c]] w' (MPst w' (decide (zB < 0)) zB dB) := fun w' he => made_op x3 (hT.ext he) (hx4.ext he) (hx5.ext he) hZB hDB rfl
  rw [hZB, hDB] at fB gB
  rw [hDB] at pB
  clear hZB hDB qB
  have qC := rawD_pos (val (x8.take 5))
  have fC : Few 5 (canN (sgn x6 (val (x7.take 5))) (rawD (val (x8.take 5)))) (canD (sgn x6 (val (x7.take 5))) (rawD (val (x8.take 5)))) := raw_few x6 hx7 hx8
  have pC := canD_pos (z := sgn x6 (val (x7.take 5))) qC
  have gC := can_gcd (z := sgn x6 (val (x7.take 5))) qC
  obtain ⟨zC, hZC⟩ : ∃ X, canN (sgn x6 (val (x7.take 5))) (rawD (val (x8.take 5))) = X := ⟨_, rfl⟩
  obtain ⟨dC, hDC⟩ : ∃ X, canD (sgn x6 (val (x7.take 5))) (rawD (val (x8.take 5))) = X := ⟨_, rfl⟩
  have kC : ∀ w', Ext w w' → Calls Tryz.prog 38 #[.agg #[.bool x6, .slice x7A x7l x7c, .slice x8A x8l x8c]] w' (MPst w' (decide (zC < 0)) zC dC) := fun w' he => made_op x6 (hT.ext he) (hx7.ext he) (hx8.ext he) hZC hDC rfl
  rw [hZC, hDC] at fC gC
  rw [hDC] at pC
  clear hZC hDC qC
  exact field_end _ _ _ _ _ _ _ _ _ _ _ _ _ _ _ _ _ _ _ _ _ zA zB zC dA dB dC w hT fA fB fC pA pB pC gA gB gC kA kB kC
end Go.Proofs.YtnpdpjgkpjodbaaGreatDoor
end
