/- Lemmas of this proof, laid together: RatR. -/
import Derived.Test.YtnpdpjgkpjodbaaGreatDoorMg27
import Derived.Test.YtnpdpjgkpjodbaaGreatDoorMg30
set_option linter.unusedSimpArgs false
set_option linter.unusedVariables false
section
/- Drawn regions of calls that answer fractions: what each answers. -/
namespace Go.Proofs.YtnpdpjgkpjodbaaGreatDoor
open Go.RowKit
attribute [local irreducible] Calls
/-- A fraction alone. -/
def RFr (s : Bool) (z : Int) (d : Nat) : List Value → Value → World → Prop := fun _ u w => ∃ F : FH, u = fV s F ∧ RaF w z d F
/-- A fraction and no error. -/
def RFT (s : Bool) (z : Int) (d : Nat) : List Value → Value → World → Prop := fun _ u w => ∃ F : FH, u = .tuple #[fV s F, .int .i64 0] ∧ RaF w z d F
theorem stays_fr (s : Bool) (z : Int) (d : Nat) : Stays (RFr s z d) := fun _ _ _ _ ⟨F, h1, h2⟩ he => ⟨F, h1, h2.ext he⟩
theorem stays_ft (s : Bool) (z : Int) (d : Nat) : Stays (RFT s z d) := fun _ _ _ _ ⟨F, h1, h2⟩ he => ⟨F, h1, h2.ext he⟩
theorem fr_at {s : Bool} {z : Int} {d : Nat} {vals : List Value} {F : FH} {w : World} (h : RFr s z d vals (fV s F) w) : RaF w z d F := by
  obtain ⟨⟨A, n, c, D, m, k⟩, e, h2⟩ := h
  obtain ⟨A', n', c', D', m', k'⟩ := F
  simp only [Value.agg.injEq, Array.mk.injEq, List.cons.injEq, Value.slice.injEq, true_and, and_true] at e
  obtain ⟨⟨rfl, rfl, rfl⟩, rfl, rfl, rfl⟩ := e
  exact h2
theorem ft_at {s : Bool} {z : Int} {d : Nat} {vals : List Value} {F : FH} {w : World} (h : RFT s z d vals (.tuple #[fV s F, .int .i64 0]) w) : RaF w z d F := by
  obtain ⟨⟨A, n, c, D, m, k⟩, e, h2⟩ := h
  obtain ⟨A', n', c', D', m', k'⟩ := F
  simp only [Value.tuple.injEq, Value.agg.injEq, Array.mk.injEq, List.cons.injEq, Value.slice.injEq, true_and, and_true] at e
  obtain ⟨⟨rfl, rfl, rfl⟩, rfl, rfl, rfl⟩ := e
  exact h2
theorem rel_fr {P : Program} {f : FuncId} {args : Array Value} {s : Bool} {z : Int} {d : Nat} {vals : List Value} {w : World} (h : Calls P f args w fun e w' => ∃ F : FH, e = .returned (fV s F) ∧ Hid (RaF w' z d F) ∧ Ext w w') :
    Calls P f args w fun e w' => ∃ v, e = .returned v ∧ Ext w w' ∧ Fresh w v w' ∧ RFr s z d vals v w' :=
  h.mono fun e w' ⟨F, h1, h2, h3⟩ => ⟨_, h1, h3, fun b hb => by simp [blk] at hb, F, rfl, h2.out⟩
theorem rel_ft {P : Program} {f : FuncId} {args : Array Value} {s : Bool} {z : Int} {d : Nat} {vals : List Value} {w : World} (h : Calls P f args w (FPst w s z d)) :
    Calls P f args w fun e w' => ∃ v, e = .returned v ∧ Ext w w' ∧ Fresh w v w' ∧ RFT s z d vals v w' :=
  h.mono fun e w' ⟨F, h1, h2, h3⟩ => ⟨_, h1, h3, fun b hb => by simp [blk] at hb, F, rfl, h2.out⟩
/-- A row of limbs lies in no variable. -/
theorem off_cells {w : World} {A : Option Addr} {n c : Nat} {xs : List Nat} {B : Nat} {vs : Array Value} {t : TypeId} (h : Rd w A n c xs) (hB : w.heap[B]? = some (.cells vs t (0, 0))) (hv : ∀ (i x : Nat), vs[i]? ≠ some (u32V x)) : Off A n B := by
  intro a ha hn e
  obtain ⟨b, off, s⟩ := a
  have hs := h.at_ _ ha
  simp only at hs e
  subst hs e
  have hl : 0 < xs.length := by rw [h.len]; omega
  have h2 := (h.cells b off ha 0 hl).2
  rw [Nat.add_zero, cell_of_row w b off vs t (0, 0) hB] at h2
  exact hv _ _ h2
theorem Rd.off3 {w : World} {A : Option Addr} {n c : Nat} {xs : List Nat} {B : Nat} (h : Rd w A n c xs) (ho : Off A n B) (v0 v1 v2 : Value) : Rd (((w.setCell ⟨B, 0, none⟩ v0).setCell ⟨B, 1, none⟩ v1).setCell ⟨B, 2, none⟩ v2) A n c xs :=
  h.tch ((((Tch.refl B w).set 0 v0).set 1 v1).set 2 v2) ho
theorem RaIs.off3 {w : World} {z : Int} {d : Nat} {F : FH} {B : Nat} {t : TypeId} (h : RaF w z d F) (hB : w.heap[B]? = some (.cells #[.bool false, .slice none 0 0, .slice none 0 0] t (0, 0))) (v0 v1 v2 : Value) : RaF (((w.setCell ⟨B, 0, none⟩ v0).setCell ⟨B, 1, none⟩ v1).setCell ⟨B, 2, none⟩ v2) z d F := by
  have hv : ∀ (i x : Nat), (#[Value.bool false, .slice none 0 0, .slice none 0 0] : Array Value)[i]? ≠ some (u32V x) := by
    intro i x
    match i with
    | 0 => simp
    | 1 => simp
    | 2 => simp
    | i + 3 => simp
  exact ⟨h.num.off3 (off_cells h.num hB hv) _ _ _, h.den.off3 (off_cells h.den hB hv) _ _ _, h.d0, h.low⟩
end Go.Proofs.YtnpdpjgkpjodbaaGreatDoor
end
