/- Lemmas of this proof, laid together: SlB, NatY, NtF, NtG, DecD, DecO, DecNo, DecN, DecF, DecL, DecL2, DecS. -/
import Derived.Test.YtkhkoeibpkglkaaGreatDoorRows
import Derived.Test.YtkhkoeibpkglkaaGreatDoorMg03
import Derived.Test.YtkhkoeibpkglkaaGreatDoorMg05
import Derived.Test.YtkhkoeibpkglkaaGreatDoorMg04
import Derived.Laws.IdiomStrings
import Derived.Laws.BytesArg
import Derived.Laws.CopyRow
import Derived.Laws.CopyOwn
import Derived.Maps.AppendAt
import Derived.Deep.Heap
import Derived.Test.YtkhkoeibpkglkaaGreatDoorMg08
import Derived.Test.YtkhkoeibpkglkaaGreatDoorMg01
import Derived.Test.YtkhkoeibpkglkaaGreatDoorMg07
import Derived.Test.YtkhkoeibpkglkaaGreatDoorMg06
set_option linter.unusedSimpArgs false
set_option linter.unusedVariables false
section
/- Slices of bytes in memory. -/
namespace Go.Proofs.YtkhkoeibpkglkaaGreatDoor
open Go.RowKit
abbrev bV (b : UInt8) : Value := .int .u8 (b.toNat : Int)
theorem rd_grown {w w' : World} {A : Option Addr} {n c : Nat} {xs : List Nat} {row : Option Nat} (h : Rd w A n c xs) (hg : w.grownBy w' row) (hne : ∀ a, A = some a → xs ≠ [] → row ≠ some a.block) : Rd w' A n c xs :=
  ⟨h.len, h.cap, h.mx, h.lb, h.none_, h.at_, fun b off hA i hi => by
    obtain ⟨h1, h2⟩ := h.cells b off hA i hi
    refine ⟨Nat.lt_of_lt_of_le h1 hg.size, ?_⟩
    rw [World.cell?_of_block (hg.block b h1 (fun e => hne _ hA (by intro e2; rw [e2] at hi; simp at hi) e.symm))]
    exact h2⟩
theorem own_ext {w w' : World} {base : Nat} {e : TypeId} {size : Nat} {v : Value} {n : Nat} {xs : List Value} (h : w.ownsRow base e size v n xs) (he : Ext w w') : w'.ownsRow base e size v n xs :=
  h.kept (row := none) ⟨he.os, he.tape, he.output, he.size, fun k hk _ => he.block k hk⟩ (by cases hv : v.ownBlock <;> simp)
theorem own_far {w : World} {base : Nat} {e : TypeId} {size : Nat} {v : Value} {n : Nat} {xs : List Value} (h : w.ownsRow base e size v n xs) (p : Addr) (u : Value) (hne : v.ownBlock ≠ some p.block) : (w.setCell p u).ownsRow base e size v n xs := by
  refine h.kept (row := some p.block) ⟨rfl, rfl, rfl, by simp, fun k _ hk => Go.Deep.blk_setCell_other w p u k (fun e => hk (by rw [e]))⟩ (.inr hne)
end Go.Proofs.YtkhkoeibpkglkaaGreatDoor
end
section
/- The program writes digits. -/
namespace Go.Proofs.YtkhkoeibpkglkaaGreatDoor
open Go.RowKit
attribute [local go_sem] bs_size bs_extract bs_get bs_append bs_toList const_get
attribute [local go_sem] sz2 sz3 sz4 sz5 sz6 sz7 sz8
set_option maxHeartbeats 4000000
set_option maxRecDepth 100000
theorem field_nat (A : Option Addr) (k c : Nat) (w : World) : (Instr.field 31 (natV A k c) 0).run Tryz.prog w = .ok (.slice A k c) w := by kernel_rfl
attribute [local irreducible] Calls
attribute [local go_sem] field_nat
end Go.Proofs.YtkhkoeibpkglkaaGreatDoor
end
section
/- What rounding decimals comes to; the refusals. -/
namespace Go.Proofs.YtkhkoeibpkglkaaGreatDoor
open Go.RowKit
attribute [local go_sem] bs_size bs_extract bs_get bs_append bs_toList const_get
attribute [local go_sem] sz2 sz3 sz4 sz5 sz6 sz7 sz8
set_option maxHeartbeats 4000000
set_option maxRecDepth 100000
attribute [local irreducible] Calls
/-- Check's error. -/
def dcE (d : Dc) : Int :=
  if 65536 < d.dig.length then 4 else if d.dig.length = 0 then (if d.exp = 0 then 0 else 100) else
  if digsB d.dig = false then 100 else if d.dig.head? = some 48 ∨ d.dig.getLast? = some 48 ∨ far d.exp = true then 100 else 0
/-- A decimal that may be, and is not nought. -/
structure Ok (d : Dc) : Prop where
  len : d.dig.length ≤ 65536
  pos : 0 < d.dig.length
  digs : digsB d.dig = true
  lead : lead d.dig
  exp : -1073741824 ≤ d.exp ∧ d.exp ≤ 1073741824
theorem far_false {n : Int} (h : far n = false) : -1073741824 ≤ n ∧ n ≤ 1073741824 := by
  unfold far at h
  simp at h
  omega
theorem dc_ok {d : Dc} (h : dcE d = 0) (h0 : 0 < d.dig.length) : Ok d := by
  unfold dcE at h
  split at h
  · cases h
  · rw [if_neg (by omega)] at h
    split at h
    · cases h
    · split at h
      · cases h
      · rename_i h1 h2 h3
        refine ⟨by omega, h0, by simpa using h2, fun x hx e => h3 (.inl (by rw [hx, e])), far_false ?_⟩
        cases hf : far d.exp
        · rfl
        · exact absurd (.inr (.inr hf)) h3
theorem check_any' (d : Dc) (hl : d.dig.length ≤ 9223372036854775807) (w : World) : Calls Tryz.prog 32 #[dcV d] w fun e w' => e = .returned (.int .i64 (dcE d)) ∧ Ext w w' := by
  obtain ⟨neg, l, exp⟩ := d
  simp only [dcE]
  simp only at hl
  by_cases h1 : 65536 < l.length
  · rw [if_pos h1]
    go_enter Tryz.func32, Tryz.ntmps32
    go_wp2
    refine bodyPost_ret (v := _) ?h rfl ⟨rfl, ?_⟩
    case h => simp [results, Tryz.results32, go_sem]
    repeat (first | exact ext_refl _ | assumption | refine ext_setCell ?_ (by simp; try omega) _ | refine ext_alloc ?_ _ | refine ext_drew ?_ | refine ext_drewN ?_ _ | refine ext_trans ?_ (Aft.use _) | refine ext_trans ?_ (by assumption))
  rw [if_neg h1]
  by_cases h2 : l.length = 0
  · rw [if_pos h2]
    obtain rfl : l = [] := List.eq_nil_of_length_eq_zero h2
    by_cases h3 : exp = 0
    · subst h3
      go_enter Tryz.func32, Tryz.ntmps32
      go_wp2
      refine bodyPost_ret (v := _) ?h rfl ⟨rfl, ?_⟩
      case h => simp [results, Tryz.results32, go_sem]
      repeat (first | exact ext_refl _ | assumption | refine ext_setCell ?_ (by simp; try omega) _ | refine ext_alloc ?_ _ | refine ext_drew ?_ | refine ext_drewN ?_ _ | refine ext_trans ?_ (Aft.use _) | refine ext_trans ?_ (by assumption))
    · rw [if_neg h3]
      have hne : (exp == 0) = false := by simp [h3]
      clear h3
      go_enter Tryz.func32, Tryz.ntmps32
      go_wp2
      refine bodyPost_ret (v := _) ?h rfl ⟨rfl, ?_⟩
      case h => simp [results, Tryz.results32, go_sem]
      repeat (first | exact ext_refl _ | assumption | refine ext_setCell ?_ (by simp; try omega) _ | refine ext_alloc ?_ _ | refine ext_drew ?_ | refine ext_drewN ?_ _ | refine ext_trans ?_ (Aft.use _) | refine ext_trans ?_ (by assumption))
  rw [if_neg h2]
  have hne : ((l.length : Int) == 0) = false := by rw [beq_eq_false_iff_ne]; omega
  have h0 : 0 < l.length := by omega
  clear h2
  cases h4 : digsB l
  · rw [if_pos rfl]
    go_enter Tryz.func32, Tryz.ntmps32
    go_wp2_with (first
      | (go_at_call 45; (with_reducible refine (digits_any _ hl _).mono ?_); rintro e w' ⟨rfl, rfl⟩)
     )
    refine bodyPost_ret (v := _) ?h rfl ⟨rfl, ?_⟩
    case h => simp [results, Tryz.results32, go_sem]
    repeat (first | exact ext_refl _ | assumption | refine ext_setCell ?_ (by simp; try omega) _ | refine ext_alloc ?_ _ | refine ext_drew ?_ | refine ext_drewN ?_ _ | refine ext_trans ?_ (Aft.use _) | refine ext_trans ?_ (by assumption))
  rw [if_neg (by simp)]
  have hh : l.head? = some l[0] := by rw [List.head?_eq_getElem?, List.getElem?_eq_getElem h0]
  have hg : l.getLast? = some l[l.length - 1] := by rw [List.getLast?_eq_getElem?, List.getElem?_eq_getElem (show l.length - 1 < l.length by omega)]
  rw [hh, hg]
  clear hh hg
  by_cases h5 : l[0] = 48
  · rw [if_pos (.inl (by rw [h5]))]
    have hc := (byte_48 l[0]).2 h5
    clear h5
    go_enter Tryz.func32, Tryz.ntmps32
    go_wp2_with (first
      | (go_at_call 45; (with_reducible refine (digits_any _ hl _).mono ?_); rintro e w' ⟨rfl, rfl⟩)
     )
    refine bodyPost_ret (v := _) ?h rfl ⟨rfl, ?_⟩
    case h => simp [results, Tryz.results32, go_sem]
    repeat (first | exact ext_refl _ | assumption | refine ext_setCell ?_ (by simp; try omega) _ | refine ext_alloc ?_ _ | refine ext_drew ?_ | refine ext_drewN ?_ _ | refine ext_trans ?_ (Aft.use _) | refine ext_trans ?_ (by assumption))
  have hc := (byte_48n l[0]).2 h5
  by_cases h6 : l[l.length - 1] = 48
  · rw [if_pos (.inr (.inl (by rw [h6])))]
    have hc2 := (byte_48 l[l.length - 1]).2 h6
    clear h5 h6
    go_enter Tryz.func32, Tryz.ntmps32
    go_wp2_with (first
      | (go_at_call 45; (with_reducible refine (digits_any _ hl _).mono ?_); rintro e w' ⟨rfl, rfl⟩)
     )
    refine bodyPost_ret (v := _) ?h rfl ⟨rfl, ?_⟩
    case h => simp [results, Tryz.results32, go_sem]
    repeat (first | exact ext_refl _ | assumption | refine ext_setCell ?_ (by simp; try omega) _ | refine ext_alloc ?_ _ | refine ext_drew ?_ | refine ext_drewN ?_ _ | refine ext_trans ?_ (Aft.use _) | refine ext_trans ?_ (by assumption))
  have hc2 := (byte_48n l[l.length - 1]).2 h6
  cases h7 : far exp
  · rw [if_neg (by simp [h5, h6])]
    clear h5 h6
    go_enter Tryz.func32, Tryz.ntmps32
    go_wp2_with (first
      | (go_at_call 45; (with_reducible refine (digits_any _ hl _).mono ?_); rintro e w' ⟨rfl, rfl⟩)
      | (go_at_call 48; (with_reducible refine (far_any _ _).mono ?_); rintro e w' ⟨rfl, rfl⟩)
     )
    refine bodyPost_ret (v := _) ?h rfl ⟨rfl, ?_⟩
    case h => simp [results, Tryz.results32, go_sem]
    repeat (first | exact ext_refl _ | assumption | refine ext_setCell ?_ (by simp; try omega) _ | refine ext_alloc ?_ _ | refine ext_drew ?_ | refine ext_drewN ?_ _ | refine ext_trans ?_ (Aft.use _) | refine ext_trans ?_ (by assumption))
  · rw [if_pos (.inr (.inr rfl))]
    clear h5 h6
    go_enter Tryz.func32, Tryz.ntmps32
    go_wp2_with (first
      | (go_at_call 45; (with_reducible refine (digits_any _ hl _).mono ?_); rintro e w' ⟨rfl, rfl⟩)
      | (go_at_call 48; (with_reducible refine (far_any _ _).mono ?_); rintro e w' ⟨rfl, rfl⟩)
     )
    refine bodyPost_ret (v := _) ?h rfl ⟨rfl, ?_⟩
    case h => simp [results, Tryz.results32, go_sem]
    repeat (first | exact ext_refl _ | assumption | refine ext_setCell ?_ (by simp; try omega) _ | refine ext_alloc ?_ _ | refine ext_drew ?_ | refine ext_drewN ?_ _ | refine ext_trans ?_ (Aft.use _) | refine ext_trans ?_ (by assumption))
end Go.Proofs.YtkhkoeibpkglkaaGreatDoor
end
