/- Lemmas of this proof, laid together: DxA. -/
import Derived.Test.YtnkajjealkggdaaGreatDoorMg24
set_option linter.unusedSimpArgs false
set_option linter.unusedVariables false
section
/- Lex, the document: Scripts, Digit. -/
namespace Go.Proofs.YtnkajjealkggdaaGreatDoor
open Go.RowKit
attribute [local go_sem] sz2 sz3 sz4 sz5 sz6 sz7 sz8 sz9 sz10
set_option maxHeartbeats 4000000
set_option maxRecDepth 100000
attribute [local irreducible] Calls
structure Scr (w : World) (b : Nat) : Prop where
  lt : b < w.heap.size
  at_ : ∀ j, j < 12 → w.cell? ⟨b, j, none⟩ = some (.int .i32 ((zeroL.getD j 0 : Nat) : Int))
theorem Scr.ext {w w' : World} {b : Nat} (h : Scr w b) (he : Ext w w') : Scr w' b := ⟨ext_lt he b h.lt, fun j hj => (Below.cell (p := ⟨b, j, none⟩) he h.lt).trans (h.at_ j hj)⟩
theorem dx_Scripts (w : World) : Calls Tryz.prog 40 #[] w fun e w' => ∃ b, e = .returned (.slice (some ⟨b, 0, none⟩) 12 12) ∧ Hid (Scr w' b) ∧ Ext w w' := by
  go_enter Tryz.func40, Tryz.ntmps40
  go_wp2
  refine bodyPost_ret (v := .slice (some ⟨w.heap.size, 0, none⟩) 12 12) ?h rfl ⟨_, rfl, ⟨by simp, fun j hj => ?_⟩, ?_⟩
  case h => simp [results, Tryz.results40, go_sem]
  · have : ∀ j, j < 12 → (#[Value.int .i32 48, .int .i32 1632, .int .i32 1776, .int .i32 1984, .int .i32 2406, .int .i32 2534, .int .i32 2662, .int .i32 3664, .int .i32 6112, .int .i32 65296, .int .i32 66720, .int .i32 120782] : Array Value)[j]? = some (.int .i32 ((zeroL.getD j 0 : Nat) : Int)) := by
      intro j hj
      rcases j with _ | _ | _ | _ | _ | _ | _ | _ | _ | _ | _ | _ | j
      all_goals first | rfl | omega
    simp [go_sem, this j hj]
  · skip
    repeat (first | exact ext_refl _ | assumption | refine ext_setCell ?_ (by simp; try omega) _ | refine ext_alloc ?_ _ | refine ext_drew ?_ | refine ext_drewN ?_ _ | refine ext_trans ?_ (Aft.use _) | refine ext_trans ?_ (by assumption))
theorem zero_bd (j : Nat) : zeroL.getD j 0 ≤ 200000 := by
  rcases Nat.lt_or_ge j 12 with h | h
  · exact (zS_at j h).2.2.2
  · rw [List.getD_eq_getElem?_getD, List.getElem?_eq_none (by exact h)]; decide
theorem dx_Digit (r : Int) (hr : -2147483648 ≤ r ∧ r ≤ 2147483647) (w : World) :
    Calls Tryz.prog 22 #[.int .i32 r] w fun e w' => e = .returned (.tuple #[.int .i64 (digV r).1, .bool (digV r).2]) ∧ Ext w w' := by
  obtain ⟨X, hX⟩ : ∃ X, digV r = X := ⟨_, rfl⟩
  have hx0 : Hid (digR r = none → X = (0, false)) := fun h => by rw [← hX]; unfold digV; rw [h]
  have hx1 : Hid (∀ d, digR r = some d → X = ((d : Int), true)) := fun d h => by rw [← hX]; unfold digV; rw [h]
  rw [hX]
  clear hX
  have kS := Lib.hid (fun w' => dx_Scripts w')
  go_enter Tryz.func22, Tryz.ntmps22
  go_wp2_with (first
    | (go_at_call 40; (with_reducible refine (kS.out _).mono ?_); rintro e w1 ⟨b, rfl, hS, hE1⟩))
  go_loopg [5] 12 (fun gk v5 wr => ∃ j : Nat, gk = 12 - j ∧ j ≤ 12 ∧ v5 = .int .i64 j ∧ Hid (Scr wr b) ∧ Hid (digR r = digIn r (zeroL.drop j)) ∧ Hid (Ext w wr))
  case atStart => exact ⟨0, rfl, Nat.zero_le _, rfl, hS, rfl, hE1⟩
  case round =>
    obtain ⟨j, rfl, hj, rfl, hS2, hdr, hE⟩ := hrel
    by_cases hlt : j < 12
    · have hdd := digIn_drop r j hlt
      rw [← hdr.out] at hdd
      have hzb := zero_bd j
      have hcl := hS2.out.at_ j hlt
      obtain ⟨z, hz⟩ : ∃ z, zeroL.getD j 0 = z := ⟨_, rfl⟩
      rw [hz] at hdd hzb hcl
      have HD := Lib.hid hdd
      have HJ : Hid (12 - (j + 1) < 12 - j) := by show _ < _; omega
      have hlt' : (j : Int) < 12 := by omega
      clear hz hdd hdr
      by_cases a1 : (z : Int) ≤ r
      · by_cases a2 : r < z + 10
        · have hx := hx1.out (r - z).toNat (by rw [HD.out, if_pos ⟨a1, by omega⟩])
          have e1 : (((r - z).toNat : Nat) : Int) = r - z := by omega
          rw [e1] at hx
          have HX := Lib.hid hx
          clear hx e1
          go_wp2
          refine bodyPost_ret (v := .tuple #[.int .i64 (r - z), .bool true]) ?h rfl ⟨by rw [HX.out], hE.out⟩
          case h => simp [results, Tryz.results22, go_sem]
        · have hdn : Hid (digR r = digIn r (zeroL.drop (j + 1))) := by show _ = _; rw [HD.out, if_neg (fun q => a2 (by omega))]
          go_wp2
          go_roundg (12 - (j + 1))
          case measure => exact HJ.out
          case rel => exact ⟨j + 1, rfl, by omega, rfl, hS2, hdn, hE⟩
      · have hdn : Hid (digR r = digIn r (zeroL.drop (j + 1))) := by show _ = _; rw [HD.out, if_neg (fun q => a1 q.1)]
        go_wp2
        go_roundg (12 - (j + 1))
        case measure => exact HJ.out
        case rel => exact ⟨j + 1, rfl, by omega, rfl, hS2, hdn, hE⟩
    · obtain rfl : j = 12 := by omega
      have hx := hx0.out (by rw [hdr.out]; rfl)
      have HX := Lib.hid hx
      clear hx
      go_wp2
      refine bodyPost_ret (v := .tuple #[.int .i64 0, .bool false]) ?h rfl ⟨by rw [HX.out], hE.out⟩
      case h => simp [results, Tryz.results22, go_sem]
end Go.Proofs.YtnkajjealkggdaaGreatDoor
end
