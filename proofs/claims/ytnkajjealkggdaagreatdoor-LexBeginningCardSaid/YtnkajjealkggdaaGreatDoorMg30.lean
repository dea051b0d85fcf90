/- Lemmas of this proof, laid together: QkU. -/
import Derived.Test.YtnkajjealkggdaaGreatDoorMg12
import Derived.Shelf.Strconv.Itoa3
import Derived.Lib.Walk
import Derived.Lib.ItoaMem
import Derived.Lib.AppendIntMem
import Derived.WalkKit
import Derived.BigCall
import Derived.BigGuard
set_option linter.unusedSimpArgs false
set_option linter.unusedVariables false
section
/- strconv.FormatUint at base 10. -/
namespace Go.Proofs.YtnkajjealkggdaaGreatDoor
open Go.RowKit Go.Sort Go.Lib
set_option maxHeartbeats 6400000
set_option maxRecDepth 100000
attribute [local irreducible] Calls
theorem fu_in (u : Nat) (hu64 : u < 18446744073709551616) (w : World) (htab : Lib.TabIs Tryz.prog w "internal/strconv.uint64pow10" .u64 Lib.pow10Tab) :
    Calls Tryz.prog 66 #[.int .u64 (u : Int), .int .i64 10] w fun e w' => e = .returned (.string (bs (dtext u))) ∧ Ext w w' := by
  have hbs : bs (dtext u) = ⟨(Lib.decDigits u).toArray⟩ := by rw [dec_digits]; rfl
  rw [hbs]
  by_cases hs : u < 100
  · have k := Lib.hid (fun w => Tryz.internal_strconv_small u hs w)
    have hsI : (u : Int) < 100 := by omega
    go_enter Tryz.func66, Tryz.ntmps66
    go_wp2_with (first
      | (go_at_call 115; (with_reducible refine (k.out _).mono ?_); rintro e w' ⟨rfl, rfl⟩))
    refine bodyPost_ret (v := .string ⟨(Lib.decDigits u).toArray⟩) ?h rfl ⟨rfl, ext_refl _⟩
    case h => simp [results, Tryz.results66, go_sem]
  · have hsI : ¬ (u : Int) < 100 := by omega
    have hdI : decide ((u : Int) < 100) = false := decide_eq_false hsI
    have hu1 : 1 ≤ u := by omega
    have hnd20 : Lib.nDigits u ≤ 20 := by have := Lib.numDigits_eq u hu1 hu64; split at this <;> omega
    have hb3 : Lib.nDigits u ≤ 24 := by omega
    have hal : Tryz.prog.arrayLen 160 = 24 := by kernel_rfl
    have hsl1 : ∀ W, (Instr.sliceAt 160 (.pointer (some ⟨w.heap.size, 0, none⟩)) none (some (.int .i64 (Lib.nDigits u : Int))) none).run Tryz.prog W = .ok (.slice (some ⟨w.heap.size, 0, none⟩) (Lib.nDigits u) 24) W := fun W => by
      rw [run_sliceAt_array_h W 160 ⟨w.heap.size, 0, none⟩ (by kernel_rfl) .i64 (Lib.nDigits u : Int) (by omega) (by rw [hal]; omega)]
      go_simp
    have hH0 := Lib.holds_zero0 w 160 (Lib.nDigits u) (by omega)
    have hfmt := Tryz.internal_strconv_formatBase10 w.heap.size 0 24 u (Array.replicate (Lib.nDigits u) 0) (w.alloc (.cells Lib.zeros24 160)) hH0 (by rw [Array.size_replicate]; exact Lib.lt_pow_nDigits u) hu64 (by rw [Array.size_replicate]; omega)
    rw [Array.size_replicate] at hfmt
    have HH0 := Lib.hid hH0
    have hnum := Lib.hid (fun w' (h : Lib.TabIs Tryz.prog w' "internal/strconv.uint64pow10" .u64 Lib.pow10Tab) => Tryz.internal_strconv_numDigits u hu1 hu64 w' h)
    clear hH0 hal
    go_enter Tryz.func66, Tryz.ntmps66
    go_wp2_with (first
      | (go_at_call 116; (with_reducible refine (hnum.out _ (Lib.tabIs_alloc htab _)).mono ?_); rintro e w' ⟨rfl, rfl⟩))
    refine hfmt.mono ?_
    rintro e w' ⟨rfl, k, v', dk, rfl, hF⟩
    have hcv : (convert 23 9 (.slice (some ⟨w.heap.size, 0, none⟩) (Lib.nDigits u) 24)).run Tryz.prog ((putRow (fun (b : UInt8) => Value.int .u8 (b.toNat : Int)) (w.alloc (.cells Lib.zeros24 160)) w.heap.size 0 dk).drewN k) = .ok (.string ⟨(Lib.decDigits u).toArray⟩) ((putRow (fun (b : UInt8) => Value.int .u8 (b.toNat : Int)) (w.alloc (.cells Lib.zeros24 160)) w.heap.size 0 dk).drewN k) := by
      have h := run_convert_bytes_back (P := Tryz.prog) ((putRow (fun (b : UInt8) => Value.int .u8 (b.toNat : Int)) (w.alloc (.cells Lib.zeros24 160)) w.heap.size 0 dk).drewN k) 23 9 5 ⟨w.heap.size, 0, none⟩ 24 (Lib.decDigits u) (by kernel_rfl) (by kernel_rfl) (by kernel_rfl) (fun j hj => by
        rw [Lib.row_is_numeral hF j hj, Lib.add_plain, World.cell?_drewN]
        exact cell?_putRow (fun (b : UInt8) => Value.int .u8 (b.toNat : Int)) _ w.heap.size 0 _ dk HH0.out (by rw [hF.size, Array.size_replicate]) j (by rw [hF.size]; rw [Lib.decDigits_length] at hj; exact hj))
      rw [Lib.decDigits_length] at h
      exact h
    obtain ⟨os, eo⟩ := Lib.fin_at w (.cells Lib.zeros24 160) dk k 0
    have hE : Ext w ((putRow (fun (b : UInt8) => Value.int .u8 (b.toNat : Int)) (w.alloc (.cells Lib.zeros24 160)) w.heap.size 0 dk).drewN k) := by rw [eo]; exact Lib.below_grow w.heap.size w (Nat.le_refl _) k os
    generalize (putRow (fun (b : UInt8) => Value.int .u8 (b.toNat : Int)) (w.alloc (.cells Lib.zeros24 160)) w.heap.size 0 dk).drewN k = W2 at hcv hE ⊢
    clear eo HH0 hfmt hnum
    go_wp2
    refine bodyPost_ret (v := .string ⟨(Lib.decDigits u).toArray⟩) ?h rfl ⟨rfl, hE⟩
    case h => simp [results, Tryz.results66, go_sem]
theorem fu_any (u : Nat) (hu64 : u < 18446744073709551616) (w : World) (htab : Lib.TabIs Tryz.prog w "internal/strconv.uint64pow10" .u64 Lib.pow10Tab) :
    Calls Tryz.prog 37 #[.int .u64 (u : Int), .int .i64 10] w fun e w' => e = .returned (.string (bs (dtext u))) ∧ Ext w w' := by
  have k := Lib.hid (fu_in u hu64 w htab)
  generalize dtext u = l at *
  clear htab
  go_enter Tryz.func37, Tryz.ntmps37
  go_wp2_with (first
    | (go_at_call 66; (with_reducible refine (k.out).mono ?_); rintro e w1 ⟨rfl, xb1⟩))
  refine bodyPost_ret (v := .string (bs l)) ?h rfl ⟨rfl, xb1⟩
  case h => simp [results, Tryz.results37, go_sem]
end Go.Proofs.YtnkajjealkggdaaGreatDoor
end
