/- Lemmas of this proof, laid together: AsX. -/
import Derived.Test.YtnkajjealkggdaaGreatDoorMg05
import Derived.Test.YtnkajjealkggdaaGreatDoorMg28
import Derived.Deep.RegionWith
set_option linter.unusedSimpArgs false
set_option linter.unusedVariables false
section
/- Lex: what an error tells: fault. -/
namespace Go.Proofs.YtnkajjealkggdaaGreatDoor
open Go.RowKit
attribute [local irreducible] Calls
set_option maxHeartbeats 4000000
set_option maxRecDepth 100000
theorem fa_fault (v : Value) (code at_ : Nat) (w : World) (hL : LxT w) (hv : EIs w v code at_) (h0 : code = 0 → at_ = 0) :
    Calls Tryz.prog 14 #[v] w fun e w' => e = .returned (.tuple #[.agg #[.int .i64 (code : Int), .int .i64 (at_ : Int)], .bool true]) ∧ Ext w w' := by
  rcases hv with ⟨rfl, rfl⟩ | ⟨hc, b, rfl, hb, hc0, hc1⟩
  · obtain rfl := h0 rfl
    go_enter Tryz.func14, Tryz.ntmps14
    go_wp2
    refine bodyPost_ret (v := .tuple #[.agg #[.int .i64 0, .int .i64 0], .bool true]) ?h rfl ⟨rfl, ?_⟩
    case h => simp [results, Tryz.results14, go_sem]
    repeat (first | exact ext_refl _ | assumption | refine ext_setCell ?_ (by simp; try omega) _ | refine ext_alloc ?_ _ | refine ext_drew ?_ | refine ext_drewN ?_ _ | refine ext_trans ?_ (Aft.use _) | refine ext_trans ?_ (by assumption))
  · have hcb : ((code : Int) == 0) = false := by rw [beq_eq_false_iff_ne]; omega
    have ct := Lib.hid (show ((w.alloc (.cells #[.int .i64 0, .int .i64 0] 40)).alloc (.cells #[.pointer none] 75)).cell? ⟨w.heap.size + 1, 0, none⟩ = some (.pointer none) by simp [go_sem])
    have cr0 := Lib.hid (show ((w.alloc (.cells #[.int .i64 0, .int .i64 0] 40)).alloc (.cells #[.pointer none] 75)).cell? ⟨w.heap.size, 0, none⟩ = some (.int .i64 0) by simp [go_sem])
    have cf0 := Lib.hid (show ((w.alloc (.cells #[.int .i64 0, .int .i64 0] 40)).alloc (.cells #[.pointer none] 75)).frozen? ⟨w.heap.size, 0, none⟩ = false by simp [go_sem])
    have cr1 := Lib.hid (show ((w.alloc (.cells #[.int .i64 0, .int .i64 0] 40)).alloc (.cells #[.pointer none] 75)).cell? ⟨w.heap.size, 1, none⟩ = some (.int .i64 0) by simp [go_sem])
    have cf1 := Lib.hid (show ((w.alloc (.cells #[.int .i64 0, .int .i64 0] 40)).alloc (.cells #[.pointer none] 75)).frozen? ⟨w.heap.size, 1, none⟩ = false by simp [go_sem])
    have hz0 := Lib.hid (show w.heap.size < ((w.alloc (.cells #[.int .i64 0, .int .i64 0] 40)).alloc (.cells #[.pointer none] 75)).heap.size by simp; omega)
    have hnb : ((code : Int) != 0) = true := by rw [bne_iff_ne]; omega
    have hne : ¬ b = w.heap.size := by omega
    have e1 : Hid (Ext w ((w.alloc (.cells #[.int .i64 0, .int .i64 0] 40)).alloc (.cells #[.pointer none] 75))) := ext_alloc (ext_alloc (ext_refl w) _) _
    have ka := Lib.hid (as_hit b ⟨w.heap.size + 1, 0, none⟩ (.pointer none) ((w.alloc (.cells #[.int .i64 0, .int .i64 0] 40)).alloc (.cells #[.pointer none] 75)) (by simp; omega) ((hL.ext e1.out).et) (by simp [go_sem]) (by simp [go_sem]))
    have ct := Lib.hid (show ((w.alloc (.cells #[.int .i64 0, .int .i64 0] 40)).alloc (.cells #[.pointer none] 75)).cell? ⟨w.heap.size + 1, 0, none⟩ = some (.pointer none) by simp [go_sem])
    have hne : ¬ b = w.heap.size + 1 := by omega
    have hne2 : ¬ b = w.heap.size := by omega
    go_enter Tryz.func14, Tryz.ntmps14
    go_wp2_with (first
      | (go_at_call 35; (with_reducible refine (ka.out).mono ?_); rintro e w1 ⟨rfl, w2, hE, rfl⟩; have hs2 := ext_size hE; (have lt2 : w.heap.size + 1 < w2.heap.size := Nat.lt_of_lt_of_le (by simp) hs2); (have lb2 : b < w2.heap.size := by omega); have d0 := (Below.cell (p := ⟨b, 0, none⟩) (ext_trans e1.out hE) hb).trans hc0; have d1 := (Below.cell (p := ⟨b, 1, none⟩) (ext_trans e1.out hE) hb).trans hc1; (have f0 := (Below.frozen (p := ⟨b, 0, none⟩) (ext_trans e1.out hE) hb)); have dr0 := (Below.cell (p := ⟨w.heap.size, 0, none⟩) hE hz0.out).trans cr0.out; have dr1 := (Below.cell (p := ⟨w.heap.size, 1, none⟩) hE hz0.out).trans cr1.out; have fr0 := (Below.frozen (p := ⟨w.heap.size, 0, none⟩) hE hz0.out).trans cf0.out; have fr1 := (Below.frozen (p := ⟨w.heap.size, 1, none⟩) hE hz0.out).trans cf1.out; have dt := (Below.cell (p := ⟨w.heap.size + 1, 0, none⟩) hE (by simp)).trans ct.out))
    go_region
    go_wp2
    refine bodyPost_ret (v := .tuple #[.agg #[.int .i64 (code : Int), .int .i64 (at_ : Int)], .bool true]) ?h rfl ⟨rfl, ?_⟩
    case h => simp [results, Tryz.results14, go_sem, hnb, dr0, dr1, dt]
    exact ext_drew (ext_setCell (ext_setCell (ext_setCell (ext_trans e1.out hE) (by simp) _) (by simp) _) (by simp) _)
end Go.Proofs.YtnkajjealkggdaaGreatDoor
end
