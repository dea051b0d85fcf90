/- The document's numbers of 64 bits. -/
import Derived.Test.YtmpgfibahdiblaaDoorRows
import Derived.Test.YtmpgfibahdiblaaDoorSl
import Derived.Test.YtmpgfibahdiblaaDoorStr
import Derived.Test.YtmpgfibahdiblaaDoorNatR
import Derived.Test.YtmpgfibahdiblaaDoorNatT
namespace Go.Proofs.YtmpgfibahdiblaaDoor
open Go.RowKit
attribute [local go_sem] sz2 sz3 sz4 sz5 sz6 sz7 sz8
set_option maxHeartbeats 4000000
set_option maxRecDepth 100000
attribute [local irreducible] Calls
theorem of_any (v : Nat) (hv : v < 18446744073709551616) (w : World) :
    Calls Tryd.prog 51 #[.int .u64 (v : Int)] w fun e w' => ∃ A k c, e = .returned (natV A k c) ∧ Rd w' A k c (lim v) ∧ Fr w A ∧ Ext w w' := by
  have hval : val [v % 4294967296, v / 4294967296] = v := by
    have := Nat.mod_add_div v 4294967296
    simp [val, Bs]; omega
  have hlb : Lb [v % 4294967296, v / 4294967296] := by
    intro x hx
    simp at hx
    unfold Bs
    rcases hx with rfl | rfl <;> omega
  obtain ⟨W, hW⟩ : ∃ W, W = (w.alloc (Obj.cells #[Value.slice none 0 0] 59)).alloc (Obj.cells #[.int .u32 ((v : Int) % 4294967296), .int .u32 ((v : Int) / 4294967296)] 93) := ⟨_, rfl⟩
  have hR : Rd W (some ⟨w.heap.size + 1, 0, none⟩) 2 2 [v % 4294967296, v / 4294967296] := by
    rw [hW]
    exact Rd.made _ _ _ _ hlb (by simp [u32V]) (by simp) (by simp) rfl
  have hT : Calls Tryd.prog 69 #[.slice (some ⟨w.heap.size + 1, 0, none⟩) 2 2] W fun e w'' => ∃ k, (e = .returned (.slice (some ⟨w.heap.size + 1, 0, none⟩) k 2) ∧ Hid (Rd W (some ⟨w.heap.size + 1, 0, none⟩) k 2 (lim v))) ∧ W = w'' := by
    refine (trim_any _ _ _ _ W hR).mono ?_
    rintro e w'' ⟨j, rfl, h2, rfl⟩
    rw [trimZ_lim _ hlb, hval] at h2
    exact ⟨j, ⟨rfl, h2⟩, rfl⟩
  clear hR hval hlb
  subst hW
  go_enter Tryd.func51, Tryd.ntmps51
  go_wp2_with (first
    | (go_at_call 69; (with_reducible refine hT.mono ?_); rintro e w' ⟨k, ⟨rfl, hR⟩, rfl⟩)
    | (go_at_call 68; (with_reducible refine (nat_any _ k 2 _).mono ?_); rintro e w2 ⟨rfl, xb⟩; obtain ⟨xc, xf, xl, xz⟩ := ext_use xb; (try simp at xz))
   )
  have y : w2.cell? ⟨w.heap.size, 0, none⟩ = some (.slice none 0 0) := by rw [xc _ _ (by simp; omega), World.cell?_alloc_past _ _ _ (by simp), World.cell?_alloc_at _ _ _ _ rfl]; rfl
  refine bodyPost_ret (v := natV (some ⟨w.heap.size + 1, 0, none⟩) k 2) ?h rfl ⟨_, k, 2, rfl, (hR.out.ext xb).set _ ?_, ?_, ?_⟩
  case h => simp [results, Tryd.results51, go_sem, y]
  · intro a ha; cases ha; simp
  · intro a ha; cases ha; simp
  repeat (first | exact ext_refl _ | assumption | refine ext_setCell ?_ (by simp; try omega) _ | refine ext_alloc ?_ _ | refine ext_drew ?_ | refine ext_drewN ?_ _ | refine ext_trans ?_ (Aft.use _) | refine ext_trans ?_ (by assumption))
end Go.Proofs.YtmpgfibahdiblaaDoor
