/- The document's number of digits. -/
import Derived.Test.YtbgimjfeigeicaaGreatDoorDecO
import Derived.Test.YtbgimjfeigeicaaGreatDoorNatX
import Derived.Test.YtbgimjfeigeicaaGreatDoorNatY
namespace Go.Proofs.YtbgimjfeigeicaaGreatDoor
open Go.RowKit
attribute [local go_sem] bs_size bs_extract bs_get bs_append bs_toList const_get
attribute [local go_sem] sz2 sz3 sz4 sz5 sz6 sz7 sz8
set_option maxHeartbeats 4000000
set_option maxRecDepth 100000
attribute [local irreducible] Calls
theorem number_nil (w : World) : Calls Tryz.prog 49 #[.string ⟨#[]⟩] w fun e w' => e = .returned (natV none 0 0) ∧ Ext w w' := by
  go_enter Tryz.func49, Tryz.ntmps49
  go_wp2
  refine bodyPost_ret (v := _) ?h rfl ⟨rfl, ?_⟩
  case h => simp [results, Tryz.results49, go_sem]
  repeat (first | exact ext_refl _ | assumption | refine ext_setCell ?_ (by simp; try omega) _ | refine ext_alloc ?_ _ | refine ext_drew ?_ | refine ext_drewN ?_ _ | refine ext_trans ?_ (Aft.use _) | refine ext_trans ?_ (by assumption))
theorem number_some (l : List UInt8) (hd : digsB l = true) (h0 : 0 < l.length) (hl : l.length ≤ 65536) (w : World) :
    Calls Tryz.prog 49 #[.string (bs l)] w fun e w' => ∃ (A : Option Addr) (k c : Nat), e = .returned (natV A k c) ∧ Hid (Rd w' A k c (lim (dval l)) ∧ Fr w A) ∧ Ext w w' := by
  have hp : ∀ w', Calls Tryz.prog 94 #[.string (bs l)] w' fun e w'' => ∃ (A : Option Addr) (k c : Nat), e = .returned (.tuple #[natV A k c, .int .i64 0, .int .i64 0]) ∧ Hid (Rd w'' A k c (lim (dval l)) ∧ Fr w' A) ∧ Ext w' w'' := fun w' => by
    refine (parse_any l hd h0 hl w').mono ?_
    rintro e w'' ⟨A, k, c, he, h1, h2, h3⟩
    exact ⟨A, k, c, he, ⟨h1, h2⟩, h3⟩
  have hne : l.isEmpty = false := by simp [List.length_pos_iff.1 h0]
  clear hd
  go_enter Tryz.func49, Tryz.ntmps49
  go_wp2_with (first
    | (go_at_call 94; (with_reducible refine (hp _).mono ?_); rintro e w1 ⟨A, k, c, rfl, hR, xb1⟩; obtain ⟨xc1, xf1, xl1, xz1⟩ := ext_use xb1; (try simp at xz1); have l1_0 := xl1 (w.heap.size) (by first | omega | (simp; try omega)); have r1_0 := xc1 (w.heap.size) 0 (by first | omega | (simp; try omega)); have f1_0 := xf1 (w.heap.size) 0 (by first | omega | (simp; try omega)))
   )
  refine bodyPost_ret (v := natV A k c) ?h rfl ⟨A, k, c, rfl, ⟨?_, ?_⟩, ?_⟩
  case h => simp [results, Tryz.results49, go_sem, *]
  · exact (hR.out.1.set _ (fun a ha => by have := hR.out.2 a ha; simp at this ⊢; omega)).ext (ext_alloc (ext_refl _) _)
  · exact hR.out.2.mono (by (repeat (first | exact ext_refl _ | assumption | refine ext_setCell ?_ (by simp; try omega) _ | refine ext_alloc ?_ _ | refine ext_drew ?_ | refine ext_drewN ?_ _ | refine ext_trans ?_ (Aft.use _) | refine ext_trans ?_ (by assumption))))
  · (repeat (first | exact ext_refl _ | assumption | refine ext_setCell ?_ (by simp; try omega) _ | refine ext_alloc ?_ _ | refine ext_drew ?_ | refine ext_drewN ?_ _ | refine ext_trans ?_ (Aft.use _) | refine ext_trans ?_ (by assumption)))
end Go.Proofs.YtbgimjfeigeicaaGreatDoor
