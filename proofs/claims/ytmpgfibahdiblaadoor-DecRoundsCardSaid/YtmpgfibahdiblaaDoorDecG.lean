/- The document's cut: its number, Higher. -/
import Derived.Test.YtmpgfibahdiblaaDoorDecF
import Derived.Test.YtmpgfibahdiblaaDoorDecO
import Derived.Test.YtmpgfibahdiblaaDoorNatX
import Derived.Test.YtmpgfibahdiblaaDoorNatY
import Derived.Test.YtmpgfibahdiblaaDoorDrawn
namespace Go.Proofs.YtmpgfibahdiblaaDoor
open Go.RowKit
attribute [local go_sem] bs_size bs_extract bs_get bs_append bs_toList const_get
attribute [local go_sem] sz2 sz3 sz4 sz5 sz6 sz7 sz8
set_option maxHeartbeats 4000000
set_option maxRecDepth 100000
attribute [local irreducible] Calls
theorem number_nil (w : World) : Calls Tryd.prog 48 #[.string ⟨#[]⟩] w fun e w' => e = .returned (natV none 0 0) ∧ Ext w w' := by
  go_enter Tryd.func48, Tryd.ntmps48
  go_wp2
  refine bodyPost_ret (v := _) ?h rfl ⟨rfl, ?_⟩
  case h => simp [results, Tryd.results48, go_sem]
  repeat (first | exact ext_refl _ | assumption | refine ext_setCell ?_ (by simp; try omega) _ | refine ext_alloc ?_ _ | refine ext_drew ?_ | refine ext_drewN ?_ _ | refine ext_trans ?_ (Aft.use _) | refine ext_trans ?_ (by assumption))
theorem number_some (l : List UInt8) (hd : digsB l = true) (h0 : 0 < l.length) (hl : l.length ≤ 65536) (w : World) :
    Calls Tryd.prog 48 #[.string (bs l)] w fun e w' => ∃ (A : Option Addr) (k c : Nat), e = .returned (natV A k c) ∧ Hid (Rd w' A k c (lim (dval l)) ∧ Fr w A) ∧ Ext w w' := by
  have hp : ∀ w', Calls Tryd.prog 64 #[.string (bs l)] w' fun e w'' => ∃ (A : Option Addr) (k c : Nat), e = .returned (.tuple #[natV A k c, .int .i64 0, .int .i64 0]) ∧ Hid (Rd w'' A k c (lim (dval l)) ∧ Fr w' A) ∧ Ext w' w'' := fun w' => by
    refine (parse_any l hd h0 hl w').mono ?_
    rintro e w'' ⟨A, k, c, he, h1, h2, h3⟩
    exact ⟨A, k, c, he, ⟨h1, h2⟩, h3⟩
  have hne : l.isEmpty = false := by simp [List.length_pos_iff.1 h0]
  clear hd
  go_enter Tryd.func48, Tryd.ntmps48
  go_wp2_with (first
    | (go_at_call 64; (with_reducible refine (hp _).mono ?_); rintro e w1 ⟨A, k, c, rfl, hR, xb1⟩; obtain ⟨xc1, xf1, xl1, xz1⟩ := ext_use xb1; (try simp at xz1); have l1_0 := xl1 (w.heap.size) (by first | omega | (simp; try omega)); have r1_0 := xc1 (w.heap.size) 0 (by first | omega | (simp; try omega)); have f1_0 := xf1 (w.heap.size) 0 (by first | omega | (simp; try omega)))
   )
  refine bodyPost_ret (v := natV A k c) ?h rfl ⟨A, k, c, rfl, ⟨?_, ?_⟩, ?_⟩
  case h => simp [results, Tryd.results48, go_sem, *]
  · exact (hR.out.1.set _ (fun a ha => by have := hR.out.2 a ha; simp at this ⊢; omega)).ext (ext_alloc (ext_refl _) _)
  · exact hR.out.2.mono (by (repeat (first | exact ext_refl _ | assumption | refine ext_setCell ?_ (by simp; try omega) _ | refine ext_alloc ?_ _ | refine ext_drew ?_ | refine ext_drewN ?_ _ | refine ext_trans ?_ (Aft.use _) | refine ext_trans ?_ (by assumption))))
  · (repeat (first | exact ext_refl _ | assumption | refine ext_setCell ?_ (by simp; try omega) _ | refine ext_alloc ?_ _ | refine ext_drew ?_ | refine ext_drewN ?_ _ | refine ext_trans ?_ (Aft.use _) | refine ext_trans ?_ (by assumption)))
theorem higher_any (neg odd : Bool) (c : Int) (mode : Nat) (w : World) : Calls Tryd.prog 49 #[.bool neg, .bool odd, .int .i64 c, .int .u8 (mode : Int)] w fun e w' =>
    e = .returned (.bool (if mode = 0 then decide (0 < c) || (c == 0 && odd) else if mode = 1 then decide (0 ≤ c) else if mode = 3 then !neg else if mode = 4 then neg else false)) ∧ w = w' := by
  by_cases h0 : mode = 0
  · subst h0
    cases odd
    all_goals
      go_enter Tryd.func49, Tryd.ntmps49
      go_wp2
      all_goals
        go_ret
        simp_all
  by_cases h1 : mode = 1
  · subst h1
    go_enter Tryd.func49, Tryd.ntmps49
    go_wp2
    all_goals
      go_ret
      simp_all
  by_cases h3 : mode = 3
  · subst h3
    go_enter Tryd.func49, Tryd.ntmps49
    go_wp2
    all_goals
      go_ret
      simp_all
  by_cases h4 : mode = 4
  · subst h4
    go_enter Tryd.func49, Tryd.ntmps49
    go_wp2
    all_goals
      go_ret
      simp_all
  rw [if_neg h0, if_neg h1, if_neg h3, if_neg h4]
  have e0 : ((mode : Int) == 0) = false := by rw [beq_eq_false_iff_ne]; omega
  have e1 : ((mode : Int) == 1) = false := by rw [beq_eq_false_iff_ne]; omega
  have e3 : ((mode : Int) == 3) = false := by rw [beq_eq_false_iff_ne]; omega
  have e4 : ((mode : Int) == 4) = false := by rw [beq_eq_false_iff_ne]; omega
  clear h0 h1 h3 h4
  go_enter Tryd.func49, Tryd.ntmps49
  go_wp2
  all_goals
    go_ret
    simp_all
end Go.Proofs.YtmpgfibahdiblaaDoor
