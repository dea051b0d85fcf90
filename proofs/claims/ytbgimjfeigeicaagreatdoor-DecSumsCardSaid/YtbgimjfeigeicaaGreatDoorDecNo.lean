/- Noughts. -/
import Derived.Test.YtbgimjfeigeicaaGreatDoorDecO
import Derived.Test.YtbgimjfeigeicaaGreatDoorSlB
namespace Go.Proofs.YtbgimjfeigeicaaGreatDoor
open Go.RowKit
attribute [local go_sem] bs_size bs_extract bs_get bs_append bs_toList const_get
attribute [local go_sem] sz2 sz3 sz4 sz5 sz6 sz7 sz8
set_option maxHeartbeats 4000000
set_option maxRecDepth 100000
attribute [local irreducible] Calls
theorem getD_eqS {l : List UInt8} {i : Nat} (h : i < l.length) : l.getD i 0 = l[i] := by
  rw [List.getD_eq_getElem?_getD, List.getElem?_eq_getElem h]; rfl
def zerosL (n : Nat) : List UInt8 := List.replicate n 48
theorem noughts_any (n : Nat) (hn : n ≤ 1000000) (w : World) : Calls Tryz.prog 50 #[.int .i64 (n : Int)] w fun e w' => e = .returned (.string (bs (zerosL n))) ∧ Ext w w' := by
  go_enter Tryz.func50, Tryz.ntmps50
  go_wp2_with (first
    | (at_make; refine make_u8 rfl _ _ rfl _ _ _ _ n rfl rfl rfl rfl (by omega) ?_; intro w1 hx1 ho1; have hext1 := Lib.hid hx1; clear hx1)
    | go_in)
  go_loopw [4] (fun vi wr => ∃ (i : Nat) (os : List UInt8), i ≤ n ∧ vi = .int .i64 (i : Int) ∧ Hid (os.length = n ∧ ∀ p, p < i → os.getD p 0 = 48) ∧
      Hid (wr.ownsRow w.heap.size 5 1 (.slice (some ⟨w.heap.size, 0, none⟩) n n) n (os.map bV)) ∧ Hid (Ext w wr))
    (fun vi _ => n - (intOf vi).toNat)
  case atStart => exact ⟨0, List.replicate n 0, Nat.zero_le _, rfl, ⟨by simp, fun p hp => absurd hp (Nat.not_lt_zero _)⟩, ho1.out, hext1.out⟩
  case round =>
    obtain ⟨i, os, hi, rfl, hos, ho, hx⟩ := hrel
    by_cases hlt : i < n
    · obtain ⟨hc2, hf2⟩ := ownb_at ho.out i hlt
      go_wp2
      case roundEnd =>
        refine ⟨⟨i + 1, os.set i 48, by omega, by simp, ⟨by rw [List.length_set]; exact hos.out.1, fun p hp => ?_⟩, ownb_set ho.out i 48, ext_setCell hx.out (Nat.le_refl _) _⟩, ?_⟩
        · by_cases e : p = i
          · subst e
            rw [List.getD_eq_getElem?_getD, List.getElem?_set_self (by rw [hos.out.1]; exact hlt)]; rfl
          · rw [List.getD_eq_getElem?_getD, List.getElem?_set_ne (by omega), ← List.getD_eq_getElem?_getD]
            exact hos.out.2 p (by omega)
        · simp [intOf]; omega
    · obtain rfl : i = n := by omega
      have hfin : os = zerosL i := by
        refine List.ext_getElem (by rw [hos.out.1]; simp [zerosL]) fun p h1 h2 => ?_
        have h3 := hos.out.2 p (by rw [← hos.out.1]; exact h1)
        rw [getD_eqS h1] at h3
        rw [h3]; simp [zerosL]
      have hcv := ownb_str ho.out 0 i i (by omega) (zerosL i) (by rw [hfin, List.drop_zero, List.take_of_length_le (by simp [zerosL])])
      have HX := Lib.hid hx.out
      clear hfin hlt
      go_wp2
      go_ret
      exact ⟨rfl, HX.out⟩
end Go.Proofs.YtbgimjfeigeicaaGreatDoor
