/- Shifts and texts of decimals: what they come to; small pieces. -/
import Derived.Test.YtmpgfibahdiblaaDoorDecO
import Derived.Test.YtmpgfibahdiblaaDoorSlB
import Derived.Test.YtmpgfibahdiblaaDoorNatOf
namespace Go.Proofs.YtmpgfibahdiblaaDoor
open Go.RowKit
attribute [local go_sem] bs_size bs_extract bs_get bs_append bs_toList const_get
attribute [local go_sem] sz2 sz3 sz4 sz5 sz6 sz7 sz8
set_option maxHeartbeats 4000000
set_option maxRecDepth 100000
attribute [local irreducible] Calls
theorem getD_eqS {l : List UInt8} {i : Nat} (h : i < l.length) : l.getD i 0 = l[i] := by
  rw [List.getD_eq_getElem?_getD, List.getElem?_eq_getElem h]; rfl
def minusL (neg : Bool) : List UInt8 := if neg then [45] else []
def zerosL (n : Nat) : List UInt8 := List.replicate n 48
theorem minus_any (neg : Bool) (w : World) : Calls Tryd.prog 32 #[.bool neg] w fun e w' => e = .returned (.string (bs (minusL neg))) ∧ w = w' := by
  cases neg
  all_goals
    go_enter Tryd.func32, Tryd.ntmps32
    go_wp2
    go_ret
    exact ⟨rfl, rfl⟩
theorem rminus_any (neg : Bool) (w : World) : Calls Tryd.prog 35 #[.bool neg] w fun e w' => e = .returned (.string (bs (minusL neg))) ∧ w = w' := by
  cases neg
  all_goals
    go_enter Tryd.func35, Tryd.ntmps35
    go_wp2
    go_ret
    exact ⟨rfl, rfl⟩
theorem noughts_any (n : Nat) (hn : n ≤ 1000000) (w : World) : Calls Tryd.prog 36 #[.int .i64 (n : Int)] w fun e w' => e = .returned (.string (bs (zerosL n))) ∧ Ext w w' := by
  go_enter Tryd.func36, Tryd.ntmps36
  go_wp2_with (first
    | (at_make; refine make_u8 rfl _ _ rfl _ _ _ _ n rfl rfl rfl rfl (by omega) ?_; intro w1 hx1 ho1; have hext1 := Lib.hid hx1; clear hx1)
    | go_in)
  go_loopw [4] (fun vi wr => ∃ (i : Nat) (os : List UInt8), i ≤ n ∧ vi = .int .i64 (i : Int) ∧ Hid (os.length = n ∧ ∀ p, p < i → os.getD p 0 = 48) ∧
      Hid (wr.ownsRow w.heap.size 5 1 (.slice (some ⟨w.heap.size, 0, none⟩) n n) n (os.map bV)) ∧ Hid (Ext w wr))
    (fun vi _ => n - (intOf vi).toNat)
  case atStart => exact ⟨0, List.replicate n 0, Nat.zero_le _, rfl, ⟨by simp, fun p hp => absurd hp (Nat.not_lt_zero _)⟩, ho1.out, hext1.out⟩
  case round =>
    obtain ⟨i, os, hi, rfl, hos, ho, hx⟩ := hrel
    by_cases hlt : i < n
    · obtain ⟨hc2, hf2⟩ := ownb_at ho.out i hlt
      go_wp2
      case roundEnd =>
        refine ⟨⟨i + 1, os.set i 48, by omega, by simp, ⟨by rw [List.length_set]; exact hos.out.1, fun p hp => ?_⟩, ownb_set ho.out i 48, ext_setCell hx.out (Nat.le_refl _) _⟩, ?_⟩
        · by_cases e : p = i
          · subst e
            rw [List.getD_eq_getElem?_getD, List.getElem?_set_self (by rw [hos.out.1]; exact hlt)]; rfl
          · rw [List.getD_eq_getElem?_getD, List.getElem?_set_ne (by omega), ← List.getD_eq_getElem?_getD]
            exact hos.out.2 p (by omega)
        · simp [intOf]; omega
    · obtain rfl : i = n := by omega
      have hfin : os = zerosL i := by
        refine List.ext_getElem (by rw [hos.out.1]; simp [zerosL]) fun p h1 h2 => ?_
        have h3 := hos.out.2 p (by rw [← hos.out.1]; exact h1)
        rw [getD_eqS h1] at h3
        rw [h3]; simp [zerosL]
      have hcv := ownb_str ho.out 0 i i (by omega) (zerosL i) (by rw [hfin, List.drop_zero, List.take_of_length_le (by simp [zerosL])])
      have HX := Lib.hid hx.out
      clear hfin hlt
      go_wp2
      go_ret
      exact ⟨rfl, HX.out⟩
def itoaL (n : Int) : List UInt8 := minusL (decide (n < 0)) ++ dtext n.natAbs
theorem whole_any (n : Int) (hn : -9223372036854775807 ≤ n ∧ n ≤ 9223372036854775807) (w : World) : Calls Tryd.prog 38 #[.int .i64 n] w fun e w' => e = .returned (.string (bs (itoaL n))) ∧ Ext w w' := by
  have hof : ∀ w', Calls Tryd.prog 51 #[.int .u64 (n.natAbs : Int)] w' fun e w'' => ∃ (A : Option Addr) (k c : Nat), e = .returned (natV A k c) ∧ Hid (Rd w'' A k c (lim n.natAbs)) ∧ Ext w' w'' := fun w' => by
    refine (of_any n.natAbs (by omega) w').mono ?_
    rintro e w'' ⟨A, k, c, he, h1, _, h3⟩
    exact ⟨A, k, c, he, h1, h3⟩
  have hsz : (lim n.natAbs).length ≤ 16384 := lim_fits (n := 20) (by omega) (by decide) (by decide)
  have hdl : (dtext n.natAbs).length ≤ 20 := by
    unfold dtext
    split
    · simp
    · exact digs_len (by omega)
  rcases Int.lt_or_le n 0 with h0 | h0
  · have hml : (minusL true).length = 1 := rfl
    have e1 : itoaL n = 45 :: dtext n.natAbs := by unfold itoaL minusL; simp [h0]
    have e2 : (n.natAbs : Int) = -n := by omega
    rw [e1]
    rw [e2] at hof
    clear e1 e2
    go_enter Tryd.func38, Tryd.ntmps38
    go_wp2_with (first
      | (go_at_call 51; (with_reducible refine (hof _).mono ?_); rintro e w1 ⟨A, k, c, rfl, hR, xb1⟩; obtain ⟨xc1, xf1, xl1, xz1⟩ := ext_use xb1; (try simp at xz1))
      | (go_at_call 52; (with_reducible refine (text_any A k c n.natAbs hsz _ hR.out).mono ?_); rintro e w2 ⟨rfl, xb2⟩; obtain ⟨xc2, xf2, xl2, xz2⟩ := ext_use xb2; (try simp at xz2))
      | (go_at_call 35; (with_reducible refine (rminus_any _ _).mono ?_); rintro e w' ⟨rfl, rfl⟩)
     )
    go_ret
    refine ⟨rfl, ?_⟩
    repeat (first | exact ext_refl _ | assumption | refine ext_setCell ?_ (by simp; try omega) _ | refine ext_alloc ?_ _ | refine ext_drew ?_ | refine ext_drewN ?_ _ | refine ext_trans ?_ (Aft.use _) | refine ext_trans ?_ (by assumption))
  · have hml : minusL (decide (n < 0)) = [] := by rw [decide_eq_false (by omega)]; rfl
    have hnn : ¬ n < 0 := by omega
    have e1 : itoaL n = dtext n.natAbs := by unfold itoaL minusL; simp; omega
    have e2 : (n.natAbs : Int) = n := by omega
    rw [e1]
    rw [e2] at hof
    clear e1 e2
    go_enter Tryd.func38, Tryd.ntmps38
    go_wp2_with (first
      | (go_at_call 51; (with_reducible refine (hof _).mono ?_); rintro e w1 ⟨A, k, c, rfl, hR, xb1⟩; obtain ⟨xc1, xf1, xl1, xz1⟩ := ext_use xb1; (try simp at xz1))
      | (go_at_call 52; (with_reducible refine (text_any A k c n.natAbs hsz _ hR.out).mono ?_); rintro e w2 ⟨rfl, xb2⟩; obtain ⟨xc2, xf2, xl2, xz2⟩ := ext_use xb2; (try simp at xz2))
      | (go_at_call 35; (with_reducible refine (rminus_any _ _).mono ?_); rintro e w' ⟨rfl, rfl⟩)
     )
    go_ret
    refine ⟨rfl, ?_⟩
    repeat (first | exact ext_refl _ | assumption | refine ext_setCell ?_ (by simp; try omega) _ | refine ext_alloc ?_ _ | refine ext_drew ?_ | refine ext_drewN ?_ _ | refine ext_trans ?_ (Aft.use _) | refine ext_trans ?_ (by assumption))
end Go.Proofs.YtmpgfibahdiblaaDoor
