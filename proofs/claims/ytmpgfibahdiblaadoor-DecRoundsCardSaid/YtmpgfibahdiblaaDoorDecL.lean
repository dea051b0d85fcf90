/- Round and Places, the program's. -/
import Derived.Test.YtmpgfibahdiblaaDoorDecF
import Derived.Test.YtmpgfibahdiblaaDoorDecO
namespace Go.Proofs.YtmpgfibahdiblaaDoor
open Go.RowKit
attribute [local go_sem] bs_size bs_extract bs_get bs_append bs_toList const_get
attribute [local go_sem] sz2 sz3 sz4 sz5 sz6 sz7 sz8
set_option maxHeartbeats 4000000
set_option maxRecDepth 100000
attribute [local irreducible] Calls
/-- What a rounding gives. -/
structure Rr where
  d : Dc
  ok : Bool
  e : Int
abbrev rrV (r : Rr) : Value := .tuple #[dcV r.d, .bool r.ok, .int .i64 r.e]
def cutR (d : Dc) (k n : Int) (mode : Nat) : Rr := ⟨mkD d.neg (cutL d.neg d.dig k mode) n, false, mkE (cutL d.neg d.dig k mode) n⟩
def rndR (d : Dc) (most : Int) (mode : Nat) : Rr :=
  if dcE d ≠ 0 then ⟨Dc.zero, false, dcE d⟩ else if most < 1 ∨ 2000 < most then ⟨Dc.zero, false, 101⟩ else if 4 < mode then ⟨Dc.zero, false, 7⟩ else
  if (d.dig.length : Int) ≤ most then ⟨d, true, 0⟩ else cutR d most (d.exp + d.dig.length - most) mode
def plcR (d : Dc) (pl : Int) (mode : Nat) : Rr :=
  if dcE d ≠ 0 then ⟨Dc.zero, false, dcE d⟩ else if pl < 0 ∨ 2000 < pl then ⟨Dc.zero, false, 101⟩ else if 4 < mode then ⟨Dc.zero, false, 7⟩ else
  if d.dig.length = 0 ∨ -pl ≤ d.exp then ⟨d, true, 0⟩ else cutR d (d.dig.length + pl + d.exp) (-pl) mode
theorem cut_any (d : Dc) (k n : Int) (mode : Nat) (hok : Ok d) (hm : mode ≤ 4) (hn : -4294967296 ≤ n ∧ n ≤ 4294967296) (hk : (d.dig.length : Int) - n + d.exp = k) (hkl : k < d.dig.length) (w : World) :
    Calls Tryd.prog 27 #[dcV d, .int .i64 n, .int .u8 (mode : Int)] w fun e w' => e = .returned (.tuple #[dcV (cutR d k n mode).d, .int .i64 (cutR d k n mode).e]) ∧ Ext w w' := by
  obtain ⟨neg, l, exp⟩ := d
  rcases Int.lt_trichotomy k 0 with h | h | h
  · exact cut_neg neg l exp n k mode hok hm hn hk h w
  · subst h
    exact cut_zero neg l exp n mode hok hm hn hk w
  · obtain ⟨j, rfl⟩ : ∃ j : Nat, k = j := ⟨k.toNat, by omega⟩
    exact cut_pos neg l exp n j mode hok hm hn hk (by simp only at hkl; omega) (by omega) w
theorem round_any (d : Dc) (most : Int) (mode : Nat) (hl : d.dig.length ≤ 9223372036854775807) (hb : -9223372036854775808 ≤ most ∧ most ≤ 9223372036854775807) (hm : mode ≤ 255) (w : World) :
    Calls Tryd.prog 10 #[dcV d, .int .i64 most, .int .u8 (mode : Int)] w fun e w' => e = .returned (rrV (rndR d most mode)) ∧ Ext w w' := by
  have hc := check_any' d hl
  by_cases h1 : dcE d = 0
  · rw [h1] at hc
    by_cases h2 : most < 1 ∨ 2000 < most
    · have R : rndR d most mode = ⟨Dc.zero, false, 101⟩ := by unfold rndR; rw [if_neg (by simpa using h1), if_pos h2]
      rw [R]
      clear R h1
      obtain ⟨neg, l, exp⟩ := d
      rcases h2 with h2 | h2
      all_goals
        go_enter Tryd.func10, Tryd.ntmps10
        go_wp2_with (first
          | (go_at_call 26; (with_reducible refine (hc _).mono ?_); rintro e w1 ⟨rfl, xb1⟩; obtain ⟨xc1, xf1, xl1, xz1⟩ := ext_use xb1; (try simp at xz1); have l1_0 := xl1 (w.heap.size) (by first | omega | (simp; try omega)); have r1_0 := xc1 (w.heap.size) 0 (by first | omega | (simp; try omega)); have f1_0 := xf1 (w.heap.size) 0 (by first | omega | (simp; try omega)); have r1_0_1 := xc1 (w.heap.size) 1 (by first | omega | (simp; try omega)); have f1_0_1 := xf1 (w.heap.size) 1 (by first | omega | (simp; try omega)); have r1_0_2 := xc1 (w.heap.size) 2 (by first | omega | (simp; try omega)); have f1_0_2 := xf1 (w.heap.size) 2 (by first | omega | (simp; try omega)); have l1_1 := xl1 (w.heap.size + 1) (by first | omega | (simp; try omega)); have r1_1 := xc1 (w.heap.size + 1) 0 (by first | omega | (simp; try omega)); have f1_1 := xf1 (w.heap.size + 1) 0 (by first | omega | (simp; try omega)); have r1_1_1 := xc1 (w.heap.size + 1) 1 (by first | omega | (simp; try omega)); have f1_1_1 := xf1 (w.heap.size + 1) 1 (by first | omega | (simp; try omega)); have r1_1_2 := xc1 (w.heap.size + 1) 2 (by first | omega | (simp; try omega)); have f1_1_2 := xf1 (w.heap.size + 1) 2 (by first | omega | (simp; try omega)))
         )
        all_goals
          refine bodyPost_ret (v := rrV ⟨Dc.zero, false, 101⟩) ?h rfl ⟨rfl, ?_⟩
          case h => simp [results, Tryd.results10, go_sem, *, Dc.zero, bs_nil]
          repeat (first | exact ext_refl _ | assumption | refine ext_setCell ?_ (by simp; try omega) _ | refine ext_alloc ?_ _ | refine ext_drew ?_ | refine ext_drewN ?_ _ | refine ext_trans ?_ (Aft.use _) | refine ext_trans ?_ (by assumption))
    by_cases h3 : 4 < mode
    · have R : rndR d most mode = ⟨Dc.zero, false, 7⟩ := by unfold rndR; rw [if_neg (by simpa using h1), if_neg h2, if_pos h3]
      rw [R]
      clear R h1
      obtain ⟨neg, l, exp⟩ := d
      have h4 : ¬ most < 1 := fun h => h2 (.inl h)
      have h5 : ¬ 2000 < most := fun h => h2 (.inr h)
      clear h2
      go_enter Tryd.func10, Tryd.ntmps10
      go_wp2_with (first
        | (go_at_call 26; (with_reducible refine (hc _).mono ?_); rintro e w1 ⟨rfl, xb1⟩; obtain ⟨xc1, xf1, xl1, xz1⟩ := ext_use xb1; (try simp at xz1); have l1_0 := xl1 (w.heap.size) (by first | omega | (simp; try omega)); have r1_0 := xc1 (w.heap.size) 0 (by first | omega | (simp; try omega)); have f1_0 := xf1 (w.heap.size) 0 (by first | omega | (simp; try omega)); have r1_0_1 := xc1 (w.heap.size) 1 (by first | omega | (simp; try omega)); have f1_0_1 := xf1 (w.heap.size) 1 (by first | omega | (simp; try omega)); have r1_0_2 := xc1 (w.heap.size) 2 (by first | omega | (simp; try omega)); have f1_0_2 := xf1 (w.heap.size) 2 (by first | omega | (simp; try omega)); have l1_1 := xl1 (w.heap.size + 1) (by first | omega | (simp; try omega)); have r1_1 := xc1 (w.heap.size + 1) 0 (by first | omega | (simp; try omega)); have f1_1 := xf1 (w.heap.size + 1) 0 (by first | omega | (simp; try omega)); have r1_1_1 := xc1 (w.heap.size + 1) 1 (by first | omega | (simp; try omega)); have f1_1_1 := xf1 (w.heap.size + 1) 1 (by first | omega | (simp; try omega)); have r1_1_2 := xc1 (w.heap.size + 1) 2 (by first | omega | (simp; try omega)); have f1_1_2 := xf1 (w.heap.size + 1) 2 (by first | omega | (simp; try omega)))
       )
      all_goals
        refine bodyPost_ret (v := rrV ⟨Dc.zero, false, 7⟩) ?h rfl ⟨rfl, ?_⟩
        case h => simp [results, Tryd.results10, go_sem, *, Dc.zero, bs_nil]
        repeat (first | exact ext_refl _ | assumption | refine ext_setCell ?_ (by simp; try omega) _ | refine ext_alloc ?_ _ | refine ext_drew ?_ | refine ext_drewN ?_ _ | refine ext_trans ?_ (Aft.use _) | refine ext_trans ?_ (by assumption))
    have h4 : ¬ most < 1 := fun h => h2 (.inl h)
    have h5 : ¬ 2000 < most := fun h => h2 (.inr h)
    by_cases h6 : (d.dig.length : Int) ≤ most
    · have R : rndR d most mode = ⟨d, true, 0⟩ := by unfold rndR; rw [if_neg (by simpa using h1), if_neg h2, if_neg h3, if_pos h6]
      rw [R]
      clear R h1 h2
      obtain ⟨neg, l, exp⟩ := d
      simp only at h6
      go_enter Tryd.func10, Tryd.ntmps10
      go_wp2_with (first
        | (go_at_call 26; (with_reducible refine (hc _).mono ?_); rintro e w1 ⟨rfl, xb1⟩; obtain ⟨xc1, xf1, xl1, xz1⟩ := ext_use xb1; (try simp at xz1); have l1_0 := xl1 (w.heap.size) (by first | omega | (simp; try omega)); have r1_0 := xc1 (w.heap.size) 0 (by first | omega | (simp; try omega)); have f1_0 := xf1 (w.heap.size) 0 (by first | omega | (simp; try omega)); have r1_0_1 := xc1 (w.heap.size) 1 (by first | omega | (simp; try omega)); have f1_0_1 := xf1 (w.heap.size) 1 (by first | omega | (simp; try omega)); have r1_0_2 := xc1 (w.heap.size) 2 (by first | omega | (simp; try omega)); have f1_0_2 := xf1 (w.heap.size) 2 (by first | omega | (simp; try omega)); have l1_1 := xl1 (w.heap.size + 1) (by first | omega | (simp; try omega)); have r1_1 := xc1 (w.heap.size + 1) 0 (by first | omega | (simp; try omega)); have f1_1 := xf1 (w.heap.size + 1) 0 (by first | omega | (simp; try omega)); have r1_1_1 := xc1 (w.heap.size + 1) 1 (by first | omega | (simp; try omega)); have f1_1_1 := xf1 (w.heap.size + 1) 1 (by first | omega | (simp; try omega)); have r1_1_2 := xc1 (w.heap.size + 1) 2 (by first | omega | (simp; try omega)); have f1_1_2 := xf1 (w.heap.size + 1) 2 (by first | omega | (simp; try omega)))
       )
      all_goals
        refine bodyPost_ret (v := rrV ⟨⟨neg, l, exp⟩, true, 0⟩) ?h rfl ⟨rfl, ?_⟩
        case h => simp [results, Tryd.results10, go_sem, *]
        repeat (first | exact ext_refl _ | assumption | refine ext_setCell ?_ (by simp; try omega) _ | refine ext_alloc ?_ _ | refine ext_drew ?_ | refine ext_drewN ?_ _ | refine ext_trans ?_ (Aft.use _) | refine ext_trans ?_ (by assumption))
    · have hok := dc_ok h1 (by omega)
      have R : rndR d most mode = cutR d most (d.exp + d.dig.length - most) mode := by unfold rndR; rw [if_neg (by simpa using h1), if_neg h2, if_neg h3, if_neg h6]
      rw [R]
      have he := hok.exp
      have hL := hok.len
      have hcut := cut_any d most (d.exp + d.dig.length - most) mode hok (by omega) (by omega) (by omega) (by omega)
      clear R h1 h2 hok
      obtain ⟨neg, l, exp⟩ := d
      simp only at h6 he hL hcut
      generalize hC : cutR ⟨neg, l, exp⟩ most (exp + l.length - most) mode = C at hcut
      have hC2 : C.ok = false := by rw [← hC]; rfl
      obtain ⟨⟨cn, cl, ce⟩, co, cE⟩ := C
      simp only at hC2 hcut
      subst hC2
      clear hC
      go_enter Tryd.func10, Tryd.ntmps10
      go_wp2_with (first
        | (go_at_call 26; (with_reducible refine (hc _).mono ?_); rintro e w1 ⟨rfl, xb1⟩; obtain ⟨xc1, xf1, xl1, xz1⟩ := ext_use xb1; (try simp at xz1); have l1_0 := xl1 (w.heap.size) (by first | omega | (simp; try omega)); have r1_0 := xc1 (w.heap.size) 0 (by first | omega | (simp; try omega)); have f1_0 := xf1 (w.heap.size) 0 (by first | omega | (simp; try omega)); have r1_0_1 := xc1 (w.heap.size) 1 (by first | omega | (simp; try omega)); have f1_0_1 := xf1 (w.heap.size) 1 (by first | omega | (simp; try omega)); have r1_0_2 := xc1 (w.heap.size) 2 (by first | omega | (simp; try omega)); have f1_0_2 := xf1 (w.heap.size) 2 (by first | omega | (simp; try omega)); have l1_1 := xl1 (w.heap.size + 1) (by first | omega | (simp; try omega)); have r1_1 := xc1 (w.heap.size + 1) 0 (by first | omega | (simp; try omega)); have f1_1 := xf1 (w.heap.size + 1) 0 (by first | omega | (simp; try omega)); have r1_1_1 := xc1 (w.heap.size + 1) 1 (by first | omega | (simp; try omega)); have f1_1_1 := xf1 (w.heap.size + 1) 1 (by first | omega | (simp; try omega)); have r1_1_2 := xc1 (w.heap.size + 1) 2 (by first | omega | (simp; try omega)); have f1_1_2 := xf1 (w.heap.size + 1) 2 (by first | omega | (simp; try omega)))
        | (go_at_call 27; (with_reducible refine (hcut _).mono ?_); rintro e w2 ⟨rfl, xb2⟩; obtain ⟨xc2, xf2, xl2, xz2⟩ := ext_use xb2; (try simp at xz2); have l2_0 := xl2 (w.heap.size) (by first | omega | (simp; try omega)); have r2_0 := xc2 (w.heap.size) 0 (by first | omega | (simp; try omega)); have f2_0 := xf2 (w.heap.size) 0 (by first | omega | (simp; try omega)); have r2_0_1 := xc2 (w.heap.size) 1 (by first | omega | (simp; try omega)); have f2_0_1 := xf2 (w.heap.size) 1 (by first | omega | (simp; try omega)); have r2_0_2 := xc2 (w.heap.size) 2 (by first | omega | (simp; try omega)); have f2_0_2 := xf2 (w.heap.size) 2 (by first | omega | (simp; try omega)); have l2_1 := xl2 (w.heap.size + 1) (by first | omega | (simp; try omega)); have r2_1 := xc2 (w.heap.size + 1) 0 (by first | omega | (simp; try omega)); have f2_1 := xf2 (w.heap.size + 1) 0 (by first | omega | (simp; try omega)); have r2_1_1 := xc2 (w.heap.size + 1) 1 (by first | omega | (simp; try omega)); have f2_1_1 := xf2 (w.heap.size + 1) 1 (by first | omega | (simp; try omega)); have r2_1_2 := xc2 (w.heap.size + 1) 2 (by first | omega | (simp; try omega)); have f2_1_2 := xf2 (w.heap.size + 1) 2 (by first | omega | (simp; try omega)))
       )
      all_goals
        refine bodyPost_ret (v := rrV ⟨⟨cn, cl, ce⟩, false, cE⟩) ?h rfl ⟨rfl, ?_⟩
        case h => simp [results, Tryd.results10, go_sem, *]
        repeat (first | exact ext_refl _ | assumption | refine ext_setCell ?_ (by simp; try omega) _ | refine ext_alloc ?_ _ | refine ext_drew ?_ | refine ext_drewN ?_ _ | refine ext_trans ?_ (Aft.use _) | refine ext_trans ?_ (by assumption))
  · have R : rndR d most mode = ⟨Dc.zero, false, dcE d⟩ := by unfold rndR; rw [if_pos (by simpa using h1)]
    rw [R]
    have hne : (dcE d == 0) = false := by rw [beq_eq_false_iff_ne]; exact h1
    clear R h1
    generalize dcE d = E at hc hne
    obtain ⟨neg, l, exp⟩ := d
    go_enter Tryd.func10, Tryd.ntmps10
    go_wp2_with (first
      | (go_at_call 26; (with_reducible refine (hc _).mono ?_); rintro e w1 ⟨rfl, xb1⟩; obtain ⟨xc1, xf1, xl1, xz1⟩ := ext_use xb1; (try simp at xz1); have l1_0 := xl1 (w.heap.size) (by first | omega | (simp; try omega)); have r1_0 := xc1 (w.heap.size) 0 (by first | omega | (simp; try omega)); have f1_0 := xf1 (w.heap.size) 0 (by first | omega | (simp; try omega)); have r1_0_1 := xc1 (w.heap.size) 1 (by first | omega | (simp; try omega)); have f1_0_1 := xf1 (w.heap.size) 1 (by first | omega | (simp; try omega)); have r1_0_2 := xc1 (w.heap.size) 2 (by first | omega | (simp; try omega)); have f1_0_2 := xf1 (w.heap.size) 2 (by first | omega | (simp; try omega)); have l1_1 := xl1 (w.heap.size + 1) (by first | omega | (simp; try omega)); have r1_1 := xc1 (w.heap.size + 1) 0 (by first | omega | (simp; try omega)); have f1_1 := xf1 (w.heap.size + 1) 0 (by first | omega | (simp; try omega)); have r1_1_1 := xc1 (w.heap.size + 1) 1 (by first | omega | (simp; try omega)); have f1_1_1 := xf1 (w.heap.size + 1) 1 (by first | omega | (simp; try omega)); have r1_1_2 := xc1 (w.heap.size + 1) 2 (by first | omega | (simp; try omega)); have f1_1_2 := xf1 (w.heap.size + 1) 2 (by first | omega | (simp; try omega)))
     )
    all_goals
      refine bodyPost_ret (v := rrV ⟨Dc.zero, false, E⟩) ?h rfl ⟨rfl, ?_⟩
      case h => simp [results, Tryd.results10, go_sem, *, Dc.zero, bs_nil]
      repeat (first | exact ext_refl _ | assumption | refine ext_setCell ?_ (by simp; try omega) _ | refine ext_alloc ?_ _ | refine ext_drew ?_ | refine ext_drewN ?_ _ | refine ext_trans ?_ (Aft.use _) | refine ext_trans ?_ (by assumption))
end Go.Proofs.YtmpgfibahdiblaaDoor
