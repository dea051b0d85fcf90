/- The program's sums and differences. -/
import Derived.Test.YtbgimjfeigeicaaGreatDoorNtA
namespace Go.Proofs.YtbgimjfeigeicaaGreatDoor
open Go.RowKit
attribute [local go_sem] sz2 sz3 sz4 sz5 sz6 sz7 sz8
set_option maxHeartbeats 4000000
set_option maxRecDepth 100000
attribute [local irreducible] Calls
theorem checks_any (B : Nat) (A1 A2 : Option Addr) (n1 c1 n2 c2 : Nat) (xs ys : List Nat) (w : World) (h1 : Rd w A1 n1 c1 xs) (h2 : Rd w A2 n2 c2 ys) (hx : chk xs = 0) (hy : chk ys = 0)
    (hc0 : w.cell? ⟨B, 0, none⟩ = some (.slice A1 n1 c1)) (hc1 : w.cell? ⟨B, 1, none⟩ = some (.slice A2 n2 c2)) :
    Calls Tryz.prog 86 #[.slice (some ⟨B, 0, none⟩) 2 2] w fun e w' => e = .returned (.int .i64 0) ∧ Ext w w' := by
  have k1 : ∀ w', Hid (Ext w w') → Calls Tryz.prog 92 #[natV A1 n1 c1] w' fun e w'' => e = .returned (.int .i64 0) ∧ Ext w' w'' := fun w' he => by
    have := ncheck_any A1 n1 c1 xs w' (h1.ext he.out)
    rwa [hx] at this
  have k2 : ∀ w', Hid (Ext w w') → Calls Tryz.prog 92 #[natV A2 n2 c2] w' fun e w'' => e = .returned (.int .i64 0) ∧ Ext w' w'' := fun w' he => by
    have := ncheck_any A2 n2 c2 ys w' (h2.ext he.out)
    rwa [hy] at this
  have hBl : B < w.heap.size := World.block_lt_of_cell? w _ hc0
  clear h1 h2 hx hy
  go_enter Tryz.func86, Tryz.ntmps86
  go_wp2
  go_loopw [8] (fun vi wr => ∃ i : Nat, i ≤ 2 ∧ vi = .int .i64 (i : Int) ∧ Hid (Ext w wr)) (fun vi _ => 2 - (intOf vi).toNat)
  case atStart => exact ⟨0, by omega, rfl, ext_refl _⟩
  case round =>
    obtain ⟨i, hi, rfl, hext⟩ := hrel
    obtain ⟨xc, xf, xl, xz⟩ := ext_use hext.out
    have g0 := (xc B 0 hBl).trans hc0
    have g1 := (xc B 1 hBl).trans hc1
    have gl := xl B hBl
    clear xc xf xl xz
    rcases (show i = 0 ∨ i = 1 ∨ i = 2 by omega) with rfl | rfl | rfl
    · have hext' := hext.out
      go_wp2_with (first
        | (go_at_call 92; (with_reducible refine (k1 _ (Lib.hid (by (repeat (first | exact ext_refl _ | assumption | refine ext_setCell ?_ (by simp; try omega) _ | refine ext_alloc ?_ _ | refine ext_drew ?_ | refine ext_drewN ?_ _ | refine ext_trans ?_ (Aft.use _) | refine ext_trans ?_ (by assumption)))))).mono ?_); rintro e w1 ⟨rfl, xb1⟩; obtain ⟨xc1, xf1, xl1, xz1⟩ := ext_use xb1; (try simp at xz1))
       )
      go_roundw
      case rel => exact ⟨1, by omega, by go_num, (show Ext _ _ by (repeat (first | exact ext_refl _ | assumption | refine ext_setCell ?_ (by simp; try omega) _ | refine ext_alloc ?_ _ | refine ext_drew ?_ | refine ext_drewN ?_ _ | refine ext_trans ?_ (Aft.use _) | refine ext_trans ?_ (by assumption))))⟩
      case measure => simp [intOf]
    · have hext' := hext.out
      go_wp2_with (first
        | (go_at_call 92; (with_reducible refine (k2 _ (Lib.hid (by (repeat (first | exact ext_refl _ | assumption | refine ext_setCell ?_ (by simp; try omega) _ | refine ext_alloc ?_ _ | refine ext_drew ?_ | refine ext_drewN ?_ _ | refine ext_trans ?_ (Aft.use _) | refine ext_trans ?_ (by assumption)))))).mono ?_); rintro e w1 ⟨rfl, xb1⟩; obtain ⟨xc1, xf1, xl1, xz1⟩ := ext_use xb1; (try simp at xz1))
       )
      go_roundw
      case rel => exact ⟨2, by omega, by go_num, (show Ext _ _ by (repeat (first | exact ext_refl _ | assumption | refine ext_setCell ?_ (by simp; try omega) _ | refine ext_alloc ?_ _ | refine ext_drew ?_ | refine ext_drewN ?_ _ | refine ext_trans ?_ (Aft.use _) | refine ext_trans ?_ (by assumption))))⟩
      case measure => simp [intOf]
    · have hext' := hext.out
      go_wp2
      go_ret
      exact ⟨rfl, hext'⟩
theorem pcmp_any (A B : Option Addr) (n c m d a b : Nat) (w : World) (hA : Rd w A n c (lim a)) (hB : Rd w B m d (lim b)) :
    Calls Tryz.prog 89 #[.slice A n c, .slice B m d] w fun e w' => e = .returned (.int .i64 (cmpN a b)) ∧ Ext w w' := by
  have hmx := hA.mx
  have hmy := hB.mx
  have hcx := hA.cap
  have hcy := hB.cap
  have HA := Lib.hid hA
  have HB := Lib.hid hB
  have hlx := Lib.hid hA.len
  have hly := Lib.hid hB.len
  clear hA hB
  by_cases h1 : n < m
  · have e : cmpN a b = -1 := by
      unfold cmpN
      rw [if_pos (val_lt_len (by rw [hlx.out, hly.out]; exact h1))]
    rw [e]
    clear e
    go_enter Tryz.func89, Tryz.ntmps89
    go_wp2
    go_ret
    exact ⟨rfl, ext_refl _⟩
  by_cases h2 : m < n
  · have e : cmpN a b = 1 := by
      have := val_lt_len (a := b) (b := a) (by rw [hlx.out, hly.out]; exact h2)
      unfold cmpN
      rw [if_neg (by omega), if_pos this]
    rw [e]
    clear e
    go_enter Tryz.func89, Tryz.ntmps89
    go_wp2
    go_ret
    exact ⟨rfl, ext_refl _⟩
  obtain rfl : m = n := by omega
  clear h1 h2
  go_enter Tryz.func89, Tryz.ntmps89
  go_wp2
  go_loopw [5] (fun vi wr => ∃ k : Nat, k ≤ m ∧ vi = .int .i64 ((k : Int) - 1) ∧ Hid ((lim a).drop k = (lim b).drop k) ∧ Hid (Ext w wr)) (fun vi _ => (intOf vi + 1).toNat)
  case atStart => exact ⟨m, Nat.le_refl _, by go_num, by show List.drop m (lim a) = List.drop m (lim b); rw [List.drop_eq_nil_of_le (by rw [hlx.out]; exact Nat.le_refl _), List.drop_eq_nil_of_le (by rw [hly.out]; exact Nat.le_refl _)], ext_refl _⟩
  case round =>
    obtain ⟨k, hk, rfl, hd, hext⟩ := hrel
    by_cases h0 : 0 < k
    · obtain ⟨ba, oa, hAe⟩ : ∃ b off, A = some ⟨b, off, none⟩ := by
        rcases HA.out.shape with ⟨_, h, _⟩ | h
        · omega
        · exact h
      obtain ⟨bb, ob, hBe⟩ : ∃ b off, B = some ⟨b, off, none⟩ := by
        rcases HB.out.shape with ⟨_, h, _⟩ | h
        · omega
        · exact h
      subst hAe hBe
      obtain ⟨x, hx, hxb, hcx1⟩ := (HA.out.ext hext.out).get (k - 1) (by omega)
      obtain ⟨y, hy, hyb, hcy1⟩ := (HB.out.ext hext.out).get (k - 1) (by omega)
      have hsp : Hid (∀ l : List Nat, l.length = m → l.drop (k - 1) = l.getD (k - 1) 0 :: l.drop k) := fun l hl => by
        rw [List.drop_eq_getElem_cons (by omega), show k - 1 + 1 = k by omega, List.getD_eq_getElem?_getD, List.getElem?_eq_getElem (by omega)]; rfl
      have hd' : Hid ((lim a).drop (k - 1 + 1) = (lim b).drop (k - 1 + 1)) := by
        show _ = _
        rw [show k - 1 + 1 = k by omega]; exact hd.out
      have hext' := hext.out
      rcases Nat.lt_trichotomy x y with hlt | heq | hgt
      · have e : cmpN a b = -1 := by
          have := val_cmp (lb_lim a) (lb_lim b) (k := k - 1) (by rw [hlx.out]; omega) (by rw [hlx.out, hly.out]) hx.out hy.out hd'.out hlt
          rw [val_lim, val_lim] at this
          unfold cmpN; rw [if_pos this]
        have E := Lib.hid e
        clear e
        go_wp2
        go_quiet (fail)
        go_wp2
        go_ret
        exact ⟨ret_int E.out.symm, (show Ext _ _ by (repeat (first | exact ext_refl _ | assumption | refine ext_setCell ?_ (by simp; try omega) _ | refine ext_alloc ?_ _ | refine ext_drew ?_ | refine ext_drewN ?_ _ | refine ext_trans ?_ (Aft.use _) | refine ext_trans ?_ (by assumption))))⟩
      · subst heq
        go_wp2
        go_quiet (fail)
        go_wp2
        go_quiet (fail)
        go_wp2
        go_roundw
        case rel => exact ⟨k - 1, by omega, by go_num, by show _ = _; rw [hsp.out _ hlx.out, hsp.out _ hly.out, hx.out, hy.out, hd.out], (show Ext _ _ by (repeat (first | exact ext_refl _ | assumption | refine ext_setCell ?_ (by simp; try omega) _ | refine ext_alloc ?_ _ | refine ext_drew ?_ | refine ext_drewN ?_ _ | refine ext_trans ?_ (Aft.use _) | refine ext_trans ?_ (by assumption))))⟩
        case measure => simp [intOf]; omega
      · have e : cmpN a b = 1 := by
          have := val_cmp (lb_lim b) (lb_lim a) (k := k - 1) (by rw [hly.out]; omega) (by rw [hlx.out, hly.out]) hy.out hx.out hd'.out.symm hgt
          rw [val_lim, val_lim] at this
          unfold cmpN; rw [if_neg (by omega), if_pos this]
        have E := Lib.hid e
        clear e
        go_wp2
        go_quiet (fail)
        go_wp2
        go_quiet (fail)
        go_wp2
        go_ret
        exact ⟨ret_int E.out.symm, (show Ext _ _ by (repeat (first | exact ext_refl _ | assumption | refine ext_setCell ?_ (by simp; try omega) _ | refine ext_alloc ?_ _ | refine ext_drew ?_ | refine ext_drewN ?_ _ | refine ext_trans ?_ (Aft.use _) | refine ext_trans ?_ (by assumption))))⟩
    · obtain rfl : k = 0 := by omega
      have e : cmpN a b = 0 := by
        have := hd.out
        rw [List.drop_zero, List.drop_zero] at this
        have h := congrArg val this
        rw [val_lim, val_lim] at h
        unfold cmpN; rw [if_neg (by omega), if_neg (by omega)]
      have E := Lib.hid e
      clear e
      have hext' := hext.out
      go_wp2
      go_ret
      exact ⟨ret_int E.out.symm, hext'⟩
end Go.Proofs.YtbgimjfeigeicaaGreatDoor
