/- The document's sums of limbs. -/
import Derived.Test.YtbgimjfeigeicaaGreatDoorRows
import Derived.Test.YtbgimjfeigeicaaGreatDoorSl
import Derived.Test.YtbgimjfeigeicaaGreatDoorStr
import Derived.Test.YtbgimjfeigeicaaGreatDoorNatR
namespace Go.Proofs.YtbgimjfeigeicaaGreatDoor
open Go.RowKit
attribute [local go_sem] sz2 sz3 sz4 sz5 sz6 sz7 sz8
set_option maxHeartbeats 4000000
set_option maxRecDepth 100000
attribute [local irreducible] Calls
theorem plus_any (A B : Option Addr) (n c m d : Nat) (xs ys : List Nat) (hn : n ≤ 1000000) (hm : m ≤ 1000000) (w : World) (hA : Rd w A n c xs) (hB : Rd w B m d ys) :
    Calls Tryz.prog 98 #[.slice A n c, .slice B m d] w fun e w' => ∃ A' c' zs, e = .returned (.slice A' zs.length c') ∧ Rd w' A' zs.length c' zs ∧ Fr w A' ∧ Ext w w' ∧ zs.length ≤ max n m + 1 ∧ val zs = val xs + val ys ∧ (zs.length = max n m ∨ Bs ^ (zs.length - 1) ≤ val zs) := by
  have hmx := hA.mx
  have hmy := hB.mx
  have hcx := hA.cap
  have hcy := hB.cap
  have HA := Lib.hid hA
  have HB := Lib.hid hB
  have hlx := Lib.hid hA.len
  have hly := Lib.hid hB.len
  have hbx := Lib.hid hA.lb
  have hby := Lib.hid hB.lb
  clear hA hB
  go_enter Tryz.func98, Tryz.ntmps98
  go_wp2
  go_loopw [5, 6, 7] (fun v cy i wr => ∃ k q : Nat, ∃ os : List Nat, k ≤ max n m + 1 ∧ q ≤ 1 ∧ (max n m < k → q = 0) ∧ Hid (max n m < k → Bs ^ max n m ≤ val os) ∧ i = .int .i64 k ∧ cy = .int .u64 q ∧ Hid (os.length = k ∧ Lb os ∧ val os + Bs ^ k * q = val (xs.take k) + val (ys.take k)) ∧
      Hid (wr.ownsRow w.heap.size 85 1 v k (os.map u32V)) ∧ Hid (Ext w wr))
    (fun _ _ i _ => max n m + 2 - (intOf i).toNat)
  case atStart => exact ⟨0, 0, [], by omega, by omega, fun _ => rfl, fun h => absurd h (Nat.not_lt_zero _), rfl, rfl, ⟨rfl, (fun x hx => by cases hx), by simp [val]⟩, World.ownsRow_nil _ _ _ _, ext_refl _⟩
  case round =>
    obtain ⟨k, q, os, hk, hq, hkq, hbig, rfl, rfl, hos, hown, hext⟩ := hrel
    by_cases hgo : k < n ∨ k < m ∨ 0 < q
    · obtain ⟨x, hx, hxb⟩ : ∃ x : Nat, Hid (xs.getD k 0 = x) ∧ x < 4294967296 := ⟨_, rfl, lb_getD hbx.out k⟩
      obtain ⟨y, hy, hyb⟩ : ∃ y : Nat, Hid (ys.getD k 0 = y) ∧ y < 4294967296 := ⟨_, rfl, lb_getD hby.out k⟩
      have hk' : k ≤ max n m := by omega
      have hcx : ∀ w', Hid (Ext w w') → Calls Tryz.prog 138 #[.slice A n c, .int .i64 k] w' fun e w'' => e = .returned (.int .u64 (x : Int)) ∧ w' = w'' := fun w' he => by
        have := limb_any A n c xs k (by omega) w' (HA.out.ext he.out)
        rwa [hx.out] at this
      have hcy : ∀ w', Hid (Ext w w') → Calls Tryz.prog 138 #[.slice B m d, .int .i64 k] w' fun e w'' => e = .returned (.int .u64 (y : Int)) ∧ w' = w'' := fun w' he => by
        have := limb_any B m d ys k (by omega) w' (HB.out.ext he.out)
        rwa [hy.out] at this
      go_wp2_with (first
        | (go_at_call 138; refine (hcx _ hext).mono ?_; rintro e w' ⟨rfl, rfl⟩)
        | (go_at_call 138; refine (hcy _ hext).mono ?_; rintro e w' ⟨rfl, rfl⟩)
        | (at_builtin; refine push_u32 rfl _ _ rfl _ rfl hext.out hown.out rfl ((x + y + q) % 4294967296) ⟨wr.heap.size, 0, none⟩ 1 rfl (by rw [World.cell?_alloc_at _ _ _ _ rfl]; simp [u32V]) (by omega) ?_)
        | go_in)
      all_goals
        intro v' wr1 hx1 ho1
        have hext1 := Lib.hid hx1
        have hown1 := Lib.hid ho1
        clear hcx hcy hown hext hx1 ho1
        go_wp2
        go_roundw
        case rel =>
          refine ⟨k + 1, (x + y + q) / 4294967296, os ++ [(x + y + q) % 4294967296], by omega, by omega, fun h => ?_, fun h => ?_, by go_num, ?_, ⟨?_, ?_, ?_⟩, by (show World.ownsRow _ _ _ _ _ _ _); rw [List.map_append]; exact hown1, hext1⟩
          · have h1 : x = 0 := hx.out.symm.trans (getD_ge (by rw [hlx.out]; omega))
            have h2 : y = 0 := hy.out.symm.trans (getD_ge (by rw [hly.out]; omega))
            rw [h1, h2]; omega
          · have h1 : x = 0 := hx.out.symm.trans (getD_ge (by rw [hlx.out]; omega))
            have h2 : y = 0 := hy.out.symm.trans (getD_ge (by rw [hly.out]; omega))
            have h3 : k = max n m := by omega
            have h4 : q = 1 := by omega
            rw [h1, h2, h4, val_snoc, hos.out.1, h3]
            simp
          · simp
          · simp [hos.out.1]
          · exact lb_snoc.2 ⟨hos.out.2.1, Nat.mod_lt _ (by decide)⟩
          · exact plus_step hos.out.1 hos.out.2.2 hx.out hy.out
        case measure => simp [intOf]; omega
    · go_wp2
      go_ret
      obtain ⟨A', c', rfl, hR⟩ := Rd.own hown.out hos.out.2.1
      have hq0 : q = 0 := by omega
      have hL := hos.out.1
      refine ⟨A', c', os, by simp [hL], by rw [hL]; exact hR, own_fr hown.out, hext.out, by rw [hL]; omega, ?_, ?_⟩
      rotate_left
      · rw [hL]
        by_cases h : k = max n m
        · exact .inl h
        · have h5 : k = max n m + 1 := by omega
          refine .inr ?_
          rw [h5]
          exact hbig.out (by omega)
      have h3 := hos.out.2.2
      rw [hq0, take_ge (by rw [hlx.out]; omega), take_ge (by rw [hly.out]; omega)] at h3
      simpa using h3
theorem plus_lim {n m a b : Nat} {zs : List Nat} (hb : Lb zs) (hn : n = (lim a).length) (hm : m = (lim b).length) (hv : val zs = a + b) (h : zs.length = max n m ∨ Bs ^ (zs.length - 1) ≤ val zs) : zs = lim (a + b) := by
  rw [← hv]
  refine lim_of zs hb fun hne => ?_
  rcases h with h | h
  · rw [hv, h]
    have h0 : 0 < zs.length := List.length_pos_iff.2 hne
    rcases Nat.le_total m n with h1 | h1
    · rw [Nat.max_eq_left h1] at h ⊢
      have : a ≠ 0 := by intro e; subst e; rw [lim_zero] at hn; simp at hn; omega
      have := (lim_len this).1
      rw [← hn] at this
      omega
    · rw [Nat.max_eq_right h1] at h ⊢
      have : b ≠ 0 := by intro e; subst e; rw [lim_zero] at hm; simp at hm; omega
      have := (lim_len this).1
      rw [← hm] at this
      omega
  · exact h
theorem lim_le {v k : Nat} (h : v < Bs ^ k) : (lim v).length ≤ k := by
  by_cases h0 : v = 0
  · subst h0; rw [lim_zero]; simp
  · have h1 := (lim_len h0).1
    rcases Nat.lt_or_ge k (lim v).length with h2 | h2
    · have : Bs ^ k ≤ Bs ^ ((lim v).length - 1) := Nat.pow_le_pow_right (by decide) (by omega)
      omega
    · exact h2
end Go.Proofs.YtbgimjfeigeicaaGreatDoor
