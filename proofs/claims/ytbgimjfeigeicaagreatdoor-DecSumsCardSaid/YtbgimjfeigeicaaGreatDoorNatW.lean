/- The document's product. -/
import Derived.Test.YtbgimjfeigeicaaGreatDoorRows
import Derived.Test.YtbgimjfeigeicaaGreatDoorSl
import Derived.Test.YtbgimjfeigeicaaGreatDoorStr
import Derived.Test.YtbgimjfeigeicaaGreatDoorNatU
namespace Go.Proofs.YtbgimjfeigeicaaGreatDoor
open Go.RowKit
attribute [local go_sem] sz2 sz3 sz4 sz5 sz6 sz7 sz8
set_option maxHeartbeats 4000000
set_option maxRecDepth 100000
attribute [local irreducible] Calls
theorem own_drewN {w : World} {base : Nat} {e : TypeId} {size : Nat} {v : Value} {n : Nat} {xs : List Value} (h : w.ownsRow base e size v n xs) (j : Nat) : (w.drewN j).ownsRow base e size v n xs := h
theorem times_any (A B : Option Addr) (n c m d : Nat) (xs ys : List Nat) (hn : n ≤ 1000000) (hm : m ≤ 1000000) (w : World) (hA : Rd w A n c xs) (hB : Rd w B m d ys) :
    Calls Tryz.prog 107 #[.slice A n c, .slice B m d] w fun e w' => ∃ (A' : Option Addr) (k c' : Nat), e = .returned (.slice A' k c') ∧ Rd w' A' k c' (lim (val xs * val ys)) ∧ Fr w A' ∧ Ext w w' := by
  have hmx := hA.mx
  have hcx := hA.cap
  have hmy := hB.mx
  have hcy := hB.cap
  have HA := Lib.hid hA
  have HB := Lib.hid hB
  have hlx := Lib.hid hA.len
  have hly := Lib.hid hB.len
  have hbx := Lib.hid hA.lb
  have hby := Lib.hid hB.lb
  clear hA hB
  go_enter Tryz.func107, Tryz.ntmps107
  go_wp2_with (first
    | (at_make; refine make_u32 rfl _ _ rfl _ _ _ _ (n + m) rfl rfl (by simp) (by simp) (by omega) ?_; intro w1 hx1 ho1; have hext1 := Lib.hid hx1; clear hx1)
    | go_in)
  have hfr : w.heap.size < w1.heap.size := (ho1.out.lt w.heap.size rfl).2
  go_loopw [6] (fun vi wr => ∃ i : Nat, ∃ os : List Nat, i ≤ n ∧ vi = .int .i64 (i : Int) ∧ Hid (os.length = n + m ∧ Lb os ∧ val os = val (xs.take i) * val ys ∧ ∀ p, i + m ≤ p → os.getD p 0 = 0) ∧
      Hid (wr.ownsRow w.heap.size 85 1 (.slice (some ⟨w.heap.size, 0, none⟩) (n + m) (n + m)) (n + m) (os.map u32V)) ∧ Hid (Ext w wr))
    (fun vi _ => n - (intOf vi).toNat)
  case atStart =>
    exact ⟨0, List.replicate (n + m) 0, Nat.zero_le _, rfl, ⟨by simp, lb_replicate _, by rw [val_replicate]; simp [val], fun p _ => getD_replicate0 _ _⟩, ho1.out, hext1.out⟩
  case round =>
    obtain ⟨i, os, hi, rfl, hos, hown, hext⟩ := hrel
    by_cases h0 : i < n
    · obtain ⟨a, off, hAe⟩ : ∃ b off, A = some ⟨b, off, none⟩ := by
        rcases HA.out.shape with ⟨_, h, _⟩ | h
        · omega
        · exact h
      subst hAe
      obtain ⟨x, hx, hxb, hcx0⟩ := HA.out.get i h0
      clear hcx0
      go_wp2
      go_loopw [7, 8] (fun vc vk wr2 => ∃ k cy : Nat, ∃ os : List Nat, k ≤ m ∧ cy < 4294967296 ∧ vk = .int .i64 (k : Int) ∧ vc = .int .u64 (cy : Int) ∧
          Hid (os.length = n + m ∧ Lb os ∧ val os + Bs ^ (i + k) * cy = val (xs.take i) * val ys + Bs ^ i * (x * val (ys.take k)) ∧ ∀ p, i + m ≤ p → os.getD p 0 = 0) ∧
          Hid (wr2.ownsRow w.heap.size 85 1 (.slice (some ⟨w.heap.size, 0, none⟩) (n + m) (n + m)) (n + m) (os.map u32V)) ∧ Hid (Ext w wr2))
        (fun _ vk _ => m - (intOf vk).toNat)
      case atStart =>
        exact ⟨0, 0, os, Nat.zero_le _, by omega, rfl, rfl, ⟨hos.out.1, hos.out.2.1, by rw [hos.out.2.2.1]; simp [val], hos.out.2.2.2⟩, hown.out, hext.out⟩
      case round =>
        clear hos hown hext os
        obtain ⟨k, cy, os, hk, hcyb, rfl, rfl, hos, hown, hext⟩ := hrel
        by_cases hkm : k < m
        · obtain ⟨b, off2, hBe⟩ : ∃ b off, B = some ⟨b, off, none⟩ := by
            rcases HB.out.shape with ⟨_, h, _⟩ | h
            · omega
            · exact h
          subst hBe
          obtain ⟨x', hx', _, hcellx⟩ := (HA.out.ext hext.out).get i h0
          obtain rfl : x' = x := hx'.out.symm.trans hx.out
          obtain ⟨y, hy, hyb, hcelly⟩ := (HB.out.ext hext.out).get k hkm
          obtain ⟨o, ho, hob⟩ : ∃ o : Nat, Hid (os.getD (i + k) 0 = o) ∧ o < 4294967296 := ⟨_, rfl, lb_getD hos.out.2.1 _⟩
          obtain ⟨hc1, hf1⟩ := own_at hown.out (i + k) (by omega)
          rw [ho.out] at hc1
          obtain ⟨p, hp⟩ : ∃ p, p = x' * y := ⟨_, rfl⟩
          have hpb : p ≤ 18446744065119617025 := by
            rw [hp]
            exact Nat.mul_le_mul (show x' ≤ 4294967295 by omega) (show y ≤ 4294967295 by omega)
          have hpi : (x' : Int) * (y : Int) = (p : Int) := by rw [hp]; exact (Int.natCast_mul _ _).symm
          have HP := Lib.hid hp
          clear hp hx'
          go_wp2
          go_quiet (fail)
          go_wp2
          case roundEnd =>
            have hP := HP.out
            refine ⟨⟨k + 1, (p + o + cy) / 4294967296, os.set (i + k) ((p + o + cy) % 4294967296), by omega, by omega, by simp, by simp, ⟨?_, ?_, ?_, ?_⟩, ?_, ?_⟩, ?_⟩
            · simp [hos.out.1]
            · exact lb_set hos.out.2.1 _ (Nat.mod_lt _ (by decide))
            · rw [hP]
              exact times_step (by rw [hos.out.1]; omega) hos.out.2.2.1 ho.out hy.out
            · intro q hq
              rw [getD_set_ne (by omega)]
              exact hos.out.2.2.2 q hq
            · show World.ownsRow _ _ _ _ _ _ _
              have := own_set (own_drewN hown.out nq) (i + k) ((p + o + cy) % 4294967296)
              simpa using this
            · exact ext_setCell (ext_drewN hext.out nq) (Nat.le_refl _) _
            · simp [intOf]; omega
        · obtain rfl : k = m := by omega
          obtain ⟨hc1, hf1⟩ := own_at hown.out (i + k) (by omega)
          rw [hos.out.2.2.2 _ (Nat.le_refl _)] at hc1
          clear hkm
          go_wp2
          case roundEnd =>
            refine ⟨⟨i + 1, os.set (i + k) cy, by omega, by simp, ⟨?_, ?_, ?_, ?_⟩, ?_, ?_⟩, ?_⟩
            · simp [hos.out.1]
            · exact lb_set hos.out.2.1 _ hcyb
            · have h := hos.out.2.2.1
              rw [take_ge (l := ys) (by rw [hly.out]; exact Nat.le_refl _)] at h
              exact times_last (by rw [hos.out.1]; omega) h (hos.out.2.2.2 _ (Nat.le_refl _)) hx.out
            · intro q hq
              rw [getD_set_ne (by omega)]
              exact hos.out.2.2.2 q (by omega)
            · exact own_set hown.out _ _
            · exact ext_setCell hext.out (Nat.le_refl _) _
            · simp [intOf]; omega
    · obtain rfl : i = n := by omega
      obtain ⟨A', c', he, hR⟩ := Rd.own hown.out hos.out.2.1
      cases he
      have hv := hos.out.2.2.1
      rw [take_ge (by rw [hlx.out]; exact Nat.le_refl _)] at hv
      have hT : Calls Tryz.prog 137 #[.slice (some ⟨w.heap.size, 0, none⟩) (i + m) (i + m)] wr fun e w'' => (∃ k, e = .returned (.slice (some ⟨w.heap.size, 0, none⟩) k (i + m)) ∧ Hid (Rd wr (some ⟨w.heap.size, 0, none⟩) k (i + m) (lim (val xs * val ys)))) ∧ wr = w'' := by
        refine (trim_any _ _ _ _ wr hR).mono ?_
        rintro e w'' ⟨k, rfl, h2, rfl⟩
        rw [trimZ_lim _ hos.out.2.1, hv] at h2
        exact ⟨⟨k, rfl, h2⟩, rfl⟩
      clear hR hv h0 hi
      go_wp2_with (first
        | (go_at_call 137; (with_reducible refine hT.mono ?_); rintro e w' ⟨⟨k, rfl, hR⟩, rfl⟩)
       )
      refine bodyPost_ret (v := .slice (some ⟨w.heap.size, 0, none⟩) k (i + m)) ?h rfl ⟨_, k, i + m, rfl, hR.out, ?_, hext.out⟩
      case h => simp [results, Tryz.results107, go_sem]
      intro a ha; cases ha; exact Nat.le_refl _
end Go.Proofs.YtbgimjfeigeicaaGreatDoor
