/- The program's product. -/
import Derived.Test.YtbgimjfeigeicaaGreatDoorNtC
namespace Go.Proofs.YtbgimjfeigeicaaGreatDoor
open Go.RowKit
attribute [local go_sem] sz2 sz3 sz4 sz5 sz6 sz7 sz8
set_option maxHeartbeats 4000000
set_option maxRecDepth 100000
attribute [local irreducible] Calls
theorem pmul_any (A B : Option Addr) (n c m d : Nat) (a b : Nat) (w : World) (hA : Rd w A n c (lim a)) (hB : Rd w B m d (lim b)) (ha : (lim a).length ≤ 16384) (hb : (lim b).length ≤ 16384) (hsum : n + m ≤ 16385) (hs : (lim (a * b)).length ≤ 16384) :
    Calls Tryz.prog 56 #[natV A n c, natV B m d] w fun e w' => ∃ (A' : Option Addr) (k : Nat), e = .returned (.tuple #[natV A' k k, .int .i64 0]) ∧ Hid (Rd w' A' k k (lim (a * b)) ∧ Fr w A') ∧ Ext w w' := by
  have hck : ∀ w' t G, Hid (Ext w w') → G = w'.heap.size → Calls Tryz.prog 86 #[.slice (some ⟨G, 0, none⟩) 2 2] (w'.alloc (Obj.cells #[.slice A n c, .slice B m d] t)) fun e w'' => e = .returned (.int .i64 0) ∧ Ext (w'.alloc (Obj.cells #[.slice A n c, .slice B m d] t)) w'' := fun w' t G he hG => checks_new A B n c m d _ _ w w' hA hB (chk_lim ha) (chk_lim hb) he t G hG
  have hmx := hA.mx
  have hmy := hB.mx
  have hcx := hA.cap
  have hcy := hB.cap
  have HA := Lib.hid hA
  have HB := Lib.hid hB
  have hlx := Lib.hid hA.len
  have hly := Lib.hid hB.len
  have HS := Lib.hid hs
  clear hA hB ha hb hs
  go_enter Tryz.func56, Tryz.ntmps56
  go_wp2_with (first
    | (go_at_call 86; (with_reducible refine (hck _ _ _ (Lib.hid (by (repeat (first | exact ext_refl _ | assumption | refine ext_setCell ?_ (by simp; try omega) _ | refine ext_alloc ?_ _ | refine ext_drew ?_ | refine ext_drewN ?_ _ | refine ext_trans ?_ (Aft.use _) | refine ext_trans ?_ (by assumption))))) (by simp)).mono ?_); rintro e w1 ⟨rfl, xb1⟩; obtain ⟨xc1, xf1, xl1, xz1⟩ := ext_use xb1; (try simp at xz1); have l1_0 := xl1 (w.heap.size) (by first | omega | (simp; try omega)); have r1_0 := xc1 (w.heap.size) 0 (by first | omega | (simp; try omega)); have f1_0 := xf1 (w.heap.size) 0 (by first | omega | (simp; try omega)); have l1_1 := xl1 (w.heap.size + 1) (by first | omega | (simp; try omega)); have r1_1 := xc1 (w.heap.size + 1) 0 (by first | omega | (simp; try omega)); have f1_1 := xf1 (w.heap.size + 1) 0 (by first | omega | (simp; try omega)); have l1_2 := xl1 (w.heap.size + 1 + 1) (by first | omega | (simp; try omega)); have r1_2 := xc1 (w.heap.size + 1 + 1) 0 (by first | omega | (simp; try omega)); have f1_2 := xf1 (w.heap.size + 1 + 1) 0 (by first | omega | (simp; try omega)))
   )
  go_quiet (fail)
  go_wp2_with (first
    | (at_make; refine make_u32 rfl _ _ rfl _ _ _ _ (n + m) rfl rfl (by simp) (by simp) (by omega) ?_; intro w2 hx2 ho2; have hext2 := Lib.hid hx2; clear hx2)
    | go_in)
  have hw1 : Hid (Ext w w1) := Lib.hid (by (repeat (first | exact ext_refl _ | assumption | refine ext_setCell ?_ (by simp; try omega) _ | refine ext_alloc ?_ _ | refine ext_drew ?_ | refine ext_drewN ?_ _ | refine ext_trans ?_ (Aft.use _) | refine ext_trans ?_ (by assumption))))
  have hE2 : Hid (Ext w1 w2) := Lib.hid (ext_trans (ext_drewN (ext_refl w1) nq) hext2.out)
  have hGl : w1.heap.size < w2.heap.size := (ho2.out.lt w1.heap.size rfl).2
  have hG2 : w.heap.size + 1 + 1 < w1.heap.size := l1_2
  go_loopw [43] (fun vi wr => ∃ (i : Nat) (os : List Nat), i ≤ n ∧ vi = .int .i64 (i : Int) ∧ Hid (os.length = n + m ∧ Lb os ∧ val os = val ((lim a).take i) * b ∧ ∀ p, i + m ≤ p → os.getD p 0 = 0) ∧
      Hid (wr.ownsRow w1.heap.size 85 1 (.slice (some ⟨w1.heap.size, 0, none⟩) (n + m) (n + m)) (n + m) (os.map u32V)) ∧ Hid (Ext w1 wr))
    (fun vi _ => n - (intOf vi).toNat)
  case atStart => exact ⟨0, List.replicate (n + m) 0, Nat.zero_le _, rfl, ⟨by simp, lb_replicate _, by rw [val_replicate]; simp [val], fun p _ => getD_replicate0 _ _⟩, ho2.out, hE2.out⟩
  case round =>
    clear ho2 hext2 hE2
    obtain ⟨i, os, hi, rfl, hos, hown, hext⟩ := hrel
    have hgl : w1.heap.size < wr.heap.size := (hown.out.lt w1.heap.size (by simp [Value.ownBlock])).2
    by_cases h0 : i < n
    · obtain ⟨bx, ox, hXe⟩ : ∃ b off, A = some ⟨b, off, none⟩ := by
        rcases HA.out.shape with ⟨_, h, _⟩ | h
        · omega
        · exact h
      subst hXe
      obtain ⟨x, hx, hxb, hcx1⟩ := ((HA.out.ext hw1.out).ext hext.out).get i h0
      go_wp2
      go_loopw [12, 63] (fun vc vk wr2 => ∃ (k cy : Nat) (os : List Nat), k ≤ m ∧ cy < 4294967296 ∧ vk = .int .i64 (k : Int) ∧ vc = .int .u64 (cy : Int) ∧
          Hid (os.length = n + m ∧ Lb os ∧ val os + Bs ^ (i + k) * cy = val ((lim a).take i) * b + Bs ^ i * (x * val ((lim b).take k)) ∧ ∀ p, i + m ≤ p → os.getD p 0 = 0) ∧
          Hid (wr2.ownsRow w1.heap.size 85 1 (.slice (some ⟨w1.heap.size, 0, none⟩) (n + m) (n + m)) (n + m) (os.map u32V)) ∧ Hid (Ext w1 wr2))
        (fun _ vk _ => m - (intOf vk).toNat)
      case atStart => exact ⟨0, 0, os, Nat.zero_le _, by omega, rfl, rfl, ⟨hos.out.1, hos.out.2.1, by rw [hos.out.2.2.1]; simp [val], hos.out.2.2.2⟩, hown.out, hext.out⟩
      case round =>
        clear hos hown hext os hcx1 hgl
        obtain ⟨k, cy, os, hk, hcyb, rfl, rfl, hos, hown, hext⟩ := hrel
        have hgl : w1.heap.size < wr.heap.size := (hown.out.lt w1.heap.size (by simp [Value.ownBlock])).2
        by_cases hkm : k < m
        · obtain ⟨by', oy, hYe⟩ : ∃ b off, B = some ⟨b, off, none⟩ := by
            rcases HB.out.shape with ⟨_, h, _⟩ | h
            · omega
            · exact h
          subst hYe
          obtain ⟨y, hy, hyb, hcy2⟩ := ((HB.out.ext hw1.out).ext hext.out).get k hkm
          obtain ⟨o, ho, hob⟩ : ∃ o : Nat, Hid (os.getD (i + k) 0 = o) ∧ o < 4294967296 := ⟨_, rfl, lb_getD hos.out.2.1 _⟩
          obtain ⟨hc1, hf1⟩ := own_at hown.out (i + k) (by omega)
          rw [ho.out] at hc1
          obtain ⟨p, hp⟩ : ∃ p, p = x * y := ⟨_, rfl⟩
          have hpb : p ≤ 18446744065119617025 := by
            rw [hp]
            exact Nat.mul_le_mul (show x ≤ 4294967295 by omega) (show y ≤ 4294967295 by omega)
          have hpi : (x : Int) * (y : Int) = (p : Int) := by rw [hp]; exact (Int.natCast_mul _ _).symm
          have HP := Lib.hid hp
          clear hp
          go_wp2
          case roundEnd =>
            have hP := HP.out
            refine ⟨⟨k + 1, (p + o + cy) / 4294967296, os.set (i + k) ((p + o + cy) % 4294967296), by omega, by omega, by simp, ?_, ⟨?_, ?_, ?_, ?_⟩, ?_, ?_⟩, ?_⟩
            · simp; omega
            · simp [hos.out.1]
            · exact lb_set hos.out.2.1 _ (Nat.mod_lt _ (by decide))
            · rw [hP]
              exact times_step (by rw [hos.out.1]; omega) hos.out.2.2.1 ho.out hy.out
            · intro q hq
              rw [getD_set_ne (by omega)]
              exact hos.out.2.2.2 q hq
            · show World.ownsRow _ _ _ _ _ _ _
              have := own_set hown.out (i + k) ((p + o + cy) % 4294967296)
              have e : ((cy : Int) + ((p : Int) + (o : Int))) % 4294967296 = (((p + o + cy) % 4294967296 : Nat) : Int) := by omega
              rw [e]
              exact this
            · exact ext_setCell hext.out (Nat.le_refl _) _
            · simp [intOf]; omega
        · obtain rfl : k = m := by omega
          obtain ⟨hc1, hf1⟩ := own_at hown.out (i + k) (by omega)
          rw [hos.out.2.2.2 _ (Nat.le_refl _)] at hc1
          clear hkm
          go_wp2
          case roundEnd =>
            refine ⟨⟨i + 1, os.set (i + k) cy, by omega, by simp, ⟨?_, ?_, ?_, ?_⟩, ?_, ?_⟩, ?_⟩
            · simp [hos.out.1]
            · exact lb_set hos.out.2.1 _ hcyb
            · have h := hos.out.2.2.1
              rw [take_ge (l := lim b) (by rw [hly.out]; exact Nat.le_refl _), val_lim] at h
              have h2 := times_last (ys := lim b) (by rw [hos.out.1]; omega) (by rw [val_lim]; exact h) (hos.out.2.2.2 _ (Nat.le_refl _)) hx.out
              rwa [val_lim] at h2
            · intro q hq
              rw [getD_set_ne (by omega)]
              exact hos.out.2.2.2 q (by omega)
            · exact own_set hown.out _ _
            · exact ext_setCell hext.out (Nat.le_refl _) _
            · simp [intOf]; omega
    · obtain rfl : i = n := by omega
      have hval : val os = a * b := by
        have h1 := hos.out.2.2.1
        rwa [take_ge (by rw [hlx.out]; exact Nat.le_refl _), val_lim] at h1
      obtain ⟨G', c', he, hRR⟩ := Rd.own hown.out hos.out.2.1
      cases he
      have HR := Lib.hid hRR
      have HV := Lib.hid hval
      clear hRR hval hck h0
      obtain ⟨xc7, xf7, xl7, xz7⟩ := ext_use (hext.out)
      have l7_0 := xl7 (w.heap.size + 1 + 1) (by first | omega | (simp; try omega))
      have r7_0 := xc7 (w.heap.size + 1 + 1) 0 (by first | omega | (simp; try omega))
      have f7_0 := xf7 (w.heap.size + 1 + 1) 0 (by first | omega | (simp; try omega))
      go_wp2_with (first
        | (go_at_call 88; (with_reducible refine (nfits_any _ _ _ _ _ HR.out (by rw [HV.out]; exact HS.out)).mono ?_); rintro e w8 ⟨A', k, rfl, hF, xb8⟩; obtain ⟨xc8, xf8, xl8, xz8⟩ := ext_use xb8; (try simp at xz8); have l8_0 := xl8 (w.heap.size + 1 + 1) (by first | omega | (simp; try omega)); have r8_0 := xc8 (w.heap.size + 1 + 1) 0 (by first | omega | (simp; try omega)); have f8_0 := xf8 (w.heap.size + 1 + 1) 0 (by first | omega | (simp; try omega)))
       )
      have hw1' := hw1.out
      have hext' := hext.out
      refine bodyPost_ret (v := .tuple #[natV A' k k, .int .i64 0]) ?h rfl ⟨A', k, rfl, ⟨?_, ?_⟩, ?_⟩
      case h => simp [results, Tryz.results56, go_sem, *]
      · have h1 := (hF.out.1 _ HR.out).ext xb8
        rw [HV.out] at h1
        refine h1.set _ (fun q hq => ?_)
        have := hF.out.2 q hq
        cases this
        simp; omega
      · intro q hq
        have := hF.out.2 q hq
        cases this
        simp; omega
      · exact ext_setCell (ext_trans hw1' (ext_trans hext' xb8)) (show w.heap.size ≤ w.heap.size + 1 + 1 by omega) _
end Go.Proofs.YtbgimjfeigeicaaGreatDoor
