/- The program's sums. -/
import Derived.Test.YtbgimjfeigeicaaGreatDoorNtB
namespace Go.Proofs.YtbgimjfeigeicaaGreatDoor
open Go.RowKit
attribute [local go_sem] sz2 sz3 sz4 sz5 sz6 sz7 sz8
set_option maxHeartbeats 4000000
set_option maxRecDepth 100000
attribute [local irreducible] Calls
theorem add32_zero (x c : Nat) (hx : x < 4294967296) (hc : c ≤ 1) (w : World) : Calls Tryz.prog 87 #[.int .u32 (x : Int), .int .u32 0, .int .u32 (c : Int)] w fun e w' =>
    e = .returned (.tuple #[.int .u32 (((x + c) % 4294967296 : Nat) : Int), .int .u32 (((x + c) / 4294967296 : Nat) : Int)]) ∧ w = w' := add32_any x 0 c hx (by decide) hc w
theorem slice_at0 (w : World) (u v : Value) (t : TypeId) : (w.alloc (Obj.cells #[u, v] t)).cell? ⟨w.heap.size, 0, none⟩ = some u := by rw [World.cell?_alloc_at _ _ _ _ rfl]; rfl
theorem slice_at1 (w : World) (u v : Value) (t : TypeId) : (w.alloc (Obj.cells #[u, v] t)).cell? ⟨w.heap.size, 1, none⟩ = some v := by rw [World.cell?_alloc_at _ _ _ _ rfl]; rfl
theorem checks_new (A1 A2 : Option Addr) (n1 c1 n2 c2 : Nat) (xs ys : List Nat) (w w' : World) (h1 : Rd w A1 n1 c1 xs) (h2 : Rd w A2 n2 c2 ys) (hx : chk xs = 0) (hy : chk ys = 0) (he : Hid (Ext w w')) (t : TypeId) (B : Nat) (hB : B = w'.heap.size) :
    Calls Tryz.prog 86 #[.slice (some ⟨B, 0, none⟩) 2 2] (w'.alloc (Obj.cells #[.slice A1 n1 c1, .slice A2 n2 c2] t)) fun e w'' => e = .returned (.int .i64 0) ∧ Ext (w'.alloc (Obj.cells #[.slice A1 n1 c1, .slice A2 n2 c2] t)) w'' := by
  subst hB
  exact checks_any w'.heap.size A1 A2 n1 c1 n2 c2 xs ys _ (h1.ext (ext_trans he.out (ext_alloc (ext_refl _) _))) (h2.ext (ext_trans he.out (ext_alloc (ext_refl _) _))) hx hy (slice_at0 _ _ _ _) (slice_at1 _ _ _ _)
theorem padd_ge (A B : Option Addr) (n c m d : Nat) (a b : Nat) (hnm : m ≤ n) (w : World) (hA : Rd w A n c (lim a)) (hB : Rd w B m d (lim b)) (ha : (lim a).length ≤ 16384) (hb : (lim b).length ≤ 16384) (hs : (lim (a + b)).length ≤ 16384) :
    Calls Tryz.prog 45 #[natV A n c, natV B m d] w fun e w' => ∃ (A' : Option Addr) (k : Nat), e = .returned (.tuple #[natV A' k k, .int .i64 0]) ∧ Hid (Rd w' A' k k (lim (a + b)) ∧ Fr w A') ∧ Ext w w' := by
  have hck : ∀ w' t G, Hid (Ext w w') → G = w'.heap.size → Calls Tryz.prog 86 #[.slice (some ⟨G, 0, none⟩) 2 2] (w'.alloc (Obj.cells #[.slice A n c, .slice B m d] t)) fun e w'' => e = .returned (.int .i64 0) ∧ Ext (w'.alloc (Obj.cells #[.slice A n c, .slice B m d] t)) w'' := fun w' t G he hG => checks_new A B n c m d _ _ w w' hA hB (chk_lim ha) (chk_lim hb) he t G hG
  have hmx := hA.mx
  have hmy := hB.mx
  have hcx := hA.cap
  have hcy := hB.cap
  have HA := Lib.hid hA
  have HB := Lib.hid hB
  have hlx := Lib.hid hA.len
  have hly := Lib.hid hB.len
  have hn : n ≤ 16384 := by have := hA.len; omega
  have hm : m ≤ 16384 := by have := hB.len; omega
  have HS := Lib.hid hs
  clear hA hB ha hb hs
  go_enter Tryz.func45, Tryz.ntmps45
  go_wp2_with (first
    | (go_at_call 86; (with_reducible refine (hck _ _ _ (Lib.hid (by (repeat (first | exact ext_refl _ | assumption | refine ext_setCell ?_ (by simp; try omega) _ | refine ext_alloc ?_ _ | refine ext_drew ?_ | refine ext_drewN ?_ _ | refine ext_trans ?_ (Aft.use _) | refine ext_trans ?_ (by assumption))))) (by simp)).mono ?_); rintro e w1 ⟨rfl, xb1⟩; obtain ⟨xc1, xf1, xl1, xz1⟩ := ext_use xb1; (try simp at xz1); have l1_0 := xl1 (w.heap.size) (by first | omega | (simp; try omega)); have r1_0 := xc1 (w.heap.size) 0 (by first | omega | (simp; try omega)); have f1_0 := xf1 (w.heap.size) 0 (by first | omega | (simp; try omega)); have l1_1 := xl1 (w.heap.size + 1) (by first | omega | (simp; try omega)); have r1_1 := xc1 (w.heap.size + 1) 0 (by first | omega | (simp; try omega)); have f1_1 := xf1 (w.heap.size + 1) 0 (by first | omega | (simp; try omega)); have l1_2 := xl1 (w.heap.size + 1 + 1) (by first | omega | (simp; try omega)); have r1_2 := xc1 (w.heap.size + 1 + 1) 0 (by first | omega | (simp; try omega)); have f1_2 := xf1 (w.heap.size + 1 + 1) 0 (by first | omega | (simp; try omega)))
   )
  go_quiet (fail)
  go_wp2_with (first
    | (at_make; refine make_u32 rfl _ _ rfl _ _ _ _ (n + 1) rfl rfl (by simp) (by simp) (by omega) ?_; intro w2 hx2 ho2; have hext2 := Lib.hid hx2; clear hx2)
    | go_in)
  have hw1 : Hid (Ext w w1) := Lib.hid (by (repeat (first | exact ext_refl _ | assumption | refine ext_setCell ?_ (by simp; try omega) _ | refine ext_alloc ?_ _ | refine ext_drew ?_ | refine ext_drewN ?_ _ | refine ext_trans ?_ (Aft.use _) | refine ext_trans ?_ (by assumption))))
  have hE2 : Hid (Ext w1 w2) := Lib.hid (ext_trans (ext_drewN (ext_refl w1) nq) hext2.out)
  have hGl : w1.heap.size < w2.heap.size := (ho2.out.lt w1.heap.size rfl).2
  have hG2 : w.heap.size + 1 + 1 < w1.heap.size := l1_2
  go_loopw [10, 39] (fun vc vi wr => ∃ (i cy : Nat) (os : List Nat), i ≤ n ∧ cy ≤ 1 ∧ vi = .int .i64 (i : Int) ∧ vc = .int .u32 (cy : Int) ∧ Hid (os.length = n + 1 ∧ Lb os ∧ val os + Bs ^ i * cy = val ((lim a).take i) + val ((lim b).take i) ∧ ∀ p, i ≤ p → os.getD p 0 = 0) ∧
      Hid (wr.ownsRow w1.heap.size 85 1 (.slice (some ⟨w1.heap.size, 0, none⟩) (n + 1) (n + 1)) (n + 1) (os.map u32V)) ∧ Hid (Ext w1 wr))
    (fun _ vi _ => n - (intOf vi).toNat)
  case atStart => exact ⟨0, 0, List.replicate (n + 1) 0, Nat.zero_le _, by omega, rfl, rfl, ⟨by simp, lb_replicate _, by rw [val_replicate]; simp [val], fun p _ => getD_replicate0 _ _⟩, ho2.out, hE2.out⟩
  case round =>
    clear ho2 hext2 hE2
    obtain ⟨i, cy, os, hi, hcy1, rfl, rfl, hos, hown, hext⟩ := hrel
    by_cases h0 : i < n
    · obtain ⟨bx, ox, hXe⟩ : ∃ b off, A = some ⟨b, off, none⟩ := by
        rcases HA.out.shape with ⟨_, h, _⟩ | h
        · omega
        · exact h
      subst hXe
      obtain ⟨x, hx, hxb, hcx1⟩ := ((HA.out.ext hw1.out).ext hext.out).get i h0
      obtain ⟨hc1, hf1⟩ := own_at hown.out i (by omega)
      rw [hos.out.2.2.2 i (Nat.le_refl _)] at hc1
      by_cases hm0 : i < m
      · obtain ⟨by', oy, hYe⟩ : ∃ b off, B = some ⟨b, off, none⟩ := by
          rcases HB.out.shape with ⟨_, h, _⟩ | h
          · omega
          · exact h
        subst hYe
        obtain ⟨y, hy, hyb, hcy2⟩ := ((HB.out.ext hw1.out).ext hext.out).get i hm0
        go_wp2_with (first
          | (go_at_call 87; (with_reducible refine (add32_any x y cy hxb hyb hcy1 _).mono ?_); rintro e w' ⟨rfl, rfl⟩)
         )
        case roundEnd =>
          refine ⟨⟨i + 1, (x + y + cy) / 4294967296, os.set i ((x + y + cy) % 4294967296), by omega, by omega, by simp, by simp, ⟨by rw [List.length_set]; exact hos.out.1, lb_set hos.out.2.1 _ (Nat.mod_lt _ (by decide)), sum_step (by rw [hos.out.1]; omega) hos.out.2.2.1 (hos.out.2.2.2 i (Nat.le_refl _)) hx.out hy.out, fun p hp => by rw [getD_set_ne (by omega)]; exact hos.out.2.2.2 p (by omega)⟩, own_set hown.out i _, ext_setCell hext.out (Nat.le_refl _) _⟩, ?_⟩
          simp [intOf]; omega
      · have hy0 : (lim b).getD i 0 = 0 := getD_ge (by rw [hly.out]; omega)
        have HY := Lib.hid hy0
        clear hy0
        go_wp2_with (first
          | (go_at_call 87; (with_reducible refine (add32_zero x cy hxb hcy1 _).mono ?_); rintro e w' ⟨rfl, rfl⟩)
         )
        case roundEnd =>
          refine ⟨⟨i + 1, (x + cy) / 4294967296, os.set i ((x + cy) % 4294967296), by omega, by omega, by simp, by simp, ⟨by rw [List.length_set]; exact hos.out.1, lb_set hos.out.2.1 _ (Nat.mod_lt _ (by decide)), sum_step (y := 0) (by rw [hos.out.1]; omega) hos.out.2.2.1 (hos.out.2.2.2 i (Nat.le_refl _)) hx.out HY.out, fun p hp => by rw [getD_set_ne (by omega)]; exact hos.out.2.2.2 p (by omega)⟩, own_set hown.out i _, ext_setCell hext.out (Nat.le_refl _) _⟩, ?_⟩
          simp [intOf]; omega
    · obtain rfl : i = n := by omega
      obtain ⟨hc1, hf1⟩ := own_at hown.out i (by omega)
      rw [hos.out.2.2.2 i (Nat.le_refl _)] at hc1
      have hrow : Hid ((wr.setCell ⟨w1.heap.size, i, none⟩ (.int .u32 (cy : Int))).ownsRow w1.heap.size 85 1 (.slice (some ⟨w1.heap.size, 0, none⟩) (i + 1) (i + 1)) (i + 1) ((os.set i cy).map u32V)) := Lib.hid (own_set hown.out i cy)
      have hval : val (os.set i cy) = a + b := by
        have h1 := val_set os i cy (by rw [hos.out.1]; omega)
        rw [hos.out.2.2.2 i (Nat.le_refl _), Nat.mul_zero, Nat.add_zero] at h1
        rw [h1, hos.out.2.2.1, take_ge (by rw [hlx.out]; exact Nat.le_refl _), take_ge (by rw [hly.out]; omega), val_lim, val_lim]
        all_goals omega
      obtain ⟨G', c', he, hRR⟩ := Rd.own hrow.out (lb_set hos.out.2.1 i (show cy < 4294967296 by omega))
      cases he
      have HR := Lib.hid hRR
      have HV := Lib.hid hval
      have hE3 : Hid (Ext w1 (wr.setCell ⟨w1.heap.size, i, none⟩ (.int .u32 (cy : Int)))) := Lib.hid (ext_setCell hext.out (Nat.le_refl _) _)
      clear hRR hval hrow hck
      have hgl : w1.heap.size < wr.heap.size := (hown.out.lt w1.heap.size rfl).2
      obtain ⟨xc7, xf7, xl7, xz7⟩ := ext_use (hext.out)
      have l7_0 := xl7 (w.heap.size + 1 + 1) (by first | omega | (simp; try omega))
      have r7_0 := xc7 (w.heap.size + 1 + 1) 0 (by first | omega | (simp; try omega))
      have f7_0 := xf7 (w.heap.size + 1 + 1) 0 (by first | omega | (simp; try omega))
      go_wp2_with (first
        | (go_at_call 88; (with_reducible refine (nfits_any _ _ _ _ _ HR.out (by rw [HV.out]; exact HS.out)).mono ?_); rintro e w8 ⟨A', k, rfl, hF, xb8⟩; obtain ⟨xc8, xf8, xl8, xz8⟩ := ext_use xb8; (try simp at xz8); have l8_0 := xl8 (w.heap.size + 1 + 1) (by first | omega | (simp; try omega)); have r8_0 := xc8 (w.heap.size + 1 + 1) 0 (by first | omega | (simp; try omega)); have f8_0 := xf8 (w.heap.size + 1 + 1) 0 (by first | omega | (simp; try omega)))
       )
      have hw1' := hw1.out
      have hE3' := hE3.out
      refine bodyPost_ret (v := .tuple #[natV A' k k, .int .i64 0]) ?h rfl ⟨A', k, rfl, ⟨?_, ?_⟩, ?_⟩
      case h => simp [results, Tryz.results45, go_sem, *]
      · have h1 := (hF.out.1 _ HR.out).ext xb8
        rw [HV.out] at h1
        refine h1.set _ (fun q hq => ?_)
        have := hF.out.2 q hq
        cases this
        simp; omega
      · intro q hq
        have := hF.out.2 q hq
        cases this
        simp; omega
      · exact ext_setCell (ext_trans hw1' (ext_trans hE3' xb8)) (show w.heap.size ≤ w.heap.size + 1 + 1 by omega) _
theorem padd_lt (A B : Option Addr) (n c m d : Nat) (a b : Nat) (hnm : n < m) (w : World) (hA : Rd w A n c (lim a)) (hB : Rd w B m d (lim b)) (ha : (lim a).length ≤ 16384) (hb : (lim b).length ≤ 16384) (hs : (lim (a + b)).length ≤ 16384) :
    Calls Tryz.prog 45 #[natV A n c, natV B m d] w fun e w' => ∃ (A' : Option Addr) (k : Nat), e = .returned (.tuple #[natV A' k k, .int .i64 0]) ∧ Hid (Rd w' A' k k (lim (a + b)) ∧ Fr w A') ∧ Ext w w' := by
  have hck : ∀ w' t G, Hid (Ext w w') → G = w'.heap.size → Calls Tryz.prog 86 #[.slice (some ⟨G, 0, none⟩) 2 2] (w'.alloc (Obj.cells #[.slice A n c, .slice B m d] t)) fun e w'' => e = .returned (.int .i64 0) ∧ Ext (w'.alloc (Obj.cells #[.slice A n c, .slice B m d] t)) w'' := fun w' t G he hG => checks_new A B n c m d _ _ w w' hA hB (chk_lim ha) (chk_lim hb) he t G hG
  have hmx := hA.mx
  have hmy := hB.mx
  have hcx := hA.cap
  have hcy := hB.cap
  have HA := Lib.hid hA
  have HB := Lib.hid hB
  have hlx := Lib.hid hA.len
  have hly := Lib.hid hB.len
  have hn : n ≤ 16384 := by have := hA.len; omega
  have hm : m ≤ 16384 := by have := hB.len; omega
  have HS := Lib.hid hs
  clear hA hB ha hb hs
  go_enter Tryz.func45, Tryz.ntmps45
  go_wp2_with (first
    | (go_at_call 86; (with_reducible refine (hck _ _ _ (Lib.hid (by (repeat (first | exact ext_refl _ | assumption | refine ext_setCell ?_ (by simp; try omega) _ | refine ext_alloc ?_ _ | refine ext_drew ?_ | refine ext_drewN ?_ _ | refine ext_trans ?_ (Aft.use _) | refine ext_trans ?_ (by assumption))))) (by simp)).mono ?_); rintro e w1 ⟨rfl, xb1⟩; obtain ⟨xc1, xf1, xl1, xz1⟩ := ext_use xb1; (try simp at xz1); have l1_0 := xl1 (w.heap.size) (by first | omega | (simp; try omega)); have r1_0 := xc1 (w.heap.size) 0 (by first | omega | (simp; try omega)); have f1_0 := xf1 (w.heap.size) 0 (by first | omega | (simp; try omega)); have l1_1 := xl1 (w.heap.size + 1) (by first | omega | (simp; try omega)); have r1_1 := xc1 (w.heap.size + 1) 0 (by first | omega | (simp; try omega)); have f1_1 := xf1 (w.heap.size + 1) 0 (by first | omega | (simp; try omega)); have l1_2 := xl1 (w.heap.size + 1 + 1) (by first | omega | (simp; try omega)); have r1_2 := xc1 (w.heap.size + 1 + 1) 0 (by first | omega | (simp; try omega)); have f1_2 := xf1 (w.heap.size + 1 + 1) 0 (by first | omega | (simp; try omega)))
   )
  go_quiet (fail)
  go_wp2_with (first
    | (at_make; refine make_u32 rfl _ _ rfl _ _ _ _ (m + 1) rfl rfl (by simp) (by simp) (by omega) ?_; intro w2 hx2 ho2; have hext2 := Lib.hid hx2; clear hx2)
    | go_in)
  have hw1 : Hid (Ext w w1) := Lib.hid (by (repeat (first | exact ext_refl _ | assumption | refine ext_setCell ?_ (by simp; try omega) _ | refine ext_alloc ?_ _ | refine ext_drew ?_ | refine ext_drewN ?_ _ | refine ext_trans ?_ (Aft.use _) | refine ext_trans ?_ (by assumption))))
  have hE2 : Hid (Ext w1 w2) := Lib.hid (ext_trans (ext_drewN (ext_refl w1) nq) hext2.out)
  have hGl : w1.heap.size < w2.heap.size := (ho2.out.lt w1.heap.size rfl).2
  have hG2 : w.heap.size + 1 + 1 < w1.heap.size := l1_2
  go_loopw [10, 39] (fun vc vi wr => ∃ (i cy : Nat) (os : List Nat), i ≤ m ∧ cy ≤ 1 ∧ vi = .int .i64 (i : Int) ∧ vc = .int .u32 (cy : Int) ∧ Hid (os.length = m + 1 ∧ Lb os ∧ val os + Bs ^ i * cy = val ((lim b).take i) + val ((lim a).take i) ∧ ∀ p, i ≤ p → os.getD p 0 = 0) ∧
      Hid (wr.ownsRow w1.heap.size 85 1 (.slice (some ⟨w1.heap.size, 0, none⟩) (m + 1) (m + 1)) (m + 1) (os.map u32V)) ∧ Hid (Ext w1 wr))
    (fun _ vi _ => m - (intOf vi).toNat)
  case atStart => exact ⟨0, 0, List.replicate (m + 1) 0, Nat.zero_le _, by omega, rfl, rfl, ⟨by simp, lb_replicate _, by rw [val_replicate]; simp [val], fun p _ => getD_replicate0 _ _⟩, ho2.out, hE2.out⟩
  case round =>
    clear ho2 hext2 hE2
    obtain ⟨i, cy, os, hi, hcy1, rfl, rfl, hos, hown, hext⟩ := hrel
    by_cases h0 : i < m
    · obtain ⟨bx, ox, hXe⟩ : ∃ b off, B = some ⟨b, off, none⟩ := by
        rcases HB.out.shape with ⟨_, h, _⟩ | h
        · omega
        · exact h
      subst hXe
      obtain ⟨x, hx, hxb, hcx1⟩ := ((HB.out.ext hw1.out).ext hext.out).get i h0
      obtain ⟨hc1, hf1⟩ := own_at hown.out i (by omega)
      rw [hos.out.2.2.2 i (Nat.le_refl _)] at hc1
      by_cases hm0 : i < n
      · obtain ⟨by', oy, hYe⟩ : ∃ b off, A = some ⟨b, off, none⟩ := by
          rcases HA.out.shape with ⟨_, h, _⟩ | h
          · omega
          · exact h
        subst hYe
        obtain ⟨y, hy, hyb, hcy2⟩ := ((HA.out.ext hw1.out).ext hext.out).get i hm0
        go_wp2_with (first
          | (go_at_call 87; (with_reducible refine (add32_any x y cy hxb hyb hcy1 _).mono ?_); rintro e w' ⟨rfl, rfl⟩)
         )
        case roundEnd =>
          refine ⟨⟨i + 1, (x + y + cy) / 4294967296, os.set i ((x + y + cy) % 4294967296), by omega, by omega, by simp, by simp, ⟨by rw [List.length_set]; exact hos.out.1, lb_set hos.out.2.1 _ (Nat.mod_lt _ (by decide)), sum_step (by rw [hos.out.1]; omega) hos.out.2.2.1 (hos.out.2.2.2 i (Nat.le_refl _)) hx.out hy.out, fun p hp => by rw [getD_set_ne (by omega)]; exact hos.out.2.2.2 p (by omega)⟩, own_set hown.out i _, ext_setCell hext.out (Nat.le_refl _) _⟩, ?_⟩
          simp [intOf]; omega
      · have hy0 : (lim a).getD i 0 = 0 := getD_ge (by rw [hlx.out]; omega)
        have HY := Lib.hid hy0
        clear hy0
        go_wp2_with (first
          | (go_at_call 87; (with_reducible refine (add32_zero x cy hxb hcy1 _).mono ?_); rintro e w' ⟨rfl, rfl⟩)
         )
        case roundEnd =>
          refine ⟨⟨i + 1, (x + cy) / 4294967296, os.set i ((x + cy) % 4294967296), by omega, by omega, by simp, by simp, ⟨by rw [List.length_set]; exact hos.out.1, lb_set hos.out.2.1 _ (Nat.mod_lt _ (by decide)), sum_step (y := 0) (by rw [hos.out.1]; omega) hos.out.2.2.1 (hos.out.2.2.2 i (Nat.le_refl _)) hx.out HY.out, fun p hp => by rw [getD_set_ne (by omega)]; exact hos.out.2.2.2 p (by omega)⟩, own_set hown.out i _, ext_setCell hext.out (Nat.le_refl _) _⟩, ?_⟩
          simp [intOf]; omega
    · obtain rfl : i = m := by omega
      obtain ⟨hc1, hf1⟩ := own_at hown.out i (by omega)
      rw [hos.out.2.2.2 i (Nat.le_refl _)] at hc1
      have hrow : Hid ((wr.setCell ⟨w1.heap.size, i, none⟩ (.int .u32 (cy : Int))).ownsRow w1.heap.size 85 1 (.slice (some ⟨w1.heap.size, 0, none⟩) (i + 1) (i + 1)) (i + 1) ((os.set i cy).map u32V)) := Lib.hid (own_set hown.out i cy)
      have hval : val (os.set i cy) = a + b := by
        have h1 := val_set os i cy (by rw [hos.out.1]; omega)
        rw [hos.out.2.2.2 i (Nat.le_refl _), Nat.mul_zero, Nat.add_zero] at h1
        rw [h1, hos.out.2.2.1, take_ge (by rw [hly.out]; exact Nat.le_refl _), take_ge (by rw [hlx.out]; omega), val_lim, val_lim]
        all_goals omega
      obtain ⟨G', c', he, hRR⟩ := Rd.own hrow.out (lb_set hos.out.2.1 i (show cy < 4294967296 by omega))
      cases he
      have HR := Lib.hid hRR
      have HV := Lib.hid hval
      have hE3 : Hid (Ext w1 (wr.setCell ⟨w1.heap.size, i, none⟩ (.int .u32 (cy : Int)))) := Lib.hid (ext_setCell hext.out (Nat.le_refl _) _)
      clear hRR hval hrow hck
      have hgl : w1.heap.size < wr.heap.size := (hown.out.lt w1.heap.size rfl).2
      obtain ⟨xc7, xf7, xl7, xz7⟩ := ext_use (hext.out)
      have l7_0 := xl7 (w.heap.size + 1 + 1) (by first | omega | (simp; try omega))
      have r7_0 := xc7 (w.heap.size + 1 + 1) 0 (by first | omega | (simp; try omega))
      have f7_0 := xf7 (w.heap.size + 1 + 1) 0 (by first | omega | (simp; try omega))
      go_wp2_with (first
        | (go_at_call 88; (with_reducible refine (nfits_any _ _ _ _ _ HR.out (by rw [HV.out]; exact HS.out)).mono ?_); rintro e w8 ⟨A', k, rfl, hF, xb8⟩; obtain ⟨xc8, xf8, xl8, xz8⟩ := ext_use xb8; (try simp at xz8); have l8_0 := xl8 (w.heap.size + 1 + 1) (by first | omega | (simp; try omega)); have r8_0 := xc8 (w.heap.size + 1 + 1) 0 (by first | omega | (simp; try omega)); have f8_0 := xf8 (w.heap.size + 1 + 1) 0 (by first | omega | (simp; try omega)))
       )
      have hw1' := hw1.out
      have hE3' := hE3.out
      refine bodyPost_ret (v := .tuple #[natV A' k k, .int .i64 0]) ?h rfl ⟨A', k, rfl, ⟨?_, ?_⟩, ?_⟩
      case h => simp [results, Tryz.results45, go_sem, *]
      · have h1 := (hF.out.1 _ HR.out).ext xb8
        rw [HV.out] at h1
        refine h1.set _ (fun q hq => ?_)
        have := hF.out.2 q hq
        cases this
        simp; omega
      · intro q hq
        have := hF.out.2 q hq
        cases this
        simp; omega
      · exact ext_setCell (ext_trans hw1' (ext_trans hE3' xb8)) (show w.heap.size ≤ w.heap.size + 1 + 1 by omega) _
theorem padd_any (A B : Option Addr) (n c m d : Nat) (a b : Nat) (w : World) (hA : Rd w A n c (lim a)) (hB : Rd w B m d (lim b)) (ha : (lim a).length ≤ 16384) (hb : (lim b).length ≤ 16384) (hs : (lim (a + b)).length ≤ 16384) :
    Calls Tryz.prog 45 #[natV A n c, natV B m d] w fun e w' => ∃ (A' : Option Addr) (k : Nat), e = .returned (.tuple #[natV A' k k, .int .i64 0]) ∧ Hid (Rd w' A' k k (lim (a + b)) ∧ Fr w A') ∧ Ext w w' := by
  rcases Nat.lt_or_ge n m with h | h
  · exact padd_lt A B n c m d a b h w hA hB ha hb hs
  · exact padd_ge A B n c m d a b h w hA hB ha hb hs
end Go.Proofs.YtbgimjfeigeicaaGreatDoor
