/- The program's differences. -/
import Derived.Test.YtbgimjfeigeicaaGreatDoorNtC
namespace Go.Proofs.YtbgimjfeigeicaaGreatDoor
open Go.RowKit
attribute [local go_sem] sz2 sz3 sz4 sz5 sz6 sz7 sz8
set_option maxHeartbeats 4000000
set_option maxRecDepth 100000
attribute [local irreducible] Calls
theorem sub32_zero (x c : Nat) (hx : x < 4294967296) (hc : c ≤ 1) (w : World) : Calls Tryz.prog 90 #[.int .u32 (x : Int), .int .u32 0, .int .u32 (c : Int)] w fun e w' =>
    e = .returned (.tuple #[.int .u32 (((x + 8589934592 - 0 - c) % 4294967296 : Nat) : Int), .int .u32 ((if x < 0 + c then 1 else 0 : Nat) : Int)]) ∧ w = w' := sub32_any x 0 c hx (by decide) hc w
theorem psub_lt (A B : Option Addr) (n c m d : Nat) (a b : Nat) (hab : a < b) (w : World) (hA : Rd w A n c (lim a)) (hB : Rd w B m d (lim b)) (ha : (lim a).length ≤ 16384) (hb : (lim b).length ≤ 16384) :
    Calls Tryz.prog 46 #[natV A n c, natV B m d] w fun e w' => e = .returned (.tuple #[natV none 0 0, .bool false, .int .i64 0]) ∧ Ext w w' := by
  have hck : ∀ w' t G, Hid (Ext w w') → G = w'.heap.size → Calls Tryz.prog 86 #[.slice (some ⟨G, 0, none⟩) 2 2] (w'.alloc (Obj.cells #[.slice A n c, .slice B m d] t)) fun e w'' => e = .returned (.int .i64 0) ∧ Ext (w'.alloc (Obj.cells #[.slice A n c, .slice B m d] t)) w'' := fun w' t G he hG => checks_new A B n c m d _ _ w w' hA hB (chk_lim ha) (chk_lim hb) he t G hG
  have hcm : ∀ w', Hid (Ext w w') → Calls Tryz.prog 89 #[.slice A n c, .slice B m d] w' fun e w'' => e = .returned (.int .i64 (-1)) ∧ Ext w' w'' := fun w' he => by
    have := pcmp_any A B n c m d a b w' (hA.ext he.out) (hB.ext he.out)
    rwa [show cmpN a b = -1 by unfold cmpN; rw [if_pos hab]] at this
  clear hA hB ha hb hab
  go_enter Tryz.func46, Tryz.ntmps46
  go_wp2_with (first
    | (go_at_call 86; (with_reducible refine (hck _ _ _ (Lib.hid (by (repeat (first | exact ext_refl _ | assumption | refine ext_setCell ?_ (by simp; try omega) _ | refine ext_alloc ?_ _ | refine ext_drew ?_ | refine ext_drewN ?_ _ | refine ext_trans ?_ (Aft.use _) | refine ext_trans ?_ (by assumption))))) (by simp)).mono ?_); rintro e w1 ⟨rfl, xb1⟩; obtain ⟨xc1, xf1, xl1, xz1⟩ := ext_use xb1; (try simp at xz1); have l1_0 := xl1 (w.heap.size) (by first | omega | (simp; try omega)); have r1_0 := xc1 (w.heap.size) 0 (by first | omega | (simp; try omega)); have f1_0 := xf1 (w.heap.size) 0 (by first | omega | (simp; try omega)); have l1_1 := xl1 (w.heap.size + 1) (by first | omega | (simp; try omega)); have r1_1 := xc1 (w.heap.size + 1) 0 (by first | omega | (simp; try omega)); have f1_1 := xf1 (w.heap.size + 1) 0 (by first | omega | (simp; try omega)); have l1_2 := xl1 (w.heap.size + 1 + 1) (by first | omega | (simp; try omega)); have r1_2 := xc1 (w.heap.size + 1 + 1) 0 (by first | omega | (simp; try omega)); have f1_2 := xf1 (w.heap.size + 1 + 1) 0 (by first | omega | (simp; try omega)))
    | (go_at_call 89; (with_reducible refine (hcm _ (Lib.hid (by (repeat (first | exact ext_refl _ | assumption | refine ext_setCell ?_ (by simp; try omega) _ | refine ext_alloc ?_ _ | refine ext_drew ?_ | refine ext_drewN ?_ _ | refine ext_trans ?_ (Aft.use _) | refine ext_trans ?_ (by assumption)))))).mono ?_); rintro e w2 ⟨rfl, xb2⟩; obtain ⟨xc2, xf2, xl2, xz2⟩ := ext_use xb2; (try simp at xz2); have l2_0 := xl2 (w.heap.size + 1 + 1) (by first | omega | (simp; try omega)); have r2_0 := xc2 (w.heap.size + 1 + 1) 0 (by first | omega | (simp; try omega)); have f2_0 := xf2 (w.heap.size + 1 + 1) 0 (by first | omega | (simp; try omega)))
   )
  refine bodyPost_ret (v := .tuple #[natV none 0 0, .bool false, .int .i64 0]) ?h rfl ⟨rfl, ?_⟩
  case h => simp [results, Tryz.results46, go_sem, *]
  repeat (first | exact ext_refl _ | assumption | refine ext_setCell ?_ (by simp; try omega) _ | refine ext_alloc ?_ _ | refine ext_drew ?_ | refine ext_drewN ?_ _ | refine ext_trans ?_ (Aft.use _) | refine ext_trans ?_ (by assumption))
theorem psub_ge (A B : Option Addr) (n c m d : Nat) (a b : Nat) (hab : b ≤ a) (w : World) (hA : Rd w A n c (lim a)) (hB : Rd w B m d (lim b)) (ha : (lim a).length ≤ 16384) (hb : (lim b).length ≤ 16384) :
    Calls Tryz.prog 46 #[natV A n c, natV B m d] w fun e w' => ∃ (A' : Option Addr) (k : Nat), e = .returned (.tuple #[natV A' k k, .bool true, .int .i64 0]) ∧ Hid (Rd w' A' k k (lim (a - b)) ∧ Fr w A') ∧ Ext w w' := by
  have hck : ∀ w' t G, Hid (Ext w w') → G = w'.heap.size → Calls Tryz.prog 86 #[.slice (some ⟨G, 0, none⟩) 2 2] (w'.alloc (Obj.cells #[.slice A n c, .slice B m d] t)) fun e w'' => e = .returned (.int .i64 0) ∧ Ext (w'.alloc (Obj.cells #[.slice A n c, .slice B m d] t)) w'' := fun w' t G he hG => checks_new A B n c m d _ _ w w' hA hB (chk_lim ha) (chk_lim hb) he t G hG
  have hcm : ∀ w', Hid (Ext w w') → Calls Tryz.prog 89 #[.slice A n c, .slice B m d] w' fun e w'' => ∃ v : Int, (e = .returned (.int .i64 v) ∧ 0 ≤ v) ∧ Ext w' w'' := fun w' he => by
    refine (pcmp_any A B n c m d a b w' (hA.ext he.out) (hB.ext he.out)).mono ?_
    rintro e w'' ⟨h1, h2⟩
    refine ⟨_, ⟨h1, ?_⟩, h2⟩
    unfold cmpN
    rw [if_neg (by omega)]
    split <;> omega
  have hmx := hA.mx
  have hmy := hB.mx
  have hcx := hA.cap
  have hcy := hB.cap
  have HA := Lib.hid hA
  have HB := Lib.hid hB
  have hlx := Lib.hid hA.len
  have hly := Lib.hid hB.len
  have hn : n ≤ 16384 := by have := hA.len; omega
  have hm : m ≤ n := by
    have h1 := hA.len
    have h2 := hB.len
    have h3 : (lim b).length ≤ (lim a).length := lim_mono hab
    omega
  clear hA hB ha hb
  go_enter Tryz.func46, Tryz.ntmps46
  go_wp2_with (first
    | (go_at_call 86; (with_reducible refine (hck _ _ _ (Lib.hid (by (repeat (first | exact ext_refl _ | assumption | refine ext_setCell ?_ (by simp; try omega) _ | refine ext_alloc ?_ _ | refine ext_drew ?_ | refine ext_drewN ?_ _ | refine ext_trans ?_ (Aft.use _) | refine ext_trans ?_ (by assumption))))) (by simp)).mono ?_); rintro e w1 ⟨rfl, xb1⟩; obtain ⟨xc1, xf1, xl1, xz1⟩ := ext_use xb1; (try simp at xz1); have l1_0 := xl1 (w.heap.size) (by first | omega | (simp; try omega)); have r1_0 := xc1 (w.heap.size) 0 (by first | omega | (simp; try omega)); have f1_0 := xf1 (w.heap.size) 0 (by first | omega | (simp; try omega)); have l1_1 := xl1 (w.heap.size + 1) (by first | omega | (simp; try omega)); have r1_1 := xc1 (w.heap.size + 1) 0 (by first | omega | (simp; try omega)); have f1_1 := xf1 (w.heap.size + 1) 0 (by first | omega | (simp; try omega)); have l1_2 := xl1 (w.heap.size + 1 + 1) (by first | omega | (simp; try omega)); have r1_2 := xc1 (w.heap.size + 1 + 1) 0 (by first | omega | (simp; try omega)); have f1_2 := xf1 (w.heap.size + 1 + 1) 0 (by first | omega | (simp; try omega)))
    | (go_at_call 89; (with_reducible refine (hcm _ (Lib.hid (by (repeat (first | exact ext_refl _ | assumption | refine ext_setCell ?_ (by simp; try omega) _ | refine ext_alloc ?_ _ | refine ext_drew ?_ | refine ext_drewN ?_ _ | refine ext_trans ?_ (Aft.use _) | refine ext_trans ?_ (by assumption)))))).mono ?_); rintro e w2 ⟨v, ⟨rfl, hv⟩, xb2⟩; obtain ⟨xc2, xf2, xl2, xz2⟩ := ext_use xb2; (try simp at xz2); have l2_0 := xl2 (w.heap.size) (by first | omega | (simp; try omega)); have r2_0 := xc2 (w.heap.size) 0 (by first | omega | (simp; try omega)); have f2_0 := xf2 (w.heap.size) 0 (by first | omega | (simp; try omega)); have l2_1 := xl2 (w.heap.size + 1) (by first | omega | (simp; try omega)); have r2_1 := xc2 (w.heap.size + 1) 0 (by first | omega | (simp; try omega)); have f2_1 := xf2 (w.heap.size + 1) 0 (by first | omega | (simp; try omega)); have l2_2 := xl2 (w.heap.size + 1 + 1) (by first | omega | (simp; try omega)); have r2_2 := xc2 (w.heap.size + 1 + 1) 0 (by first | omega | (simp; try omega)); have f2_2 := xf2 (w.heap.size + 1 + 1) 0 (by first | omega | (simp; try omega)))
    | (at_make; refine make_u32 rfl _ _ rfl _ _ _ _ n rfl rfl (by simp) (by simp) (by omega) ?_; intro w3 hx3 ho3; have hext3 := Lib.hid hx3; clear hx3; have hp3 := ext_use hext3.out; have r3_0 := hp3.1 w.heap.size 0 (by first | omega | (simp; try omega)); have f3_0 := hp3.2.1 w.heap.size 0 (by first | omega | (simp; try omega)); have l3_0 := hp3.2.2.1 w.heap.size (by first | omega | (simp; try omega)); clear hp3)
   )
  have hw2 : Hid (Ext w w2) := Lib.hid (by (repeat (first | exact ext_refl _ | assumption | refine ext_setCell ?_ (by simp; try omega) _ | refine ext_alloc ?_ _ | refine ext_drew ?_ | refine ext_drewN ?_ _ | refine ext_trans ?_ (Aft.use _) | refine ext_trans ?_ (by assumption))))
  have hGl : w2.heap.size < w3.heap.size := (ho3.out.lt w2.heap.size rfl).2
  have hG2 : w.heap.size + 1 + 1 < w2.heap.size := l2_2
  go_loopw [9, 35] (fun vl vi wr => ∃ (i lt : Nat) (os : List Nat), i ≤ n ∧ lt ≤ 1 ∧ vi = .int .i64 (i : Int) ∧ vl = .int .u32 (lt : Int) ∧ Hid (os.length = n ∧ Lb os ∧ val os + val ((lim b).take i) = val ((lim a).take i) + Bs ^ i * lt ∧ ∀ p, i ≤ p → os.getD p 0 = 0) ∧
      Hid (wr.ownsRow w2.heap.size 85 1 (.slice (some ⟨w2.heap.size, 0, none⟩) n n) n (os.map u32V)) ∧ Hid (Ext w2 wr))
    (fun _ vi _ => n - (intOf vi).toNat)
  case atStart => exact ⟨0, 0, List.replicate n 0, Nat.zero_le _, by omega, rfl, rfl, ⟨by simp, lb_replicate _, by rw [val_replicate]; simp [val], fun p _ => getD_replicate0 _ _⟩, ho3.out, hext3.out⟩
  case round =>
    clear ho3 hext3 r3_0 f3_0 l3_0
    obtain ⟨i, lt, os, hi, hlt1, rfl, rfl, hos, hown, hext⟩ := hrel
    obtain ⟨xc7, xf7, xl7, xz7⟩ := ext_use (hext.out)
    have l7_0 := xl7 (w.heap.size) (by first | omega | (simp; try omega))
    have r7_0 := xc7 (w.heap.size) 0 (by first | omega | (simp; try omega))
    have f7_0 := xf7 (w.heap.size) 0 (by first | omega | (simp; try omega))
    have l7_1 := xl7 (w.heap.size + 1) (by first | omega | (simp; try omega))
    have r7_1 := xc7 (w.heap.size + 1) 0 (by first | omega | (simp; try omega))
    have f7_1 := xf7 (w.heap.size + 1) 0 (by first | omega | (simp; try omega))
    have l7_2 := xl7 (w.heap.size + 1 + 1) (by first | omega | (simp; try omega))
    have r7_2 := xc7 (w.heap.size + 1 + 1) 0 (by first | omega | (simp; try omega))
    have f7_2 := xf7 (w.heap.size + 1 + 1) 0 (by first | omega | (simp; try omega))
    by_cases h0 : i < n
    · obtain ⟨bx, ox, hXe⟩ : ∃ b off, A = some ⟨b, off, none⟩ := by
        rcases HA.out.shape with ⟨_, h, _⟩ | h
        · omega
        · exact h
      subst hXe
      obtain ⟨x, hx, hxb, hcx1⟩ := ((HA.out.ext hw2.out).ext hext.out).get i h0
      obtain ⟨hc1, hf1⟩ := own_at hown.out i (by omega)
      rw [hos.out.2.2.2 i (Nat.le_refl _)] at hc1
      by_cases hm0 : i < m
      · obtain ⟨by', oy, hYe⟩ : ∃ b off, B = some ⟨b, off, none⟩ := by
          rcases HB.out.shape with ⟨_, h, _⟩ | h
          · omega
          · exact h
        subst hYe
        obtain ⟨y, hy, hyb, hcy2⟩ := ((HB.out.ext hw2.out).ext hext.out).get i hm0
        go_wp2_with (first
          | (go_at_call 90; (with_reducible refine (sub32_any x y lt hxb hyb hlt1 _).mono ?_); rintro e w' ⟨rfl, rfl⟩)
         )
        case roundEnd =>
          refine ⟨⟨i + 1, _, os.set i ((x + 8589934592 - y - lt) % 4294967296), by omega, ?_, by simp, rfl, ⟨by rw [List.length_set]; exact hos.out.1, lb_set hos.out.2.1 _ (Nat.mod_lt _ (by decide)), dif_step (y := y) (by rw [hos.out.1]; omega) hlt1 hxb hyb hos.out.2.2.1 (hos.out.2.2.2 i (Nat.le_refl _)) hx.out hy.out, fun p hp => by rw [getD_set_ne (by omega)]; exact hos.out.2.2.2 p (by omega)⟩, own_set hown.out i _, ext_setCell hext.out (Nat.le_refl _) _⟩, ?_⟩
          · split <;> omega
          · simp [intOf]; omega
      · have hy0 : (lim b).getD i 0 = 0 := getD_ge (by rw [hly.out]; omega)
        have HY := Lib.hid hy0
        clear hy0
        go_wp2_with (first
          | (go_at_call 90; (with_reducible refine (sub32_zero x lt hxb hlt1 _).mono ?_); rintro e w' ⟨rfl, rfl⟩)
         )
        case roundEnd =>
          refine ⟨⟨i + 1, _, os.set i ((x + 8589934592 - 0 - lt) % 4294967296), by omega, ?_, by simp, rfl, ⟨by rw [List.length_set]; exact hos.out.1, lb_set hos.out.2.1 _ (Nat.mod_lt _ (by decide)), (by have hz := dif_step (y := 0) (by rw [hos.out.1]; omega) hlt1 hxb (by decide) hos.out.2.2.1 (hos.out.2.2.2 i (Nat.le_refl _)) hx.out HY.out; rwa [Nat.zero_add] at hz), fun p hp => by rw [getD_set_ne (by omega)]; exact hos.out.2.2.2 p (by omega)⟩, own_set hown.out i _, ext_setCell hext.out (Nat.le_refl _) _⟩, ?_⟩
          · split <;> omega
          · simp [intOf]; omega
    · obtain rfl : i = n := by omega
      have hval : val os = a - b := by
        have h1 := hos.out.2.2.1
        rw [take_ge (by rw [hly.out]; exact hm), take_ge (by rw [hlx.out]; exact Nat.le_refl _), val_lim, val_lim] at h1
        have h2 := val_lt os hos.out.2.1
        rw [hos.out.1] at h2
        rcases (show lt = 0 ∨ lt = 1 by omega) with h3 | h3
        · rw [h3] at h1; omega
        · rw [h3] at h1; omega
      obtain ⟨G', c', he, hRR⟩ := Rd.own hown.out hos.out.2.1
      cases he
      have HR := Lib.hid hRR
      have HV := Lib.hid hval
      have hgl : w2.heap.size < wr.heap.size := (hown.out.lt w2.heap.size rfl).2
      clear hRR hval hck hcm h0
      go_wp2_with (first
        | (go_at_call 91; (with_reducible refine (trimmed_any _ _ _ _ _ HR.out).mono ?_); rintro e w8 ⟨A', k, rfl, hF, xb8⟩; obtain ⟨xc8, xf8, xl8, xz8⟩ := ext_use xb8; (try simp at xz8); have l8_0 := xl8 (w.heap.size + 1 + 1) (by first | omega | (simp; try omega)); have r8_0 := xc8 (w.heap.size + 1 + 1) 0 (by first | omega | (simp; try omega)); have f8_0 := xf8 (w.heap.size + 1 + 1) 0 (by first | omega | (simp; try omega)))
       )
      have hw2' := hw2.out
      have hext' := hext.out
      refine bodyPost_ret (v := .tuple #[natV A' k k, .bool true, .int .i64 0]) ?h rfl ⟨A', k, rfl, ⟨?_, ?_⟩, ?_⟩
      case h => simp [results, Tryz.results46, go_sem, *]
      · have h1 := (hF.out.1 _ HR.out).ext xb8
        rw [HV.out] at h1
        refine h1.set _ (fun q hq => ?_)
        have := hF.out.2 q hq
        cases this
        simp; omega
      · intro q hq
        have := hF.out.2 q hq
        cases this
        simp; omega
      · exact ext_setCell (ext_trans hw2' (ext_trans hext' xb8)) (show w.heap.size ≤ w.heap.size + 1 + 1 by omega) _
end Go.Proofs.YtbgimjfeigeicaaGreatDoor
