/- The document reads digits. -/
import Derived.Test.YtbgimjfeigeicaaGreatDoorRows
import Derived.Test.YtbgimjfeigeicaaGreatDoorSl
import Derived.Test.YtbgimjfeigeicaaGreatDoorStr
import Derived.Test.YtbgimjfeigeicaaGreatDoorNatW
import Derived.Test.YtbgimjfeigeicaaGreatDoorDecA
import Derived.Test.YtbgimjfeigeicaaGreatDoorDigP
namespace Go.Proofs.YtbgimjfeigeicaaGreatDoor
open Go.RowKit
attribute [local go_sem] bs_size bs_extract bs_get bs_append bs_toList const_get
attribute [local go_sem] sz2 sz3 sz4 sz5 sz6 sz7 sz8
set_option maxHeartbeats 4000000
set_option maxRecDepth 100000
theorem dval_len (l : List UInt8) (h : digsB l = true) : (lim (dval l)).length ≤ l.length := by
  refine lim_le (Nat.lt_of_lt_of_le (dval_lt l h) ?_)
  exact Nat.pow_le_pow_left (by decide) _
attribute [local irreducible] Calls
theorem lim_one {T : Nat} (h0 : 0 < T) (h : T < Bs) : lim T = [T] := by
  rw [lim_pos (by omega), Nat.mod_eq_of_lt h, Nat.div_eq_of_lt h, lim_zero]
theorem times_nat (A B : Option Addr) (n c m d a b : Nat) (hn : n ≤ 1000000) (hm : m ≤ 1000000) (w : World) (hA : Rd w A n c (lim a)) (hB : Rd w B m d (lim b)) :
    Calls Tryz.prog 107 #[.slice A n c, .slice B m d] w fun e w' => ∃ (A' : Option Addr) (k c' : Nat), e = .returned (.slice A' k c') ∧ Hid (Rd w' A' k c' (lim (a * b)) ∧ Fr w A') ∧ Ext w w' := by
  refine (times_any A B n c m d _ _ hn hm w hA hB).mono ?_
  rintro e w' ⟨A', k, c', he, h1, h2, h3⟩
  rw [val_lim, val_lim] at h1
  exact ⟨A', k, c', he, ⟨h1, h2⟩, h3⟩
theorem plus_nat (A B : Option Addr) (n c m d a b : Nat) (hn : n ≤ 1000000) (hm : m ≤ 1000000) (w : World) (hA : Rd w A n c (lim a)) (hB : Rd w B m d (lim b)) :
    Calls Tryz.prog 98 #[.slice A n c, .slice B m d] w fun e w' => ∃ (A' : Option Addr) (k c' : Nat), e = .returned (.slice A' k c') ∧ Hid (Rd w' A' k c' (lim (a + b)) ∧ Fr w A') ∧ Ext w w' := by
  refine (plus_any A B n c m d _ _ hn hm w hA hB).mono ?_
  rintro e w' ⟨A', c', zs, he, h1, h2, h3, h4, h5, h6⟩
  rw [val_lim, val_lim] at h5
  have := plus_lim (a := a) (b := b) h1.lb hA.len.symm hB.len.symm h5 h6
  refine ⟨A', _, c', he, ⟨?_, h2⟩, h3⟩
  rw [← this]
  exact h1
theorem trim_one (N : Nat) (hN : N < Bs) (w : World) : Calls Tryz.prog 137 #[.slice (some ⟨w.heap.size, 0, none⟩) 1 1] (w.alloc (Obj.cells #[.int .u32 (N : Int)] 85)) fun e w' =>
    ∃ k : Nat, e = .returned (.slice (some ⟨w.heap.size, 0, none⟩) k 1) ∧ Hid (k ≤ 1 ∧ Rd (w.alloc (Obj.cells #[.int .u32 (N : Int)] 85)) (some ⟨w.heap.size, 0, none⟩) k 1 (lim N)) ∧ w.alloc (Obj.cells #[.int .u32 (N : Int)] 85) = w' := by
  have hlb : Lb [N] := by intro x hx; simp at hx; rw [hx]; exact hN
  refine (trim_any _ 1 1 [N] _ (Rd.made w _ _ _ hlb (by simp [u32V]) (by simp) rfl rfl)).mono ?_
  rintro e w' ⟨k, he, h1, h2⟩
  rw [trimZ_lim _ hlb, show val [N] = N by simp [val]] at h1
  exact ⟨k, he, ⟨h1.cap, h1⟩, h2⟩
theorem dval_take_add (l : List UInt8) (i j : Nat) (h : i + j ≤ l.length) : dval (l.take i) * 10 ^ j + dval ((l.drop i).take j) = dval (l.take (i + j)) := by
  rw [List.take_add, dval_append, List.length_take, List.length_drop, Nat.min_eq_left (by omega)]
theorem parse_any (l : List UInt8) (hd : digsB l = true) (h0 : 0 < l.length) (hl : l.length ≤ 65536) (w : World) :
    Calls Tryz.prog 94 #[.string (bs l)] w fun e w' => ∃ (A : Option Addr) (k c : Nat), e = .returned (.tuple #[natV A k c, .int .i64 0, .int .i64 0]) ∧ Rd w' A k c (lim (dval l)) ∧ Fr w A ∧ Ext w w' := by
  have HD := Lib.hid hd
  clear hd
  go_enter Tryz.func94, Tryz.ntmps94
  go_wp2
  go_loop [5] (fun v => ∃ k : Nat, k ≤ l.length ∧ v = .int .i64 k) (fun v => l.length - (intOf v).toNat)
  case atStart => exact ⟨0, Nat.zero_le _, rfl⟩
  case round =>
    obtain ⟨k, hk, rfl⟩ := hrel
    by_cases hlt : k < l.length
    · obtain ⟨hb1, hb2⟩ := digs_at HD.out k hlt
      go_wp2
      go_round
      case rel => exact ⟨k + 1, by omega, by go_num⟩
      case measure => simp [intOf]; omega
    · obtain rfl : k = l.length := by omega
      clear hk hlt
      go_wp2
      have h64 : l.length ≤ 65536 := hl
      go_loopw [6, 7] (fun vo vi wr => ∃ (A : Option Addr) (k c i : Nat), i ≤ l.length ∧ vi = .int .i64 (i : Int) ∧ vo = .slice A k c ∧ Hid (Rd wr A k c (lim (dval (l.take i))) ∧ Fr (w.alloc (Obj.cells #[Value.slice none 0 0] 46)) A) ∧ Hid (Ext (w.alloc (Obj.cells #[Value.slice none 0 0] 46)) wr))
        (fun _ vi _ => l.length - (intOf vi).toNat)
      case atStart =>
        refine ⟨none, 0, 0, 0, Nat.zero_le _, rfl, rfl, ⟨?_, (fun a ha => by cases ha)⟩, ext_refl _⟩
        rw [List.take_zero, show dval [] = 0 from rfl, lim_zero]
        exact Rd.nil _
      case round =>
        obtain ⟨A, k, c, i, hi, rfl, rfl, hR, hext⟩ := hrel
        have hk : k ≤ 65536 := by
          have h1 := hR.out.1.len
          have h2 := dval_len _ (digs_take HD.out i)
          rw [List.length_take] at h2
          omega
        have hkc := hR.out.1.cap
        have hcm := hR.out.1.mx
        obtain ⟨xc, xf, xl, xz⟩ := ext_use hext.out
        have y := (xc w.heap.size 0 (by simp)).trans (World.cell?_alloc_at _ _ _ _ rfl)
        have yf := (xf w.heap.size 0 (by simp)).trans (World.frozen?_alloc_at _ _ _ _ rfl)
        have yl := xl w.heap.size (by simp)
        simp at y yf
        clear xc xf xl xz
        by_cases hlt : i < l.length
        · go_wp2
          go_loop [7, 8, 9, 10] (fun vi vn vt vk => ∃ j N T : Nat, j ≤ 9 ∧ i + j ≤ l.length ∧ vk = .int .i64 (j : Int) ∧ vi = .int .i64 ((i + j : Nat) : Int) ∧ vn = .int .u32 (N : Int) ∧ vt = .int .u32 (T : Int) ∧ Hid (N = dval ((l.drop i).take j) ∧ T = 10 ^ j) ∧ N < T ∧ T ≤ 1000000000 ∧ (j < 9 → T ≤ 100000000)) (fun _ _ _ vk => 9 - (intOf vk).toNat)
          case atStart => exact ⟨0, 0, 1, by omega, by omega, rfl, by simp, rfl, rfl, ⟨rfl, rfl⟩, by omega, by omega, by omega⟩
          case round =>
            obtain ⟨j, N, T, hj, hij, rfl, rfl, rfl, rfl, hNT, hN1, hT1, hT2⟩ := hrel
            by_cases hgo : j < 9 ∧ i + j < l.length
            · obtain ⟨hb1, hb2⟩ := digs_at HD.out (i + j) hgo.2
              have hT3 := hT2 hgo.1
              go_wp2
              go_round
              case rel =>
                have e1 : (l.drop i).take (j + 1) = (l.drop i).take j ++ [l[i + j]] := by
                  rw [List.take_succ_eq_append_getElem (by rw [List.length_drop]; omega), List.getElem_drop]
                have e2 : 10 ^ (j + 1) ≤ 1000000000 := Nat.le_trans (Nat.pow_le_pow_right (by decide) (show j + 1 ≤ 9 by omega)) (by decide)
                have e3 : j + 1 < 9 → 10 ^ (j + 1) ≤ 100000000 := fun h => Nat.le_trans (Nat.pow_le_pow_right (by decide) (show j + 1 ≤ 8 by omega)) (by decide)
                have e4 : 10 ^ (j + 1) = 10 * T := by rw [hNT.out.2, Nat.pow_succ]; omega
                refine ⟨j + 1, 10 * N + (l[i + j].toNat - 48), 10 * T, by omega, by omega, by go_num, by go_num, by go_num, by go_num, ⟨?_, e4.symm⟩, by omega, by omega, fun h => ?_⟩
                · rw [e1, dval_snoc, hNT.out.1]
                · have := e3 h; omega
              case measure => simp [intOf]; omega
            · have hTb : T < Bs := by unfold Bs; omega
              have hNb : N < Bs := by unfold Bs; omega
              have hv := hNT.out
              have hT0 : 0 < T := by omega
              have ht1 : Calls Tryz.prog 107 #[.slice A k c, .slice (some ⟨wr.heap.size, 0, none⟩) 1 1] (wr.alloc (Obj.cells #[.int .u32 (T : Int)] 85)) fun e w' => ∃ (A' : Option Addr) (k' c' : Nat), e = .returned (.slice A' k' c') ∧ Hid (Rd w' A' k' c' (lim (dval (l.take i) * T)) ∧ Fr (wr.alloc (Obj.cells #[.int .u32 (T : Int)] 85)) A') ∧ Ext (wr.alloc (Obj.cells #[.int .u32 (T : Int)] 85)) w' :=
                times_nat A _ k c 1 1 _ T (by omega) (by omega) _ (hR.out.1.ext (ext_alloc (ext_refl _) _)) (by rw [lim_one hT0 hTb]; exact Rd.made wr _ _ _ (by intro x hx; simp at hx; rw [hx]; exact hTb) (by simp [u32V]) (by simp) rfl rfl)
              have hsum : dval (l.take i) * T + N = dval (l.take (i + j)) := by rw [hv.1, hv.2]; exact dval_take_add l i j hij
              have hk1 : ∀ (A1 : Option Addr) (k1 c1 : Nat) (w1 : World), Rd w1 A1 k1 c1 (lim (dval (l.take i) * T)) → k1 ≤ 65536 := fun A1 k1 c1 w1 h => by
                have h1 := h.len
                have h2 := dval_len _ (digs_take HD.out (i + j))
                have h3 : (lim (dval (l.take i) * T)).length ≤ (lim (dval (l.take (i + j)))).length := lim_mono (by omega)
                rw [List.length_take] at h2
                omega
              have HS := Lib.hid hsum
              have HK := Lib.hid hk1
              clear hsum hk1 hv hNT hTb
              go_wp2_with (first
                | (go_at_call 107; (with_reducible refine (ht1).mono ?_); rintro e w1 ⟨A1, k1, c1, rfl, hR1, xb1⟩; obtain ⟨xc1, xf1, xl1, xz1⟩ := ext_use xb1; (try simp at xz1); have l1_0 := xl1 (w.heap.size) (by first | omega | (simp; try omega)); have r1_0 := xc1 (w.heap.size) 0 (by first | omega | (simp; try omega)); have f1_0 := xf1 (w.heap.size) 0 (by first | omega | (simp; try omega)))
                | (go_at_call 137; (with_reducible refine (trim_one N hNb _).mono ?_); rintro e w2 ⟨k2, rfl, hR2, rfl⟩)
                | (go_at_call 98; (with_reducible refine (plus_nat A1 _ k1 c1 k2 1 _ N (by have := HK.out _ _ _ _ hR1.out.1; omega) (by have := hR2.out.1; omega) _ (hR1.out.1.ext (ext_alloc (ext_refl _) _)) hR2.out.2).mono ?_); rintro e w3 ⟨A3, k3, c3, rfl, hR3, xb3⟩; obtain ⟨xc3, xf3, xl3, xz3⟩ := ext_use xb3; (try simp at xz3))
               )
              all_goals
                have hext' := hext.out
                refine ⟨⟨A3, k3, c3, i + j, hij, by simp, rfl, ⟨by rw [← HS.out]; exact hR3.out.1, hR3.out.2.mono (by (repeat (first | exact ext_refl _ | assumption | refine ext_setCell ?_ (by simp; try omega) _ | refine ext_alloc ?_ _ | refine ext_drew ?_ | refine ext_drewN ?_ _ | refine ext_trans ?_ (Aft.use _) | refine ext_trans ?_ (by assumption))))⟩, (show Ext _ _ by (repeat (first | exact ext_refl _ | assumption | refine ext_setCell ?_ (by simp; try omega) _ | refine ext_alloc ?_ _ | refine ext_drew ?_ | refine ext_drewN ?_ _ | refine ext_trans ?_ (Aft.use _) | refine ext_trans ?_ (by assumption))))⟩, ?_⟩
                simp [intOf]; omega
        · obtain rfl : i = l.length := by omega
          have hR' := hR.out
          rw [List.take_length] at hR'
          have HR := Lib.hid hR'
          clear hR hR' hlt hi
          go_wp2_with (first
            | (go_at_call 99; (with_reducible refine (nat_any A k c _).mono ?_); rintro e w' ⟨rfl, xb⟩; obtain ⟨xc, xf, xl, xz⟩ := ext_use xb; (try simp at xz))
           )
          have y2 := (xc w.heap.size 0 yl).trans y
          refine bodyPost_ret (v := .tuple #[natV A k c, .int .i64 0, .int .i64 0]) ?h rfl ⟨A, k, c, rfl, ?_, ?_, ?_⟩
          case h => simp [results, Tryz.results94, go_sem, y2]
          · exact (HR.out.1.ext xb).set _ (fun a ha => by have := HR.out.2 a ha; simp at this ⊢; omega)
          · exact fun a ha => by have := HR.out.2 a ha; simp at this; omega
          · have hext' := hext.out
            refine ext_setCell (ext_trans ?_ xb) (by simp) _
            refine ext_trans ?_ hext'
            exact ext_alloc (ext_refl _) _
end Go.Proofs.YtbgimjfeigeicaaGreatDoor
