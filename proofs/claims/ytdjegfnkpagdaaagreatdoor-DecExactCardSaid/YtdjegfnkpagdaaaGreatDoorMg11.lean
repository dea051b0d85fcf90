/- Lemmas of this proof, laid together: DecF, DecL, BigD. -/
import Derived.Test.YtdjegfnkpagdaaaGreatDoorMg08
import Derived.Test.YtdjegfnkpagdaaaGreatDoorMg10
import Derived.Maps.AppendAt
set_option linter.unusedSimpArgs false
set_option linter.unusedVariables false
section
/- The program's cut. -/
namespace Go.Proofs.YtdjegfnkpagdaaaGreatDoor
open Go.RowKit
attribute [local go_sem] bs_size bs_extract bs_get bs_append bs_toList const_get
attribute [local go_sem] sz2 sz3 sz4 sz5 sz6 sz7 sz8
set_option maxHeartbeats 4000000
set_option maxRecDepth 100000
attribute [local irreducible] Calls
/-- Is what is cut (k digits stay; k below 0: a place ahead of all digits) rounded away from nought? -/
def upB (neg : Bool) (l : List UInt8) (k : Int) (mode : Nat) : Bool :=
  if mode = 0 then decide (0 ≤ k) && decide (53 ≤ (l.getD k.toNat 0).toNat) && (!decide (l.drop k.toNat = [53]) || (decide (0 < k) && decide ((l.getD (k.toNat - 1) 0).toNat % 2 = 1)))
  else if mode = 1 then decide (0 ≤ k) && decide (53 ≤ (l.getD k.toNat 0).toNat)
  else if mode = 3 then !neg else if mode = 4 then neg else false
def cutL (neg : Bool) (l : List UInt8) (k : Int) (mode : Nat) : List UInt8 := if upB neg l k mode = true then nx (l.take k.toNat) else l.take k.toNat
theorem nx_len (l : List UInt8) (h : digsB l = true) : (nx l).length ≤ l.length + 1 := by
  unfold nx
  refine digs_len ?_
  have := dval_lt l h
  rw [Nat.pow_succ]
  omega
/-- How a cut goes (x: the first digit that is cut, t: those behind it, y: the last one that stays). -/
theorem cut_cases (neg : Bool) (l : List UInt8) (j mode : Nat) (x y : UInt8) (t H : List UInt8) (hm : mode ≤ 4) (ht : l.drop j = x :: t) (hH : l.take j = H) (hy : l.getD (j - 1) 0 = y) :
    (mode = 0 ∧ x.toNat < 53 ∧ cutL neg l j mode = H) ∨ (mode = 0 ∧ 53 ≤ x.toNat ∧ ¬ (x = 53 ∧ t = []) ∧ cutL neg l j mode = nx H) ∨
    (mode = 0 ∧ (x = 53 ∧ t = []) ∧ (0 < j ∧ y.toNat % 2 = 1) ∧ cutL neg l j mode = nx H) ∨ (mode = 0 ∧ (x = 53 ∧ t = []) ∧ (j = 0 ∨ y.toNat % 2 = 0) ∧ cutL neg l j mode = H) ∨
    (mode = 1 ∧ x.toNat < 53 ∧ cutL neg l j mode = H) ∨ (mode = 1 ∧ 53 ≤ x.toNat ∧ cutL neg l j mode = nx H) ∨ (mode = 2 ∧ cutL neg l j mode = H) ∨
    (mode = 3 ∧ neg = false ∧ cutL neg l j mode = nx H) ∨ (mode = 3 ∧ neg = true ∧ cutL neg l j mode = H) ∨ (mode = 4 ∧ neg = true ∧ cutL neg l j mode = nx H) ∨ (mode = 4 ∧ neg = false ∧ cutL neg l j mode = H) := by
  have hx : l.getD j 0 = x := by
    have h1 : j < l.length := by
      have := congrArg List.length ht
      simp at this; omega
    rw [List.drop_eq_getElem_cons h1] at ht
    rw [getD_eq h1]
    exact (List.cons.inj ht).1
  unfold cutL upB
  simp only [Int.toNat_natCast, hH, hx, ht, hy]
  have hc : x :: t = [53] ↔ (x = 53 ∧ t = []) := by simp
  rcases (show mode = 0 ∨ mode = 1 ∨ mode = 2 ∨ mode = 3 ∨ mode = 4 by omega) with rfl | rfl | rfl | rfl | rfl
  · by_cases h5 : 53 ≤ x.toNat
    · by_cases h6 : x = 53 ∧ t = []
      · by_cases h7 : 0 < j ∧ y.toNat % 2 = 1
        · refine .inr (.inr (.inl ⟨rfl, h6, h7, ?_⟩))
          simp [h5, hc.2 h6, h7.1, h7.2]
        · refine .inr (.inr (.inr (.inl ⟨rfl, h6, by omega, ?_⟩)))
          simp [h5, hc.2 h6]
          intro a b; exact absurd ⟨a, b⟩ h7
      · refine .inr (.inl ⟨rfl, h5, h6, ?_⟩)
        simp [h5, hc, h6]
    · refine .inl ⟨rfl, by omega, ?_⟩
      simp [h5]
  · by_cases h5 : 53 ≤ x.toNat
    · refine .inr (.inr (.inr (.inr (.inr (.inl ⟨rfl, h5, ?_⟩)))))
      simp [h5]
    · refine .inr (.inr (.inr (.inr (.inl ⟨rfl, by omega, ?_⟩))))
      simp [h5]
  · refine .inr (.inr (.inr (.inr (.inr (.inr (.inl ⟨rfl, ?_⟩))))))
    simp
  · cases neg
    · refine .inr (.inr (.inr (.inr (.inr (.inr (.inr (.inl ⟨rfl, rfl, ?_⟩)))))))
      simp
    · refine .inr (.inr (.inr (.inr (.inr (.inr (.inr (.inr (.inl ⟨rfl, rfl, ?_⟩))))))))
      simp
  · cases neg
    · refine .inr (.inr (.inr (.inr (.inr (.inr (.inr (.inr (.inr (.inr ⟨rfl, rfl, ?_⟩)))))))))
      simp
    · refine .inr (.inr (.inr (.inr (.inr (.inr (.inr (.inr (.inr (.inl ⟨rfl, rfl, ?_⟩)))))))))
      simp
theorem odd_bits (y : UInt8) : (bits BinOp.and IntKind.u8 (y.toNat : Int) 1 == 1) = decide (y.toNat % 2 = 1) := by
  have h : ∀ n : Fin 256, (bits BinOp.and IntKind.u8 ((n.val : Nat) : Int) 1 == 1) = decide (n.val % 2 = 1) := by decide
  exact h ⟨y.toNat, y.toNat_lt⟩
theorem lead_take {l : List UInt8} (h : lead l) (j : Nat) : lead (l.take j) := by
  intro y hy
  refine h y ?_
  rw [List.head?_take] at hy
  split at hy
  · cases hy
  · exact hy
theorem cut_pos (neg : Bool) (l : List UInt8) (exp n : Int) (j mode : Nat) (hok : Ok ⟨neg, l, exp⟩) (hm : mode ≤ 4) (hn : -4294967296 ≤ n ∧ n ≤ 4294967296) (hkk : (l.length : Int) - n + exp = (j : Int)) (hjl : j < l.length) (hjp : 0 < j) (w : World) :
    Calls Tryz.prog 49 #[dcV ⟨neg, l, exp⟩, .int .i64 n, .int .u8 (mode : Int)] w fun e w' => e = .returned (.tuple #[dcV (mkD neg (cutL neg l j mode) n), .int .i64 (mkE (cutL neg l j mode) n)]) ∧ Ext w w' := by
  obtain ⟨hl, hpos, hd, hld, he1, he2⟩ := hok
  simp only at hl hpos hd hld he1 he2
  obtain ⟨x, hxe⟩ : ∃ x, l[j] = x := ⟨_, rfl⟩
  obtain ⟨t, ht⟩ : ∃ t, l.drop j = x :: t := ⟨l.drop (j + 1), by rw [← hxe]; exact List.drop_eq_getElem_cons hjl⟩
  obtain ⟨H, hH⟩ : ∃ H, l.take j = H := ⟨_, rfl⟩
  obtain ⟨y, hy⟩ : ∃ y, l.getD (j - 1) 0 = y := ⟨_, rfl⟩
  have hHl : H.length = j := by rw [← hH, List.length_take]; omega
  have HDH : Hid (digsB H = true) := Lib.hid (by rw [← hH]; exact digs_take hd j)
  have HLH : Hid (lead H) := Lib.hid (by rw [← hH]; exact lead_take hld j)
  have hnl := nx_len H HDH.out
  have hyH : H[j - 1]'(by omega) = y := by
    rw [← hy, getD_eq (by omega)]
    simp only [← hH, List.getElem_take]
  have hHne : ¬ H = [] := by intro e; rw [e] at hHl; simp at hHl; omega
  have hHem : (!H.isEmpty) = true := by simp [hHne]
  have hcs := cut_cases neg l j mode x y t H hm ht hH hy
  clear hd hld hxe hy
  rcases hcs with ⟨rfl, h5, E⟩ | ⟨rfl, h5, h6, E⟩ | ⟨rfl, h6, h7, E⟩ | ⟨rfl, h6, h7, E⟩ | ⟨rfl, h5, E⟩ | ⟨rfl, h5, E⟩ | ⟨rfl, E⟩ | ⟨rfl, rfl, E⟩ | ⟨rfl, rfl, E⟩ | ⟨rfl, rfl, E⟩ | ⟨rfl, rfl, E⟩
  all_goals rw [E]
  all_goals clear E
  · skip
    go_enter Tryz.func49, Tryz.ntmps49
    go_wp2
    go_quiet (fail)
    go_wp2_with (first
      | (go_at_call 86; (with_reducible refine (next_any H HDH.out HLH.out (by omega) _).mono ?_); rintro e w1 ⟨rfl, xb1⟩; obtain ⟨xc1, xf1, xl1, xz1⟩ := ext_use xb1; (try simp at xz1); have l1_0 := xl1 (w.heap.size) (by first | omega | (simp; try omega)); have r1_0 := xc1 (w.heap.size) 0 (by first | omega | (simp; try omega)); have f1_0 := xf1 (w.heap.size) 0 (by first | omega | (simp; try omega)); have l1_1 := xl1 (w.heap.size + 1) (by first | omega | (simp; try omega)); have r1_1 := xc1 (w.heap.size + 1) 0 (by first | omega | (simp; try omega)); have f1_1 := xf1 (w.heap.size + 1) 0 (by first | omega | (simp; try omega)); have r1_1_1 := xc1 (w.heap.size + 1) 1 (by first | omega | (simp; try omega)); have f1_1_1 := xf1 (w.heap.size + 1) 1 (by first | omega | (simp; try omega)); have r1_1_2 := xc1 (w.heap.size + 1) 2 (by first | omega | (simp; try omega)); have f1_1_2 := xf1 (w.heap.size + 1) 2 (by first | omega | (simp; try omega)))
      | (go_at_call 35; (with_reducible refine (make_any _ _ _ (by omega) _).mono ?_); rintro e w2 ⟨rfl, xb2⟩; obtain ⟨xc2, xf2, xl2, xz2⟩ := ext_use xb2; (try simp at xz2); have l2_0 := xl2 (w.heap.size + 1) (by first | omega | (simp; try omega)); have r2_0 := xc2 (w.heap.size + 1) 0 (by first | omega | (simp; try omega)); have f2_0 := xf2 (w.heap.size + 1) 0 (by first | omega | (simp; try omega)); have r2_0_1 := xc2 (w.heap.size + 1) 1 (by first | omega | (simp; try omega)); have f2_0_1 := xf2 (w.heap.size + 1) 1 (by first | omega | (simp; try omega)); have r2_0_2 := xc2 (w.heap.size + 1) 2 (by first | omega | (simp; try omega)); have f2_0_2 := xf2 (w.heap.size + 1) 2 (by first | omega | (simp; try omega)))
     )
    all_goals
      refine bodyPost_ret (v := .tuple #[dcV (mkD neg H n), .int .i64 (mkE H n)]) ?h rfl ⟨rfl, ?_⟩
      case h => simp [results, Tryz.results49, go_sem, *]
      repeat (first | exact ext_refl _ | assumption | refine ext_setCell ?_ (by simp; try omega) _ | refine ext_alloc ?_ _ | refine ext_drew ?_ | refine ext_drewN ?_ _ | refine ext_trans ?_ (Aft.use _) | refine ext_trans ?_ (by assumption))
  · skip
    go_enter Tryz.func49, Tryz.ntmps49
    go_wp2
    go_quiet (fail)
    go_wp2_with (first
      | (go_at_call 86; (with_reducible refine (next_any H HDH.out HLH.out (by omega) _).mono ?_); rintro e w1 ⟨rfl, xb1⟩; obtain ⟨xc1, xf1, xl1, xz1⟩ := ext_use xb1; (try simp at xz1); have l1_0 := xl1 (w.heap.size) (by first | omega | (simp; try omega)); have r1_0 := xc1 (w.heap.size) 0 (by first | omega | (simp; try omega)); have f1_0 := xf1 (w.heap.size) 0 (by first | omega | (simp; try omega)); have l1_1 := xl1 (w.heap.size + 1) (by first | omega | (simp; try omega)); have r1_1 := xc1 (w.heap.size + 1) 0 (by first | omega | (simp; try omega)); have f1_1 := xf1 (w.heap.size + 1) 0 (by first | omega | (simp; try omega)); have r1_1_1 := xc1 (w.heap.size + 1) 1 (by first | omega | (simp; try omega)); have f1_1_1 := xf1 (w.heap.size + 1) 1 (by first | omega | (simp; try omega)); have r1_1_2 := xc1 (w.heap.size + 1) 2 (by first | omega | (simp; try omega)); have f1_1_2 := xf1 (w.heap.size + 1) 2 (by first | omega | (simp; try omega)))
      | (go_at_call 35; (with_reducible refine (make_any _ _ _ (by omega) _).mono ?_); rintro e w2 ⟨rfl, xb2⟩; obtain ⟨xc2, xf2, xl2, xz2⟩ := ext_use xb2; (try simp at xz2); have l2_0 := xl2 (w.heap.size + 1) (by first | omega | (simp; try omega)); have r2_0 := xc2 (w.heap.size + 1) 0 (by first | omega | (simp; try omega)); have f2_0 := xf2 (w.heap.size + 1) 0 (by first | omega | (simp; try omega)); have r2_0_1 := xc2 (w.heap.size + 1) 1 (by first | omega | (simp; try omega)); have f2_0_1 := xf2 (w.heap.size + 1) 1 (by first | omega | (simp; try omega)); have r2_0_2 := xc2 (w.heap.size + 1) 2 (by first | omega | (simp; try omega)); have f2_0_2 := xf2 (w.heap.size + 1) 2 (by first | omega | (simp; try omega)))
     )
    all_goals
      refine bodyPost_ret (v := .tuple #[dcV (mkD neg (nx H) n), .int .i64 (mkE (nx H) n)]) ?h rfl ⟨rfl, ?_⟩
      case h => simp [results, Tryz.results49, go_sem, *]
      repeat (first | exact ext_refl _ | assumption | refine ext_setCell ?_ (by simp; try omega) _ | refine ext_alloc ?_ _ | refine ext_drew ?_ | refine ext_drewN ?_ _ | refine ext_trans ?_ (Aft.use _) | refine ext_trans ?_ (by assumption))
  · skip
    have hb : (bits BinOp.and IntKind.u8 (y.toNat : Int) 1 == 1) = true := by rw [odd_bits, h7.2]; rfl
    obtain ⟨rfl, rfl⟩ := h6
    clear h7
    go_enter Tryz.func49, Tryz.ntmps49
    go_wp2
    go_quiet (fail)
    go_wp2_with (first
      | (go_at_call 86; (with_reducible refine (next_any H HDH.out HLH.out (by omega) _).mono ?_); rintro e w1 ⟨rfl, xb1⟩; obtain ⟨xc1, xf1, xl1, xz1⟩ := ext_use xb1; (try simp at xz1); have l1_0 := xl1 (w.heap.size) (by first | omega | (simp; try omega)); have r1_0 := xc1 (w.heap.size) 0 (by first | omega | (simp; try omega)); have f1_0 := xf1 (w.heap.size) 0 (by first | omega | (simp; try omega)); have l1_1 := xl1 (w.heap.size + 1) (by first | omega | (simp; try omega)); have r1_1 := xc1 (w.heap.size + 1) 0 (by first | omega | (simp; try omega)); have f1_1 := xf1 (w.heap.size + 1) 0 (by first | omega | (simp; try omega)); have r1_1_1 := xc1 (w.heap.size + 1) 1 (by first | omega | (simp; try omega)); have f1_1_1 := xf1 (w.heap.size + 1) 1 (by first | omega | (simp; try omega)); have r1_1_2 := xc1 (w.heap.size + 1) 2 (by first | omega | (simp; try omega)); have f1_1_2 := xf1 (w.heap.size + 1) 2 (by first | omega | (simp; try omega)))
      | (go_at_call 35; (with_reducible refine (make_any _ _ _ (by omega) _).mono ?_); rintro e w2 ⟨rfl, xb2⟩; obtain ⟨xc2, xf2, xl2, xz2⟩ := ext_use xb2; (try simp at xz2); have l2_0 := xl2 (w.heap.size + 1) (by first | omega | (simp; try omega)); have r2_0 := xc2 (w.heap.size + 1) 0 (by first | omega | (simp; try omega)); have f2_0 := xf2 (w.heap.size + 1) 0 (by first | omega | (simp; try omega)); have r2_0_1 := xc2 (w.heap.size + 1) 1 (by first | omega | (simp; try omega)); have f2_0_1 := xf2 (w.heap.size + 1) 1 (by first | omega | (simp; try omega)); have r2_0_2 := xc2 (w.heap.size + 1) 2 (by first | omega | (simp; try omega)); have f2_0_2 := xf2 (w.heap.size + 1) 2 (by first | omega | (simp; try omega)))
     )
    all_goals
      refine bodyPost_ret (v := .tuple #[dcV (mkD neg (nx H) n), .int .i64 (mkE (nx H) n)]) ?h rfl ⟨rfl, ?_⟩
      case h => simp [results, Tryz.results49, go_sem, *]
      repeat (first | exact ext_refl _ | assumption | refine ext_setCell ?_ (by simp; try omega) _ | refine ext_alloc ?_ _ | refine ext_drew ?_ | refine ext_drewN ?_ _ | refine ext_trans ?_ (Aft.use _) | refine ext_trans ?_ (by assumption))
  · skip
    have hb : (bits BinOp.and IntKind.u8 (y.toNat : Int) 1 == 1) = false := by rw [odd_bits, decide_eq_false_iff_not]; omega
    obtain ⟨rfl, rfl⟩ := h6
    clear h7
    go_enter Tryz.func49, Tryz.ntmps49
    go_wp2
    go_quiet (fail)
    go_wp2_with (first
      | (go_at_call 86; (with_reducible refine (next_any H HDH.out HLH.out (by omega) _).mono ?_); rintro e w1 ⟨rfl, xb1⟩; obtain ⟨xc1, xf1, xl1, xz1⟩ := ext_use xb1; (try simp at xz1); have l1_0 := xl1 (w.heap.size) (by first | omega | (simp; try omega)); have r1_0 := xc1 (w.heap.size) 0 (by first | omega | (simp; try omega)); have f1_0 := xf1 (w.heap.size) 0 (by first | omega | (simp; try omega)); have l1_1 := xl1 (w.heap.size + 1) (by first | omega | (simp; try omega)); have r1_1 := xc1 (w.heap.size + 1) 0 (by first | omega | (simp; try omega)); have f1_1 := xf1 (w.heap.size + 1) 0 (by first | omega | (simp; try omega)); have r1_1_1 := xc1 (w.heap.size + 1) 1 (by first | omega | (simp; try omega)); have f1_1_1 := xf1 (w.heap.size + 1) 1 (by first | omega | (simp; try omega)); have r1_1_2 := xc1 (w.heap.size + 1) 2 (by first | omega | (simp; try omega)); have f1_1_2 := xf1 (w.heap.size + 1) 2 (by first | omega | (simp; try omega)))
      | (go_at_call 35; (with_reducible refine (make_any _ _ _ (by omega) _).mono ?_); rintro e w2 ⟨rfl, xb2⟩; obtain ⟨xc2, xf2, xl2, xz2⟩ := ext_use xb2; (try simp at xz2); have l2_0 := xl2 (w.heap.size + 1) (by first | omega | (simp; try omega)); have r2_0 := xc2 (w.heap.size + 1) 0 (by first | omega | (simp; try omega)); have f2_0 := xf2 (w.heap.size + 1) 0 (by first | omega | (simp; try omega)); have r2_0_1 := xc2 (w.heap.size + 1) 1 (by first | omega | (simp; try omega)); have f2_0_1 := xf2 (w.heap.size + 1) 1 (by first | omega | (simp; try omega)); have r2_0_2 := xc2 (w.heap.size + 1) 2 (by first | omega | (simp; try omega)); have f2_0_2 := xf2 (w.heap.size + 1) 2 (by first | omega | (simp; try omega)))
     )
    all_goals
      refine bodyPost_ret (v := .tuple #[dcV (mkD neg H n), .int .i64 (mkE H n)]) ?h rfl ⟨rfl, ?_⟩
      case h => simp [results, Tryz.results49, go_sem, *]
      repeat (first | exact ext_refl _ | assumption | refine ext_setCell ?_ (by simp; try omega) _ | refine ext_alloc ?_ _ | refine ext_drew ?_ | refine ext_drewN ?_ _ | refine ext_trans ?_ (Aft.use _) | refine ext_trans ?_ (by assumption))
  · skip
    go_enter Tryz.func49, Tryz.ntmps49
    go_wp2
    go_quiet (fail)
    go_wp2_with (first
      | (go_at_call 86; (with_reducible refine (next_any H HDH.out HLH.out (by omega) _).mono ?_); rintro e w1 ⟨rfl, xb1⟩; obtain ⟨xc1, xf1, xl1, xz1⟩ := ext_use xb1; (try simp at xz1); have l1_0 := xl1 (w.heap.size) (by first | omega | (simp; try omega)); have r1_0 := xc1 (w.heap.size) 0 (by first | omega | (simp; try omega)); have f1_0 := xf1 (w.heap.size) 0 (by first | omega | (simp; try omega)); have l1_1 := xl1 (w.heap.size + 1) (by first | omega | (simp; try omega)); have r1_1 := xc1 (w.heap.size + 1) 0 (by first | omega | (simp; try omega)); have f1_1 := xf1 (w.heap.size + 1) 0 (by first | omega | (simp; try omega)); have r1_1_1 := xc1 (w.heap.size + 1) 1 (by first | omega | (simp; try omega)); have f1_1_1 := xf1 (w.heap.size + 1) 1 (by first | omega | (simp; try omega)); have r1_1_2 := xc1 (w.heap.size + 1) 2 (by first | omega | (simp; try omega)); have f1_1_2 := xf1 (w.heap.size + 1) 2 (by first | omega | (simp; try omega)))
      | (go_at_call 35; (with_reducible refine (make_any _ _ _ (by omega) _).mono ?_); rintro e w2 ⟨rfl, xb2⟩; obtain ⟨xc2, xf2, xl2, xz2⟩ := ext_use xb2; (try simp at xz2); have l2_0 := xl2 (w.heap.size + 1) (by first | omega | (simp; try omega)); have r2_0 := xc2 (w.heap.size + 1) 0 (by first | omega | (simp; try omega)); have f2_0 := xf2 (w.heap.size + 1) 0 (by first | omega | (simp; try omega)); have r2_0_1 := xc2 (w.heap.size + 1) 1 (by first | omega | (simp; try omega)); have f2_0_1 := xf2 (w.heap.size + 1) 1 (by first | omega | (simp; try omega)); have r2_0_2 := xc2 (w.heap.size + 1) 2 (by first | omega | (simp; try omega)); have f2_0_2 := xf2 (w.heap.size + 1) 2 (by first | omega | (simp; try omega)))
     )
    all_goals
      refine bodyPost_ret (v := .tuple #[dcV (mkD neg H n), .int .i64 (mkE H n)]) ?h rfl ⟨rfl, ?_⟩
      case h => simp [results, Tryz.results49, go_sem, *]
      repeat (first | exact ext_refl _ | assumption | refine ext_setCell ?_ (by simp; try omega) _ | refine ext_alloc ?_ _ | refine ext_drew ?_ | refine ext_drewN ?_ _ | refine ext_trans ?_ (Aft.use _) | refine ext_trans ?_ (by assumption))
  · skip
    go_enter Tryz.func49, Tryz.ntmps49
    go_wp2
    go_quiet (fail)
    go_wp2_with (first
      | (go_at_call 86; (with_reducible refine (next_any H HDH.out HLH.out (by omega) _).mono ?_); rintro e w1 ⟨rfl, xb1⟩; obtain ⟨xc1, xf1, xl1, xz1⟩ := ext_use xb1; (try simp at xz1); have l1_0 := xl1 (w.heap.size) (by first | omega | (simp; try omega)); have r1_0 := xc1 (w.heap.size) 0 (by first | omega | (simp; try omega)); have f1_0 := xf1 (w.heap.size) 0 (by first | omega | (simp; try omega)); have l1_1 := xl1 (w.heap.size + 1) (by first | omega | (simp; try omega)); have r1_1 := xc1 (w.heap.size + 1) 0 (by first | omega | (simp; try omega)); have f1_1 := xf1 (w.heap.size + 1) 0 (by first | omega | (simp; try omega)); have r1_1_1 := xc1 (w.heap.size + 1) 1 (by first | omega | (simp; try omega)); have f1_1_1 := xf1 (w.heap.size + 1) 1 (by first | omega | (simp; try omega)); have r1_1_2 := xc1 (w.heap.size + 1) 2 (by first | omega | (simp; try omega)); have f1_1_2 := xf1 (w.heap.size + 1) 2 (by first | omega | (simp; try omega)))
      | (go_at_call 35; (with_reducible refine (make_any _ _ _ (by omega) _).mono ?_); rintro e w2 ⟨rfl, xb2⟩; obtain ⟨xc2, xf2, xl2, xz2⟩ := ext_use xb2; (try simp at xz2); have l2_0 := xl2 (w.heap.size + 1) (by first | omega | (simp; try omega)); have r2_0 := xc2 (w.heap.size + 1) 0 (by first | omega | (simp; try omega)); have f2_0 := xf2 (w.heap.size + 1) 0 (by first | omega | (simp; try omega)); have r2_0_1 := xc2 (w.heap.size + 1) 1 (by first | omega | (simp; try omega)); have f2_0_1 := xf2 (w.heap.size + 1) 1 (by first | omega | (simp; try omega)); have r2_0_2 := xc2 (w.heap.size + 1) 2 (by first | omega | (simp; try omega)); have f2_0_2 := xf2 (w.heap.size + 1) 2 (by first | omega | (simp; try omega)))
     )
    all_goals
      refine bodyPost_ret (v := .tuple #[dcV (mkD neg (nx H) n), .int .i64 (mkE (nx H) n)]) ?h rfl ⟨rfl, ?_⟩
      case h => simp [results, Tryz.results49, go_sem, *]
      repeat (first | exact ext_refl _ | assumption | refine ext_setCell ?_ (by simp; try omega) _ | refine ext_alloc ?_ _ | refine ext_drew ?_ | refine ext_drewN ?_ _ | refine ext_trans ?_ (Aft.use _) | refine ext_trans ?_ (by assumption))
  · skip
    go_enter Tryz.func49, Tryz.ntmps49
    go_wp2
    go_quiet (fail)
    go_wp2_with (first
      | (go_at_call 86; (with_reducible refine (next_any H HDH.out HLH.out (by omega) _).mono ?_); rintro e w1 ⟨rfl, xb1⟩; obtain ⟨xc1, xf1, xl1, xz1⟩ := ext_use xb1; (try simp at xz1); have l1_0 := xl1 (w.heap.size) (by first | omega | (simp; try omega)); have r1_0 := xc1 (w.heap.size) 0 (by first | omega | (simp; try omega)); have f1_0 := xf1 (w.heap.size) 0 (by first | omega | (simp; try omega)); have l1_1 := xl1 (w.heap.size + 1) (by first | omega | (simp; try omega)); have r1_1 := xc1 (w.heap.size + 1) 0 (by first | omega | (simp; try omega)); have f1_1 := xf1 (w.heap.size + 1) 0 (by first | omega | (simp; try omega)); have r1_1_1 := xc1 (w.heap.size + 1) 1 (by first | omega | (simp; try omega)); have f1_1_1 := xf1 (w.heap.size + 1) 1 (by first | omega | (simp; try omega)); have r1_1_2 := xc1 (w.heap.size + 1) 2 (by first | omega | (simp; try omega)); have f1_1_2 := xf1 (w.heap.size + 1) 2 (by first | omega | (simp; try omega)))
      | (go_at_call 35; (with_reducible refine (make_any _ _ _ (by omega) _).mono ?_); rintro e w2 ⟨rfl, xb2⟩; obtain ⟨xc2, xf2, xl2, xz2⟩ := ext_use xb2; (try simp at xz2); have l2_0 := xl2 (w.heap.size + 1) (by first | omega | (simp; try omega)); have r2_0 := xc2 (w.heap.size + 1) 0 (by first | omega | (simp; try omega)); have f2_0 := xf2 (w.heap.size + 1) 0 (by first | omega | (simp; try omega)); have r2_0_1 := xc2 (w.heap.size + 1) 1 (by first | omega | (simp; try omega)); have f2_0_1 := xf2 (w.heap.size + 1) 1 (by first | omega | (simp; try omega)); have r2_0_2 := xc2 (w.heap.size + 1) 2 (by first | omega | (simp; try omega)); have f2_0_2 := xf2 (w.heap.size + 1) 2 (by first | omega | (simp; try omega)))
     )
    all_goals
      refine bodyPost_ret (v := .tuple #[dcV (mkD neg H n), .int .i64 (mkE H n)]) ?h rfl ⟨rfl, ?_⟩
      case h => simp [results, Tryz.results49, go_sem, *]
      repeat (first | exact ext_refl _ | assumption | refine ext_setCell ?_ (by simp; try omega) _ | refine ext_alloc ?_ _ | refine ext_drew ?_ | refine ext_drewN ?_ _ | refine ext_trans ?_ (Aft.use _) | refine ext_trans ?_ (by assumption))
  · skip
    go_enter Tryz.func49, Tryz.ntmps49
    go_wp2
    go_quiet (fail)
    go_wp2_with (first
      | (go_at_call 86; (with_reducible refine (next_any H HDH.out HLH.out (by omega) _).mono ?_); rintro e w1 ⟨rfl, xb1⟩; obtain ⟨xc1, xf1, xl1, xz1⟩ := ext_use xb1; (try simp at xz1); have l1_0 := xl1 (w.heap.size) (by first | omega | (simp; try omega)); have r1_0 := xc1 (w.heap.size) 0 (by first | omega | (simp; try omega)); have f1_0 := xf1 (w.heap.size) 0 (by first | omega | (simp; try omega)); have l1_1 := xl1 (w.heap.size + 1) (by first | omega | (simp; try omega)); have r1_1 := xc1 (w.heap.size + 1) 0 (by first | omega | (simp; try omega)); have f1_1 := xf1 (w.heap.size + 1) 0 (by first | omega | (simp; try omega)); have r1_1_1 := xc1 (w.heap.size + 1) 1 (by first | omega | (simp; try omega)); have f1_1_1 := xf1 (w.heap.size + 1) 1 (by first | omega | (simp; try omega)); have r1_1_2 := xc1 (w.heap.size + 1) 2 (by first | omega | (simp; try omega)); have f1_1_2 := xf1 (w.heap.size + 1) 2 (by first | omega | (simp; try omega)))
      | (go_at_call 35; (with_reducible refine (make_any _ _ _ (by omega) _).mono ?_); rintro e w2 ⟨rfl, xb2⟩; obtain ⟨xc2, xf2, xl2, xz2⟩ := ext_use xb2; (try simp at xz2); have l2_0 := xl2 (w.heap.size + 1) (by first | omega | (simp; try omega)); have r2_0 := xc2 (w.heap.size + 1) 0 (by first | omega | (simp; try omega)); have f2_0 := xf2 (w.heap.size + 1) 0 (by first | omega | (simp; try omega)); have r2_0_1 := xc2 (w.heap.size + 1) 1 (by first | omega | (simp; try omega)); have f2_0_1 := xf2 (w.heap.size + 1) 1 (by first | omega | (simp; try omega)); have r2_0_2 := xc2 (w.heap.size + 1) 2 (by first | omega | (simp; try omega)); have f2_0_2 := xf2 (w.heap.size + 1) 2 (by first | omega | (simp; try omega)))
     )
    all_goals
      refine bodyPost_ret (v := .tuple #[dcV (mkD false (nx H) n), .int .i64 (mkE (nx H) n)]) ?h rfl ⟨rfl, ?_⟩
      case h => simp [results, Tryz.results49, go_sem, *]
      repeat (first | exact ext_refl _ | assumption | refine ext_setCell ?_ (by simp; try omega) _ | refine ext_alloc ?_ _ | refine ext_drew ?_ | refine ext_drewN ?_ _ | refine ext_trans ?_ (Aft.use _) | refine ext_trans ?_ (by assumption))
  · skip
    go_enter Tryz.func49, Tryz.ntmps49
    go_wp2
    go_quiet (fail)
    go_wp2_with (first
      | (go_at_call 86; (with_reducible refine (next_any H HDH.out HLH.out (by omega) _).mono ?_); rintro e w1 ⟨rfl, xb1⟩; obtain ⟨xc1, xf1, xl1, xz1⟩ := ext_use xb1; (try simp at xz1); have l1_0 := xl1 (w.heap.size) (by first | omega | (simp; try omega)); have r1_0 := xc1 (w.heap.size) 0 (by first | omega | (simp; try omega)); have f1_0 := xf1 (w.heap.size) 0 (by first | omega | (simp; try omega)); have l1_1 := xl1 (w.heap.size + 1) (by first | omega | (simp; try omega)); have r1_1 := xc1 (w.heap.size + 1) 0 (by first | omega | (simp; try omega)); have f1_1 := xf1 (w.heap.size + 1) 0 (by first | omega | (simp; try omega)); have r1_1_1 := xc1 (w.heap.size + 1) 1 (by first | omega | (simp; try omega)); have f1_1_1 := xf1 (w.heap.size + 1) 1 (by first | omega | (simp; try omega)); have r1_1_2 := xc1 (w.heap.size + 1) 2 (by first | omega | (simp; try omega)); have f1_1_2 := xf1 (w.heap.size + 1) 2 (by first | omega | (simp; try omega)))
      | (go_at_call 35; (with_reducible refine (make_any _ _ _ (by omega) _).mono ?_); rintro e w2 ⟨rfl, xb2⟩; obtain ⟨xc2, xf2, xl2, xz2⟩ := ext_use xb2; (try simp at xz2); have l2_0 := xl2 (w.heap.size + 1) (by first | omega | (simp; try omega)); have r2_0 := xc2 (w.heap.size + 1) 0 (by first | omega | (simp; try omega)); have f2_0 := xf2 (w.heap.size + 1) 0 (by first | omega | (simp; try omega)); have r2_0_1 := xc2 (w.heap.size + 1) 1 (by first | omega | (simp; try omega)); have f2_0_1 := xf2 (w.heap.size + 1) 1 (by first | omega | (simp; try omega)); have r2_0_2 := xc2 (w.heap.size + 1) 2 (by first | omega | (simp; try omega)); have f2_0_2 := xf2 (w.heap.size + 1) 2 (by first | omega | (simp; try omega)))
     )
    all_goals
      refine bodyPost_ret (v := .tuple #[dcV (mkD true H n), .int .i64 (mkE H n)]) ?h rfl ⟨rfl, ?_⟩
      case h => simp [results, Tryz.results49, go_sem, *]
      repeat (first | exact ext_refl _ | assumption | refine ext_setCell ?_ (by simp; try omega) _ | refine ext_alloc ?_ _ | refine ext_drew ?_ | refine ext_drewN ?_ _ | refine ext_trans ?_ (Aft.use _) | refine ext_trans ?_ (by assumption))
  · skip
    go_enter Tryz.func49, Tryz.ntmps49
    go_wp2
    go_quiet (fail)
    go_wp2_with (first
      | (go_at_call 86; (with_reducible refine (next_any H HDH.out HLH.out (by omega) _).mono ?_); rintro e w1 ⟨rfl, xb1⟩; obtain ⟨xc1, xf1, xl1, xz1⟩ := ext_use xb1; (try simp at xz1); have l1_0 := xl1 (w.heap.size) (by first | omega | (simp; try omega)); have r1_0 := xc1 (w.heap.size) 0 (by first | omega | (simp; try omega)); have f1_0 := xf1 (w.heap.size) 0 (by first | omega | (simp; try omega)); have l1_1 := xl1 (w.heap.size + 1) (by first | omega | (simp; try omega)); have r1_1 := xc1 (w.heap.size + 1) 0 (by first | omega | (simp; try omega)); have f1_1 := xf1 (w.heap.size + 1) 0 (by first | omega | (simp; try omega)); have r1_1_1 := xc1 (w.heap.size + 1) 1 (by first | omega | (simp; try omega)); have f1_1_1 := xf1 (w.heap.size + 1) 1 (by first | omega | (simp; try omega)); have r1_1_2 := xc1 (w.heap.size + 1) 2 (by first | omega | (simp; try omega)); have f1_1_2 := xf1 (w.heap.size + 1) 2 (by first | omega | (simp; try omega)))
      | (go_at_call 35; (with_reducible refine (make_any _ _ _ (by omega) _).mono ?_); rintro e w2 ⟨rfl, xb2⟩; obtain ⟨xc2, xf2, xl2, xz2⟩ := ext_use xb2; (try simp at xz2); have l2_0 := xl2 (w.heap.size + 1) (by first | omega | (simp; try omega)); have r2_0 := xc2 (w.heap.size + 1) 0 (by first | omega | (simp; try omega)); have f2_0 := xf2 (w.heap.size + 1) 0 (by first | omega | (simp; try omega)); have r2_0_1 := xc2 (w.heap.size + 1) 1 (by first | omega | (simp; try omega)); have f2_0_1 := xf2 (w.heap.size + 1) 1 (by first | omega | (simp; try omega)); have r2_0_2 := xc2 (w.heap.size + 1) 2 (by first | omega | (simp; try omega)); have f2_0_2 := xf2 (w.heap.size + 1) 2 (by first | omega | (simp; try omega)))
     )
    all_goals
      refine bodyPost_ret (v := .tuple #[dcV (mkD true (nx H) n), .int .i64 (mkE (nx H) n)]) ?h rfl ⟨rfl, ?_⟩
      case h => simp [results, Tryz.results49, go_sem, *]
      repeat (first | exact ext_refl _ | assumption | refine ext_setCell ?_ (by simp; try omega) _ | refine ext_alloc ?_ _ | refine ext_drew ?_ | refine ext_drewN ?_ _ | refine ext_trans ?_ (Aft.use _) | refine ext_trans ?_ (by assumption))
  · skip
    go_enter Tryz.func49, Tryz.ntmps49
    go_wp2
    go_quiet (fail)
    go_wp2_with (first
      | (go_at_call 86; (with_reducible refine (next_any H HDH.out HLH.out (by omega) _).mono ?_); rintro e w1 ⟨rfl, xb1⟩; obtain ⟨xc1, xf1, xl1, xz1⟩ := ext_use xb1; (try simp at xz1); have l1_0 := xl1 (w.heap.size) (by first | omega | (simp; try omega)); have r1_0 := xc1 (w.heap.size) 0 (by first | omega | (simp; try omega)); have f1_0 := xf1 (w.heap.size) 0 (by first | omega | (simp; try omega)); have l1_1 := xl1 (w.heap.size + 1) (by first | omega | (simp; try omega)); have r1_1 := xc1 (w.heap.size + 1) 0 (by first | omega | (simp; try omega)); have f1_1 := xf1 (w.heap.size + 1) 0 (by first | omega | (simp; try omega)); have r1_1_1 := xc1 (w.heap.size + 1) 1 (by first | omega | (simp; try omega)); have f1_1_1 := xf1 (w.heap.size + 1) 1 (by first | omega | (simp; try omega)); have r1_1_2 := xc1 (w.heap.size + 1) 2 (by first | omega | (simp; try omega)); have f1_1_2 := xf1 (w.heap.size + 1) 2 (by first | omega | (simp; try omega)))
      | (go_at_call 35; (with_reducible refine (make_any _ _ _ (by omega) _).mono ?_); rintro e w2 ⟨rfl, xb2⟩; obtain ⟨xc2, xf2, xl2, xz2⟩ := ext_use xb2; (try simp at xz2); have l2_0 := xl2 (w.heap.size + 1) (by first | omega | (simp; try omega)); have r2_0 := xc2 (w.heap.size + 1) 0 (by first | omega | (simp; try omega)); have f2_0 := xf2 (w.heap.size + 1) 0 (by first | omega | (simp; try omega)); have r2_0_1 := xc2 (w.heap.size + 1) 1 (by first | omega | (simp; try omega)); have f2_0_1 := xf2 (w.heap.size + 1) 1 (by first | omega | (simp; try omega)); have r2_0_2 := xc2 (w.heap.size + 1) 2 (by first | omega | (simp; try omega)); have f2_0_2 := xf2 (w.heap.size + 1) 2 (by first | omega | (simp; try omega)))
     )
    all_goals
      refine bodyPost_ret (v := .tuple #[dcV (mkD false H n), .int .i64 (mkE H n)]) ?h rfl ⟨rfl, ?_⟩
      case h => simp [results, Tryz.results49, go_sem, *]
      repeat (first | exact ext_refl _ | assumption | refine ext_setCell ?_ (by simp; try omega) _ | refine ext_alloc ?_ _ | refine ext_drew ?_ | refine ext_drewN ?_ _ | refine ext_trans ?_ (Aft.use _) | refine ext_trans ?_ (by assumption))
theorem nx_nil : nx [] = [49] := by unfold nx; rw [show dval [] + 1 = 1 from rfl, digs_pos (by decide), show 1 / 10 = 0 from rfl, digs_zero]; rfl
theorem bs_empty : ByteArray.empty = bs [] := rfl
theorem next_nil (w : World) : Calls Tryz.prog 86 #[.string ByteArray.empty] w fun e w' => e = .returned (.string (bs [49])) ∧ Ext w w' := by
  have := next_any [] rfl (fun x hx => by cases hx) (by simp) w
  rw [nx_nil] at this
  exact this
theorem make_nil (neg : Bool) (exp : Int) (w : World) : Calls Tryz.prog 35 #[.bool neg, .string ByteArray.empty, .int .i64 exp] w fun e w' => e = .returned (.tuple #[dcV (mkD neg [] exp), .int .i64 (mkE [] exp)]) ∧ Ext w w' :=
  make_any neg [] exp (by simp) w
theorem cut_zero (neg : Bool) (l : List UInt8) (exp n : Int) (mode : Nat) (hok : Ok ⟨neg, l, exp⟩) (hm : mode ≤ 4) (hn : -4294967296 ≤ n ∧ n ≤ 4294967296) (hkk : (l.length : Int) - n + exp = 0) (w : World) :
    Calls Tryz.prog 49 #[dcV ⟨neg, l, exp⟩, .int .i64 n, .int .u8 (mode : Int)] w fun e w' => e = .returned (.tuple #[dcV (mkD neg (cutL neg l 0 mode) n), .int .i64 (mkE (cutL neg l 0 mode) n)]) ∧ Ext w w' := by
  obtain ⟨hl, hpos, hd, hld, he1, he2⟩ := hok
  simp only at hl hpos hd hld he1 he2
  obtain ⟨x, hxe⟩ : ∃ x, l[0] = x := ⟨_, rfl⟩
  obtain ⟨t, ht⟩ : ∃ t, l.drop 0 = x :: t := ⟨l.drop (0 + 1), by rw [← hxe]; exact List.drop_eq_getElem_cons hpos⟩
  have hcs := cut_cases neg l 0 mode x (l.getD 0 0) t [] hm ht rfl rfl
  have hlx : l = [53] ↔ (x = 53 ∧ t = []) := by
    rw [List.drop_zero] at ht
    rw [ht]; simp
  rw [← hlx] at hcs
  rw [nx_nil] at hcs
  clear hd hld ht hlx
  rcases hcs with ⟨rfl, h5, E⟩ | ⟨rfl, h5, h6, E⟩ | ⟨rfl, h6, h7, E⟩ | ⟨rfl, h6, h7, E⟩ | ⟨rfl, h5, E⟩ | ⟨rfl, h5, E⟩ | ⟨rfl, E⟩ | ⟨rfl, rfl, E⟩ | ⟨rfl, rfl, E⟩ | ⟨rfl, rfl, E⟩ | ⟨rfl, rfl, E⟩
  all_goals (rw [show ((0 : Nat) : Int) = 0 from rfl] at E; rw [E])
  all_goals clear E
  · skip
    go_enter Tryz.func49, Tryz.ntmps49
    go_wp2
    go_quiet (fail)
    go_wp2_with (first
      | (go_at_call 35; (with_reducible refine (make_nil _ _ _).mono ?_); rintro e w2 ⟨rfl, xb2⟩; obtain ⟨xc2, xf2, xl2, xz2⟩ := ext_use xb2; (try simp at xz2); have l2_0 := xl2 (w.heap.size + 1) (by first | omega | (simp; try omega)); have r2_0 := xc2 (w.heap.size + 1) 0 (by first | omega | (simp; try omega)); have f2_0 := xf2 (w.heap.size + 1) 0 (by first | omega | (simp; try omega)); have r2_0_1 := xc2 (w.heap.size + 1) 1 (by first | omega | (simp; try omega)); have f2_0_1 := xf2 (w.heap.size + 1) 1 (by first | omega | (simp; try omega)); have r2_0_2 := xc2 (w.heap.size + 1) 2 (by first | omega | (simp; try omega)); have f2_0_2 := xf2 (w.heap.size + 1) 2 (by first | omega | (simp; try omega)))
     )
    all_goals
      refine bodyPost_ret (v := .tuple #[dcV (mkD neg [] n), .int .i64 (mkE [] n)]) ?h rfl ⟨rfl, ?_⟩
      case h => simp [results, Tryz.results49, go_sem, *]
      repeat (first | exact ext_refl _ | assumption | refine ext_setCell ?_ (by simp; try omega) _ | refine ext_alloc ?_ _ | refine ext_drew ?_ | refine ext_drewN ?_ _ | refine ext_trans ?_ (Aft.use _) | refine ext_trans ?_ (by assumption))
  · skip
    go_enter Tryz.func49, Tryz.ntmps49
    go_wp2
    go_quiet (fail)
    go_wp2_with (first
      | (go_at_call 86; (with_reducible refine (next_nil _).mono ?_); rintro e w1 ⟨rfl, xb1⟩; obtain ⟨xc1, xf1, xl1, xz1⟩ := ext_use xb1; (try simp at xz1); have l1_0 := xl1 (w.heap.size) (by first | omega | (simp; try omega)); have r1_0 := xc1 (w.heap.size) 0 (by first | omega | (simp; try omega)); have f1_0 := xf1 (w.heap.size) 0 (by first | omega | (simp; try omega)); have l1_1 := xl1 (w.heap.size + 1) (by first | omega | (simp; try omega)); have r1_1 := xc1 (w.heap.size + 1) 0 (by first | omega | (simp; try omega)); have f1_1 := xf1 (w.heap.size + 1) 0 (by first | omega | (simp; try omega)); have r1_1_1 := xc1 (w.heap.size + 1) 1 (by first | omega | (simp; try omega)); have f1_1_1 := xf1 (w.heap.size + 1) 1 (by first | omega | (simp; try omega)); have r1_1_2 := xc1 (w.heap.size + 1) 2 (by first | omega | (simp; try omega)); have f1_1_2 := xf1 (w.heap.size + 1) 2 (by first | omega | (simp; try omega)))
      | (go_at_call 35; (with_reducible refine (make_any _ _ _ (by simp) _).mono ?_); rintro e w2 ⟨rfl, xb2⟩; obtain ⟨xc2, xf2, xl2, xz2⟩ := ext_use xb2; (try simp at xz2); have l2_0 := xl2 (w.heap.size + 1) (by first | omega | (simp; try omega)); have r2_0 := xc2 (w.heap.size + 1) 0 (by first | omega | (simp; try omega)); have f2_0 := xf2 (w.heap.size + 1) 0 (by first | omega | (simp; try omega)); have r2_0_1 := xc2 (w.heap.size + 1) 1 (by first | omega | (simp; try omega)); have f2_0_1 := xf2 (w.heap.size + 1) 1 (by first | omega | (simp; try omega)); have r2_0_2 := xc2 (w.heap.size + 1) 2 (by first | omega | (simp; try omega)); have f2_0_2 := xf2 (w.heap.size + 1) 2 (by first | omega | (simp; try omega)))
     )
    all_goals
      refine bodyPost_ret (v := .tuple #[dcV (mkD neg [49] n), .int .i64 (mkE [49] n)]) ?h rfl ⟨rfl, ?_⟩
      case h => simp [results, Tryz.results49, go_sem, *]
      repeat (first | exact ext_refl _ | assumption | refine ext_setCell ?_ (by simp; try omega) _ | refine ext_alloc ?_ _ | refine ext_drew ?_ | refine ext_drewN ?_ _ | refine ext_trans ?_ (Aft.use _) | refine ext_trans ?_ (by assumption))
  · exact absurd h7.1 (by decide)
  · skip
    subst h6
    clear h7
    go_enter Tryz.func49, Tryz.ntmps49
    go_wp2
    go_quiet (fail)
    go_wp2_with (first
      | (go_at_call 35; (with_reducible refine (make_nil _ _ _).mono ?_); rintro e w2 ⟨rfl, xb2⟩; obtain ⟨xc2, xf2, xl2, xz2⟩ := ext_use xb2; (try simp at xz2); have l2_0 := xl2 (w.heap.size + 1) (by first | omega | (simp; try omega)); have r2_0 := xc2 (w.heap.size + 1) 0 (by first | omega | (simp; try omega)); have f2_0 := xf2 (w.heap.size + 1) 0 (by first | omega | (simp; try omega)); have r2_0_1 := xc2 (w.heap.size + 1) 1 (by first | omega | (simp; try omega)); have f2_0_1 := xf2 (w.heap.size + 1) 1 (by first | omega | (simp; try omega)); have r2_0_2 := xc2 (w.heap.size + 1) 2 (by first | omega | (simp; try omega)); have f2_0_2 := xf2 (w.heap.size + 1) 2 (by first | omega | (simp; try omega)))
     )
    all_goals
      refine bodyPost_ret (v := .tuple #[dcV (mkD neg [] n), .int .i64 (mkE [] n)]) ?h rfl ⟨rfl, ?_⟩
      case h => simp [results, Tryz.results49, go_sem, *]
      repeat (first | exact ext_refl _ | assumption | refine ext_setCell ?_ (by simp; try omega) _ | refine ext_alloc ?_ _ | refine ext_drew ?_ | refine ext_drewN ?_ _ | refine ext_trans ?_ (Aft.use _) | refine ext_trans ?_ (by assumption))
  · skip
    go_enter Tryz.func49, Tryz.ntmps49
    go_wp2
    go_quiet (fail)
    go_wp2_with (first
      | (go_at_call 35; (with_reducible refine (make_nil _ _ _).mono ?_); rintro e w2 ⟨rfl, xb2⟩; obtain ⟨xc2, xf2, xl2, xz2⟩ := ext_use xb2; (try simp at xz2); have l2_0 := xl2 (w.heap.size + 1) (by first | omega | (simp; try omega)); have r2_0 := xc2 (w.heap.size + 1) 0 (by first | omega | (simp; try omega)); have f2_0 := xf2 (w.heap.size + 1) 0 (by first | omega | (simp; try omega)); have r2_0_1 := xc2 (w.heap.size + 1) 1 (by first | omega | (simp; try omega)); have f2_0_1 := xf2 (w.heap.size + 1) 1 (by first | omega | (simp; try omega)); have r2_0_2 := xc2 (w.heap.size + 1) 2 (by first | omega | (simp; try omega)); have f2_0_2 := xf2 (w.heap.size + 1) 2 (by first | omega | (simp; try omega)))
     )
    all_goals
      refine bodyPost_ret (v := .tuple #[dcV (mkD neg [] n), .int .i64 (mkE [] n)]) ?h rfl ⟨rfl, ?_⟩
      case h => simp [results, Tryz.results49, go_sem, *]
      repeat (first | exact ext_refl _ | assumption | refine ext_setCell ?_ (by simp; try omega) _ | refine ext_alloc ?_ _ | refine ext_drew ?_ | refine ext_drewN ?_ _ | refine ext_trans ?_ (Aft.use _) | refine ext_trans ?_ (by assumption))
  · skip
    go_enter Tryz.func49, Tryz.ntmps49
    go_wp2
    go_quiet (fail)
    go_wp2_with (first
      | (go_at_call 86; (with_reducible refine (next_nil _).mono ?_); rintro e w1 ⟨rfl, xb1⟩; obtain ⟨xc1, xf1, xl1, xz1⟩ := ext_use xb1; (try simp at xz1); have l1_0 := xl1 (w.heap.size) (by first | omega | (simp; try omega)); have r1_0 := xc1 (w.heap.size) 0 (by first | omega | (simp; try omega)); have f1_0 := xf1 (w.heap.size) 0 (by first | omega | (simp; try omega)); have l1_1 := xl1 (w.heap.size + 1) (by first | omega | (simp; try omega)); have r1_1 := xc1 (w.heap.size + 1) 0 (by first | omega | (simp; try omega)); have f1_1 := xf1 (w.heap.size + 1) 0 (by first | omega | (simp; try omega)); have r1_1_1 := xc1 (w.heap.size + 1) 1 (by first | omega | (simp; try omega)); have f1_1_1 := xf1 (w.heap.size + 1) 1 (by first | omega | (simp; try omega)); have r1_1_2 := xc1 (w.heap.size + 1) 2 (by first | omega | (simp; try omega)); have f1_1_2 := xf1 (w.heap.size + 1) 2 (by first | omega | (simp; try omega)))
      | (go_at_call 35; (with_reducible refine (make_any _ _ _ (by simp) _).mono ?_); rintro e w2 ⟨rfl, xb2⟩; obtain ⟨xc2, xf2, xl2, xz2⟩ := ext_use xb2; (try simp at xz2); have l2_0 := xl2 (w.heap.size + 1) (by first | omega | (simp; try omega)); have r2_0 := xc2 (w.heap.size + 1) 0 (by first | omega | (simp; try omega)); have f2_0 := xf2 (w.heap.size + 1) 0 (by first | omega | (simp; try omega)); have r2_0_1 := xc2 (w.heap.size + 1) 1 (by first | omega | (simp; try omega)); have f2_0_1 := xf2 (w.heap.size + 1) 1 (by first | omega | (simp; try omega)); have r2_0_2 := xc2 (w.heap.size + 1) 2 (by first | omega | (simp; try omega)); have f2_0_2 := xf2 (w.heap.size + 1) 2 (by first | omega | (simp; try omega)))
     )
    all_goals
      refine bodyPost_ret (v := .tuple #[dcV (mkD neg [49] n), .int .i64 (mkE [49] n)]) ?h rfl ⟨rfl, ?_⟩
      case h => simp [results, Tryz.results49, go_sem, *]
      repeat (first | exact ext_refl _ | assumption | refine ext_setCell ?_ (by simp; try omega) _ | refine ext_alloc ?_ _ | refine ext_drew ?_ | refine ext_drewN ?_ _ | refine ext_trans ?_ (Aft.use _) | refine ext_trans ?_ (by assumption))
  · skip
    go_enter Tryz.func49, Tryz.ntmps49
    go_wp2
    go_quiet (fail)
    go_wp2_with (first
      | (go_at_call 35; (with_reducible refine (make_nil _ _ _).mono ?_); rintro e w2 ⟨rfl, xb2⟩; obtain ⟨xc2, xf2, xl2, xz2⟩ := ext_use xb2; (try simp at xz2); have l2_0 := xl2 (w.heap.size + 1) (by first | omega | (simp; try omega)); have r2_0 := xc2 (w.heap.size + 1) 0 (by first | omega | (simp; try omega)); have f2_0 := xf2 (w.heap.size + 1) 0 (by first | omega | (simp; try omega)); have r2_0_1 := xc2 (w.heap.size + 1) 1 (by first | omega | (simp; try omega)); have f2_0_1 := xf2 (w.heap.size + 1) 1 (by first | omega | (simp; try omega)); have r2_0_2 := xc2 (w.heap.size + 1) 2 (by first | omega | (simp; try omega)); have f2_0_2 := xf2 (w.heap.size + 1) 2 (by first | omega | (simp; try omega)))
     )
    all_goals
      refine bodyPost_ret (v := .tuple #[dcV (mkD neg [] n), .int .i64 (mkE [] n)]) ?h rfl ⟨rfl, ?_⟩
      case h => simp [results, Tryz.results49, go_sem, *]
      repeat (first | exact ext_refl _ | assumption | refine ext_setCell ?_ (by simp; try omega) _ | refine ext_alloc ?_ _ | refine ext_drew ?_ | refine ext_drewN ?_ _ | refine ext_trans ?_ (Aft.use _) | refine ext_trans ?_ (by assumption))
  · skip
    go_enter Tryz.func49, Tryz.ntmps49
    go_wp2
    go_quiet (fail)
    go_wp2_with (first
      | (go_at_call 86; (with_reducible refine (next_nil _).mono ?_); rintro e w1 ⟨rfl, xb1⟩; obtain ⟨xc1, xf1, xl1, xz1⟩ := ext_use xb1; (try simp at xz1); have l1_0 := xl1 (w.heap.size) (by first | omega | (simp; try omega)); have r1_0 := xc1 (w.heap.size) 0 (by first | omega | (simp; try omega)); have f1_0 := xf1 (w.heap.size) 0 (by first | omega | (simp; try omega)); have l1_1 := xl1 (w.heap.size + 1) (by first | omega | (simp; try omega)); have r1_1 := xc1 (w.heap.size + 1) 0 (by first | omega | (simp; try omega)); have f1_1 := xf1 (w.heap.size + 1) 0 (by first | omega | (simp; try omega)); have r1_1_1 := xc1 (w.heap.size + 1) 1 (by first | omega | (simp; try omega)); have f1_1_1 := xf1 (w.heap.size + 1) 1 (by first | omega | (simp; try omega)); have r1_1_2 := xc1 (w.heap.size + 1) 2 (by first | omega | (simp; try omega)); have f1_1_2 := xf1 (w.heap.size + 1) 2 (by first | omega | (simp; try omega)))
      | (go_at_call 35; (with_reducible refine (make_any _ _ _ (by simp) _).mono ?_); rintro e w2 ⟨rfl, xb2⟩; obtain ⟨xc2, xf2, xl2, xz2⟩ := ext_use xb2; (try simp at xz2); have l2_0 := xl2 (w.heap.size + 1) (by first | omega | (simp; try omega)); have r2_0 := xc2 (w.heap.size + 1) 0 (by first | omega | (simp; try omega)); have f2_0 := xf2 (w.heap.size + 1) 0 (by first | omega | (simp; try omega)); have r2_0_1 := xc2 (w.heap.size + 1) 1 (by first | omega | (simp; try omega)); have f2_0_1 := xf2 (w.heap.size + 1) 1 (by first | omega | (simp; try omega)); have r2_0_2 := xc2 (w.heap.size + 1) 2 (by first | omega | (simp; try omega)); have f2_0_2 := xf2 (w.heap.size + 1) 2 (by first | omega | (simp; try omega)))
     )
    all_goals
      refine bodyPost_ret (v := .tuple #[dcV (mkD false [49] n), .int .i64 (mkE [49] n)]) ?h rfl ⟨rfl, ?_⟩
      case h => simp [results, Tryz.results49, go_sem, *]
      repeat (first | exact ext_refl _ | assumption | refine ext_setCell ?_ (by simp; try omega) _ | refine ext_alloc ?_ _ | refine ext_drew ?_ | refine ext_drewN ?_ _ | refine ext_trans ?_ (Aft.use _) | refine ext_trans ?_ (by assumption))
  · skip
    go_enter Tryz.func49, Tryz.ntmps49
    go_wp2
    go_quiet (fail)
    go_wp2_with (first
      | (go_at_call 35; (with_reducible refine (make_nil _ _ _).mono ?_); rintro e w2 ⟨rfl, xb2⟩; obtain ⟨xc2, xf2, xl2, xz2⟩ := ext_use xb2; (try simp at xz2); have l2_0 := xl2 (w.heap.size + 1) (by first | omega | (simp; try omega)); have r2_0 := xc2 (w.heap.size + 1) 0 (by first | omega | (simp; try omega)); have f2_0 := xf2 (w.heap.size + 1) 0 (by first | omega | (simp; try omega)); have r2_0_1 := xc2 (w.heap.size + 1) 1 (by first | omega | (simp; try omega)); have f2_0_1 := xf2 (w.heap.size + 1) 1 (by first | omega | (simp; try omega)); have r2_0_2 := xc2 (w.heap.size + 1) 2 (by first | omega | (simp; try omega)); have f2_0_2 := xf2 (w.heap.size + 1) 2 (by first | omega | (simp; try omega)))
     )
    all_goals
      refine bodyPost_ret (v := .tuple #[dcV (mkD true [] n), .int .i64 (mkE [] n)]) ?h rfl ⟨rfl, ?_⟩
      case h => simp [results, Tryz.results49, go_sem, *]
      repeat (first | exact ext_refl _ | assumption | refine ext_setCell ?_ (by simp; try omega) _ | refine ext_alloc ?_ _ | refine ext_drew ?_ | refine ext_drewN ?_ _ | refine ext_trans ?_ (Aft.use _) | refine ext_trans ?_ (by assumption))
  · skip
    go_enter Tryz.func49, Tryz.ntmps49
    go_wp2
    go_quiet (fail)
    go_wp2_with (first
      | (go_at_call 86; (with_reducible refine (next_nil _).mono ?_); rintro e w1 ⟨rfl, xb1⟩; obtain ⟨xc1, xf1, xl1, xz1⟩ := ext_use xb1; (try simp at xz1); have l1_0 := xl1 (w.heap.size) (by first | omega | (simp; try omega)); have r1_0 := xc1 (w.heap.size) 0 (by first | omega | (simp; try omega)); have f1_0 := xf1 (w.heap.size) 0 (by first | omega | (simp; try omega)); have l1_1 := xl1 (w.heap.size + 1) (by first | omega | (simp; try omega)); have r1_1 := xc1 (w.heap.size + 1) 0 (by first | omega | (simp; try omega)); have f1_1 := xf1 (w.heap.size + 1) 0 (by first | omega | (simp; try omega)); have r1_1_1 := xc1 (w.heap.size + 1) 1 (by first | omega | (simp; try omega)); have f1_1_1 := xf1 (w.heap.size + 1) 1 (by first | omega | (simp; try omega)); have r1_1_2 := xc1 (w.heap.size + 1) 2 (by first | omega | (simp; try omega)); have f1_1_2 := xf1 (w.heap.size + 1) 2 (by first | omega | (simp; try omega)))
      | (go_at_call 35; (with_reducible refine (make_any _ _ _ (by simp) _).mono ?_); rintro e w2 ⟨rfl, xb2⟩; obtain ⟨xc2, xf2, xl2, xz2⟩ := ext_use xb2; (try simp at xz2); have l2_0 := xl2 (w.heap.size + 1) (by first | omega | (simp; try omega)); have r2_0 := xc2 (w.heap.size + 1) 0 (by first | omega | (simp; try omega)); have f2_0 := xf2 (w.heap.size + 1) 0 (by first | omega | (simp; try omega)); have r2_0_1 := xc2 (w.heap.size + 1) 1 (by first | omega | (simp; try omega)); have f2_0_1 := xf2 (w.heap.size + 1) 1 (by first | omega | (simp; try omega)); have r2_0_2 := xc2 (w.heap.size + 1) 2 (by first | omega | (simp; try omega)); have f2_0_2 := xf2 (w.heap.size + 1) 2 (by first | omega | (simp; try omega)))
     )
    all_goals
      refine bodyPost_ret (v := .tuple #[dcV (mkD true [49] n), .int .i64 (mkE [49] n)]) ?h rfl ⟨rfl, ?_⟩
      case h => simp [results, Tryz.results49, go_sem, *]
      repeat (first | exact ext_refl _ | assumption | refine ext_setCell ?_ (by simp; try omega) _ | refine ext_alloc ?_ _ | refine ext_drew ?_ | refine ext_drewN ?_ _ | refine ext_trans ?_ (Aft.use _) | refine ext_trans ?_ (by assumption))
  · skip
    go_enter Tryz.func49, Tryz.ntmps49
    go_wp2
    go_quiet (fail)
    go_wp2_with (first
      | (go_at_call 35; (with_reducible refine (make_nil _ _ _).mono ?_); rintro e w2 ⟨rfl, xb2⟩; obtain ⟨xc2, xf2, xl2, xz2⟩ := ext_use xb2; (try simp at xz2); have l2_0 := xl2 (w.heap.size + 1) (by first | omega | (simp; try omega)); have r2_0 := xc2 (w.heap.size + 1) 0 (by first | omega | (simp; try omega)); have f2_0 := xf2 (w.heap.size + 1) 0 (by first | omega | (simp; try omega)); have r2_0_1 := xc2 (w.heap.size + 1) 1 (by first | omega | (simp; try omega)); have f2_0_1 := xf2 (w.heap.size + 1) 1 (by first | omega | (simp; try omega)); have r2_0_2 := xc2 (w.heap.size + 1) 2 (by first | omega | (simp; try omega)); have f2_0_2 := xf2 (w.heap.size + 1) 2 (by first | omega | (simp; try omega)))
     )
    all_goals
      refine bodyPost_ret (v := .tuple #[dcV (mkD false [] n), .int .i64 (mkE [] n)]) ?h rfl ⟨rfl, ?_⟩
      case h => simp [results, Tryz.results49, go_sem, *]
      repeat (first | exact ext_refl _ | assumption | refine ext_setCell ?_ (by simp; try omega) _ | refine ext_alloc ?_ _ | refine ext_drew ?_ | refine ext_drewN ?_ _ | refine ext_trans ?_ (Aft.use _) | refine ext_trans ?_ (by assumption))
theorem cut_neg (neg : Bool) (l : List UInt8) (exp n : Int) (k : Int) (mode : Nat) (hok : Ok ⟨neg, l, exp⟩) (hm : mode ≤ 4) (hn : -4294967296 ≤ n ∧ n ≤ 4294967296) (hkk : (l.length : Int) - n + exp = k) (hk0 : k < 0) (w : World) :
    Calls Tryz.prog 49 #[dcV ⟨neg, l, exp⟩, .int .i64 n, .int .u8 (mode : Int)] w fun e w' => e = .returned (.tuple #[dcV (mkD neg (cutL neg l k mode) n), .int .i64 (mkE (cutL neg l k mode) n)]) ∧ Ext w w' := by
  obtain ⟨hl, hpos, hd, hld, he1, he2⟩ := hok
  simp only at hl hpos hd hld he1 he2
  have hk1 : ¬ 0 < k := by omega
  have hk2 : ¬ 0 ≤ k := by omega
  have hcs : (mode = 0 ∧ cutL neg l k mode = []) ∨ (mode = 1 ∧ cutL neg l k mode = []) ∨ (mode = 2 ∧ cutL neg l k mode = []) ∨
      (mode = 3 ∧ neg = false ∧ cutL neg l k mode = [49]) ∨ (mode = 3 ∧ neg = true ∧ cutL neg l k mode = []) ∨ (mode = 4 ∧ neg = true ∧ cutL neg l k mode = [49]) ∨ (mode = 4 ∧ neg = false ∧ cutL neg l k mode = []) := by
    have h0 : k.toNat = 0 := by omega
    unfold cutL upB
    rw [h0, List.take_zero, nx_nil]
    rcases (show mode = 0 ∨ mode = 1 ∨ mode = 2 ∨ mode = 3 ∨ mode = 4 by omega) with rfl | rfl | rfl | rfl | rfl <;> cases neg <;> simp [hk2]
  clear hd hld
  rcases hcs with ⟨rfl, E⟩ | ⟨rfl, E⟩ | ⟨rfl, E⟩ | ⟨rfl, rfl, E⟩ | ⟨rfl, rfl, E⟩ | ⟨rfl, rfl, E⟩ | ⟨rfl, rfl, E⟩
  all_goals rw [E]
  all_goals clear E
  · skip
    go_enter Tryz.func49, Tryz.ntmps49
    go_wp2
    go_quiet (fail)
    go_wp2_with (first
      | (go_at_call 35; (with_reducible refine (make_nil _ _ _).mono ?_); rintro e w2 ⟨rfl, xb2⟩; obtain ⟨xc2, xf2, xl2, xz2⟩ := ext_use xb2; (try simp at xz2); have l2_0 := xl2 (w.heap.size + 1) (by first | omega | (simp; try omega)); have r2_0 := xc2 (w.heap.size + 1) 0 (by first | omega | (simp; try omega)); have f2_0 := xf2 (w.heap.size + 1) 0 (by first | omega | (simp; try omega)); have r2_0_1 := xc2 (w.heap.size + 1) 1 (by first | omega | (simp; try omega)); have f2_0_1 := xf2 (w.heap.size + 1) 1 (by first | omega | (simp; try omega)); have r2_0_2 := xc2 (w.heap.size + 1) 2 (by first | omega | (simp; try omega)); have f2_0_2 := xf2 (w.heap.size + 1) 2 (by first | omega | (simp; try omega)))
     )
    all_goals
      refine bodyPost_ret (v := .tuple #[dcV (mkD neg [] n), .int .i64 (mkE [] n)]) ?h rfl ⟨rfl, ?_⟩
      case h => simp [results, Tryz.results49, go_sem, *]
      repeat (first | exact ext_refl _ | assumption | refine ext_setCell ?_ (by simp; try omega) _ | refine ext_alloc ?_ _ | refine ext_drew ?_ | refine ext_drewN ?_ _ | refine ext_trans ?_ (Aft.use _) | refine ext_trans ?_ (by assumption))
  · skip
    go_enter Tryz.func49, Tryz.ntmps49
    go_wp2
    go_quiet (fail)
    go_wp2_with (first
      | (go_at_call 35; (with_reducible refine (make_nil _ _ _).mono ?_); rintro e w2 ⟨rfl, xb2⟩; obtain ⟨xc2, xf2, xl2, xz2⟩ := ext_use xb2; (try simp at xz2); have l2_0 := xl2 (w.heap.size + 1) (by first | omega | (simp; try omega)); have r2_0 := xc2 (w.heap.size + 1) 0 (by first | omega | (simp; try omega)); have f2_0 := xf2 (w.heap.size + 1) 0 (by first | omega | (simp; try omega)); have r2_0_1 := xc2 (w.heap.size + 1) 1 (by first | omega | (simp; try omega)); have f2_0_1 := xf2 (w.heap.size + 1) 1 (by first | omega | (simp; try omega)); have r2_0_2 := xc2 (w.heap.size + 1) 2 (by first | omega | (simp; try omega)); have f2_0_2 := xf2 (w.heap.size + 1) 2 (by first | omega | (simp; try omega)))
     )
    all_goals
      refine bodyPost_ret (v := .tuple #[dcV (mkD neg [] n), .int .i64 (mkE [] n)]) ?h rfl ⟨rfl, ?_⟩
      case h => simp [results, Tryz.results49, go_sem, *]
      repeat (first | exact ext_refl _ | assumption | refine ext_setCell ?_ (by simp; try omega) _ | refine ext_alloc ?_ _ | refine ext_drew ?_ | refine ext_drewN ?_ _ | refine ext_trans ?_ (Aft.use _) | refine ext_trans ?_ (by assumption))
  · skip
    go_enter Tryz.func49, Tryz.ntmps49
    go_wp2
    go_quiet (fail)
    go_wp2_with (first
      | (go_at_call 35; (with_reducible refine (make_nil _ _ _).mono ?_); rintro e w2 ⟨rfl, xb2⟩; obtain ⟨xc2, xf2, xl2, xz2⟩ := ext_use xb2; (try simp at xz2); have l2_0 := xl2 (w.heap.size + 1) (by first | omega | (simp; try omega)); have r2_0 := xc2 (w.heap.size + 1) 0 (by first | omega | (simp; try omega)); have f2_0 := xf2 (w.heap.size + 1) 0 (by first | omega | (simp; try omega)); have r2_0_1 := xc2 (w.heap.size + 1) 1 (by first | omega | (simp; try omega)); have f2_0_1 := xf2 (w.heap.size + 1) 1 (by first | omega | (simp; try omega)); have r2_0_2 := xc2 (w.heap.size + 1) 2 (by first | omega | (simp; try omega)); have f2_0_2 := xf2 (w.heap.size + 1) 2 (by first | omega | (simp; try omega)))
     )
    all_goals
      refine bodyPost_ret (v := .tuple #[dcV (mkD neg [] n), .int .i64 (mkE [] n)]) ?h rfl ⟨rfl, ?_⟩
      case h => simp [results, Tryz.results49, go_sem, *]
      repeat (first | exact ext_refl _ | assumption | refine ext_setCell ?_ (by simp; try omega) _ | refine ext_alloc ?_ _ | refine ext_drew ?_ | refine ext_drewN ?_ _ | refine ext_trans ?_ (Aft.use _) | refine ext_trans ?_ (by assumption))
  · skip
    go_enter Tryz.func49, Tryz.ntmps49
    go_wp2
    go_quiet (fail)
    go_wp2_with (first
      | (go_at_call 86; (with_reducible refine (next_nil _).mono ?_); rintro e w1 ⟨rfl, xb1⟩; obtain ⟨xc1, xf1, xl1, xz1⟩ := ext_use xb1; (try simp at xz1); have l1_0 := xl1 (w.heap.size) (by first | omega | (simp; try omega)); have r1_0 := xc1 (w.heap.size) 0 (by first | omega | (simp; try omega)); have f1_0 := xf1 (w.heap.size) 0 (by first | omega | (simp; try omega)); have l1_1 := xl1 (w.heap.size + 1) (by first | omega | (simp; try omega)); have r1_1 := xc1 (w.heap.size + 1) 0 (by first | omega | (simp; try omega)); have f1_1 := xf1 (w.heap.size + 1) 0 (by first | omega | (simp; try omega)); have r1_1_1 := xc1 (w.heap.size + 1) 1 (by first | omega | (simp; try omega)); have f1_1_1 := xf1 (w.heap.size + 1) 1 (by first | omega | (simp; try omega)); have r1_1_2 := xc1 (w.heap.size + 1) 2 (by first | omega | (simp; try omega)); have f1_1_2 := xf1 (w.heap.size + 1) 2 (by first | omega | (simp; try omega)))
      | (go_at_call 35; (with_reducible refine (make_any _ _ _ (by simp) _).mono ?_); rintro e w2 ⟨rfl, xb2⟩; obtain ⟨xc2, xf2, xl2, xz2⟩ := ext_use xb2; (try simp at xz2); have l2_0 := xl2 (w.heap.size + 1) (by first | omega | (simp; try omega)); have r2_0 := xc2 (w.heap.size + 1) 0 (by first | omega | (simp; try omega)); have f2_0 := xf2 (w.heap.size + 1) 0 (by first | omega | (simp; try omega)); have r2_0_1 := xc2 (w.heap.size + 1) 1 (by first | omega | (simp; try omega)); have f2_0_1 := xf2 (w.heap.size + 1) 1 (by first | omega | (simp; try omega)); have r2_0_2 := xc2 (w.heap.size + 1) 2 (by first | omega | (simp; try omega)); have f2_0_2 := xf2 (w.heap.size + 1) 2 (by first | omega | (simp; try omega)))
     )
    all_goals
      refine bodyPost_ret (v := .tuple #[dcV (mkD false [49] n), .int .i64 (mkE [49] n)]) ?h rfl ⟨rfl, ?_⟩
      case h => simp [results, Tryz.results49, go_sem, *]
      repeat (first | exact ext_refl _ | assumption | refine ext_setCell ?_ (by simp; try omega) _ | refine ext_alloc ?_ _ | refine ext_drew ?_ | refine ext_drewN ?_ _ | refine ext_trans ?_ (Aft.use _) | refine ext_trans ?_ (by assumption))
  · skip
    go_enter Tryz.func49, Tryz.ntmps49
    go_wp2
    go_quiet (fail)
    go_wp2_with (first
      | (go_at_call 35; (with_reducible refine (make_nil _ _ _).mono ?_); rintro e w2 ⟨rfl, xb2⟩; obtain ⟨xc2, xf2, xl2, xz2⟩ := ext_use xb2; (try simp at xz2); have l2_0 := xl2 (w.heap.size + 1) (by first | omega | (simp; try omega)); have r2_0 := xc2 (w.heap.size + 1) 0 (by first | omega | (simp; try omega)); have f2_0 := xf2 (w.heap.size + 1) 0 (by first | omega | (simp; try omega)); have r2_0_1 := xc2 (w.heap.size + 1) 1 (by first | omega | (simp; try omega)); have f2_0_1 := xf2 (w.heap.size + 1) 1 (by first | omega | (simp; try omega)); have r2_0_2 := xc2 (w.heap.size + 1) 2 (by first | omega | (simp; try omega)); have f2_0_2 := xf2 (w.heap.size + 1) 2 (by first | omega | (simp; try omega)))
     )
    all_goals
      refine bodyPost_ret (v := .tuple #[dcV (mkD true [] n), .int .i64 (mkE [] n)]) ?h rfl ⟨rfl, ?_⟩
      case h => simp [results, Tryz.results49, go_sem, *]
      repeat (first | exact ext_refl _ | assumption | refine ext_setCell ?_ (by simp; try omega) _ | refine ext_alloc ?_ _ | refine ext_drew ?_ | refine ext_drewN ?_ _ | refine ext_trans ?_ (Aft.use _) | refine ext_trans ?_ (by assumption))
  · skip
    go_enter Tryz.func49, Tryz.ntmps49
    go_wp2
    go_quiet (fail)
    go_wp2_with (first
      | (go_at_call 86; (with_reducible refine (next_nil _).mono ?_); rintro e w1 ⟨rfl, xb1⟩; obtain ⟨xc1, xf1, xl1, xz1⟩ := ext_use xb1; (try simp at xz1); have l1_0 := xl1 (w.heap.size) (by first | omega | (simp; try omega)); have r1_0 := xc1 (w.heap.size) 0 (by first | omega | (simp; try omega)); have f1_0 := xf1 (w.heap.size) 0 (by first | omega | (simp; try omega)); have l1_1 := xl1 (w.heap.size + 1) (by first | omega | (simp; try omega)); have r1_1 := xc1 (w.heap.size + 1) 0 (by first | omega | (simp; try omega)); have f1_1 := xf1 (w.heap.size + 1) 0 (by first | omega | (simp; try omega)); have r1_1_1 := xc1 (w.heap.size + 1) 1 (by first | omega | (simp; try omega)); have f1_1_1 := xf1 (w.heap.size + 1) 1 (by first | omega | (simp; try omega)); have r1_1_2 := xc1 (w.heap.size + 1) 2 (by first | omega | (simp; try omega)); have f1_1_2 := xf1 (w.heap.size + 1) 2 (by first | omega | (simp; try omega)))
      | (go_at_call 35; (with_reducible refine (make_any _ _ _ (by simp) _).mono ?_); rintro e w2 ⟨rfl, xb2⟩; obtain ⟨xc2, xf2, xl2, xz2⟩ := ext_use xb2; (try simp at xz2); have l2_0 := xl2 (w.heap.size + 1) (by first | omega | (simp; try omega)); have r2_0 := xc2 (w.heap.size + 1) 0 (by first | omega | (simp; try omega)); have f2_0 := xf2 (w.heap.size + 1) 0 (by first | omega | (simp; try omega)); have r2_0_1 := xc2 (w.heap.size + 1) 1 (by first | omega | (simp; try omega)); have f2_0_1 := xf2 (w.heap.size + 1) 1 (by first | omega | (simp; try omega)); have r2_0_2 := xc2 (w.heap.size + 1) 2 (by first | omega | (simp; try omega)); have f2_0_2 := xf2 (w.heap.size + 1) 2 (by first | omega | (simp; try omega)))
     )
    all_goals
      refine bodyPost_ret (v := .tuple #[dcV (mkD true [49] n), .int .i64 (mkE [49] n)]) ?h rfl ⟨rfl, ?_⟩
      case h => simp [results, Tryz.results49, go_sem, *]
      repeat (first | exact ext_refl _ | assumption | refine ext_setCell ?_ (by simp; try omega) _ | refine ext_alloc ?_ _ | refine ext_drew ?_ | refine ext_drewN ?_ _ | refine ext_trans ?_ (Aft.use _) | refine ext_trans ?_ (by assumption))
  · skip
    go_enter Tryz.func49, Tryz.ntmps49
    go_wp2
    go_quiet (fail)
    go_wp2_with (first
      | (go_at_call 35; (with_reducible refine (make_nil _ _ _).mono ?_); rintro e w2 ⟨rfl, xb2⟩; obtain ⟨xc2, xf2, xl2, xz2⟩ := ext_use xb2; (try simp at xz2); have l2_0 := xl2 (w.heap.size + 1) (by first | omega | (simp; try omega)); have r2_0 := xc2 (w.heap.size + 1) 0 (by first | omega | (simp; try omega)); have f2_0 := xf2 (w.heap.size + 1) 0 (by first | omega | (simp; try omega)); have r2_0_1 := xc2 (w.heap.size + 1) 1 (by first | omega | (simp; try omega)); have f2_0_1 := xf2 (w.heap.size + 1) 1 (by first | omega | (simp; try omega)); have r2_0_2 := xc2 (w.heap.size + 1) 2 (by first | omega | (simp; try omega)); have f2_0_2 := xf2 (w.heap.size + 1) 2 (by first | omega | (simp; try omega)))
     )
    all_goals
      refine bodyPost_ret (v := .tuple #[dcV (mkD false [] n), .int .i64 (mkE [] n)]) ?h rfl ⟨rfl, ?_⟩
      case h => simp [results, Tryz.results49, go_sem, *]
      repeat (first | exact ext_refl _ | assumption | refine ext_setCell ?_ (by simp; try omega) _ | refine ext_alloc ?_ _ | refine ext_drew ?_ | refine ext_drewN ?_ _ | refine ext_trans ?_ (Aft.use _) | refine ext_trans ?_ (by assumption))
end Go.Proofs.YtdjegfnkpagdaaaGreatDoor
end
section
/- Round and Places, the program's. -/
namespace Go.Proofs.YtdjegfnkpagdaaaGreatDoor
open Go.RowKit
attribute [local go_sem] bs_size bs_extract bs_get bs_append bs_toList const_get
attribute [local go_sem] sz2 sz3 sz4 sz5 sz6 sz7 sz8
set_option maxHeartbeats 4000000
set_option maxRecDepth 100000
attribute [local irreducible] Calls
/-- What a rounding gives. -/
structure Rr where
  d : Dc
  ok : Bool
  e : Int
abbrev rrV (r : Rr) : Value := .tuple #[dcV r.d, .bool r.ok, .int .i64 r.e]
def cutR (d : Dc) (k n : Int) (mode : Nat) : Rr := ⟨mkD d.neg (cutL d.neg d.dig k mode) n, false, mkE (cutL d.neg d.dig k mode) n⟩
def rndR (d : Dc) (most : Int) (mode : Nat) : Rr :=
  if dcE d ≠ 0 then ⟨Dc.zero, false, dcE d⟩ else if most < 1 ∨ 2000 < most then ⟨Dc.zero, false, 101⟩ else if 4 < mode then ⟨Dc.zero, false, 7⟩ else
  if (d.dig.length : Int) ≤ most then ⟨d, true, 0⟩ else cutR d most (d.exp + d.dig.length - most) mode
def plcR (d : Dc) (pl : Int) (mode : Nat) : Rr :=
  if dcE d ≠ 0 then ⟨Dc.zero, false, dcE d⟩ else if pl < 0 ∨ 2000 < pl then ⟨Dc.zero, false, 101⟩ else if 4 < mode then ⟨Dc.zero, false, 7⟩ else
  if d.dig.length = 0 ∨ -pl ≤ d.exp then ⟨d, true, 0⟩ else cutR d (d.dig.length + pl + d.exp) (-pl) mode
theorem cut_any (d : Dc) (k n : Int) (mode : Nat) (hok : Ok d) (hm : mode ≤ 4) (hn : -4294967296 ≤ n ∧ n ≤ 4294967296) (hk : (d.dig.length : Int) - n + d.exp = k) (hkl : k < d.dig.length) (w : World) :
    Calls Tryz.prog 49 #[dcV d, .int .i64 n, .int .u8 (mode : Int)] w fun e w' => e = .returned (.tuple #[dcV (cutR d k n mode).d, .int .i64 (cutR d k n mode).e]) ∧ Ext w w' := by
  obtain ⟨neg, l, exp⟩ := d
  rcases Int.lt_trichotomy k 0 with h | h | h
  · exact cut_neg neg l exp n k mode hok hm hn hk h w
  · subst h
    exact cut_zero neg l exp n mode hok hm hn hk w
  · obtain ⟨j, rfl⟩ : ∃ j : Nat, k = j := ⟨k.toNat, by omega⟩
    exact cut_pos neg l exp n j mode hok hm hn hk (by simp only at hkl; omega) (by omega) w
theorem round_any (d : Dc) (most : Int) (mode : Nat) (hl : d.dig.length ≤ 9223372036854775807) (hb : -9223372036854775808 ≤ most ∧ most ≤ 9223372036854775807) (hm : mode ≤ 255) (w : World) :
    Calls Tryz.prog 19 #[dcV d, .int .i64 most, .int .u8 (mode : Int)] w fun e w' => e = .returned (rrV (rndR d most mode)) ∧ Ext w w' := by
  have hc := check_any' d hl
  by_cases h1 : dcE d = 0
  · rw [h1] at hc
    by_cases h2 : most < 1 ∨ 2000 < most
    · have R : rndR d most mode = ⟨Dc.zero, false, 101⟩ := by unfold rndR; rw [if_neg (by simpa using h1), if_pos h2]
      rw [R]
      clear R h1
      obtain ⟨neg, l, exp⟩ := d
      rcases h2 with h2 | h2
      all_goals
        go_enter Tryz.func19, Tryz.ntmps19
        go_wp2_with (first
          | (go_at_call 23; (with_reducible refine (hc _).mono ?_); rintro e w1 ⟨rfl, xb1⟩; obtain ⟨xc1, xf1, xl1, xz1⟩ := ext_use xb1; (try simp at xz1); have l1_0 := xl1 (w.heap.size) (by first | omega | (simp; try omega)); have r1_0 := xc1 (w.heap.size) 0 (by first | omega | (simp; try omega)); have f1_0 := xf1 (w.heap.size) 0 (by first | omega | (simp; try omega)); have r1_0_1 := xc1 (w.heap.size) 1 (by first | omega | (simp; try omega)); have f1_0_1 := xf1 (w.heap.size) 1 (by first | omega | (simp; try omega)); have r1_0_2 := xc1 (w.heap.size) 2 (by first | omega | (simp; try omega)); have f1_0_2 := xf1 (w.heap.size) 2 (by first | omega | (simp; try omega)); have l1_1 := xl1 (w.heap.size + 1) (by first | omega | (simp; try omega)); have r1_1 := xc1 (w.heap.size + 1) 0 (by first | omega | (simp; try omega)); have f1_1 := xf1 (w.heap.size + 1) 0 (by first | omega | (simp; try omega)); have r1_1_1 := xc1 (w.heap.size + 1) 1 (by first | omega | (simp; try omega)); have f1_1_1 := xf1 (w.heap.size + 1) 1 (by first | omega | (simp; try omega)); have r1_1_2 := xc1 (w.heap.size + 1) 2 (by first | omega | (simp; try omega)); have f1_1_2 := xf1 (w.heap.size + 1) 2 (by first | omega | (simp; try omega)))
         )
        all_goals
          refine bodyPost_ret (v := rrV ⟨Dc.zero, false, 101⟩) ?h rfl ⟨rfl, ?_⟩
          case h => simp [results, Tryz.results19, go_sem, *, Dc.zero, bs_nil]
          repeat (first | exact ext_refl _ | assumption | refine ext_setCell ?_ (by simp; try omega) _ | refine ext_alloc ?_ _ | refine ext_drew ?_ | refine ext_drewN ?_ _ | refine ext_trans ?_ (Aft.use _) | refine ext_trans ?_ (by assumption))
    by_cases h3 : 4 < mode
    · have R : rndR d most mode = ⟨Dc.zero, false, 7⟩ := by unfold rndR; rw [if_neg (by simpa using h1), if_neg h2, if_pos h3]
      rw [R]
      clear R h1
      obtain ⟨neg, l, exp⟩ := d
      have h4 : ¬ most < 1 := fun h => h2 (.inl h)
      have h5 : ¬ 2000 < most := fun h => h2 (.inr h)
      clear h2
      go_enter Tryz.func19, Tryz.ntmps19
      go_wp2_with (first
        | (go_at_call 23; (with_reducible refine (hc _).mono ?_); rintro e w1 ⟨rfl, xb1⟩; obtain ⟨xc1, xf1, xl1, xz1⟩ := ext_use xb1; (try simp at xz1); have l1_0 := xl1 (w.heap.size) (by first | omega | (simp; try omega)); have r1_0 := xc1 (w.heap.size) 0 (by first | omega | (simp; try omega)); have f1_0 := xf1 (w.heap.size) 0 (by first | omega | (simp; try omega)); have r1_0_1 := xc1 (w.heap.size) 1 (by first | omega | (simp; try omega)); have f1_0_1 := xf1 (w.heap.size) 1 (by first | omega | (simp; try omega)); have r1_0_2 := xc1 (w.heap.size) 2 (by first | omega | (simp; try omega)); have f1_0_2 := xf1 (w.heap.size) 2 (by first | omega | (simp; try omega)); have l1_1 := xl1 (w.heap.size + 1) (by first | omega | (simp; try omega)); have r1_1 := xc1 (w.heap.size + 1) 0 (by first | omega | (simp; try omega)); have f1_1 := xf1 (w.heap.size + 1) 0 (by first | omega | (simp; try omega)); have r1_1_1 := xc1 (w.heap.size + 1) 1 (by first | omega | (simp; try omega)); have f1_1_1 := xf1 (w.heap.size + 1) 1 (by first | omega | (simp; try omega)); have r1_1_2 := xc1 (w.heap.size + 1) 2 (by first | omega | (simp; try omega)); have f1_1_2 := xf1 (w.heap.size + 1) 2 (by first | omega | (simp; try omega)))
       )
      all_goals
        refine bodyPost_ret (v := rrV ⟨Dc.zero, false, 7⟩) ?h rfl ⟨rfl, ?_⟩
        case h => simp [results, Tryz.results19, go_sem, *, Dc.zero, bs_nil]
        repeat (first | exact ext_refl _ | assumption | refine ext_setCell ?_ (by simp; try omega) _ | refine ext_alloc ?_ _ | refine ext_drew ?_ | refine ext_drewN ?_ _ | refine ext_trans ?_ (Aft.use _) | refine ext_trans ?_ (by assumption))
    have h4 : ¬ most < 1 := fun h => h2 (.inl h)
    have h5 : ¬ 2000 < most := fun h => h2 (.inr h)
    by_cases h6 : (d.dig.length : Int) ≤ most
    · have R : rndR d most mode = ⟨d, true, 0⟩ := by unfold rndR; rw [if_neg (by simpa using h1), if_neg h2, if_neg h3, if_pos h6]
      rw [R]
      clear R h1 h2
      obtain ⟨neg, l, exp⟩ := d
      simp only at h6
      go_enter Tryz.func19, Tryz.ntmps19
      go_wp2_with (first
        | (go_at_call 23; (with_reducible refine (hc _).mono ?_); rintro e w1 ⟨rfl, xb1⟩; obtain ⟨xc1, xf1, xl1, xz1⟩ := ext_use xb1; (try simp at xz1); have l1_0 := xl1 (w.heap.size) (by first | omega | (simp; try omega)); have r1_0 := xc1 (w.heap.size) 0 (by first | omega | (simp; try omega)); have f1_0 := xf1 (w.heap.size) 0 (by first | omega | (simp; try omega)); have r1_0_1 := xc1 (w.heap.size) 1 (by first | omega | (simp; try omega)); have f1_0_1 := xf1 (w.heap.size) 1 (by first | omega | (simp; try omega)); have r1_0_2 := xc1 (w.heap.size) 2 (by first | omega | (simp; try omega)); have f1_0_2 := xf1 (w.heap.size) 2 (by first | omega | (simp; try omega)); have l1_1 := xl1 (w.heap.size + 1) (by first | omega | (simp; try omega)); have r1_1 := xc1 (w.heap.size + 1) 0 (by first | omega | (simp; try omega)); have f1_1 := xf1 (w.heap.size + 1) 0 (by first | omega | (simp; try omega)); have r1_1_1 := xc1 (w.heap.size + 1) 1 (by first | omega | (simp; try omega)); have f1_1_1 := xf1 (w.heap.size + 1) 1 (by first | omega | (simp; try omega)); have r1_1_2 := xc1 (w.heap.size + 1) 2 (by first | omega | (simp; try omega)); have f1_1_2 := xf1 (w.heap.size + 1) 2 (by first | omega | (simp; try omega)))
       )
      all_goals
        refine bodyPost_ret (v := rrV ⟨⟨neg, l, exp⟩, true, 0⟩) ?h rfl ⟨rfl, ?_⟩
        case h => simp [results, Tryz.results19, go_sem, *]
        repeat (first | exact ext_refl _ | assumption | refine ext_setCell ?_ (by simp; try omega) _ | refine ext_alloc ?_ _ | refine ext_drew ?_ | refine ext_drewN ?_ _ | refine ext_trans ?_ (Aft.use _) | refine ext_trans ?_ (by assumption))
    · have hok := dc_ok h1 (by omega)
      have R : rndR d most mode = cutR d most (d.exp + d.dig.length - most) mode := by unfold rndR; rw [if_neg (by simpa using h1), if_neg h2, if_neg h3, if_neg h6]
      rw [R]
      have he := hok.exp
      have hL := hok.len
      have hcut := cut_any d most (d.exp + d.dig.length - most) mode hok (by omega) (by omega) (by omega) (by omega)
      clear R h1 h2 hok
      obtain ⟨neg, l, exp⟩ := d
      simp only at h6 he hL hcut
      generalize hC : cutR ⟨neg, l, exp⟩ most (exp + l.length - most) mode = C at hcut
      have hC2 : C.ok = false := by rw [← hC]; rfl
      obtain ⟨⟨cn, cl, ce⟩, co, cE⟩ := C
      simp only at hC2 hcut
      subst hC2
      clear hC
      go_enter Tryz.func19, Tryz.ntmps19
      go_wp2_with (first
        | (go_at_call 23; (with_reducible refine (hc _).mono ?_); rintro e w1 ⟨rfl, xb1⟩; obtain ⟨xc1, xf1, xl1, xz1⟩ := ext_use xb1; (try simp at xz1); have l1_0 := xl1 (w.heap.size) (by first | omega | (simp; try omega)); have r1_0 := xc1 (w.heap.size) 0 (by first | omega | (simp; try omega)); have f1_0 := xf1 (w.heap.size) 0 (by first | omega | (simp; try omega)); have r1_0_1 := xc1 (w.heap.size) 1 (by first | omega | (simp; try omega)); have f1_0_1 := xf1 (w.heap.size) 1 (by first | omega | (simp; try omega)); have r1_0_2 := xc1 (w.heap.size) 2 (by first | omega | (simp; try omega)); have f1_0_2 := xf1 (w.heap.size) 2 (by first | omega | (simp; try omega)); have l1_1 := xl1 (w.heap.size + 1) (by first | omega | (simp; try omega)); have r1_1 := xc1 (w.heap.size + 1) 0 (by first | omega | (simp; try omega)); have f1_1 := xf1 (w.heap.size + 1) 0 (by first | omega | (simp; try omega)); have r1_1_1 := xc1 (w.heap.size + 1) 1 (by first | omega | (simp; try omega)); have f1_1_1 := xf1 (w.heap.size + 1) 1 (by first | omega | (simp; try omega)); have r1_1_2 := xc1 (w.heap.size + 1) 2 (by first | omega | (simp; try omega)); have f1_1_2 := xf1 (w.heap.size + 1) 2 (by first | omega | (simp; try omega)))
        | (go_at_call 49; (with_reducible refine (hcut _).mono ?_); rintro e w2 ⟨rfl, xb2⟩; obtain ⟨xc2, xf2, xl2, xz2⟩ := ext_use xb2; (try simp at xz2); have l2_0 := xl2 (w.heap.size) (by first | omega | (simp; try omega)); have r2_0 := xc2 (w.heap.size) 0 (by first | omega | (simp; try omega)); have f2_0 := xf2 (w.heap.size) 0 (by first | omega | (simp; try omega)); have r2_0_1 := xc2 (w.heap.size) 1 (by first | omega | (simp; try omega)); have f2_0_1 := xf2 (w.heap.size) 1 (by first | omega | (simp; try omega)); have r2_0_2 := xc2 (w.heap.size) 2 (by first | omega | (simp; try omega)); have f2_0_2 := xf2 (w.heap.size) 2 (by first | omega | (simp; try omega)); have l2_1 := xl2 (w.heap.size + 1) (by first | omega | (simp; try omega)); have r2_1 := xc2 (w.heap.size + 1) 0 (by first | omega | (simp; try omega)); have f2_1 := xf2 (w.heap.size + 1) 0 (by first | omega | (simp; try omega)); have r2_1_1 := xc2 (w.heap.size + 1) 1 (by first | omega | (simp; try omega)); have f2_1_1 := xf2 (w.heap.size + 1) 1 (by first | omega | (simp; try omega)); have r2_1_2 := xc2 (w.heap.size + 1) 2 (by first | omega | (simp; try omega)); have f2_1_2 := xf2 (w.heap.size + 1) 2 (by first | omega | (simp; try omega)))
       )
      all_goals
        refine bodyPost_ret (v := rrV ⟨⟨cn, cl, ce⟩, false, cE⟩) ?h rfl ⟨rfl, ?_⟩
        case h => simp [results, Tryz.results19, go_sem, *]
        repeat (first | exact ext_refl _ | assumption | refine ext_setCell ?_ (by simp; try omega) _ | refine ext_alloc ?_ _ | refine ext_drew ?_ | refine ext_drewN ?_ _ | refine ext_trans ?_ (Aft.use _) | refine ext_trans ?_ (by assumption))
  · have R : rndR d most mode = ⟨Dc.zero, false, dcE d⟩ := by unfold rndR; rw [if_pos (by simpa using h1)]
    rw [R]
    have hne : (dcE d == 0) = false := by rw [beq_eq_false_iff_ne]; exact h1
    clear R h1
    generalize dcE d = E at hc hne
    obtain ⟨neg, l, exp⟩ := d
    go_enter Tryz.func19, Tryz.ntmps19
    go_wp2_with (first
      | (go_at_call 23; (with_reducible refine (hc _).mono ?_); rintro e w1 ⟨rfl, xb1⟩; obtain ⟨xc1, xf1, xl1, xz1⟩ := ext_use xb1; (try simp at xz1); have l1_0 := xl1 (w.heap.size) (by first | omega | (simp; try omega)); have r1_0 := xc1 (w.heap.size) 0 (by first | omega | (simp; try omega)); have f1_0 := xf1 (w.heap.size) 0 (by first | omega | (simp; try omega)); have r1_0_1 := xc1 (w.heap.size) 1 (by first | omega | (simp; try omega)); have f1_0_1 := xf1 (w.heap.size) 1 (by first | omega | (simp; try omega)); have r1_0_2 := xc1 (w.heap.size) 2 (by first | omega | (simp; try omega)); have f1_0_2 := xf1 (w.heap.size) 2 (by first | omega | (simp; try omega)); have l1_1 := xl1 (w.heap.size + 1) (by first | omega | (simp; try omega)); have r1_1 := xc1 (w.heap.size + 1) 0 (by first | omega | (simp; try omega)); have f1_1 := xf1 (w.heap.size + 1) 0 (by first | omega | (simp; try omega)); have r1_1_1 := xc1 (w.heap.size + 1) 1 (by first | omega | (simp; try omega)); have f1_1_1 := xf1 (w.heap.size + 1) 1 (by first | omega | (simp; try omega)); have r1_1_2 := xc1 (w.heap.size + 1) 2 (by first | omega | (simp; try omega)); have f1_1_2 := xf1 (w.heap.size + 1) 2 (by first | omega | (simp; try omega)))
     )
    all_goals
      refine bodyPost_ret (v := rrV ⟨Dc.zero, false, E⟩) ?h rfl ⟨rfl, ?_⟩
      case h => simp [results, Tryz.results19, go_sem, *, Dc.zero, bs_nil]
      repeat (first | exact ext_refl _ | assumption | refine ext_setCell ?_ (by simp; try omega) _ | refine ext_alloc ?_ _ | refine ext_drew ?_ | refine ext_drewN ?_ _ | refine ext_trans ?_ (Aft.use _) | refine ext_trans ?_ (by assumption))
end Go.Proofs.YtdjegfnkpagdaaaGreatDoor
end
section
/- Words of the library's: a number is added to a row, from a word on. -/
namespace Go.Proofs.YtdjegfnkpagdaaaGreatDoor
open Go.RowKit
attribute [local go_sem] sz2 sz3 sz4 sz5 sz6 sz7 sz8
set_option maxHeartbeats 4000000
set_option maxRecDepth 100000
attribute [local irreducible] Calls
theorem only_refl (w : World) (r : Option Nat) : w.grownBy w r := ⟨rfl, rfl, rfl, Nat.le_refl _, fun _ _ _ => rfl⟩
theorem only_set (w : World) (g i : Nat) (u : Value) : w.grownBy (w.setCell ⟨g, i, none⟩ u) (some g) :=
  ⟨rfl, rfl, rfl, by simp, fun k _ hk => Go.Deep.blk_setCell_other w ⟨g, i, none⟩ u k (fun e => hk (by rw [e]))⟩
theorem only_ext {W w w' : World} {g : Nat} (h : Ext W w) (hg : w.grownBy w' (some g)) (hW : W.heap.size ≤ g) : Ext W w' :=
  ⟨hg.os.trans h.os, hg.tape.trans h.tape, hg.output.trans h.output, Nat.le_trans h.size hg.size, fun i hi =>
    (hg.block i (Nat.lt_of_lt_of_le hi h.size) (by intro e; simp at e; omega)).trans (h.block i hi)⟩
theorem addAt_step {os ys : List Nat} {n p cy o y T : Nat} (hl : os.length = n) (hp : p < n) (hv : val os + Bs ^ p * cy = T) (ho : os.getD p 0 = o) :
    val (os.set p ((o + cy + y) % 4294967296)) + Bs ^ (p + 1) * ((o + cy + y) / 4294967296) = T + Bs ^ p * y := by
  have h1 := val_set os p ((o + cy + y) % 4294967296) (by omega)
  rw [ho] at h1
  have h2 : (o + cy + y) % 4294967296 + Bs * ((o + cy + y) / 4294967296) = o + cy + y := Nat.mod_add_div _ _
  have h3 : Bs ^ p * ((o + cy + y) % 4294967296) + Bs ^ (p + 1) * ((o + cy + y) / 4294967296) = Bs ^ p * o + Bs ^ p * cy + Bs ^ p * y := by
    rw [Nat.pow_succ, Nat.mul_assoc, ← Nat.mul_add, h2, Nat.mul_add, Nat.mul_add]
  omega
theorem bw_addAt (base g n : Nat) (B : Option Addr) (m d : Nat) (ys : List Nat) (at_ : Nat) (os : List Nat) (w : World) (hown : w.ownsRow base 60 1 (.slice (some ⟨g, 0, none⟩) n n) n (os.map u32V)) (hos : Lb os)
    (hB : Rd w B m d ys) (hap : ∀ a, B = some a → ys ≠ [] → a.block ≠ g) (hfit : val os + Bs ^ at_ * val ys < Bs ^ n) (hn : n ≤ 3000000) (hat : at_ + m ≤ n) :
    Calls Tryz.prog 116 #[.slice (some ⟨g, 0, none⟩) n n, .slice B m d, .int .i64 (at_ : Int)] w fun e w' => ∃ os' : List Nat, e = .returned (.tuple #[]) ∧ Hid (w'.ownsRow base 60 1 (.slice (some ⟨g, 0, none⟩) n n) n (os'.map u32V)) ∧
      Hid (Lb os' ∧ val os' = val os + Bs ^ at_ * val ys) ∧ Hid (w.grownBy w' (some g)) := by
  have hmy := hB.mx
  have hcy := hB.cap
  have HB := Lib.hid hB
  have hly := Lib.hid hB.len
  have hby := Lib.hid hB.lb
  have hgl : g < w.heap.size := (hown.lt g rfl).2
  have hbg : base ≤ g := (hown.lt g rfl).1
  have hol : os.length = n := by have := hown.1; simpa using this
  have HO := Lib.hid hown
  have HFit := Lib.hid hfit
  have Hap := Lib.hid hap
  have HOL := Lib.hid (show os.length = n ∧ Lb os from ⟨hol, hos⟩)
  clear hB hown hos hfit hap hol
  go_enter Tryz.func116, Tryz.ntmps116
  go_wp2
  go_loopw [6, 7] (fun vc vi wr => ∃ (i cy : Nat) (zs : List Nat), i ≤ n ∧ cy ≤ 1 ∧ vi = .int .i64 (i : Int) ∧ vc = .int .u64 (cy : Int) ∧ (m < i → at_ + i ≤ n) ∧ Hid (zs.length = n ∧ Lb zs ∧ val zs + Bs ^ (at_ + i) * cy = val os + Bs ^ at_ * val (ys.take i)) ∧
      Hid (wr.ownsRow base 60 1 (.slice (some ⟨g, 0, none⟩) n n) n (zs.map u32V)) ∧ Hid (w.grownBy wr (some g)))
    (fun _ vi _ => n + 1 - (intOf vi).toNat)
  case atStart => exact ⟨0, 0, os, Nat.zero_le _, by omega, rfl, rfl, by omega, ⟨HOL.out.1, HOL.out.2, by simp [val]⟩, HO.out, only_refl _ _⟩
  case round =>
    clear HO
    obtain ⟨i, cy, zs, hi, hcy1, rfl, rfl, him, hz, hown, hgr⟩ := hrel
    have hE : Hid (Rd wr B m d ys) := Lib.hid (rd_grown HB.out hgr.out (fun a ha hne e => Hap.out a ha hne (by simp at e; exact e.symm)))
    by_cases hgo : i < m ∨ 0 < cy
    · have hlt : at_ + i < n := by
        rcases hgo with h | h
        · omega
        · rcases Nat.lt_or_ge i m with h1 | h1
          · omega
          · have h2 := hz.out.2.2
            have h3 := HFit.out
            rw [take_ge (by rw [hly.out]; exact h1)] at h2
            have h4 : Bs ^ (at_ + i) * 1 ≤ Bs ^ (at_ + i) * cy := Nat.mul_le_mul_left _ h
            have h5 : Bs ^ (at_ + i) < Bs ^ n := by omega
            exact (Nat.pow_lt_pow_iff_right (by decide)).1 h5
      obtain ⟨o, ho, hob⟩ : ∃ o : Nat, Hid (zs.getD (at_ + i) 0 = o) ∧ o < 4294967296 := ⟨_, rfl, lb_getD hz.out.2.1 _⟩
      obtain ⟨hc1, hf1⟩ := own_at hown.out (at_ + i) hlt
      rw [ho.out] at hc1
      have fin : ∀ (y : Nat) (z q : Int), y < 4294967296 → ys.getD i 0 = y → z = (((o + cy + y) % 4294967296 : Nat) : Int) → q = (((o + cy + y) / 4294967296 : Nat) : Int) → ∃ (i' cy' : Nat) (zs' : List Nat), i' ≤ n ∧ cy' ≤ 1 ∧ Value.int IntKind.i64 ((i : Int) + 1) = .int .i64 (i' : Int) ∧ Value.int IntKind.u64 q = .int .u64 (cy' : Int) ∧ (m < i' → at_ + i' ≤ n) ∧
          Hid (zs'.length = n ∧ Lb zs' ∧ val zs' + Bs ^ (at_ + i') * cy' = val os + Bs ^ at_ * val (ys.take i')) ∧
          Hid ((wr.setCell ⟨g, at_ + i, none⟩ (.int .u32 z)).ownsRow base 60 1 (.slice (some ⟨g, 0, none⟩) n n) n (zs'.map u32V)) ∧ Hid (w.grownBy (wr.setCell ⟨g, at_ + i, none⟩ (.int .u32 z)) (some g)) := by
        rintro y z q hyb hy rfl rfl
        refine ⟨i + 1, (o + cy + y) / 4294967296, zs.set (at_ + i) ((o + cy + y) % 4294967296), by omega, by omega, by simp, rfl, by omega, ⟨by rw [List.length_set]; exact hz.out.1, lb_set hz.out.2.1 _ (Nat.mod_lt _ (by decide)), ?_⟩, own_set hown.out _ _, hgr.out.trans (only_set _ _ _ _)⟩
        have h1 := addAt_step (ys := ys) (y := y) hz.out.1 hlt hz.out.2.2 ho.out
        rw [val_take_succ, hy, ← Nat.add_assoc, h1, Nat.mul_add, ← Nat.mul_assoc, ← Nat.pow_add, Nat.add_assoc]
      by_cases hm0 : i < m
      · obtain ⟨by', oy, hYe⟩ : ∃ b off, B = some ⟨b, off, none⟩ := by
          rcases HB.out.shape with ⟨_, h, _⟩ | h
          · omega
          · exact h
        subst hYe
        obtain ⟨y, hy, hyb, hcy2⟩ := hE.out.get i hm0
        have HF := Lib.hid (fun z q => fin y z q hyb hy.out)
        clear fin
        go_wp2
        all_goals
          refine ⟨HF.out _ _ (by omega) (by omega), ?_⟩
          simp [intOf]; omega
      · have hy0 : ys.getD i 0 = 0 := getD_ge (by rw [hly.out]; omega)
        have HF := Lib.hid (fun z q => fin 0 z q (by decide) hy0)
        clear fin hy0
        go_wp2
        all_goals
          refine ⟨HF.out _ _ (by omega) (by omega), ?_⟩
          simp [intOf]; omega
    · have hc0 : cy = 0 := by omega
      subst hc0
      have hfin : Hid (Lb zs ∧ val zs = val os + Bs ^ at_ * val ys) := by
        refine ⟨hz.out.2.1, ?_⟩
        have h2 := hz.out.2.2
        rw [take_ge (by rw [hly.out]; omega)] at h2
        simpa using h2
      go_wp2
      refine bodyPost_end (v := .tuple #[]) ?h rfl ⟨zs, rfl, hown, hfin, hgr⟩
      case h => simp [results, Tryz.results116, go_sem]
end Go.Proofs.YtdjegfnkpagdaaaGreatDoor
end
