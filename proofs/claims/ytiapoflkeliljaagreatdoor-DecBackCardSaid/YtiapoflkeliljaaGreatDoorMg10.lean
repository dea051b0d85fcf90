/- Lemmas of this proof, laid together: DecF, DecL, DecL2. -/
import Derived.Test.YtiapoflkeliljaaGreatDoorMg08
set_option linter.unusedSimpArgs false
set_option linter.unusedVariables false
section
/- The program's cut. -/
namespace Go.Proofs.YtiapoflkeliljaaGreatDoor
open Go.RowKit
attribute [local go_sem] bs_size bs_extract bs_get bs_append bs_toList const_get
attribute [local go_sem] sz2 sz3 sz4 sz5 sz6 sz7 sz8
set_option maxHeartbeats 4000000
set_option maxRecDepth 100000
attribute [local irreducible] Calls
/-- Is what is cut (k digits stay; k below 0: a place ahead of all digits) rounded away from nought? -/
def upB (neg : Bool) (l : List UInt8) (k : Int) (mode : Nat) : Bool :=
  if mode = 0 then decide (0 ≤ k) && decide (53 ≤ (l.getD k.toNat 0).toNat) && (!decide (l.drop k.toNat = [53]) || (decide (0 < k) && decide ((l.getD (k.toNat - 1) 0).toNat % 2 = 1)))
  else if mode = 1 then decide (0 ≤ k) && decide (53 ≤ (l.getD k.toNat 0).toNat)
  else if mode = 3 then !neg else if mode = 4 then neg else false
def cutL (neg : Bool) (l : List UInt8) (k : Int) (mode : Nat) : List UInt8 := if upB neg l k mode = true then nx (l.take k.toNat) else l.take k.toNat
theorem nx_len (l : List UInt8) (h : digsB l = true) : (nx l).length ≤ l.length + 1 := by
  unfold nx
  refine digs_len ?_
  have := dval_lt l h
  rw [Nat.pow_succ]
  omega
/-- How a cut goes (x: the first digit that is cut, t: those behind it, y: the last one that stays). -/
theorem cut_cases (neg : Bool) (l : List UInt8) (j mode : Nat) (x y : UInt8) (t H : List UInt8) (hm : mode ≤ 4) (ht : l.drop j = x :: t) (hH : l.take j = H) (hy : l.getD (j - 1) 0 = y) :
    (mode = 0 ∧ x.toNat < 53 ∧ cutL neg l j mode = H) ∨ (mode = 0 ∧ 53 ≤ x.toNat ∧ ¬ (x = 53 ∧ t = []) ∧ cutL neg l j mode = nx H) ∨
    (mode = 0 ∧ (x = 53 ∧ t = []) ∧ (0 < j ∧ y.toNat % 2 = 1) ∧ cutL neg l j mode = nx H) ∨ (mode = 0 ∧ (x = 53 ∧ t = []) ∧ (j = 0 ∨ y.toNat % 2 = 0) ∧ cutL neg l j mode = H) ∨
    (mode = 1 ∧ x.toNat < 53 ∧ cutL neg l j mode = H) ∨ (mode = 1 ∧ 53 ≤ x.toNat ∧ cutL neg l j mode = nx H) ∨ (mode = 2 ∧ cutL neg l j mode = H) ∨
    (mode = 3 ∧ neg = false ∧ cutL neg l j mode = nx H) ∨ (mode = 3 ∧ neg = true ∧ cutL neg l j mode = H) ∨ (mode = 4 ∧ neg = true ∧ cutL neg l j mode = nx H) ∨ (mode = 4 ∧ neg = false ∧ cutL neg l j mode = H) := by
  have hx : l.getD j 0 = x := by
    have h1 : j < l.length := by
      have := congrArg List.length ht
      simp at this; omega
    rw [List.drop_eq_getElem_cons h1] at ht
    rw [getD_eq h1]
    exact (List.cons.inj ht).1
  unfold cutL upB
  simp only [Int.toNat_natCast, hH, hx, ht, hy]
  have hc : x :: t = [53] ↔ (x = 53 ∧ t = []) := by simp
  rcases (show mode = 0 ∨ mode = 1 ∨ mode = 2 ∨ mode = 3 ∨ mode = 4 by omega) with rfl | rfl | rfl | rfl | rfl
  · by_cases h5 : 53 ≤ x.toNat
    · by_cases h6 : x = 53 ∧ t = []
      · by_cases h7 : 0 < j ∧ y.toNat % 2 = 1
        · refine .inr (.inr (.inl ⟨rfl, h6, h7, ?_⟩))
          simp [h5, hc.2 h6, h7.1, h7.2]
        · refine .inr (.inr (.inr (.inl ⟨rfl, h6, by omega, ?_⟩)))
          simp [h5, hc.2 h6]
          intro a b; exact absurd ⟨a, b⟩ h7
      · refine .inr (.inl ⟨rfl, h5, h6, ?_⟩)
        simp [h5, hc, h6]
    · refine .inl ⟨rfl, by omega, ?_⟩
      simp [h5]
  · by_cases h5 : 53 ≤ x.toNat
    · refine .inr (.inr (.inr (.inr (.inr (.inl ⟨rfl, h5, ?_⟩)))))
      simp [h5]
    · refine .inr (.inr (.inr (.inr (.inl ⟨rfl, by omega, ?_⟩))))
      simp [h5]
  · refine .inr (.inr (.inr (.inr (.inr (.inr (.inl ⟨rfl, ?_⟩))))))
    simp
  · cases neg
    · refine .inr (.inr (.inr (.inr (.inr (.inr (.inr (.inl ⟨rfl, rfl, ?_⟩)))))))
      simp
    · refine .inr (.inr (.inr (.inr (.inr (.inr (.inr (.inr (.inl ⟨rfl, rfl, ?_⟩))))))))
      simp
  · cases neg
    · refine .inr (.inr (.inr (.inr (.inr (.inr (.inr (.inr (.inr (.inr ⟨rfl, rfl, ?_⟩)))))))))
      simp
    · refine .inr (.inr (.inr (.inr (.inr (.inr (.inr (.inr (.inr (.inl ⟨rfl, rfl, ?_⟩)))))))))
      simp
theorem odd_bits (y : UInt8) : (bits BinOp.and IntKind.u8 (y.toNat : Int) 1 == 1) = decide (y.toNat % 2 = 1) := by
  have h : ∀ n : Fin 256, (bits BinOp.and IntKind.u8 ((n.val : Nat) : Int) 1 == 1) = decide (n.val % 2 = 1) := by decide
  exact h ⟨y.toNat, y.toNat_lt⟩
theorem lead_take {l : List UInt8} (h : lead l) (j : Nat) : lead (l.take j) := by
  intro y hy
  refine h y ?_
  rw [List.head?_take] at hy
  split at hy
  · cases hy
  · exact hy
theorem cut_pos (neg : Bool) (l : List UInt8) (exp n : Int) (j mode : Nat) (hok : Ok ⟨neg, l, exp⟩) (hm : mode ≤ 4) (hn : -4294967296 ≤ n ∧ n ≤ 4294967296) (hkk : (l.length : Int) - n + exp = (j : Int)) (hjl : j < l.length) (hjp : 0 < j) (w : World) :
    Calls Tryz.prog 197 #[dcV ⟨neg, l, exp⟩, .int .i64 n, .int .u8 (mode : Int)] w fun e w' => e = .returned (.tuple #[dcV (mkD neg (cutL neg l j mode) n), .int .i64 (mkE (cutL neg l j mode) n)]) ∧ Ext w w' := by
  obtain ⟨hl, hpos, hd, hld, he1, he2⟩ := hok
  simp only at hl hpos hd hld he1 he2
  obtain ⟨x, hxe⟩ : ∃ x, l[j] = x := ⟨_, rfl⟩
  obtain ⟨t, ht⟩ : ∃ t, l.drop j = x :: t := ⟨l.drop (j + 1), by rw [← hxe]; exact List.drop_eq_getElem_cons hjl⟩
  obtain ⟨H, hH⟩ : ∃ H, l.take j = H := ⟨_, rfl⟩
  obtain ⟨y, hy⟩ : ∃ y, l.getD (j - 1) 0 = y := ⟨_, rfl⟩
  have hHl : H.length = j := by rw [← hH, List.length_take]; omega
  have HDH : Hid (digsB H = true) := Lib.hid (by rw [← hH]; exact digs_take hd j)
  have HLH : Hid (lead H) := Lib.hid (by rw [← hH]; exact lead_take hld j)
  have hnl := nx_len H HDH.out
  have hyH : H[j - 1]'(by omega) = y := by
    rw [← hy, getD_eq (by omega)]
    simp only [← hH, List.getElem_take]
  have hHne : ¬ H = [] := by intro e; rw [e] at hHl; simp at hHl; omega
  have hHem : (!H.isEmpty) = true := by simp [hHne]
  have hcs := cut_cases neg l j mode x y t H hm ht hH hy
  clear hd hld hxe hy
  rcases hcs with ⟨rfl, h5, E⟩ | ⟨rfl, h5, h6, E⟩ | ⟨rfl, h6, h7, E⟩ | ⟨rfl, h6, h7, E⟩ | ⟨rfl, h5, E⟩ | ⟨rfl, h5, E⟩ | ⟨rfl, E⟩ | ⟨rfl, rfl, E⟩ | ⟨rfl, rfl, E⟩ | ⟨rfl, rfl, E⟩ | ⟨rfl, rfl, E⟩
  all_goals rw [E]
  all_goals clear E
  · skip
    go_enter Tryz.func197, Tryz.ntmps197
    go_wp2
    go_quiet (fail)
    go_wp2_with (first
      | (go_at_call 258; (with_reducible refine (next_any H HDH.out HLH.out (by omega) _).mono ?_); rintro e w1 ⟨rfl, xb1⟩; obtain ⟨xc1, xf1, xl1, xz1⟩ := ext_use xb1; (try simp at xz1); obtain ⟨l1_0, gc, gf⟩ := kp xb1 (w.heap.size) (by first | omega | (simp; try omega)); have r1_0 := gc 0; have f1_0 := gf 0; clear gc gf; obtain ⟨l1_1, gc, gf⟩ := kp xb1 (w.heap.size + 1) (by first | omega | (simp; try omega)); have r1_1 := gc 0; have f1_1 := gf 0; have r1_1_1 := gc 1; have f1_1_1 := gf 1; have r1_1_2 := gc 2; have f1_1_2 := gf 2; clear gc gf)
      | (go_at_call 142; (with_reducible refine (make_any _ _ _ (by omega) _).mono ?_); rintro e w2 ⟨rfl, xb2⟩; obtain ⟨xc2, xf2, xl2, xz2⟩ := ext_use xb2; (try simp at xz2); obtain ⟨l2_0, gc, gf⟩ := kp xb2 (w.heap.size + 1) (by first | omega | (simp; try omega)); have r2_0 := gc 0; have f2_0 := gf 0; have r2_0_1 := gc 1; have f2_0_1 := gf 1; have r2_0_2 := gc 2; have f2_0_2 := gf 2; clear gc gf)
     )
    all_goals
      refine bodyPost_ret (v := .tuple #[dcV (mkD neg H n), .int .i64 (mkE H n)]) ?h rfl ⟨rfl, ?_⟩
      case h => simp [results, Tryz.results197, go_sem, *]
      repeat (first | exact ext_refl _ | assumption | refine ext_setCell ?_ (by simp; try omega) _ | refine ext_alloc ?_ _ | refine ext_drew ?_ | refine ext_drewN ?_ _ | refine ext_trans ?_ (Aft.use _) | refine ext_trans ?_ (by assumption))
  · skip
    go_enter Tryz.func197, Tryz.ntmps197
    go_wp2
    go_quiet (fail)
    go_wp2_with (first
      | (go_at_call 258; (with_reducible refine (next_any H HDH.out HLH.out (by omega) _).mono ?_); rintro e w1 ⟨rfl, xb1⟩; obtain ⟨xc1, xf1, xl1, xz1⟩ := ext_use xb1; (try simp at xz1); obtain ⟨l1_0, gc, gf⟩ := kp xb1 (w.heap.size) (by first | omega | (simp; try omega)); have r1_0 := gc 0; have f1_0 := gf 0; clear gc gf; obtain ⟨l1_1, gc, gf⟩ := kp xb1 (w.heap.size + 1) (by first | omega | (simp; try omega)); have r1_1 := gc 0; have f1_1 := gf 0; have r1_1_1 := gc 1; have f1_1_1 := gf 1; have r1_1_2 := gc 2; have f1_1_2 := gf 2; clear gc gf)
      | (go_at_call 142; (with_reducible refine (make_any _ _ _ (by omega) _).mono ?_); rintro e w2 ⟨rfl, xb2⟩; obtain ⟨xc2, xf2, xl2, xz2⟩ := ext_use xb2; (try simp at xz2); obtain ⟨l2_0, gc, gf⟩ := kp xb2 (w.heap.size + 1) (by first | omega | (simp; try omega)); have r2_0 := gc 0; have f2_0 := gf 0; have r2_0_1 := gc 1; have f2_0_1 := gf 1; have r2_0_2 := gc 2; have f2_0_2 := gf 2; clear gc gf)
     )
    all_goals
      refine bodyPost_ret (v := .tuple #[dcV (mkD neg (nx H) n), .int .i64 (mkE (nx H) n)]) ?h rfl ⟨rfl, ?_⟩
      case h => simp [results, Tryz.results197, go_sem, *]
      repeat (first | exact ext_refl _ | assumption | refine ext_setCell ?_ (by simp; try omega) _ | refine ext_alloc ?_ _ | refine ext_drew ?_ | refine ext_drewN ?_ _ | refine ext_trans ?_ (Aft.use _) | refine ext_trans ?_ (by assumption))
  · skip
    have hb : (bits BinOp.and IntKind.u8 (y.toNat : Int) 1 == 1) = true := by rw [odd_bits, h7.2]; rfl
    obtain ⟨rfl, rfl⟩ := h6
    clear h7
    go_enter Tryz.func197, Tryz.ntmps197
    go_wp2
    go_quiet (fail)
    go_wp2_with (first
      | (go_at_call 258; (with_reducible refine (next_any H HDH.out HLH.out (by omega) _).mono ?_); rintro e w1 ⟨rfl, xb1⟩; obtain ⟨xc1, xf1, xl1, xz1⟩ := ext_use xb1; (try simp at xz1); obtain ⟨l1_0, gc, gf⟩ := kp xb1 (w.heap.size) (by first | omega | (simp; try omega)); have r1_0 := gc 0; have f1_0 := gf 0; clear gc gf; obtain ⟨l1_1, gc, gf⟩ := kp xb1 (w.heap.size + 1) (by first | omega | (simp; try omega)); have r1_1 := gc 0; have f1_1 := gf 0; have r1_1_1 := gc 1; have f1_1_1 := gf 1; have r1_1_2 := gc 2; have f1_1_2 := gf 2; clear gc gf)
      | (go_at_call 142; (with_reducible refine (make_any _ _ _ (by omega) _).mono ?_); rintro e w2 ⟨rfl, xb2⟩; obtain ⟨xc2, xf2, xl2, xz2⟩ := ext_use xb2; (try simp at xz2); obtain ⟨l2_0, gc, gf⟩ := kp xb2 (w.heap.size + 1) (by first | omega | (simp; try omega)); have r2_0 := gc 0; have f2_0 := gf 0; have r2_0_1 := gc 1; have f2_0_1 := gf 1; have r2_0_2 := gc 2; have f2_0_2 := gf 2; clear gc gf)
     )
    all_goals
      refine bodyPost_ret (v := .tuple #[dcV (mkD neg (nx H) n), .int .i64 (mkE (nx H) n)]) ?h rfl ⟨rfl, ?_⟩
      case h => simp [results, Tryz.results197, go_sem, *]
      repeat (first | exact ext_refl _ | assumption | refine ext_setCell ?_ (by simp; try omega) _ | refine ext_alloc ?_ _ | refine ext_drew ?_ | refine ext_drewN ?_ _ | refine ext_trans ?_ (Aft.use _) | refine ext_trans ?_ (by assumption))
  · skip
    have hb : (bits BinOp.and IntKind.u8 (y.toNat : Int) 1 == 1) = false := by rw [odd_bits, decide_eq_false_iff_not]; omega
    obtain ⟨rfl, rfl⟩ := h6
    clear h7
    go_enter Tryz.func197, Tryz.ntmps197
    go_wp2
    go_quiet (fail)
    go_wp2_with (first
      | (go_at_call 258; (with_reducible refine (next_any H HDH.out HLH.out (by omega) _).mono ?_); rintro e w1 ⟨rfl, xb1⟩; obtain ⟨xc1, xf1, xl1, xz1⟩ := ext_use xb1; (try simp at xz1); obtain ⟨l1_0, gc, gf⟩ := kp xb1 (w.heap.size) (by first | omega | (simp; try omega)); have r1_0 := gc 0; have f1_0 := gf 0; clear gc gf; obtain ⟨l1_1, gc, gf⟩ := kp xb1 (w.heap.size + 1) (by first | omega | (simp; try omega)); have r1_1 := gc 0; have f1_1 := gf 0; have r1_1_1 := gc 1; have f1_1_1 := gf 1; have r1_1_2 := gc 2; have f1_1_2 := gf 2; clear gc gf)
      | (go_at_call 142; (with_reducible refine (make_any _ _ _ (by omega) _).mono ?_); rintro e w2 ⟨rfl, xb2⟩; obtain ⟨xc2, xf2, xl2, xz2⟩ := ext_use xb2; (try simp at xz2); obtain ⟨l2_0, gc, gf⟩ := kp xb2 (w.heap.size + 1) (by first | omega | (simp; try omega)); have r2_0 := gc 0; have f2_0 := gf 0; have r2_0_1 := gc 1; have f2_0_1 := gf 1; have r2_0_2 := gc 2; have f2_0_2 := gf 2; clear gc gf)
     )
    all_goals
      refine bodyPost_ret (v := .tuple #[dcV (mkD neg H n), .int .i64 (mkE H n)]) ?h rfl ⟨rfl, ?_⟩
      case h => simp [results, Tryz.results197, go_sem, *]
      repeat (first | exact ext_refl _ | assumption | refine ext_setCell ?_ (by simp; try omega) _ | refine ext_alloc ?_ _ | refine ext_drew ?_ | refine ext_drewN ?_ _ | refine ext_trans ?_ (Aft.use _) | refine ext_trans ?_ (by assumption))
  · skip
    go_enter Tryz.func197, Tryz.ntmps197
    go_wp2
    go_quiet (fail)
    go_wp2_with (first
      | (go_at_call 258; (with_reducible refine (next_any H HDH.out HLH.out (by omega) _).mono ?_); rintro e w1 ⟨rfl, xb1⟩; obtain ⟨xc1, xf1, xl1, xz1⟩ := ext_use xb1; (try simp at xz1); obtain ⟨l1_0, gc, gf⟩ := kp xb1 (w.heap.size) (by first | omega | (simp; try omega)); have r1_0 := gc 0; have f1_0 := gf 0; clear gc gf; obtain ⟨l1_1, gc, gf⟩ := kp xb1 (w.heap.size + 1) (by first | omega | (simp; try omega)); have r1_1 := gc 0; have f1_1 := gf 0; have r1_1_1 := gc 1; have f1_1_1 := gf 1; have r1_1_2 := gc 2; have f1_1_2 := gf 2; clear gc gf)
      | (go_at_call 142; (with_reducible refine (make_any _ _ _ (by omega) _).mono ?_); rintro e w2 ⟨rfl, xb2⟩; obtain ⟨xc2, xf2, xl2, xz2⟩ := ext_use xb2; (try simp at xz2); obtain ⟨l2_0, gc, gf⟩ := kp xb2 (w.heap.size + 1) (by first | omega | (simp; try omega)); have r2_0 := gc 0; have f2_0 := gf 0; have r2_0_1 := gc 1; have f2_0_1 := gf 1; have r2_0_2 := gc 2; have f2_0_2 := gf 2; clear gc gf)
     )
    all_goals
      refine bodyPost_ret (v := .tuple #[dcV (mkD neg H n), .int .i64 (mkE H n)]) ?h rfl ⟨rfl, ?_⟩
      case h => simp [results, Tryz.results197, go_sem, *]
      repeat (first | exact ext_refl _ | assumption | refine ext_setCell ?_ (by simp; try omega) _ | refine ext_alloc ?_ _ | refine ext_drew ?_ | refine ext_drewN ?_ _ | refine ext_trans ?_ (Aft.use _) | refine ext_trans ?_ (by assumption))
  · skip
    go_enter Tryz.func197, Tryz.ntmps197
    go_wp2
    go_quiet (fail)
    go_wp2_with (first
      | (go_at_call 258; (with_reducible refine (next_any H HDH.out HLH.out (by omega) _).mono ?_); rintro e w1 ⟨rfl, xb1⟩; obtain ⟨xc1, xf1, xl1, xz1⟩ := ext_use xb1; (try simp at xz1); obtain ⟨l1_0, gc, gf⟩ := kp xb1 (w.heap.size) (by first | omega | (simp; try omega)); have r1_0 := gc 0; have f1_0 := gf 0; clear gc gf; obtain ⟨l1_1, gc, gf⟩ := kp xb1 (w.heap.size + 1) (by first | omega | (simp; try omega)); have r1_1 := gc 0; have f1_1 := gf 0; have r1_1_1 := gc 1; have f1_1_1 := gf 1; have r1_1_2 := gc 2; have f1_1_2 := gf 2; clear gc gf)
      | (go_at_call 142; (with_reducible refine (make_any _ _ _ (by omega) _).mono ?_); rintro e w2 ⟨rfl, xb2⟩; obtain ⟨xc2, xf2, xl2, xz2⟩ := ext_use xb2; (try simp at xz2); obtain ⟨l2_0, gc, gf⟩ := kp xb2 (w.heap.size + 1) (by first | omega | (simp; try omega)); have r2_0 := gc 0; have f2_0 := gf 0; have r2_0_1 := gc 1; have f2_0_1 := gf 1; have r2_0_2 := gc 2; have f2_0_2 := gf 2; clear gc gf)
     )
    all_goals
      refine bodyPost_ret (v := .tuple #[dcV (mkD neg (nx H) n), .int .i64 (mkE (nx H) n)]) ?h rfl ⟨rfl, ?_⟩
      case h => simp [results, Tryz.results197, go_sem, *]
      repeat (first | exact ext_refl _ | assumption | refine ext_setCell ?_ (by simp; try omega) _ | refine ext_alloc ?_ _ | refine ext_drew ?_ | refine ext_drewN ?_ _ | refine ext_trans ?_ (Aft.use _) | refine ext_trans ?_ (by assumption))
  · skip
    go_enter Tryz.func197, Tryz.ntmps197
    go_wp2
    go_quiet (fail)
    go_wp2_with (first
      | (go_at_call 258; (with_reducible refine (next_any H HDH.out HLH.out (by omega) _).mono ?_); rintro e w1 ⟨rfl, xb1⟩; obtain ⟨xc1, xf1, xl1, xz1⟩ := ext_use xb1; (try simp at xz1); obtain ⟨l1_0, gc, gf⟩ := kp xb1 (w.heap.size) (by first | omega | (simp; try omega)); have r1_0 := gc 0; have f1_0 := gf 0; clear gc gf; obtain ⟨l1_1, gc, gf⟩ := kp xb1 (w.heap.size + 1) (by first | omega | (simp; try omega)); have r1_1 := gc 0; have f1_1 := gf 0; have r1_1_1 := gc 1; have f1_1_1 := gf 1; have r1_1_2 := gc 2; have f1_1_2 := gf 2; clear gc gf)
      | (go_at_call 142; (with_reducible refine (make_any _ _ _ (by omega) _).mono ?_); rintro e w2 ⟨rfl, xb2⟩; obtain ⟨xc2, xf2, xl2, xz2⟩ := ext_use xb2; (try simp at xz2); obtain ⟨l2_0, gc, gf⟩ := kp xb2 (w.heap.size + 1) (by first | omega | (simp; try omega)); have r2_0 := gc 0; have f2_0 := gf 0; have r2_0_1 := gc 1; have f2_0_1 := gf 1; have r2_0_2 := gc 2; have f2_0_2 := gf 2; clear gc gf)
     )
    all_goals
      refine bodyPost_ret (v := .tuple #[dcV (mkD neg H n), .int .i64 (mkE H n)]) ?h rfl ⟨rfl, ?_⟩
      case h => simp [results, Tryz.results197, go_sem, *]
      repeat (first | exact ext_refl _ | assumption | refine ext_setCell ?_ (by simp; try omega) _ | refine ext_alloc ?_ _ | refine ext_drew ?_ | refine ext_drewN ?_ _ | refine ext_trans ?_ (Aft.use _) | refine ext_trans ?_ (by assumption))
  · skip
    go_enter Tryz.func197, Tryz.ntmps197
    go_wp2
    go_quiet (fail)
    go_wp2_with (first
      | (go_at_call 258; (with_reducible refine (next_any H HDH.out HLH.out (by omega) _).mono ?_); rintro e w1 ⟨rfl, xb1⟩; obtain ⟨xc1, xf1, xl1, xz1⟩ := ext_use xb1; (try simp at xz1); obtain ⟨l1_0, gc, gf⟩ := kp xb1 (w.heap.size) (by first | omega | (simp; try omega)); have r1_0 := gc 0; have f1_0 := gf 0; clear gc gf; obtain ⟨l1_1, gc, gf⟩ := kp xb1 (w.heap.size + 1) (by first | omega | (simp; try omega)); have r1_1 := gc 0; have f1_1 := gf 0; have r1_1_1 := gc 1; have f1_1_1 := gf 1; have r1_1_2 := gc 2; have f1_1_2 := gf 2; clear gc gf)
      | (go_at_call 142; (with_reducible refine (make_any _ _ _ (by omega) _).mono ?_); rintro e w2 ⟨rfl, xb2⟩; obtain ⟨xc2, xf2, xl2, xz2⟩ := ext_use xb2; (try simp at xz2); obtain ⟨l2_0, gc, gf⟩ := kp xb2 (w.heap.size + 1) (by first | omega | (simp; try omega)); have r2_0 := gc 0; have f2_0 := gf 0; have r2_0_1 := gc 1; have f2_0_1 := gf 1; have r2_0_2 := gc 2; have f2_0_2 := gf 2; clear gc gf)
     )
    all_goals
      refine bodyPost_ret (v := .tuple #[dcV (mkD false (nx H) n), .int .i64 (mkE (nx H) n)]) ?h rfl ⟨rfl, ?_⟩
      case h => simp [results, Tryz.results197, go_sem, *]
      repeat (first | exact ext_refl _ | assumption | refine ext_setCell ?_ (by simp; try omega) _ | refine ext_alloc ?_ _ | refine ext_drew ?_ | refine ext_drewN ?_ _ | refine ext_trans ?_ (Aft.use _) | refine ext_trans ?_ (by assumption))
  · skip
    go_enter Tryz.func197, Tryz.ntmps197
    go_wp2
    go_quiet (fail)
    go_wp2_with (first
      | (go_at_call 258; (with_reducible refine (next_any H HDH.out HLH.out (by omega) _).mono ?_); rintro e w1 ⟨rfl, xb1⟩; obtain ⟨xc1, xf1, xl1, xz1⟩ := ext_use xb1; (try simp at xz1); obtain ⟨l1_0, gc, gf⟩ := kp xb1 (w.heap.size) (by first | omega | (simp; try omega)); have r1_0 := gc 0; have f1_0 := gf 0; clear gc gf; obtain ⟨l1_1, gc, gf⟩ := kp xb1 (w.heap.size + 1) (by first | omega | (simp; try omega)); have r1_1 := gc 0; have f1_1 := gf 0; have r1_1_1 := gc 1; have f1_1_1 := gf 1; have r1_1_2 := gc 2; have f1_1_2 := gf 2; clear gc gf)
      | (go_at_call 142; (with_reducible refine (make_any _ _ _ (by omega) _).mono ?_); rintro e w2 ⟨rfl, xb2⟩; obtain ⟨xc2, xf2, xl2, xz2⟩ := ext_use xb2; (try simp at xz2); obtain ⟨l2_0, gc, gf⟩ := kp xb2 (w.heap.size + 1) (by first | omega | (simp; try omega)); have r2_0 := gc 0; have f2_0 := gf 0; have r2_0_1 := gc 1; have f2_0_1 := gf 1; have r2_0_2 := gc 2; have f2_0_2 := gf 2; clear gc gf)
     )
    all_goals
      refine bodyPost_ret (v := .tuple #[dcV (mkD true H n), .int .i64 (mkE H n)]) ?h rfl ⟨rfl, ?_⟩
      case h => simp [results, Tryz.results197, go_sem, *]
      repeat (first | exact ext_refl _ | assumption | refine ext_setCell ?_ (by simp; try omega) _ | refine ext_alloc ?_ _ | refine ext_drew ?_ | refine ext_drewN ?_ _ | refine ext_trans ?_ (Aft.use _) | refine ext_trans ?_ (by assumption))
  · skip
    go_enter Tryz.func197, Tryz.ntmps197
    go_wp2
    go_quiet (fail)
    go_wp2_with (first
      | (go_at_call 258; (with_reducible refine (next_any H HDH.out HLH.out (by omega) _).mono ?_); rintro e w1 ⟨rfl, xb1⟩; obtain ⟨xc1, xf1, xl1, xz1⟩ := ext_use xb1; (try simp at xz1); obtain ⟨l1_0, gc, gf⟩ := kp xb1 (w.heap.size) (by first | omega | (simp; try omega)); have r1_0 := gc 0; have f1_0 := gf 0; clear gc gf; obtain ⟨l1_1, gc, gf⟩ := kp xb1 (w.heap.size + 1) (by first | omega | (simp; try omega)); have r1_1 := gc 0; have f1_1 := gf 0; have r1_1_1 := gc 1; have f1_1_1 := gf 1; have r1_1_2 := gc 2; have f1_1_2 := gf 2; clear gc gf)
      | (go_at_call 142; (with_reducible refine (make_any _ _ _ (by omega) _).mono ?_); rintro e w2 ⟨rfl, xb2⟩; obtain ⟨xc2, xf2, xl2, xz2⟩ := ext_use xb2; (try simp at xz2); obtain ⟨l2_0, gc, gf⟩ := kp xb2 (w.heap.size + 1) (by first | omega | (simp; try omega)); have r2_0 := gc 0; have f2_0 := gf 0; have r2_0_1 := gc 1; have f2_0_1 := gf 1; have r2_0_2 := gc 2; have f2_0_2 := gf 2; clear gc gf)
     )
    all_goals
      refine bodyPost_ret (v := .tuple #[dcV (mkD true (nx H) n), .int .i64 (mkE (nx H) n)]) ?h rfl ⟨rfl, ?_⟩
      case h => simp [results, Tryz.results197, go_sem, *]
      repeat (first | exact ext_refl _ | assumption | refine ext_setCell ?_ (by simp; try omega) _ | refine ext_alloc ?_ _ | refine ext_drew ?_ | refine ext_drewN ?_ _ | refine ext_trans ?_ (Aft.use _) | refine ext_trans ?_ (by assumption))
  · skip
    go_enter Tryz.func197, Tryz.ntmps197
    go_wp2
    go_quiet (fail)
    go_wp2_with (first
      | (go_at_call 258; (with_reducible refine (next_any H HDH.out HLH.out (by omega) _).mono ?_); rintro e w1 ⟨rfl, xb1⟩; obtain ⟨xc1, xf1, xl1, xz1⟩ := ext_use xb1; (try simp at xz1); obtain ⟨l1_0, gc, gf⟩ := kp xb1 (w.heap.size) (by first | omega | (simp; try omega)); have r1_0 := gc 0; have f1_0 := gf 0; clear gc gf; obtain ⟨l1_1, gc, gf⟩ := kp xb1 (w.heap.size + 1) (by first | omega | (simp; try omega)); have r1_1 := gc 0; have f1_1 := gf 0; have r1_1_1 := gc 1; have f1_1_1 := gf 1; have r1_1_2 := gc 2; have f1_1_2 := gf 2; clear gc gf)
      | (go_at_call 142; (with_reducible refine (make_any _ _ _ (by omega) _).mono ?_); rintro e w2 ⟨rfl, xb2⟩; obtain ⟨xc2, xf2, xl2, xz2⟩ := ext_use xb2; (try simp at xz2); obtain ⟨l2_0, gc, gf⟩ := kp xb2 (w.heap.size + 1) (by first | omega | (simp; try omega)); have r2_0 := gc 0; have f2_0 := gf 0; have r2_0_1 := gc 1; have f2_0_1 := gf 1; have r2_0_2 := gc 2; have f2_0_2 := gf 2; clear gc gf)
     )
    all_goals
      refine bodyPost_ret (v := .tuple #[dcV (mkD false H n), .int .i64 (mkE H n)]) ?h rfl ⟨rfl, ?_⟩
      case h => simp [results, Tryz.results197, go_sem, *]
      repeat (first | exact ext_refl _ | assumption | refine ext_setCell ?_ (by simp; try omega) _ | refine ext_alloc ?_ _ | refine ext_drew ?_ | refine ext_drewN ?_ _ | refine ext_trans ?_ (Aft.use _) | refine ext_trans ?_ (by assumption))
theorem nx_nil : nx [] = [49] := by unfold nx; rw [show dval [] + 1 = 1 from rfl, digs_pos (by decide), show 1 / 10 = 0 from rfl, digs_zero]; rfl
theorem next_nil (w : World) : Calls Tryz.prog 258 #[.string ByteArray.empty] w fun e w' => e = .returned (.string (bs [49])) ∧ Ext w w' := by
  have := next_any [] rfl (fun x hx => by cases hx) (by simp) w
  rw [nx_nil] at this
  exact this
theorem make_nil (neg : Bool) (exp : Int) (w : World) : Calls Tryz.prog 142 #[.bool neg, .string ByteArray.empty, .int .i64 exp] w fun e w' => e = .returned (.tuple #[dcV (mkD neg [] exp), .int .i64 (mkE [] exp)]) ∧ Ext w w' :=
  make_any neg [] exp (by simp) w
theorem cut_zero (neg : Bool) (l : List UInt8) (exp n : Int) (mode : Nat) (hok : Ok ⟨neg, l, exp⟩) (hm : mode ≤ 4) (hn : -4294967296 ≤ n ∧ n ≤ 4294967296) (hkk : (l.length : Int) - n + exp = 0) (w : World) :
    Calls Tryz.prog 197 #[dcV ⟨neg, l, exp⟩, .int .i64 n, .int .u8 (mode : Int)] w fun e w' => e = .returned (.tuple #[dcV (mkD neg (cutL neg l 0 mode) n), .int .i64 (mkE (cutL neg l 0 mode) n)]) ∧ Ext w w' := by
  obtain ⟨hl, hpos, hd, hld, he1, he2⟩ := hok
  simp only at hl hpos hd hld he1 he2
  obtain ⟨x, hxe⟩ : ∃ x, l[0] = x := ⟨_, rfl⟩
  obtain ⟨t, ht⟩ : ∃ t, l.drop 0 = x :: t := ⟨l.drop (0 + 1), by rw [← hxe]; exact List.drop_eq_getElem_cons hpos⟩
  have hcs := cut_cases neg l 0 mode x (l.getD 0 0) t [] hm ht rfl rfl
  have hlx : l = [53] ↔ (x = 53 ∧ t = []) := by
    rw [List.drop_zero] at ht
    rw [ht]; simp
  rw [← hlx] at hcs
  rw [nx_nil] at hcs
  clear hd hld ht hlx
  rcases hcs with ⟨rfl, h5, E⟩ | ⟨rfl, h5, h6, E⟩ | ⟨rfl, h6, h7, E⟩ | ⟨rfl, h6, h7, E⟩ | ⟨rfl, h5, E⟩ | ⟨rfl, h5, E⟩ | ⟨rfl, E⟩ | ⟨rfl, rfl, E⟩ | ⟨rfl, rfl, E⟩ | ⟨rfl, rfl, E⟩ | ⟨rfl, rfl, E⟩
  all_goals (rw [show ((0 : Nat) : Int) = 0 from rfl] at E; rw [E])
  all_goals clear E
  · skip
    go_enter Tryz.func197, Tryz.ntmps197
    go_wp2
    go_quiet (fail)
    go_wp2_with (first
      | (go_at_call 142; (with_reducible refine (make_nil _ _ _).mono ?_); rintro e w2 ⟨rfl, xb2⟩; obtain ⟨xc2, xf2, xl2, xz2⟩ := ext_use xb2; (try simp at xz2); obtain ⟨l2_0, gc, gf⟩ := kp xb2 (w.heap.size + 1) (by first | omega | (simp; try omega)); have r2_0 := gc 0; have f2_0 := gf 0; have r2_0_1 := gc 1; have f2_0_1 := gf 1; have r2_0_2 := gc 2; have f2_0_2 := gf 2; clear gc gf)
     )
    all_goals
      refine bodyPost_ret (v := .tuple #[dcV (mkD neg [] n), .int .i64 (mkE [] n)]) ?h rfl ⟨rfl, ?_⟩
      case h => simp [results, Tryz.results197, go_sem, *]
      repeat (first | exact ext_refl _ | assumption | refine ext_setCell ?_ (by simp; try omega) _ | refine ext_alloc ?_ _ | refine ext_drew ?_ | refine ext_drewN ?_ _ | refine ext_trans ?_ (Aft.use _) | refine ext_trans ?_ (by assumption))
  · skip
    go_enter Tryz.func197, Tryz.ntmps197
    go_wp2
    go_quiet (fail)
    go_wp2_with (first
      | (go_at_call 258; (with_reducible refine (next_nil _).mono ?_); rintro e w1 ⟨rfl, xb1⟩; obtain ⟨xc1, xf1, xl1, xz1⟩ := ext_use xb1; (try simp at xz1); obtain ⟨l1_0, gc, gf⟩ := kp xb1 (w.heap.size) (by first | omega | (simp; try omega)); have r1_0 := gc 0; have f1_0 := gf 0; clear gc gf; obtain ⟨l1_1, gc, gf⟩ := kp xb1 (w.heap.size + 1) (by first | omega | (simp; try omega)); have r1_1 := gc 0; have f1_1 := gf 0; have r1_1_1 := gc 1; have f1_1_1 := gf 1; have r1_1_2 := gc 2; have f1_1_2 := gf 2; clear gc gf)
      | (go_at_call 142; (with_reducible refine (make_any _ _ _ (by simp) _).mono ?_); rintro e w2 ⟨rfl, xb2⟩; obtain ⟨xc2, xf2, xl2, xz2⟩ := ext_use xb2; (try simp at xz2); obtain ⟨l2_0, gc, gf⟩ := kp xb2 (w.heap.size + 1) (by first | omega | (simp; try omega)); have r2_0 := gc 0; have f2_0 := gf 0; have r2_0_1 := gc 1; have f2_0_1 := gf 1; have r2_0_2 := gc 2; have f2_0_2 := gf 2; clear gc gf)
     )
    all_goals
      refine bodyPost_ret (v := .tuple #[dcV (mkD neg [49] n), .int .i64 (mkE [49] n)]) ?h rfl ⟨rfl, ?_⟩
      case h => simp [results, Tryz.results197, go_sem, *]
      repeat (first | exact ext_refl _ | assumption | refine ext_setCell ?_ (by simp; try omega) _ | refine ext_alloc ?_ _ | refine ext_drew ?_ | refine ext_drewN ?_ _ | refine ext_trans ?_ (Aft.use _) | refine ext_trans ?_ (by assumption))
  · exact absurd h7.1 (by decide)
  · skip
    subst h6
    clear h7
    go_enter Tryz.func197, Tryz.ntmps197
    go_wp2
    go_quiet (fail)
    go_wp2_with (first
      | (go_at_call 142; (with_reducible refine (make_nil _ _ _).mono ?_); rintro e w2 ⟨rfl, xb2⟩; obtain ⟨xc2, xf2, xl2, xz2⟩ := ext_use xb2; (try simp at xz2); obtain ⟨l2_0, gc, gf⟩ := kp xb2 (w.heap.size + 1) (by first | omega | (simp; try omega)); have r2_0 := gc 0; have f2_0 := gf 0; have r2_0_1 := gc 1; have f2_0_1 := gf 1; have r2_0_2 := gc 2; have f2_0_2 := gf 2; clear gc gf)
     )
    all_goals
      refine bodyPost_ret (v := .tuple #[dcV (mkD neg [] n), .int .i64 (mkE [] n)]) ?h rfl ⟨rfl, ?_⟩
      case h => simp [results, Tryz.results197, go_sem, *]
      repeat (first | exact ext_refl _ | assumption | refine ext_setCell ?_ (by simp; try omega) _ | refine ext_alloc ?_ _ | refine ext_drew ?_ | refine ext_drewN ?_ _ | refine ext_trans ?_ (Aft.use _) | refine ext_trans ?_ (by assumption))
  · skip
    go_enter Tryz.func197, Tryz.ntmps197
    go_wp2
    go_quiet (fail)
    go_wp2_with (first
      | (go_at_call 142; (with_reducible refine (make_nil _ _ _).mono ?_); rintro e w2 ⟨rfl, xb2⟩; obtain ⟨xc2, xf2, xl2, xz2⟩ := ext_use xb2; (try simp at xz2); obtain ⟨l2_0, gc, gf⟩ := kp xb2 (w.heap.size + 1) (by first | omega | (simp; try omega)); have r2_0 := gc 0; have f2_0 := gf 0; have r2_0_1 := gc 1; have f2_0_1 := gf 1; have r2_0_2 := gc 2; have f2_0_2 := gf 2; clear gc gf)
     )
    all_goals
      refine bodyPost_ret (v := .tuple #[dcV (mkD neg [] n), .int .i64 (mkE [] n)]) ?h rfl ⟨rfl, ?_⟩
      case h => simp [results, Tryz.results197, go_sem, *]
      repeat (first | exact ext_refl _ | assumption | refine ext_setCell ?_ (by simp; try omega) _ | refine ext_alloc ?_ _ | refine ext_drew ?_ | refine ext_drewN ?_ _ | refine ext_trans ?_ (Aft.use _) | refine ext_trans ?_ (by assumption))
  · skip
    go_enter Tryz.func197, Tryz.ntmps197
    go_wp2
    go_quiet (fail)
    go_wp2_with (first
      | (go_at_call 258; (with_reducible refine (next_nil _).mono ?_); rintro e w1 ⟨rfl, xb1⟩; obtain ⟨xc1, xf1, xl1, xz1⟩ := ext_use xb1; (try simp at xz1); obtain ⟨l1_0, gc, gf⟩ := kp xb1 (w.heap.size) (by first | omega | (simp; try omega)); have r1_0 := gc 0; have f1_0 := gf 0; clear gc gf; obtain ⟨l1_1, gc, gf⟩ := kp xb1 (w.heap.size + 1) (by first | omega | (simp; try omega)); have r1_1 := gc 0; have f1_1 := gf 0; have r1_1_1 := gc 1; have f1_1_1 := gf 1; have r1_1_2 := gc 2; have f1_1_2 := gf 2; clear gc gf)
      | (go_at_call 142; (with_reducible refine (make_any _ _ _ (by simp) _).mono ?_); rintro e w2 ⟨rfl, xb2⟩; obtain ⟨xc2, xf2, xl2, xz2⟩ := ext_use xb2; (try simp at xz2); obtain ⟨l2_0, gc, gf⟩ := kp xb2 (w.heap.size + 1) (by first | omega | (simp; try omega)); have r2_0 := gc 0; have f2_0 := gf 0; have r2_0_1 := gc 1; have f2_0_1 := gf 1; have r2_0_2 := gc 2; have f2_0_2 := gf 2; clear gc gf)
     )
    all_goals
      refine bodyPost_ret (v := .tuple #[dcV (mkD neg [49] n), .int .i64 (mkE [49] n)]) ?h rfl ⟨rfl, ?_⟩
      case h => simp [results, Tryz.results197, go_sem, *]
      repeat (first | exact ext_refl _ | assumption | refine ext_setCell ?_ (by simp; try omega) _ | refine ext_alloc ?_ _ | refine ext_drew ?_ | refine ext_drewN ?_ _ | refine ext_trans ?_ (Aft.use _) | refine ext_trans ?_ (by assumption))
  · skip
    go_enter Tryz.func197, Tryz.ntmps197
    go_wp2
    go_quiet (fail)
    go_wp2_with (first
      | (go_at_call 142; (with_reducible refine (make_nil _ _ _).mono ?_); rintro e w2 ⟨rfl, xb2⟩; obtain ⟨xc2, xf2, xl2, xz2⟩ := ext_use xb2; (try simp at xz2); obtain ⟨l2_0, gc, gf⟩ := kp xb2 (w.heap.size + 1) (by first | omega | (simp; try omega)); have r2_0 := gc 0; have f2_0 := gf 0; have r2_0_1 := gc 1; have f2_0_1 := gf 1; have r2_0_2 := gc 2; have f2_0_2 := gf 2; clear gc gf)
     )
    all_goals
      refine bodyPost_ret (v := .tuple #[dcV (mkD neg [] n), .int .i64 (mkE [] n)]) ?h rfl ⟨rfl, ?_⟩
      case h => simp [results, Tryz.results197, go_sem, *]
      repeat (first | exact ext_refl _ | assumption | refine ext_setCell ?_ (by simp; try omega) _ | refine ext_alloc ?_ _ | refine ext_drew ?_ | refine ext_drewN ?_ _ | refine ext_trans ?_ (Aft.use _) | refine ext_trans ?_ (by assumption))
  · skip
    go_enter Tryz.func197, Tryz.ntmps197
    go_wp2
    go_quiet (fail)
    go_wp2_with (first
      | (go_at_call 258; (with_reducible refine (next_nil _).mono ?_); rintro e w1 ⟨rfl, xb1⟩; obtain ⟨xc1, xf1, xl1, xz1⟩ := ext_use xb1; (try simp at xz1); obtain ⟨l1_0, gc, gf⟩ := kp xb1 (w.heap.size) (by first | omega | (simp; try omega)); have r1_0 := gc 0; have f1_0 := gf 0; clear gc gf; obtain ⟨l1_1, gc, gf⟩ := kp xb1 (w.heap.size + 1) (by first | omega | (simp; try omega)); have r1_1 := gc 0; have f1_1 := gf 0; have r1_1_1 := gc 1; have f1_1_1 := gf 1; have r1_1_2 := gc 2; have f1_1_2 := gf 2; clear gc gf)
      | (go_at_call 142; (with_reducible refine (make_any _ _ _ (by simp) _).mono ?_); rintro e w2 ⟨rfl, xb2⟩; obtain ⟨xc2, xf2, xl2, xz2⟩ := ext_use xb2; (try simp at xz2); obtain ⟨l2_0, gc, gf⟩ := kp xb2 (w.heap.size + 1) (by first | omega | (simp; try omega)); have r2_0 := gc 0; have f2_0 := gf 0; have r2_0_1 := gc 1; have f2_0_1 := gf 1; have r2_0_2 := gc 2; have f2_0_2 := gf 2; clear gc gf)
     )
    all_goals
      refine bodyPost_ret (v := .tuple #[dcV (mkD false [49] n), .int .i64 (mkE [49] n)]) ?h rfl ⟨rfl, ?_⟩
      case h => simp [results, Tryz.results197, go_sem, *]
      repeat (first | exact ext_refl _ | assumption | refine ext_setCell ?_ (by simp; try omega) _ | refine ext_alloc ?_ _ | refine ext_drew ?_ | refine ext_drewN ?_ _ | refine ext_trans ?_ (Aft.use _) | refine ext_trans ?_ (by assumption))
  · skip
    go_enter Tryz.func197, Tryz.ntmps197
    go_wp2
    go_quiet (fail)
    go_wp2_with (first
      | (go_at_call 142; (with_reducible refine (make_nil _ _ _).mono ?_); rintro e w2 ⟨rfl, xb2⟩; obtain ⟨xc2, xf2, xl2, xz2⟩ := ext_use xb2; (try simp at xz2); obtain ⟨l2_0, gc, gf⟩ := kp xb2 (w.heap.size + 1) (by first | omega | (simp; try omega)); have r2_0 := gc 0; have f2_0 := gf 0; have r2_0_1 := gc 1; have f2_0_1 := gf 1; have r2_0_2 := gc 2; have f2_0_2 := gf 2; clear gc gf)
     )
    all_goals
      refine bodyPost_ret (v := .tuple #[dcV (mkD true [] n), .int .i64 (mkE [] n)]) ?h rfl ⟨rfl, ?_⟩
      case h => simp [results, Tryz.results197, go_sem, *]
      repeat (first | exact ext_refl _ | assumption | refine ext_setCell ?_ (by simp; try omega) _ | refine ext_alloc ?_ _ | refine ext_drew ?_ | refine ext_drewN ?_ _ | refine ext_trans ?_ (Aft.use _) | refine ext_trans ?_ (by assumption))
  · skip
    go_enter Tryz.func197, Tryz.ntmps197
    go_wp2
    go_quiet (fail)
    go_wp2_with (first
      | (go_at_call 258; (with_reducible refine (next_nil _).mono ?_); rintro e w1 ⟨rfl, xb1⟩; obtain ⟨xc1, xf1, xl1, xz1⟩ := ext_use xb1; (try simp at xz1); obtain ⟨l1_0, gc, gf⟩ := kp xb1 (w.heap.size) (by first | omega | (simp; try omega)); have r1_0 := gc 0; have f1_0 := gf 0; clear gc gf; obtain ⟨l1_1, gc, gf⟩ := kp xb1 (w.heap.size + 1) (by first | omega | (simp; try omega)); have r1_1 := gc 0; have f1_1 := gf 0; have r1_1_1 := gc 1; have f1_1_1 := gf 1; have r1_1_2 := gc 2; have f1_1_2 := gf 2; clear gc gf)
      | (go_at_call 142; (with_reducible refine (make_any _ _ _ (by simp) _).mono ?_); rintro e w2 ⟨rfl, xb2⟩; obtain ⟨xc2, xf2, xl2, xz2⟩ := ext_use xb2; (try simp at xz2); obtain ⟨l2_0, gc, gf⟩ := kp xb2 (w.heap.size + 1) (by first | omega | (simp; try omega)); have r2_0 := gc 0; have f2_0 := gf 0; have r2_0_1 := gc 1; have f2_0_1 := gf 1; have r2_0_2 := gc 2; have f2_0_2 := gf 2; clear gc gf)
     )
    all_goals
      refine bodyPost_ret (v := .tuple #[dcV (mkD true [49] n), .int .i64 (mkE [49] n)]) ?h rfl ⟨rfl, ?_⟩
      case h => simp [results, Tryz.results197, go_sem, *]
      repeat (first | exact ext_refl _ | assumption | refine ext_setCell ?_ (by simp; try omega) _ | refine ext_alloc ?_ _ | refine ext_drew ?_ | refine ext_drewN ?_ _ | refine ext_trans ?_ (Aft.use _) | refine ext_trans ?_ (by assumption))
  · skip
    go_enter Tryz.func197, Tryz.ntmps197
    go_wp2
    go_quiet (fail)
    go_wp2_with (first
      | (go_at_call 142; (with_reducible refine (make_nil _ _ _).mono ?_); rintro e w2 ⟨rfl, xb2⟩; obtain ⟨xc2, xf2, xl2, xz2⟩ := ext_use xb2; (try simp at xz2); obtain ⟨l2_0, gc, gf⟩ := kp xb2 (w.heap.size + 1) (by first | omega | (simp; try omega)); have r2_0 := gc 0; have f2_0 := gf 0; have r2_0_1 := gc 1; have f2_0_1 := gf 1; have r2_0_2 := gc 2; have f2_0_2 := gf 2; clear gc gf)
     )
    all_goals
      refine bodyPost_ret (v := .tuple #[dcV (mkD false [] n), .int .i64 (mkE [] n)]) ?h rfl ⟨rfl, ?_⟩
      case h => simp [results, Tryz.results197, go_sem, *]
      repeat (first | exact ext_refl _ | assumption | refine ext_setCell ?_ (by simp; try omega) _ | refine ext_alloc ?_ _ | refine ext_drew ?_ | refine ext_drewN ?_ _ | refine ext_trans ?_ (Aft.use _) | refine ext_trans ?_ (by assumption))
theorem cut_neg (neg : Bool) (l : List UInt8) (exp n : Int) (k : Int) (mode : Nat) (hok : Ok ⟨neg, l, exp⟩) (hm : mode ≤ 4) (hn : -4294967296 ≤ n ∧ n ≤ 4294967296) (hkk : (l.length : Int) - n + exp = k) (hk0 : k < 0) (w : World) :
    Calls Tryz.prog 197 #[dcV ⟨neg, l, exp⟩, .int .i64 n, .int .u8 (mode : Int)] w fun e w' => e = .returned (.tuple #[dcV (mkD neg (cutL neg l k mode) n), .int .i64 (mkE (cutL neg l k mode) n)]) ∧ Ext w w' := by
  obtain ⟨hl, hpos, hd, hld, he1, he2⟩ := hok
  simp only at hl hpos hd hld he1 he2
  have hk1 : ¬ 0 < k := by omega
  have hk2 : ¬ 0 ≤ k := by omega
  have hcs : (mode = 0 ∧ cutL neg l k mode = []) ∨ (mode = 1 ∧ cutL neg l k mode = []) ∨ (mode = 2 ∧ cutL neg l k mode = []) ∨
      (mode = 3 ∧ neg = false ∧ cutL neg l k mode = [49]) ∨ (mode = 3 ∧ neg = true ∧ cutL neg l k mode = []) ∨ (mode = 4 ∧ neg = true ∧ cutL neg l k mode = [49]) ∨ (mode = 4 ∧ neg = false ∧ cutL neg l k mode = []) := by
    have h0 : k.toNat = 0 := by omega
    unfold cutL upB
    rw [h0, List.take_zero, nx_nil]
    rcases (show mode = 0 ∨ mode = 1 ∨ mode = 2 ∨ mode = 3 ∨ mode = 4 by omega) with rfl | rfl | rfl | rfl | rfl <;> cases neg <;> simp [hk2]
  clear hd hld
  rcases hcs with ⟨rfl, E⟩ | ⟨rfl, E⟩ | ⟨rfl, E⟩ | ⟨rfl, rfl, E⟩ | ⟨rfl, rfl, E⟩ | ⟨rfl, rfl, E⟩ | ⟨rfl, rfl, E⟩
  all_goals rw [E]
  all_goals clear E
  · skip
    go_enter Tryz.func197, Tryz.ntmps197
    go_wp2
    go_quiet (fail)
    go_wp2_with (first
      | (go_at_call 142; (with_reducible refine (make_nil _ _ _).mono ?_); rintro e w2 ⟨rfl, xb2⟩; obtain ⟨xc2, xf2, xl2, xz2⟩ := ext_use xb2; (try simp at xz2); obtain ⟨l2_0, gc, gf⟩ := kp xb2 (w.heap.size + 1) (by first | omega | (simp; try omega)); have r2_0 := gc 0; have f2_0 := gf 0; have r2_0_1 := gc 1; have f2_0_1 := gf 1; have r2_0_2 := gc 2; have f2_0_2 := gf 2; clear gc gf)
     )
    all_goals
      refine bodyPost_ret (v := .tuple #[dcV (mkD neg [] n), .int .i64 (mkE [] n)]) ?h rfl ⟨rfl, ?_⟩
      case h => simp [results, Tryz.results197, go_sem, *]
      repeat (first | exact ext_refl _ | assumption | refine ext_setCell ?_ (by simp; try omega) _ | refine ext_alloc ?_ _ | refine ext_drew ?_ | refine ext_drewN ?_ _ | refine ext_trans ?_ (Aft.use _) | refine ext_trans ?_ (by assumption))
  · skip
    go_enter Tryz.func197, Tryz.ntmps197
    go_wp2
    go_quiet (fail)
    go_wp2_with (first
      | (go_at_call 142; (with_reducible refine (make_nil _ _ _).mono ?_); rintro e w2 ⟨rfl, xb2⟩; obtain ⟨xc2, xf2, xl2, xz2⟩ := ext_use xb2; (try simp at xz2); obtain ⟨l2_0, gc, gf⟩ := kp xb2 (w.heap.size + 1) (by first | omega | (simp; try omega)); have r2_0 := gc 0; have f2_0 := gf 0; have r2_0_1 := gc 1; have f2_0_1 := gf 1; have r2_0_2 := gc 2; have f2_0_2 := gf 2; clear gc gf)
     )
    all_goals
      refine bodyPost_ret (v := .tuple #[dcV (mkD neg [] n), .int .i64 (mkE [] n)]) ?h rfl ⟨rfl, ?_⟩
      case h => simp [results, Tryz.results197, go_sem, *]
      repeat (first | exact ext_refl _ | assumption | refine ext_setCell ?_ (by simp; try omega) _ | refine ext_alloc ?_ _ | refine ext_drew ?_ | refine ext_drewN ?_ _ | refine ext_trans ?_ (Aft.use _) | refine ext_trans ?_ (by assumption))
  · skip
    go_enter Tryz.func197, Tryz.ntmps197
    go_wp2
    go_quiet (fail)
    go_wp2_with (first
      | (go_at_call 142; (with_reducible refine (make_nil _ _ _).mono ?_); rintro e w2 ⟨rfl, xb2⟩; obtain ⟨xc2, xf2, xl2, xz2⟩ := ext_use xb2; (try simp at xz2); obtain ⟨l2_0, gc, gf⟩ := kp xb2 (w.heap.size + 1) (by first | omega | (simp; try omega)); have r2_0 := gc 0; have f2_0 := gf 0; have r2_0_1 := gc 1; have f2_0_1 := gf 1; have r2_0_2 := gc 2; have f2_0_2 := gf 2; clear gc gf)
     )
    all_goals
      refine bodyPost_ret (v := .tuple #[dcV (mkD neg [] n), .int .i64 (mkE [] n)]) ?h rfl ⟨rfl, ?_⟩
      case h => simp [results, Tryz.results197, go_sem, *]
      repeat (first | exact ext_refl _ | assumption | refine ext_setCell ?_ (by simp; try omega) _ | refine ext_alloc ?_ _ | refine ext_drew ?_ | refine ext_drewN ?_ _ | refine ext_trans ?_ (Aft.use _) | refine ext_trans ?_ (by assumption))
  · skip
    go_enter Tryz.func197, Tryz.ntmps197
    go_wp2
    go_quiet (fail)
    go_wp2_with (first
      | (go_at_call 258; (with_reducible refine (next_nil _).mono ?_); rintro e w1 ⟨rfl, xb1⟩; obtain ⟨xc1, xf1, xl1, xz1⟩ := ext_use xb1; (try simp at xz1); obtain ⟨l1_0, gc, gf⟩ := kp xb1 (w.heap.size) (by first | omega | (simp; try omega)); have r1_0 := gc 0; have f1_0 := gf 0; clear gc gf; obtain ⟨l1_1, gc, gf⟩ := kp xb1 (w.heap.size + 1) (by first | omega | (simp; try omega)); have r1_1 := gc 0; have f1_1 := gf 0; have r1_1_1 := gc 1; have f1_1_1 := gf 1; have r1_1_2 := gc 2; have f1_1_2 := gf 2; clear gc gf)
      | (go_at_call 142; (with_reducible refine (make_any _ _ _ (by simp) _).mono ?_); rintro e w2 ⟨rfl, xb2⟩; obtain ⟨xc2, xf2, xl2, xz2⟩ := ext_use xb2; (try simp at xz2); obtain ⟨l2_0, gc, gf⟩ := kp xb2 (w.heap.size + 1) (by first | omega | (simp; try omega)); have r2_0 := gc 0; have f2_0 := gf 0; have r2_0_1 := gc 1; have f2_0_1 := gf 1; have r2_0_2 := gc 2; have f2_0_2 := gf 2; clear gc gf)
     )
    all_goals
      refine bodyPost_ret (v := .tuple #[dcV (mkD false [49] n), .int .i64 (mkE [49] n)]) ?h rfl ⟨rfl, ?_⟩
      case h => simp [results, Tryz.results197, go_sem, *]
      repeat (first | exact ext_refl _ | assumption | refine ext_setCell ?_ (by simp; try omega) _ | refine ext_alloc ?_ _ | refine ext_drew ?_ | refine ext_drewN ?_ _ | refine ext_trans ?_ (Aft.use _) | refine ext_trans ?_ (by assumption))
  · skip
    go_enter Tryz.func197, Tryz.ntmps197
    go_wp2
    go_quiet (fail)
    go_wp2_with (first
      | (go_at_call 142; (with_reducible refine (make_nil _ _ _).mono ?_); rintro e w2 ⟨rfl, xb2⟩; obtain ⟨xc2, xf2, xl2, xz2⟩ := ext_use xb2; (try simp at xz2); obtain ⟨l2_0, gc, gf⟩ := kp xb2 (w.heap.size + 1) (by first | omega | (simp; try omega)); have r2_0 := gc 0; have f2_0 := gf 0; have r2_0_1 := gc 1; have f2_0_1 := gf 1; have r2_0_2 := gc 2; have f2_0_2 := gf 2; clear gc gf)
     )
    all_goals
      refine bodyPost_ret (v := .tuple #[dcV (mkD true [] n), .int .i64 (mkE [] n)]) ?h rfl ⟨rfl, ?_⟩
      case h => simp [results, Tryz.results197, go_sem, *]
      repeat (first | exact ext_refl _ | assumption | refine ext_setCell ?_ (by simp; try omega) _ | refine ext_alloc ?_ _ | refine ext_drew ?_ | refine ext_drewN ?_ _ | refine ext_trans ?_ (Aft.use _) | refine ext_trans ?_ (by assumption))
  · skip
    go_enter Tryz.func197, Tryz.ntmps197
    go_wp2
    go_quiet (fail)
    go_wp2_with (first
      | (go_at_call 258; (with_reducible refine (next_nil _).mono ?_); rintro e w1 ⟨rfl, xb1⟩; obtain ⟨xc1, xf1, xl1, xz1⟩ := ext_use xb1; (try simp at xz1); obtain ⟨l1_0, gc, gf⟩ := kp xb1 (w.heap.size) (by first | omega | (simp; try omega)); have r1_0 := gc 0; have f1_0 := gf 0; clear gc gf; obtain ⟨l1_1, gc, gf⟩ := kp xb1 (w.heap.size + 1) (by first | omega | (simp; try omega)); have r1_1 := gc 0; have f1_1 := gf 0; have r1_1_1 := gc 1; have f1_1_1 := gf 1; have r1_1_2 := gc 2; have f1_1_2 := gf 2; clear gc gf)
      | (go_at_call 142; (with_reducible refine (make_any _ _ _ (by simp) _).mono ?_); rintro e w2 ⟨rfl, xb2⟩; obtain ⟨xc2, xf2, xl2, xz2⟩ := ext_use xb2; (try simp at xz2); obtain ⟨l2_0, gc, gf⟩ := kp xb2 (w.heap.size + 1) (by first | omega | (simp; try omega)); have r2_0 := gc 0; have f2_0 := gf 0; have r2_0_1 := gc 1; have f2_0_1 := gf 1; have r2_0_2 := gc 2; have f2_0_2 := gf 2; clear gc gf)
     )
    all_goals
      refine bodyPost_ret (v := .tuple #[dcV (mkD true [49] n), .int .i64 (mkE [49] n)]) ?h rfl ⟨rfl, ?_⟩
      case h => simp [results, Tryz.results197, go_sem, *]
      repeat (first | exact ext_refl _ | assumption | refine ext_setCell ?_ (by simp; try omega) _ | refine ext_alloc ?_ _ | refine ext_drew ?_ | refine ext_drewN ?_ _ | refine ext_trans ?_ (Aft.use _) | refine ext_trans ?_ (by assumption))
  · skip
    go_enter Tryz.func197, Tryz.ntmps197
    go_wp2
    go_quiet (fail)
    go_wp2_with (first
      | (go_at_call 142; (with_reducible refine (make_nil _ _ _).mono ?_); rintro e w2 ⟨rfl, xb2⟩; obtain ⟨xc2, xf2, xl2, xz2⟩ := ext_use xb2; (try simp at xz2); obtain ⟨l2_0, gc, gf⟩ := kp xb2 (w.heap.size + 1) (by first | omega | (simp; try omega)); have r2_0 := gc 0; have f2_0 := gf 0; have r2_0_1 := gc 1; have f2_0_1 := gf 1; have r2_0_2 := gc 2; have f2_0_2 := gf 2; clear gc gf)
     )
    all_goals
      refine bodyPost_ret (v := .tuple #[dcV (mkD false [] n), .int .i64 (mkE [] n)]) ?h rfl ⟨rfl, ?_⟩
      case h => simp [results, Tryz.results197, go_sem, *]
      repeat (first | exact ext_refl _ | assumption | refine ext_setCell ?_ (by simp; try omega) _ | refine ext_alloc ?_ _ | refine ext_drew ?_ | refine ext_drewN ?_ _ | refine ext_trans ?_ (Aft.use _) | refine ext_trans ?_ (by assumption))
end Go.Proofs.YtiapoflkeliljaaGreatDoor
end
section
/- Round and Places, the program's. -/
namespace Go.Proofs.YtiapoflkeliljaaGreatDoor
open Go.RowKit
attribute [local go_sem] bs_size bs_extract bs_get bs_append bs_toList const_get
attribute [local go_sem] sz2 sz3 sz4 sz5 sz6 sz7 sz8
set_option maxHeartbeats 4000000
set_option maxRecDepth 100000
attribute [local irreducible] Calls
/-- What a rounding gives. -/
structure Rr where
  d : Dc
  ok : Bool
  e : Int
abbrev rrV (r : Rr) : Value := .tuple #[dcV r.d, .bool r.ok, .int .i64 r.e]
def cutR (d : Dc) (k n : Int) (mode : Nat) : Rr := ⟨mkD d.neg (cutL d.neg d.dig k mode) n, false, mkE (cutL d.neg d.dig k mode) n⟩
def rndR (d : Dc) (most : Int) (mode : Nat) : Rr :=
  if dcE d ≠ 0 then ⟨Dc.zero, false, dcE d⟩ else if most < 1 ∨ 2000 < most then ⟨Dc.zero, false, 101⟩ else if 4 < mode then ⟨Dc.zero, false, 7⟩ else
  if (d.dig.length : Int) ≤ most then ⟨d, true, 0⟩ else cutR d most (d.exp + d.dig.length - most) mode
def plcR (d : Dc) (pl : Int) (mode : Nat) : Rr :=
  if dcE d ≠ 0 then ⟨Dc.zero, false, dcE d⟩ else if pl < 0 ∨ 2000 < pl then ⟨Dc.zero, false, 101⟩ else if 4 < mode then ⟨Dc.zero, false, 7⟩ else
  if d.dig.length = 0 ∨ -pl ≤ d.exp then ⟨d, true, 0⟩ else cutR d (d.dig.length + pl + d.exp) (-pl) mode
theorem cut_any (d : Dc) (k n : Int) (mode : Nat) (hok : Ok d) (hm : mode ≤ 4) (hn : -4294967296 ≤ n ∧ n ≤ 4294967296) (hk : (d.dig.length : Int) - n + d.exp = k) (hkl : k < d.dig.length) (w : World) :
    Calls Tryz.prog 197 #[dcV d, .int .i64 n, .int .u8 (mode : Int)] w fun e w' => e = .returned (.tuple #[dcV (cutR d k n mode).d, .int .i64 (cutR d k n mode).e]) ∧ Ext w w' := by
  obtain ⟨neg, l, exp⟩ := d
  rcases Int.lt_trichotomy k 0 with h | h | h
  · exact cut_neg neg l exp n k mode hok hm hn hk h w
  · subst h
    exact cut_zero neg l exp n mode hok hm hn hk w
  · obtain ⟨j, rfl⟩ : ∃ j : Nat, k = j := ⟨k.toNat, by omega⟩
    exact cut_pos neg l exp n j mode hok hm hn hk (by simp only at hkl; omega) (by omega) w
theorem round_any (d : Dc) (most : Int) (mode : Nat) (hl : d.dig.length ≤ 9223372036854775807) (hb : -9223372036854775808 ≤ most ∧ most ≤ 9223372036854775807) (hm : mode ≤ 255) (w : World) :
    Calls Tryz.prog 128 #[dcV d, .int .i64 most, .int .u8 (mode : Int)] w fun e w' => e = .returned (rrV (rndR d most mode)) ∧ Ext w w' := by
  have hc := check_any' d hl
  by_cases h1 : dcE d = 0
  · rw [h1] at hc
    by_cases h2 : most < 1 ∨ 2000 < most
    · have R : rndR d most mode = ⟨Dc.zero, false, 101⟩ := by unfold rndR; rw [if_neg (by simpa using h1), if_pos h2]
      rw [R]
      clear R h1
      obtain ⟨neg, l, exp⟩ := d
      rcases h2 with h2 | h2
      all_goals
        go_enter Tryz.func128, Tryz.ntmps128
        go_wp2_with (first
          | (go_at_call 132; (with_reducible refine (hc _).mono ?_); rintro e w1 ⟨rfl, xb1⟩; obtain ⟨xc1, xf1, xl1, xz1⟩ := ext_use xb1; (try simp at xz1); obtain ⟨l1_0, gc, gf⟩ := kp xb1 (w.heap.size) (by first | omega | (simp; try omega)); have r1_0 := gc 0; have f1_0 := gf 0; have r1_0_1 := gc 1; have f1_0_1 := gf 1; have r1_0_2 := gc 2; have f1_0_2 := gf 2; clear gc gf; obtain ⟨l1_1, gc, gf⟩ := kp xb1 (w.heap.size + 1) (by first | omega | (simp; try omega)); have r1_1 := gc 0; have f1_1 := gf 0; have r1_1_1 := gc 1; have f1_1_1 := gf 1; have r1_1_2 := gc 2; have f1_1_2 := gf 2; clear gc gf)
         )
        all_goals
          refine bodyPost_ret (v := rrV ⟨Dc.zero, false, 101⟩) ?h rfl ⟨rfl, ?_⟩
          case h => simp [results, Tryz.results128, go_sem, *, Dc.zero, bs_nil]
          repeat (first | exact ext_refl _ | assumption | refine ext_setCell ?_ (by simp; try omega) _ | refine ext_alloc ?_ _ | refine ext_drew ?_ | refine ext_drewN ?_ _ | refine ext_trans ?_ (Aft.use _) | refine ext_trans ?_ (by assumption))
    by_cases h3 : 4 < mode
    · have R : rndR d most mode = ⟨Dc.zero, false, 7⟩ := by unfold rndR; rw [if_neg (by simpa using h1), if_neg h2, if_pos h3]
      rw [R]
      clear R h1
      obtain ⟨neg, l, exp⟩ := d
      have h4 : ¬ most < 1 := fun h => h2 (.inl h)
      have h5 : ¬ 2000 < most := fun h => h2 (.inr h)
      clear h2
      go_enter Tryz.func128, Tryz.ntmps128
      go_wp2_with (first
        | (go_at_call 132; (with_reducible refine (hc _).mono ?_); rintro e w1 ⟨rfl, xb1⟩; obtain ⟨xc1, xf1, xl1, xz1⟩ := ext_use xb1; (try simp at xz1); obtain ⟨l1_0, gc, gf⟩ := kp xb1 (w.heap.size) (by first | omega | (simp; try omega)); have r1_0 := gc 0; have f1_0 := gf 0; have r1_0_1 := gc 1; have f1_0_1 := gf 1; have r1_0_2 := gc 2; have f1_0_2 := gf 2; clear gc gf; obtain ⟨l1_1, gc, gf⟩ := kp xb1 (w.heap.size + 1) (by first | omega | (simp; try omega)); have r1_1 := gc 0; have f1_1 := gf 0; have r1_1_1 := gc 1; have f1_1_1 := gf 1; have r1_1_2 := gc 2; have f1_1_2 := gf 2; clear gc gf)
       )
      all_goals
        refine bodyPost_ret (v := rrV ⟨Dc.zero, false, 7⟩) ?h rfl ⟨rfl, ?_⟩
        case h => simp [results, Tryz.results128, go_sem, *, Dc.zero, bs_nil]
        repeat (first | exact ext_refl _ | assumption | refine ext_setCell ?_ (by simp; try omega) _ | refine ext_alloc ?_ _ | refine ext_drew ?_ | refine ext_drewN ?_ _ | refine ext_trans ?_ (Aft.use _) | refine ext_trans ?_ (by assumption))
    have h4 : ¬ most < 1 := fun h => h2 (.inl h)
    have h5 : ¬ 2000 < most := fun h => h2 (.inr h)
    by_cases h6 : (d.dig.length : Int) ≤ most
    · have R : rndR d most mode = ⟨d, true, 0⟩ := by unfold rndR; rw [if_neg (by simpa using h1), if_neg h2, if_neg h3, if_pos h6]
      rw [R]
      clear R h1 h2
      obtain ⟨neg, l, exp⟩ := d
      simp only at h6
      go_enter Tryz.func128, Tryz.ntmps128
      go_wp2_with (first
        | (go_at_call 132; (with_reducible refine (hc _).mono ?_); rintro e w1 ⟨rfl, xb1⟩; obtain ⟨xc1, xf1, xl1, xz1⟩ := ext_use xb1; (try simp at xz1); obtain ⟨l1_0, gc, gf⟩ := kp xb1 (w.heap.size) (by first | omega | (simp; try omega)); have r1_0 := gc 0; have f1_0 := gf 0; have r1_0_1 := gc 1; have f1_0_1 := gf 1; have r1_0_2 := gc 2; have f1_0_2 := gf 2; clear gc gf; obtain ⟨l1_1, gc, gf⟩ := kp xb1 (w.heap.size + 1) (by first | omega | (simp; try omega)); have r1_1 := gc 0; have f1_1 := gf 0; have r1_1_1 := gc 1; have f1_1_1 := gf 1; have r1_1_2 := gc 2; have f1_1_2 := gf 2; clear gc gf)
       )
      all_goals
        refine bodyPost_ret (v := rrV ⟨⟨neg, l, exp⟩, true, 0⟩) ?h rfl ⟨rfl, ?_⟩
        case h => simp [results, Tryz.results128, go_sem, *]
        repeat (first | exact ext_refl _ | assumption | refine ext_setCell ?_ (by simp; try omega) _ | refine ext_alloc ?_ _ | refine ext_drew ?_ | refine ext_drewN ?_ _ | refine ext_trans ?_ (Aft.use _) | refine ext_trans ?_ (by assumption))
    · have hok := dc_ok h1 (by omega)
      have R : rndR d most mode = cutR d most (d.exp + d.dig.length - most) mode := by unfold rndR; rw [if_neg (by simpa using h1), if_neg h2, if_neg h3, if_neg h6]
      rw [R]
      have he := hok.exp
      have hL := hok.len
      have hcut := cut_any d most (d.exp + d.dig.length - most) mode hok (by omega) (by omega) (by omega) (by omega)
      clear R h1 h2 hok
      obtain ⟨neg, l, exp⟩ := d
      simp only at h6 he hL hcut
      generalize hC : cutR ⟨neg, l, exp⟩ most (exp + l.length - most) mode = C at hcut
      have hC2 : C.ok = false := by rw [← hC]; rfl
      obtain ⟨⟨cn, cl, ce⟩, co, cE⟩ := C
      simp only at hC2 hcut
      subst hC2
      clear hC
      go_enter Tryz.func128, Tryz.ntmps128
      go_wp2_with (first
        | (go_at_call 132; (with_reducible refine (hc _).mono ?_); rintro e w1 ⟨rfl, xb1⟩; obtain ⟨xc1, xf1, xl1, xz1⟩ := ext_use xb1; (try simp at xz1); obtain ⟨l1_0, gc, gf⟩ := kp xb1 (w.heap.size) (by first | omega | (simp; try omega)); have r1_0 := gc 0; have f1_0 := gf 0; have r1_0_1 := gc 1; have f1_0_1 := gf 1; have r1_0_2 := gc 2; have f1_0_2 := gf 2; clear gc gf; obtain ⟨l1_1, gc, gf⟩ := kp xb1 (w.heap.size + 1) (by first | omega | (simp; try omega)); have r1_1 := gc 0; have f1_1 := gf 0; have r1_1_1 := gc 1; have f1_1_1 := gf 1; have r1_1_2 := gc 2; have f1_1_2 := gf 2; clear gc gf)
        | (go_at_call 197; (with_reducible refine (hcut _).mono ?_); rintro e w2 ⟨rfl, xb2⟩; obtain ⟨xc2, xf2, xl2, xz2⟩ := ext_use xb2; (try simp at xz2); obtain ⟨l2_0, gc, gf⟩ := kp xb2 (w.heap.size) (by first | omega | (simp; try omega)); have r2_0 := gc 0; have f2_0 := gf 0; have r2_0_1 := gc 1; have f2_0_1 := gf 1; have r2_0_2 := gc 2; have f2_0_2 := gf 2; clear gc gf; obtain ⟨l2_1, gc, gf⟩ := kp xb2 (w.heap.size + 1) (by first | omega | (simp; try omega)); have r2_1 := gc 0; have f2_1 := gf 0; have r2_1_1 := gc 1; have f2_1_1 := gf 1; have r2_1_2 := gc 2; have f2_1_2 := gf 2; clear gc gf)
       )
      all_goals
        refine bodyPost_ret (v := rrV ⟨⟨cn, cl, ce⟩, false, cE⟩) ?h rfl ⟨rfl, ?_⟩
        case h => simp [results, Tryz.results128, go_sem, *]
        repeat (first | exact ext_refl _ | assumption | refine ext_setCell ?_ (by simp; try omega) _ | refine ext_alloc ?_ _ | refine ext_drew ?_ | refine ext_drewN ?_ _ | refine ext_trans ?_ (Aft.use _) | refine ext_trans ?_ (by assumption))
  · have R : rndR d most mode = ⟨Dc.zero, false, dcE d⟩ := by unfold rndR; rw [if_pos (by simpa using h1)]
    rw [R]
    have hne : (dcE d == 0) = false := by rw [beq_eq_false_iff_ne]; exact h1
    clear R h1
    generalize dcE d = E at hc hne
    obtain ⟨neg, l, exp⟩ := d
    go_enter Tryz.func128, Tryz.ntmps128
    go_wp2_with (first
      | (go_at_call 132; (with_reducible refine (hc _).mono ?_); rintro e w1 ⟨rfl, xb1⟩; obtain ⟨xc1, xf1, xl1, xz1⟩ := ext_use xb1; (try simp at xz1); obtain ⟨l1_0, gc, gf⟩ := kp xb1 (w.heap.size) (by first | omega | (simp; try omega)); have r1_0 := gc 0; have f1_0 := gf 0; have r1_0_1 := gc 1; have f1_0_1 := gf 1; have r1_0_2 := gc 2; have f1_0_2 := gf 2; clear gc gf; obtain ⟨l1_1, gc, gf⟩ := kp xb1 (w.heap.size + 1) (by first | omega | (simp; try omega)); have r1_1 := gc 0; have f1_1 := gf 0; have r1_1_1 := gc 1; have f1_1_1 := gf 1; have r1_1_2 := gc 2; have f1_1_2 := gf 2; clear gc gf)
     )
    all_goals
      refine bodyPost_ret (v := rrV ⟨Dc.zero, false, E⟩) ?h rfl ⟨rfl, ?_⟩
      case h => simp [results, Tryz.results128, go_sem, *, Dc.zero, bs_nil]
      repeat (first | exact ext_refl _ | assumption | refine ext_setCell ?_ (by simp; try omega) _ | refine ext_alloc ?_ _ | refine ext_drew ?_ | refine ext_drewN ?_ _ | refine ext_trans ?_ (Aft.use _) | refine ext_trans ?_ (by assumption))
end Go.Proofs.YtiapoflkeliljaaGreatDoor
end
section
/- Round and Places, the program's. -/
namespace Go.Proofs.YtiapoflkeliljaaGreatDoor
open Go.RowKit
attribute [local go_sem] bs_size bs_extract bs_get bs_append bs_toList const_get
attribute [local go_sem] sz2 sz3 sz4 sz5 sz6 sz7 sz8
set_option maxHeartbeats 4000000
set_option maxRecDepth 100000
attribute [local irreducible] Calls
theorem places_any (d : Dc) (most : Int) (mode : Nat) (hl : d.dig.length ≤ 9223372036854775807) (hb : -9223372036854775808 ≤ most ∧ most ≤ 9223372036854775807) (hm : mode ≤ 255) (w : World) :
    Calls Tryz.prog 129 #[dcV d, .int .i64 most, .int .u8 (mode : Int)] w fun e w' => e = .returned (rrV (plcR d most mode)) ∧ Ext w w' := by
  have hc := check_any' d hl
  by_cases h1 : dcE d = 0
  · rw [h1] at hc
    by_cases h2 : most < 0 ∨ 2000 < most
    · have R : plcR d most mode = ⟨Dc.zero, false, 101⟩ := by unfold plcR; rw [if_neg (by simpa using h1), if_pos h2]
      rw [R]
      clear R h1
      obtain ⟨neg, l, exp⟩ := d
      rcases h2 with h2 | h2
      all_goals
        go_enter Tryz.func129, Tryz.ntmps129
        go_wp2_with (first
          | (go_at_call 132; (with_reducible refine (hc _).mono ?_); rintro e w1 ⟨rfl, xb1⟩; obtain ⟨xc1, xf1, xl1, xz1⟩ := ext_use xb1; (try simp at xz1); obtain ⟨l1_0, gc, gf⟩ := kp xb1 (w.heap.size) (by first | omega | (simp; try omega)); have r1_0 := gc 0; have f1_0 := gf 0; have r1_0_1 := gc 1; have f1_0_1 := gf 1; have r1_0_2 := gc 2; have f1_0_2 := gf 2; clear gc gf; obtain ⟨l1_1, gc, gf⟩ := kp xb1 (w.heap.size + 1) (by first | omega | (simp; try omega)); have r1_1 := gc 0; have f1_1 := gf 0; have r1_1_1 := gc 1; have f1_1_1 := gf 1; have r1_1_2 := gc 2; have f1_1_2 := gf 2; clear gc gf)
         )
        all_goals
          refine bodyPost_ret (v := rrV ⟨Dc.zero, false, 101⟩) ?h rfl ⟨rfl, ?_⟩
          case h => simp [results, Tryz.results129, go_sem, *, Dc.zero, bs_nil]
          repeat (first | exact ext_refl _ | assumption | refine ext_setCell ?_ (by simp; try omega) _ | refine ext_alloc ?_ _ | refine ext_drew ?_ | refine ext_drewN ?_ _ | refine ext_trans ?_ (Aft.use _) | refine ext_trans ?_ (by assumption))
    by_cases h3 : 4 < mode
    · have R : plcR d most mode = ⟨Dc.zero, false, 7⟩ := by unfold plcR; rw [if_neg (by simpa using h1), if_neg h2, if_pos h3]
      rw [R]
      clear R h1
      obtain ⟨neg, l, exp⟩ := d
      have h4 : ¬ most < 0 := fun h => h2 (.inl h)
      have h5 : ¬ 2000 < most := fun h => h2 (.inr h)
      clear h2
      go_enter Tryz.func129, Tryz.ntmps129
      go_wp2_with (first
        | (go_at_call 132; (with_reducible refine (hc _).mono ?_); rintro e w1 ⟨rfl, xb1⟩; obtain ⟨xc1, xf1, xl1, xz1⟩ := ext_use xb1; (try simp at xz1); obtain ⟨l1_0, gc, gf⟩ := kp xb1 (w.heap.size) (by first | omega | (simp; try omega)); have r1_0 := gc 0; have f1_0 := gf 0; have r1_0_1 := gc 1; have f1_0_1 := gf 1; have r1_0_2 := gc 2; have f1_0_2 := gf 2; clear gc gf; obtain ⟨l1_1, gc, gf⟩ := kp xb1 (w.heap.size + 1) (by first | omega | (simp; try omega)); have r1_1 := gc 0; have f1_1 := gf 0; have r1_1_1 := gc 1; have f1_1_1 := gf 1; have r1_1_2 := gc 2; have f1_1_2 := gf 2; clear gc gf)
       )
      all_goals
        refine bodyPost_ret (v := rrV ⟨Dc.zero, false, 7⟩) ?h rfl ⟨rfl, ?_⟩
        case h => simp [results, Tryz.results129, go_sem, *, Dc.zero, bs_nil]
        repeat (first | exact ext_refl _ | assumption | refine ext_setCell ?_ (by simp; try omega) _ | refine ext_alloc ?_ _ | refine ext_drew ?_ | refine ext_drewN ?_ _ | refine ext_trans ?_ (Aft.use _) | refine ext_trans ?_ (by assumption))
    have h4 : ¬ most < 0 := fun h => h2 (.inl h)
    have h5 : ¬ 2000 < most := fun h => h2 (.inr h)
    by_cases h6 : d.dig.length = 0 ∨ -most ≤ d.exp
    · have R : plcR d most mode = ⟨d, true, 0⟩ := by unfold plcR; rw [if_neg (by simpa using h1), if_neg h2, if_neg h3, if_pos h6]
      rw [R]
      clear R h1 h2
      obtain ⟨neg, l, exp⟩ := d
      simp only at h6 hl
      by_cases h7 : l.length = 0
      · obtain rfl : l = [] := List.eq_nil_of_length_eq_zero h7
        clear h7
        go_enter Tryz.func129, Tryz.ntmps129
        go_wp2_with (first
          | (go_at_call 132; (with_reducible refine (hc _).mono ?_); rintro e w1 ⟨rfl, xb1⟩; obtain ⟨xc1, xf1, xl1, xz1⟩ := ext_use xb1; (try simp at xz1); obtain ⟨l1_0, gc, gf⟩ := kp xb1 (w.heap.size) (by first | omega | (simp; try omega)); have r1_0 := gc 0; have f1_0 := gf 0; have r1_0_1 := gc 1; have f1_0_1 := gf 1; have r1_0_2 := gc 2; have f1_0_2 := gf 2; clear gc gf; obtain ⟨l1_1, gc, gf⟩ := kp xb1 (w.heap.size + 1) (by first | omega | (simp; try omega)); have r1_1 := gc 0; have f1_1 := gf 0; have r1_1_1 := gc 1; have f1_1_1 := gf 1; have r1_1_2 := gc 2; have f1_1_2 := gf 2; clear gc gf)
          | (go_at_call 193; (with_reducible refine (none_any _ _ _ _).mono ?_); rintro e w3 ⟨rfl, xb3⟩; obtain ⟨xc3, xf3, xl3, xz3⟩ := ext_use xb3; (try simp at xz3); obtain ⟨l3_0, gc, gf⟩ := kp xb3 (w.heap.size) (by first | omega | (simp; try omega)); have r3_0 := gc 0; have f3_0 := gf 0; have r3_0_1 := gc 1; have f3_0_1 := gf 1; have r3_0_2 := gc 2; have f3_0_2 := gf 2; clear gc gf; obtain ⟨l3_1, gc, gf⟩ := kp xb3 (w.heap.size + 1) (by first | omega | (simp; try omega)); have r3_1 := gc 0; have f3_1 := gf 0; have r3_1_1 := gc 1; have f3_1_1 := gf 1; have r3_1_2 := gc 2; have f3_1_2 := gf 2; clear gc gf)
         )
        all_goals
          refine bodyPost_ret (v := rrV ⟨⟨neg, [], exp⟩, true, 0⟩) ?h rfl ⟨rfl, ?_⟩
          case h => simp [results, Tryz.results129, go_sem, *, bs_nil]
          repeat (first | exact ext_refl _ | assumption | refine ext_setCell ?_ (by simp; try omega) _ | refine ext_alloc ?_ _ | refine ext_drew ?_ | refine ext_drewN ?_ _ | refine ext_trans ?_ (Aft.use _) | refine ext_trans ?_ (by assumption))
      have h8 : -most ≤ exp := by omega
      have h9 : decide (l.length = 0) = false := by simpa using h7
      have h10 : ¬ l = [] := by intro e; subst e; simp at h7
      clear h6 h7
      go_enter Tryz.func129, Tryz.ntmps129
      go_wp2_with (first
        | (go_at_call 132; (with_reducible refine (hc _).mono ?_); rintro e w1 ⟨rfl, xb1⟩; obtain ⟨xc1, xf1, xl1, xz1⟩ := ext_use xb1; (try simp at xz1); obtain ⟨l1_0, gc, gf⟩ := kp xb1 (w.heap.size) (by first | omega | (simp; try omega)); have r1_0 := gc 0; have f1_0 := gf 0; have r1_0_1 := gc 1; have f1_0_1 := gf 1; have r1_0_2 := gc 2; have f1_0_2 := gf 2; clear gc gf; obtain ⟨l1_1, gc, gf⟩ := kp xb1 (w.heap.size + 1) (by first | omega | (simp; try omega)); have r1_1 := gc 0; have f1_1 := gf 0; have r1_1_1 := gc 1; have f1_1_1 := gf 1; have r1_1_2 := gc 2; have f1_1_2 := gf 2; clear gc gf)
        | (go_at_call 193; (with_reducible refine (none_any _ _ _ _).mono ?_); rintro e w3 ⟨rfl, xb3⟩; obtain ⟨xc3, xf3, xl3, xz3⟩ := ext_use xb3; (try simp at xz3); obtain ⟨l3_0, gc, gf⟩ := kp xb3 (w.heap.size) (by first | omega | (simp; try omega)); have r3_0 := gc 0; have f3_0 := gf 0; have r3_0_1 := gc 1; have f3_0_1 := gf 1; have r3_0_2 := gc 2; have f3_0_2 := gf 2; clear gc gf; obtain ⟨l3_1, gc, gf⟩ := kp xb3 (w.heap.size + 1) (by first | omega | (simp; try omega)); have r3_1 := gc 0; have f3_1 := gf 0; have r3_1_1 := gc 1; have f3_1_1 := gf 1; have r3_1_2 := gc 2; have f3_1_2 := gf 2; clear gc gf)
       )
      all_goals
        refine bodyPost_ret (v := rrV ⟨⟨neg, l, exp⟩, true, 0⟩) ?h rfl ⟨rfl, ?_⟩
        case h => simp [results, Tryz.results129, go_sem, *]
        repeat (first | exact ext_refl _ | assumption | refine ext_setCell ?_ (by simp; try omega) _ | refine ext_alloc ?_ _ | refine ext_drew ?_ | refine ext_drewN ?_ _ | refine ext_trans ?_ (Aft.use _) | refine ext_trans ?_ (by assumption))
    · have hok := dc_ok h1 (by omega)
      have R : plcR d most mode = cutR d (d.dig.length + most + d.exp) (-most) mode := by unfold plcR; rw [if_neg (by simpa using h1), if_neg h2, if_neg h3, if_neg h6]
      rw [R]
      have he := hok.exp
      have hL := hok.len
      have hcut := cut_any d (d.dig.length + most + d.exp) (-most) mode hok (by omega) (by omega) (by omega) (by omega)
      clear R h1 h2 hok
      obtain ⟨neg, l, exp⟩ := d
      simp only at h6 he hL hcut
      have h9 : decide (l.length = 0) = false := by rw [decide_eq_false_iff_not]; exact fun h => h6 (.inl h)
      have h10 : ¬ l = [] := by intro e; exact h6 (.inl (by rw [e]; rfl))
      have h11 : l.isEmpty = false := by simp [h10]
      have h8 : ¬ -most ≤ exp := fun h => h6 (.inr h)
      generalize hC : cutR ⟨neg, l, exp⟩ (l.length + most + exp) (-most) mode = C at hcut
      have hC2 : C.ok = false := by rw [← hC]; rfl
      obtain ⟨⟨cn, cl, ce⟩, co, cE⟩ := C
      simp only at hC2 hcut
      subst hC2
      clear hC h6
      go_enter Tryz.func129, Tryz.ntmps129
      go_wp2_with (first
        | (go_at_call 132; (with_reducible refine (hc _).mono ?_); rintro e w1 ⟨rfl, xb1⟩; obtain ⟨xc1, xf1, xl1, xz1⟩ := ext_use xb1; (try simp at xz1); obtain ⟨l1_0, gc, gf⟩ := kp xb1 (w.heap.size) (by first | omega | (simp; try omega)); have r1_0 := gc 0; have f1_0 := gf 0; have r1_0_1 := gc 1; have f1_0_1 := gf 1; have r1_0_2 := gc 2; have f1_0_2 := gf 2; clear gc gf; obtain ⟨l1_1, gc, gf⟩ := kp xb1 (w.heap.size + 1) (by first | omega | (simp; try omega)); have r1_1 := gc 0; have f1_1 := gf 0; have r1_1_1 := gc 1; have f1_1_1 := gf 1; have r1_1_2 := gc 2; have f1_1_2 := gf 2; clear gc gf)
        | (go_at_call 193; (with_reducible refine (none_any _ _ _ _).mono ?_); rintro e w3 ⟨rfl, xb3⟩; obtain ⟨xc3, xf3, xl3, xz3⟩ := ext_use xb3; (try simp at xz3); obtain ⟨l3_0, gc, gf⟩ := kp xb3 (w.heap.size) (by first | omega | (simp; try omega)); have r3_0 := gc 0; have f3_0 := gf 0; have r3_0_1 := gc 1; have f3_0_1 := gf 1; have r3_0_2 := gc 2; have f3_0_2 := gf 2; clear gc gf; obtain ⟨l3_1, gc, gf⟩ := kp xb3 (w.heap.size + 1) (by first | omega | (simp; try omega)); have r3_1 := gc 0; have f3_1 := gf 0; have r3_1_1 := gc 1; have f3_1_1 := gf 1; have r3_1_2 := gc 2; have f3_1_2 := gf 2; clear gc gf)
        | (go_at_call 197; (with_reducible refine (hcut _).mono ?_); rintro e w2 ⟨rfl, xb2⟩; obtain ⟨xc2, xf2, xl2, xz2⟩ := ext_use xb2; (try simp at xz2); obtain ⟨l2_0, gc, gf⟩ := kp xb2 (w.heap.size) (by first | omega | (simp; try omega)); have r2_0 := gc 0; have f2_0 := gf 0; have r2_0_1 := gc 1; have f2_0_1 := gf 1; have r2_0_2 := gc 2; have f2_0_2 := gf 2; clear gc gf; obtain ⟨l2_1, gc, gf⟩ := kp xb2 (w.heap.size + 1) (by first | omega | (simp; try omega)); have r2_1 := gc 0; have f2_1 := gf 0; have r2_1_1 := gc 1; have f2_1_1 := gf 1; have r2_1_2 := gc 2; have f2_1_2 := gf 2; clear gc gf)
       )
      all_goals
        refine bodyPost_ret (v := rrV ⟨⟨cn, cl, ce⟩, false, cE⟩) ?h rfl ⟨rfl, ?_⟩
        case h => simp [results, Tryz.results129, go_sem, *]
        repeat (first | exact ext_refl _ | assumption | refine ext_setCell ?_ (by simp; try omega) _ | refine ext_alloc ?_ _ | refine ext_drew ?_ | refine ext_drewN ?_ _ | refine ext_trans ?_ (Aft.use _) | refine ext_trans ?_ (by assumption))
  · have R : plcR d most mode = ⟨Dc.zero, false, dcE d⟩ := by unfold plcR; rw [if_pos (by simpa using h1)]
    rw [R]
    have hne : (dcE d == 0) = false := by rw [beq_eq_false_iff_ne]; exact h1
    clear R h1
    generalize dcE d = E at hc hne
    obtain ⟨neg, l, exp⟩ := d
    go_enter Tryz.func129, Tryz.ntmps129
    go_wp2_with (first
      | (go_at_call 132; (with_reducible refine (hc _).mono ?_); rintro e w1 ⟨rfl, xb1⟩; obtain ⟨xc1, xf1, xl1, xz1⟩ := ext_use xb1; (try simp at xz1); obtain ⟨l1_0, gc, gf⟩ := kp xb1 (w.heap.size) (by first | omega | (simp; try omega)); have r1_0 := gc 0; have f1_0 := gf 0; have r1_0_1 := gc 1; have f1_0_1 := gf 1; have r1_0_2 := gc 2; have f1_0_2 := gf 2; clear gc gf; obtain ⟨l1_1, gc, gf⟩ := kp xb1 (w.heap.size + 1) (by first | omega | (simp; try omega)); have r1_1 := gc 0; have f1_1 := gf 0; have r1_1_1 := gc 1; have f1_1_1 := gf 1; have r1_1_2 := gc 2; have f1_1_2 := gf 2; clear gc gf)
     )
    all_goals
      refine bodyPost_ret (v := rrV ⟨Dc.zero, false, E⟩) ?h rfl ⟨rfl, ?_⟩
      case h => simp [results, Tryz.results129, go_sem, *, Dc.zero, bs_nil]
      repeat (first | exact ext_refl _ | assumption | refine ext_setCell ?_ (by simp; try omega) _ | refine ext_alloc ?_ _ | refine ext_drew ?_ | refine ext_drewN ?_ _ | refine ext_trans ?_ (Aft.use _) | refine ext_trans ?_ (by assumption))
end Go.Proofs.YtiapoflkeliljaaGreatDoor
end
