/- The document's Add of two decimals that are not nought. -/
import Derived.Test.YtbgimjfeigeicaaGreatDoorSumC
import Derived.Test.YtbgimjfeigeicaaGreatDoorSumA
import Derived.Test.YtbgimjfeigeicaaGreatDoorDecG0
import Derived.Test.YtbgimjfeigeicaaGreatDoorNtJ
import Derived.Test.YtbgimjfeigeicaaGreatDoorDecTw
import Derived.Test.YtbgimjfeigeicaaGreatDoorDrawn
import Derived.Deep.DeepCutAuto
import Derived.Deep.RegionWith
namespace Go.Proofs.YtbgimjfeigeicaaGreatDoor
open Go.RowKit
attribute [local go_sem] bs_size bs_extract bs_get bs_append bs_toList const_get
attribute [local go_sem] Oper.detAt detUpon relUpon
attribute [local go_sem] sz2 sz3 sz4 sz5 sz6 sz7 sz8
set_option maxHeartbeats 4000000
set_option maxRecDepth 100000
attribute [local irreducible] Calls
/-- A number of the document's, in memory that may lie anywhere behind N. -/
def RNat (N : Nat) (v : Nat) : List Value → Value → World → Prop := fun _ u w => ∃ (A : Option Addr) (k c : Nat), u = natV A k c ∧ Rd w A k c (lim v) ∧ ∀ a, A = some a → N ≤ a.block
theorem stays_nat (N v : Nat) : Stays (RNat N v) := fun _ _ _ _ ⟨A, k, c, h1, h2, h3⟩ he => ⟨A, k, c, h1, h2.ext he, h3⟩
/-- A variable that holds no limb is none of a number's. -/
theorem rd_apart {w : World} {A : Option Addr} {n c : Nat} {xs : List Nat} {B : Nat} {v : Value} {t : TypeId} (h : Rd w A n c xs) (hB : w.heap[B]? = some (.cells #[v] t (0, 0))) (hv : ∀ x : Nat, v ≠ u32V x) (u : Value) : Rd (w.setCell ⟨B, 0, none⟩ u) A n c xs :=
  ⟨h.len, h.cap, h.mx, h.lb, h.none_, h.at_, fun b off hA i hi => by
    obtain ⟨h1, h2⟩ := h.cells b off hA i hi
    refine ⟨by simpa using h1, ?_⟩
    by_cases e : b = B
    · exfalso
      subst e
      rw [cell_of_row w b _ _ t (0, 0) hB] at h2
      by_cases e0 : off + i = 0
      · rw [e0] at h2
        simp at h2
        exact hv _ h2
      · rw [Array.getElem?_eq_none (by simp; omega)] at h2
        cases h2
    · rw [World.cell?_setCell_far _ _ _ _ (by intro e2; simp at e2; exact e e2.symm)]; exact h2⟩
theorem sub_small' {a b n : Nat} (ha : a < 10 ^ n) (hn : n ≤ 65536) : (lim (a - b)).length ≤ 6914 ∧ (dtext (a - b)).length ≤ n + 2 := lt_small (Nat.lt_of_le_of_lt (Nat.sub_le a b) ha) hn
theorem rnat_at {N v : Nat} {vals : List Value} {A : Option Addr} {k c : Nat} {w : World} (h : RNat N v vals (natV A k c) w) : Rd w A k c (lim v) ∧ ∀ a, A = some a → N ≤ a.block := by
  obtain ⟨A', k', c', e, h2, h3⟩ := h
  simp only [natV, Value.agg.injEq, Array.mk.injEq, List.cons.injEq, Value.slice.injEq, and_true] at e
  obtain ⟨rfl, rfl, rfl⟩ := e
  exact ⟨h2, h3⟩
theorem rel_number (N : Nat) (l : List UInt8) (hd : digsB l = true) (h0 : 0 < l.length) (hl : l.length ≤ 65536) (vals : List Value) (w : World) (hN : N ≤ w.heap.size) :
    Calls Tryz.prog 49 #[.string (bs l)] w fun e w' => ∃ v, e = .returned v ∧ Ext w w' ∧ Fresh w v w' ∧ RNat N (dval l) vals v w' := by
  refine (number_some l hd h0 hl w).mono ?_
  rintro e w' ⟨A, k, c, he, h1, h2⟩
  exact ⟨_, he, h2, (fun b hb => by cases hb), A, k, c, rfl, h1.out.1, fun a ha => Nat.le_trans hN (h1.out.2 a ha)⟩
theorem radd_some (neg neg2 : Bool) (l r : List UInt8) (E : Int) (n m : Nat) (hE : min (E + n) (E + m) = E) (hl : l.length + n ≤ 65536) (hr : r.length + m ≤ 65536) (hd : digsB l = true) (hd2 : digsB r = true) (hl0 : 0 < l.length) (hr0 : 0 < r.length)
    (he : -1073741824 ≤ E ∧ E ≤ 1073741824) (hc : ∀ w, Calls Tryz.prog 39 #[dcV ⟨neg, l, E + n⟩, dcV ⟨neg2, r, E + m⟩] w fun e w' => e = .returned (.int .i64 0) ∧ Ext w w') (w : World) :
    Calls Tryz.prog 13 #[dcV ⟨neg, l, E + n⟩, dcV ⟨neg2, r, E + m⟩] w fun e w' =>
      e = .returned (duV ⟨mkD (sumNeg neg neg2 (upV l n) (upV r m)) (dtext (sumAbs neg neg2 (upV l n) (upV r m))) E, mkE (dtext (sumAbs neg neg2 (upV l n) (upV r m))) E⟩) ∧ Ext w w' := by
  have hx := fun N vals w hN => rel_number N (l ++ zerosL n) (digs_up hd n) (by simp; omega) (by simp [zerosL]; exact hl) vals w hN
  have hy := fun N vals w hN => rel_number N (r ++ zerosL m) (digs_up hd2 m) (by simp; omega) (by simp [zerosL]; exact hr) vals w hN
  obtain ⟨N, hN⟩ : ∃ N, N = 65536 := ⟨_, rfl⟩
  have bx : upV l n < 10 ^ N := Nat.lt_of_lt_of_le (dval_lt _ (digs_up hd n)) (Nat.pow_le_pow_right (by decide) (by simp [zerosL]; omega))
  have bY : upV r m < 10 ^ N := Nat.lt_of_lt_of_le (dval_lt _ (digs_up hd2 m)) (Nat.pow_le_pow_right (by decide) (by simp [zerosL]; omega))
  have sx := (lt_small bx (by omega)).1
  have sy := (lt_small bY (by omega)).1
  obtain ⟨ss, st⟩ := add_small bx bY (by omega)
  have hsub : ∀ a b, a = upV l n ∨ a = upV r m → (lim (a - b)).length ≤ 16384 ∧ (dtext (a - b)).length ≤ N + 2 := by
    rintro a b (rfl | rfl)
    · have := sub_small' (b := b) bx (by omega); omega
    · have := sub_small' (b := b) bY (by omega); omega
  clear bx bY hd hd2
  change ∀ N vals w hN, Calls _ _ _ w (fun e w' => ∃ v, _ ∧ _ ∧ _ ∧ RNat N (upV l n) vals v w') at hx
  change ∀ N vals w hN, Calls _ _ _ w (fun e w' => ∃ v, _ ∧ _ ∧ _ ∧ RNat N (upV r m) vals v w') at hy
  generalize upV l n = X at hx sx ss st hsub ⊢
  generalize upV r m = Y at hy sy ss st hsub ⊢
  have i1 : E + (n : Int) - E = n := by omega
  have i2 : E + (m : Int) - E = m := by omega
  have i3 : ¬ l = [] := by intro e; rw [e] at hl0; exact absurd hl0 (by simp)
  have i4 : ¬ r = [] := by intro e; rw [e] at hr0; exact absurd hr0 (by simp)
  go_enter Tryz.func13, Tryz.ntmps13
  go_upto_region 13 with (first
    | (go_at_call 39; (with_reducible refine (hc _).mono ?_); rintro e w1 ⟨rfl, xb1⟩; obtain ⟨xc1, xf1, xl1, xz1⟩ := ext_use xb1; (try simp at xz1); have l1_0 := xl1 (w.heap.size) (by first | omega | (simp; try omega)); have r1_0 := xc1 (w.heap.size) 0 (by first | omega | (simp; try omega)); have f1_0 := xf1 (w.heap.size) 0 (by first | omega | (simp; try omega)); have r1_0_1 := xc1 (w.heap.size) 1 (by first | omega | (simp; try omega)); have f1_0_1 := xf1 (w.heap.size) 1 (by first | omega | (simp; try omega)); have r1_0_2 := xc1 (w.heap.size) 2 (by first | omega | (simp; try omega)); have f1_0_2 := xf1 (w.heap.size) 2 (by first | omega | (simp; try omega)); have l1_1 := xl1 (w.heap.size + 1) (by first | omega | (simp; try omega)); have r1_1 := xc1 (w.heap.size + 1) 0 (by first | omega | (simp; try omega)); have f1_1 := xf1 (w.heap.size + 1) 0 (by first | omega | (simp; try omega)); have r1_1_1 := xc1 (w.heap.size + 1) 1 (by first | omega | (simp; try omega)); have f1_1_1 := xf1 (w.heap.size + 1) 1 (by first | omega | (simp; try omega)); have r1_1_2 := xc1 (w.heap.size + 1) 2 (by first | omega | (simp; try omega)); have f1_1_2 := xf1 (w.heap.size + 1) 2 (by first | omega | (simp; try omega)); have l1_2 := xl1 (w.heap.size + 1 + 1) (by first | omega | (simp; try omega)); have r1_2 := xc1 (w.heap.size + 1 + 1) 0 (by first | omega | (simp; try omega)); have f1_2 := xf1 (w.heap.size + 1 + 1) 0 (by first | omega | (simp; try omega)); have r1_2_1 := xc1 (w.heap.size + 1 + 1) 1 (by first | omega | (simp; try omega)); have f1_2_1 := xf1 (w.heap.size + 1 + 1) 1 (by first | omega | (simp; try omega)); have r1_2_2 := xc1 (w.heap.size + 1 + 1) 2 (by first | omega | (simp; try omega)); have f1_2_2 := xf1 (w.heap.size + 1 + 1) 2 (by first | omega | (simp; try omega)))
    | (go_at_call 48; (with_reducible refine (rnone_any _ _ _ _).mono ?_); rintro e w2 ⟨rfl, xb2⟩; obtain ⟨xc2, xf2, xl2, xz2⟩ := ext_use xb2; (try simp at xz2); have l2_0 := xl2 (w.heap.size) (by first | omega | (simp; try omega)); have r2_0 := xc2 (w.heap.size) 0 (by first | omega | (simp; try omega)); have f2_0 := xf2 (w.heap.size) 0 (by first | omega | (simp; try omega)); have r2_0_1 := xc2 (w.heap.size) 1 (by first | omega | (simp; try omega)); have f2_0_1 := xf2 (w.heap.size) 1 (by first | omega | (simp; try omega)); have r2_0_2 := xc2 (w.heap.size) 2 (by first | omega | (simp; try omega)); have f2_0_2 := xf2 (w.heap.size) 2 (by first | omega | (simp; try omega)); have l2_1 := xl2 (w.heap.size + 1) (by first | omega | (simp; try omega)); have r2_1 := xc2 (w.heap.size + 1) 0 (by first | omega | (simp; try omega)); have f2_1 := xf2 (w.heap.size + 1) 0 (by first | omega | (simp; try omega)); have r2_1_1 := xc2 (w.heap.size + 1) 1 (by first | omega | (simp; try omega)); have f2_1_1 := xf2 (w.heap.size + 1) 1 (by first | omega | (simp; try omega)); have r2_1_2 := xc2 (w.heap.size + 1) 2 (by first | omega | (simp; try omega)); have f2_1_2 := xf2 (w.heap.size + 1) 2 (by first | omega | (simp; try omega)); have l2_2 := xl2 (w.heap.size + 1 + 1) (by first | omega | (simp; try omega)); have r2_2 := xc2 (w.heap.size + 1 + 1) 0 (by first | omega | (simp; try omega)); have f2_2 := xf2 (w.heap.size + 1 + 1) 0 (by first | omega | (simp; try omega)); have r2_2_1 := xc2 (w.heap.size + 1 + 1) 1 (by first | omega | (simp; try omega)); have f2_2_1 := xf2 (w.heap.size + 1 + 1) 1 (by first | omega | (simp; try omega)); have r2_2_2 := xc2 (w.heap.size + 1 + 1) 2 (by first | omega | (simp; try omega)); have f2_2_2 := xf2 (w.heap.size + 1 + 1) 2 (by first | omega | (simp; try omega)))
    | (go_at_call 48; (with_reducible refine (rnone_any _ _ _ _).mono ?_); rintro e w3 ⟨rfl, xb3⟩; obtain ⟨xc3, xf3, xl3, xz3⟩ := ext_use xb3; (try simp at xz3); have l3_0 := xl3 (w.heap.size) (by first | omega | (simp; try omega)); have r3_0 := xc3 (w.heap.size) 0 (by first | omega | (simp; try omega)); have f3_0 := xf3 (w.heap.size) 0 (by first | omega | (simp; try omega)); have r3_0_1 := xc3 (w.heap.size) 1 (by first | omega | (simp; try omega)); have f3_0_1 := xf3 (w.heap.size) 1 (by first | omega | (simp; try omega)); have r3_0_2 := xc3 (w.heap.size) 2 (by first | omega | (simp; try omega)); have f3_0_2 := xf3 (w.heap.size) 2 (by first | omega | (simp; try omega)); have l3_1 := xl3 (w.heap.size + 1) (by first | omega | (simp; try omega)); have r3_1 := xc3 (w.heap.size + 1) 0 (by first | omega | (simp; try omega)); have f3_1 := xf3 (w.heap.size + 1) 0 (by first | omega | (simp; try omega)); have r3_1_1 := xc3 (w.heap.size + 1) 1 (by first | omega | (simp; try omega)); have f3_1_1 := xf3 (w.heap.size + 1) 1 (by first | omega | (simp; try omega)); have r3_1_2 := xc3 (w.heap.size + 1) 2 (by first | omega | (simp; try omega)); have f3_1_2 := xf3 (w.heap.size + 1) 2 (by first | omega | (simp; try omega)); have l3_2 := xl3 (w.heap.size + 1 + 1) (by first | omega | (simp; try omega)); have r3_2 := xc3 (w.heap.size + 1 + 1) 0 (by first | omega | (simp; try omega)); have f3_2 := xf3 (w.heap.size + 1 + 1) 0 (by first | omega | (simp; try omega)); have r3_2_1 := xc3 (w.heap.size + 1 + 1) 1 (by first | omega | (simp; try omega)); have f3_2_1 := xf3 (w.heap.size + 1 + 1) 1 (by first | omega | (simp; try omega)); have r3_2_2 := xc3 (w.heap.size + 1 + 1) 2 (by first | omega | (simp; try omega)); have f3_2_2 := xf3 (w.heap.size + 1 + 1) 2 (by first | omega | (simp; try omega)))
    | (go_at_call 48; (with_reducible refine (rnone_any _ _ _ _).mono ?_); rintro e w4 ⟨rfl, xb4⟩; obtain ⟨xc4, xf4, xl4, xz4⟩ := ext_use xb4; (try simp at xz4); have l4_0 := xl4 (w.heap.size) (by first | omega | (simp; try omega)); have r4_0 := xc4 (w.heap.size) 0 (by first | omega | (simp; try omega)); have f4_0 := xf4 (w.heap.size) 0 (by first | omega | (simp; try omega)); have r4_0_1 := xc4 (w.heap.size) 1 (by first | omega | (simp; try omega)); have f4_0_1 := xf4 (w.heap.size) 1 (by first | omega | (simp; try omega)); have r4_0_2 := xc4 (w.heap.size) 2 (by first | omega | (simp; try omega)); have f4_0_2 := xf4 (w.heap.size) 2 (by first | omega | (simp; try omega)); have l4_1 := xl4 (w.heap.size + 1) (by first | omega | (simp; try omega)); have r4_1 := xc4 (w.heap.size + 1) 0 (by first | omega | (simp; try omega)); have f4_1 := xf4 (w.heap.size + 1) 0 (by first | omega | (simp; try omega)); have r4_1_1 := xc4 (w.heap.size + 1) 1 (by first | omega | (simp; try omega)); have f4_1_1 := xf4 (w.heap.size + 1) 1 (by first | omega | (simp; try omega)); have r4_1_2 := xc4 (w.heap.size + 1) 2 (by first | omega | (simp; try omega)); have f4_1_2 := xf4 (w.heap.size + 1) 2 (by first | omega | (simp; try omega)); have l4_2 := xl4 (w.heap.size + 1 + 1) (by first | omega | (simp; try omega)); have r4_2 := xc4 (w.heap.size + 1 + 1) 0 (by first | omega | (simp; try omega)); have f4_2 := xf4 (w.heap.size + 1 + 1) 0 (by first | omega | (simp; try omega)); have r4_2_1 := xc4 (w.heap.size + 1 + 1) 1 (by first | omega | (simp; try omega)); have f4_2_1 := xf4 (w.heap.size + 1 + 1) 1 (by first | omega | (simp; try omega)); have r4_2_2 := xc4 (w.heap.size + 1 + 1) 2 (by first | omega | (simp; try omega)); have f4_2_2 := xf4 (w.heap.size + 1 + 1) 2 (by first | omega | (simp; try omega)))
   )
  have hn1 : ∀ (v : Int) w, v = (n : Int) → Calls Tryz.prog 50 #[.int .i64 v] w fun e w' => e = .returned (.string (bs (zerosL n))) ∧ Ext w w' := by rintro v w rfl; exact noughts_any n (by omega) w
  have hm1 : ∀ (v : Int) w, v = (m : Int) → Calls Tryz.prog 50 #[.int .i64 v] w fun e w' => e = .returned (.string (bs (zerosL m))) ∧ Ext w w' := by rintro v w rfl; exact noughts_any m (by omega) w
  have hsz : w.heap.size + 1 + 1 + 1 ≤ w2.heap.size := by omega
  have hzl : ¬ 9223372036854775807 < l.length + (zerosL n).length := by simp [zerosL]; omega
  have hzr : ¬ 9223372036854775807 < r.length + (zerosL m).length := by simp [zerosL]; omega
  go_cut [8, 9] (fun p q wc => ∃ (B1 B2 : Nat) (A1 A2 : Option Addr) (k1 c1 k2 c2 : Nat), p = .pointer (some ⟨B1, 0, none⟩) ∧ q = .pointer (some ⟨B2, 0, none⟩) ∧ Hid (Ext w2 wc) ∧ Hid (Rd wc A1 k1 c1 (lim X)) ∧ Hid (Rd wc A2 k2 c2 (lim Y)) ∧
      (w2.heap.size ≤ B1 ∧ w2.heap.size ≤ B2 ∧ B1 ≠ B2 ∧ B1 < wc.heap.size ∧ B2 < wc.heap.size) ∧ wc.cell? ⟨B1, 0, none⟩ = some (.slice A1 k1 c1) ∧ wc.frozen? ⟨B1, 0, none⟩ = false ∧ wc.cell? ⟨B2, 0, none⟩ = some (.slice A2 k2 c2) ∧ wc.frozen? ⟨B2, 0, none⟩ = false)
  case first =>
    refine wp_drawn_tail 20 (tab [(8, RNat w2.heap.size X), (17, RNat w2.heap.size Y), (18, RAlloc w2.heap.size (.cells #[.slice none 0 0] 46)), (19, RAlloc w2.heap.size (.cells #[.slice none 0 0] 46))]) (by kernel_rfl) (by kernel_rfl) (by kernel_rfl)
      (tab_stays (by simp [stays_alloc, stays_nat])) (fun hq hqf => ?_)
    simp only [List.take_succ_cons, List.take_zero, List.drop_succ_cons, List.drop_zero]
    iterate 8
      (refine wpK_det rfl (fun K hK => ?_)
       go_simp
       first
         | (refine hK _ ?_; clear hK K)
         | (apply Exists.intro; refine ⟨fun _ => ?_, hK _ ?_⟩; (first | exact hn1 _ _ (Go.IntWalk.i64_in _ (by omega)) | (rw [if_neg hzl]; exact ⟨rfl, rfl⟩)); clear hK K))
    refine wpK_rel _ rfl rfl ?_ ?_
    · rintro _ ⟨nn, rfl⟩ _
      unfold Oper.relAt
      go_simp
      exact hx _ _ _ (ext_size nn.use)
    rintro v ⟨_, ⟨nn, rfl⟩, hr⟩
    obtain ⟨A1, k1, c1, rfl, -, -⟩ := hr
    clear nn
    iterate 8
      (refine wpK_det rfl (fun K hK => ?_)
       go_simp
       first
         | (refine hK _ ?_; clear hK K)
         | (apply Exists.intro; refine ⟨fun _ => ?_, hK _ ?_⟩; (first | exact hm1 _ _ (Go.IntWalk.i64_in _ (by omega)) | (rw [if_neg hzr]; exact ⟨rfl, rfl⟩)); clear hK K))
    refine wpK_rel _ rfl rfl ?_ ?_
    · rintro _ ⟨nn, rfl⟩ _
      unfold Oper.relAt
      go_simp
      exact hy _ _ _ (ext_size nn.use)
    rintro v ⟨_, ⟨nn, rfl⟩, hr⟩
    obtain ⟨A2, k2, c2, rfl, -, -⟩ := hr
    clear nn
    refine wpK_rel _ rfl rfl ?_ ?_
    · rintro _ ⟨n, rfl⟩ _
      unfold Oper.relAt
      go_simp
      exact rAlloc_new (vals := []) (by have := ext_size n.use; simpa using this)
    rintro v ⟨_, ⟨n, rfl⟩, hr⟩
    obtain ⟨B1, rfl, leB1⟩ := rAlloc_open (vals := []) hr
    clear hr n
    simp only [Act.put, List.setIfInBounds_toArray, List.set_cons_zero, List.set_cons_succ]
    refine wpK_rel _ rfl rfl ?_ ?_
    · rintro _ ⟨n, rfl⟩ _
      unfold Oper.relAt
      go_simp
      exact rAlloc_new (vals := []) (by have := ext_size n.use; simpa using this)
    rintro v ⟨_, ⟨n, rfl⟩, hr⟩
    obtain ⟨B2, rfl, leB2⟩ := rAlloc_open (vals := []) hr
    clear hr n
    simp only [Act.put, List.setIfInBounds_toArray, List.set_cons_zero, List.set_cons_succ]
    refine wpK_nil ?_
    intro nq hG
    have hAB : B1 ≠ B2 := fun e => hG.apart 18 19 B1 (by decide) (by simp [Facts.put, blk]) (by simp [Facts.put, blk, e])
    have h1 : nq.out.heap[B1]? = some (.cells #[.slice none 0 0] 46 (0, 0)) := by have := hG.fact 18; simp [Facts.put, RAlloc] at this; exact this.2
    have h2 : nq.out.heap[B2]? = some (.cells #[.slice none 0 0] 46 (0, 0)) := by have := hG.fact 19; simp [Facts.put, RAlloc] at this; exact this.2
    have r1 : ∃ vals, RNat w2.heap.size X vals (natV A1 k1 c1) nq.out := by have := hG.fact 8; simp [Facts.put] at this; exact ⟨_, this⟩
    have r2 : ∃ vals, RNat w2.heap.size Y vals (natV A2 k2 c2) nq.out := by have := hG.fact 17; simp [Facts.put] at this; exact ⟨_, this⟩
    obtain ⟨_, r1⟩ := r1
    obtain ⟨_, r2⟩ := r2
    have s1 := (rnat_at r1).1
    have s2 := (rnat_at r2).1
    clear r1 r2
    have hs1 : Hid (Rd ((nq.out.setCell ⟨B1, 0, none⟩ (.slice A1 k1 c1)).setCell ⟨B2, 0, none⟩ (.slice A2 k2 c2)) A1 k1 c1 (lim X)) :=
      rd_apart (rd_apart s1 h1 (fun _ e => by cases e) _) (t := 46) (v := .slice none 0 0) ((Go.Deep.blk_setCell_other _ _ _ _ (fun e => hAB e.symm)).trans h2) (fun _ e => by cases e) _
    have hs2 : Hid (Rd ((nq.out.setCell ⟨B1, 0, none⟩ (.slice A1 k1 c1)).setCell ⟨B2, 0, none⟩ (.slice A2 k2 c2)) A2 k2 c2 (lim Y)) :=
      rd_apart (rd_apart s2 h1 (fun _ e => by cases e) _) (t := 46) (v := .slice none 0 0) ((Go.Deep.blk_setCell_other _ _ _ _ (fun e => hAB e.symm)).trans h2) (fun _ e => by cases e) _
    clear s1 s2 h1 h2
    have fB1 := hG.fact 18
    have ltB1 := hG.there 18 B1 (by simp [Facts.put, blk])
    simp [Facts.put, RAlloc] at fB1
    have ceB1 := fun i => cell_of_block fB1.2 i
    have frB1 := fun i => frozen_of_block fB1.2 i
    have neB1 : ∀ b, b < _ → (b = B1) = False := fun b hb => eq_false (Nat.ne_of_lt (Nat.lt_of_lt_of_le hb fB1.1))
    clear fB1
    have fB2 := hG.fact 19
    have ltB2 := hG.there 19 B2 (by simp [Facts.put, blk])
    simp [Facts.put, RAlloc] at fB2
    have ceB2 := fun i => cell_of_block fB2.2 i
    have frB2 := fun i => frozen_of_block fB2.2 i
    have neB2 : ∀ b, b < _ → (b = B2) = False := fun b hb => eq_false (Nat.ne_of_lt (Nat.lt_of_lt_of_le hb fB2.1))
    clear fB2
    have hE := nq.use
    clear hG
    go_wp2
    go_meet
    case rel =>
      refine ⟨B1, B2, A1, A2, k1, c1, k2, c2, rfl, rfl, ?_, hs1, hs2, ⟨leB1, leB2, hAB, ?_, ?_⟩, ?_, ?_, ?_, ?_⟩
      · show Ext _ _
        (repeat (first | exact ext_refl _ | assumption | refine ext_setCell ?_ (by simp; try omega) _ | refine ext_alloc ?_ _ | refine ext_drew ?_ | refine ext_drewN ?_ _ | refine ext_trans ?_ (Aft.use _) | refine ext_trans ?_ (by assumption)))
      all_goals go_simp
  case rest =>
    obtain ⟨B1, B2, A1, A2, k1, c1, k2, c2, rfl, rfl, hE, hR1, hR2, ⟨le1, le2, hne, lt1, lt2⟩, cB1, fB1, cB2, fB2⟩ := hcut
    obtain ⟨xc5, xf5, xl5, xz5⟩ := ext_use (hE.out)
    have l5_0 := xl5 (w.heap.size) (by first | omega | (simp; try omega))
    have r5_0 := xc5 (w.heap.size) 0 (by first | omega | (simp; try omega))
    have f5_0 := xf5 (w.heap.size) 0 (by first | omega | (simp; try omega))
    have r5_0_1 := xc5 (w.heap.size) 1 (by first | omega | (simp; try omega))
    have f5_0_1 := xf5 (w.heap.size) 1 (by first | omega | (simp; try omega))
    have r5_0_2 := xc5 (w.heap.size) 2 (by first | omega | (simp; try omega))
    have f5_0_2 := xf5 (w.heap.size) 2 (by first | omega | (simp; try omega))
    have l5_1 := xl5 (w.heap.size + 1) (by first | omega | (simp; try omega))
    have r5_1 := xc5 (w.heap.size + 1) 0 (by first | omega | (simp; try omega))
    have f5_1 := xf5 (w.heap.size + 1) 0 (by first | omega | (simp; try omega))
    have r5_1_1 := xc5 (w.heap.size + 1) 1 (by first | omega | (simp; try omega))
    have f5_1_1 := xf5 (w.heap.size + 1) 1 (by first | omega | (simp; try omega))
    have r5_1_2 := xc5 (w.heap.size + 1) 2 (by first | omega | (simp; try omega))
    have f5_1_2 := xf5 (w.heap.size + 1) 2 (by first | omega | (simp; try omega))
    have l5_2 := xl5 (w.heap.size + 1 + 1) (by first | omega | (simp; try omega))
    have r5_2 := xc5 (w.heap.size + 1 + 1) 0 (by first | omega | (simp; try omega))
    have f5_2 := xf5 (w.heap.size + 1 + 1) 0 (by first | omega | (simp; try omega))
    have r5_2_1 := xc5 (w.heap.size + 1 + 1) 1 (by first | omega | (simp; try omega))
    have f5_2_1 := xf5 (w.heap.size + 1 + 1) 1 (by first | omega | (simp; try omega))
    have r5_2_2 := xc5 (w.heap.size + 1 + 1) 2 (by first | omega | (simp; try omega))
    have f5_2_2 := xf5 (w.heap.size + 1 + 1) 2 (by first | omega | (simp; try omega))
    have hEE := hE.out
    have hcm : ∀ w', Hid (Ext wc w') → Calls Tryz.prog 51 #[natV A1 k1 c1, natV A2 k2 c2] w' fun e w'' => e = .returned (.tuple #[.int .i64 (cmpN X Y), .int .i64 0]) ∧ Ext w' w'' := fun w' he => rcmpN_any A1 A2 k1 c1 k2 c2 X Y w' (hR1.out.ext he.out) (hR2.out.ext he.out) (by omega) (by omega)
    by_cases hs : neg = neg2
    · have hN1 : sumNeg neg neg2 X Y = neg := by unfold sumNeg; rw [if_pos hs]
      have hN2 : sumAbs neg neg2 X Y = X + Y := by unfold sumAbs; rw [if_pos hs]
      have had : ∀ w', Hid (Ext wc w') → Calls Tryz.prog 52 #[natV A1 k1 c1, natV A2 k2 c2] w' fun e w'' => ∃ A' k c', e = .returned (.tuple #[natV A' k c', .int .i64 0]) ∧ Hid (Rd w'' A' k c' (lim (X + Y)) ∧ Fr w' A') ∧ Ext w' w'' := fun w' he =>
        (add_any A1 A2 k1 c1 k2 c2 X Y w' (hR1.out.ext he.out) (hR2.out.ext he.out) (by omega) (by omega) (by omega)).mono (by rintro e w'' ⟨A', k, c', h1, h2, h3, h4⟩; exact ⟨A', k, c', h1, ⟨h2, h3⟩, h4⟩)
      generalize cmpN X Y = Cm at hcm
      have HN1 := Lib.hid hN1
      have HN2 := Lib.hid hN2
      clear hN1 hN2
      subst hs
      cases neg
      all_goals
        go_wp2_with (first
          | (go_at_call 51; (with_reducible refine (hcm _ (Lib.hid (by (repeat (first | exact ext_refl _ | assumption | refine ext_setCell ?_ (by simp; try omega) _ | refine ext_alloc ?_ _ | refine ext_drew ?_ | refine ext_drewN ?_ _ | refine ext_trans ?_ (Aft.use _) | refine ext_trans ?_ (by assumption)))))).mono ?_); rintro e w6 ⟨rfl, xb6⟩; obtain ⟨xc6, xf6, xl6, xz6⟩ := ext_use xb6; (try simp at xz6); have l6_0 := xl6 (w.heap.size) (by first | omega | (simp; try omega)); have r6_0 := xc6 (w.heap.size) 0 (by first | omega | (simp; try omega)); have f6_0 := xf6 (w.heap.size) 0 (by first | omega | (simp; try omega)); have r6_0_1 := xc6 (w.heap.size) 1 (by first | omega | (simp; try omega)); have f6_0_1 := xf6 (w.heap.size) 1 (by first | omega | (simp; try omega)); have r6_0_2 := xc6 (w.heap.size) 2 (by first | omega | (simp; try omega)); have f6_0_2 := xf6 (w.heap.size) 2 (by first | omega | (simp; try omega)); have l6_1 := xl6 (w.heap.size + 1) (by first | omega | (simp; try omega)); have r6_1 := xc6 (w.heap.size + 1) 0 (by first | omega | (simp; try omega)); have f6_1 := xf6 (w.heap.size + 1) 0 (by first | omega | (simp; try omega)); have r6_1_1 := xc6 (w.heap.size + 1) 1 (by first | omega | (simp; try omega)); have f6_1_1 := xf6 (w.heap.size + 1) 1 (by first | omega | (simp; try omega)); have r6_1_2 := xc6 (w.heap.size + 1) 2 (by first | omega | (simp; try omega)); have f6_1_2 := xf6 (w.heap.size + 1) 2 (by first | omega | (simp; try omega)); have l6_2 := xl6 (w.heap.size + 1 + 1) (by first | omega | (simp; try omega)); have r6_2 := xc6 (w.heap.size + 1 + 1) 0 (by first | omega | (simp; try omega)); have f6_2 := xf6 (w.heap.size + 1 + 1) 0 (by first | omega | (simp; try omega)); have r6_2_1 := xc6 (w.heap.size + 1 + 1) 1 (by first | omega | (simp; try omega)); have f6_2_1 := xf6 (w.heap.size + 1 + 1) 1 (by first | omega | (simp; try omega)); have r6_2_2 := xc6 (w.heap.size + 1 + 1) 2 (by first | omega | (simp; try omega)); have f6_2_2 := xf6 (w.heap.size + 1 + 1) 2 (by first | omega | (simp; try omega)); have l6_3 := xl6 (B1) (by first | omega | (simp; try omega)); have r6_3 := xc6 (B1) 0 (by first | omega | (simp; try omega)); have f6_3 := xf6 (B1) 0 (by first | omega | (simp; try omega)); have l6_4 := xl6 (B2) (by first | omega | (simp; try omega)); have r6_4 := xc6 (B2) 0 (by first | omega | (simp; try omega)); have f6_4 := xf6 (B2) 0 (by first | omega | (simp; try omega)); have l6_5 := xl6 (wc.heap.size) (by first | omega | (simp; try omega)); have r6_5 := xc6 (wc.heap.size) 0 (by first | omega | (simp; try omega)); have f6_5 := xf6 (wc.heap.size) 0 (by first | omega | (simp; try omega)))
          | (go_at_call 52; (with_reducible refine (had _ (Lib.hid (by (repeat (first | exact ext_refl _ | assumption | refine ext_setCell ?_ (by simp; try omega) _ | refine ext_alloc ?_ _ | refine ext_drew ?_ | refine ext_drewN ?_ _ | refine ext_trans ?_ (Aft.use _) | refine ext_trans ?_ (by assumption)))))).mono ?_); rintro e w7 ⟨S, k3, c3, rfl, hS, xb7⟩; obtain ⟨xc7, xf7, xl7, xz7⟩ := ext_use xb7; (try simp at xz7); have l7_0 := xl7 (w.heap.size) (by first | omega | (simp; try omega)); have r7_0 := xc7 (w.heap.size) 0 (by first | omega | (simp; try omega)); have f7_0 := xf7 (w.heap.size) 0 (by first | omega | (simp; try omega)); have r7_0_1 := xc7 (w.heap.size) 1 (by first | omega | (simp; try omega)); have f7_0_1 := xf7 (w.heap.size) 1 (by first | omega | (simp; try omega)); have r7_0_2 := xc7 (w.heap.size) 2 (by first | omega | (simp; try omega)); have f7_0_2 := xf7 (w.heap.size) 2 (by first | omega | (simp; try omega)); have l7_1 := xl7 (w.heap.size + 1) (by first | omega | (simp; try omega)); have r7_1 := xc7 (w.heap.size + 1) 0 (by first | omega | (simp; try omega)); have f7_1 := xf7 (w.heap.size + 1) 0 (by first | omega | (simp; try omega)); have r7_1_1 := xc7 (w.heap.size + 1) 1 (by first | omega | (simp; try omega)); have f7_1_1 := xf7 (w.heap.size + 1) 1 (by first | omega | (simp; try omega)); have r7_1_2 := xc7 (w.heap.size + 1) 2 (by first | omega | (simp; try omega)); have f7_1_2 := xf7 (w.heap.size + 1) 2 (by first | omega | (simp; try omega)); have l7_2 := xl7 (w.heap.size + 1 + 1) (by first | omega | (simp; try omega)); have r7_2 := xc7 (w.heap.size + 1 + 1) 0 (by first | omega | (simp; try omega)); have f7_2 := xf7 (w.heap.size + 1 + 1) 0 (by first | omega | (simp; try omega)); have r7_2_1 := xc7 (w.heap.size + 1 + 1) 1 (by first | omega | (simp; try omega)); have f7_2_1 := xf7 (w.heap.size + 1 + 1) 1 (by first | omega | (simp; try omega)); have r7_2_2 := xc7 (w.heap.size + 1 + 1) 2 (by first | omega | (simp; try omega)); have f7_2_2 := xf7 (w.heap.size + 1 + 1) 2 (by first | omega | (simp; try omega)); have l7_3 := xl7 (wc.heap.size) (by first | omega | (simp; try omega)); have r7_3 := xc7 (wc.heap.size) 0 (by first | omega | (simp; try omega)); have f7_3 := xf7 (wc.heap.size) 0 (by first | omega | (simp; try omega)))
          | (go_at_call 54; (with_reducible refine (text_any S k3 c3 (X + Y) (by omega) _ (rd_over (p := ⟨wc.heap.size, 0, none⟩) hS _ (by simp; try omega))).mono ?_); rintro e w9 ⟨rfl, xb9⟩; obtain ⟨xc9, xf9, xl9, xz9⟩ := ext_use xb9; (try simp at xz9); have l9_0 := xl9 (w.heap.size) (by first | omega | (simp; try omega)); have r9_0 := xc9 (w.heap.size) 0 (by first | omega | (simp; try omega)); have f9_0 := xf9 (w.heap.size) 0 (by first | omega | (simp; try omega)); have r9_0_1 := xc9 (w.heap.size) 1 (by first | omega | (simp; try omega)); have f9_0_1 := xf9 (w.heap.size) 1 (by first | omega | (simp; try omega)); have r9_0_2 := xc9 (w.heap.size) 2 (by first | omega | (simp; try omega)); have f9_0_2 := xf9 (w.heap.size) 2 (by first | omega | (simp; try omega)); have l9_1 := xl9 (w.heap.size + 1) (by first | omega | (simp; try omega)); have r9_1 := xc9 (w.heap.size + 1) 0 (by first | omega | (simp; try omega)); have f9_1 := xf9 (w.heap.size + 1) 0 (by first | omega | (simp; try omega)); have r9_1_1 := xc9 (w.heap.size + 1) 1 (by first | omega | (simp; try omega)); have f9_1_1 := xf9 (w.heap.size + 1) 1 (by first | omega | (simp; try omega)); have r9_1_2 := xc9 (w.heap.size + 1) 2 (by first | omega | (simp; try omega)); have f9_1_2 := xf9 (w.heap.size + 1) 2 (by first | omega | (simp; try omega)); have l9_2 := xl9 (w.heap.size + 1 + 1) (by first | omega | (simp; try omega)); have r9_2 := xc9 (w.heap.size + 1 + 1) 0 (by first | omega | (simp; try omega)); have f9_2 := xf9 (w.heap.size + 1 + 1) 0 (by first | omega | (simp; try omega)); have r9_2_1 := xc9 (w.heap.size + 1 + 1) 1 (by first | omega | (simp; try omega)); have f9_2_1 := xf9 (w.heap.size + 1 + 1) 1 (by first | omega | (simp; try omega)); have r9_2_2 := xc9 (w.heap.size + 1 + 1) 2 (by first | omega | (simp; try omega)); have f9_2_2 := xf9 (w.heap.size + 1 + 1) 2 (by first | omega | (simp; try omega)))
          | (go_at_call 55; (with_reducible refine (rmake_any _ (dtext (X + Y)) E (by omega) _).mono ?_); rintro e w10 ⟨rfl, xb10⟩; obtain ⟨xc10, xf10, xl10, xz10⟩ := ext_use xb10; (try simp at xz10); have l10_0 := xl10 (w.heap.size + 1 + 1) (by first | omega | (simp; try omega)); have r10_0 := xc10 (w.heap.size + 1 + 1) 0 (by first | omega | (simp; try omega)); have f10_0 := xf10 (w.heap.size + 1 + 1) 0 (by first | omega | (simp; try omega)); have r10_0_1 := xc10 (w.heap.size + 1 + 1) 1 (by first | omega | (simp; try omega)); have f10_0_1 := xf10 (w.heap.size + 1 + 1) 1 (by first | omega | (simp; try omega)); have r10_0_2 := xc10 (w.heap.size + 1 + 1) 2 (by first | omega | (simp; try omega)); have f10_0_2 := xf10 (w.heap.size + 1 + 1) 2 (by first | omega | (simp; try omega)))
         )
        refine bodyPost_ret (v := duV ⟨mkD _ (dtext (X + Y)) E, mkE (dtext (X + Y)) E⟩) ?h rfl ⟨by rw [HN1.out, HN2.out], ?_⟩
        case h => simp [results, Tryz.results13, go_sem, *]
        repeat (first | exact ext_refl _ | assumption | refine ext_setCell ?_ (by simp; try omega) _ | refine ext_alloc ?_ _ | refine ext_drew ?_ | refine ext_drewN ?_ _ | refine ext_trans ?_ (Aft.use _) | refine ext_trans ?_ (by assumption))
    · rcases Nat.lt_trichotomy X Y with h | h | h
      · have hN1 : sumNeg neg neg2 X Y = neg2 := by unfold sumNeg; rw [if_neg hs, if_pos h]
        have hN2 : sumAbs neg neg2 X Y = Y - X := by unfold sumAbs; rw [if_neg hs, if_pos h]
        have eC : cmpN X Y = -1 := by unfold cmpN; rw [if_pos h]
        rw [eC] at hcm
        have hsu : ∀ w', Hid (Ext wc w') → Calls Tryz.prog 53 #[natV A2 k2 c2, natV A1 k1 c1] w' fun e w'' => ∃ A' k c', e = .returned (.tuple #[natV A' k c', .bool true, .int .i64 0]) ∧ Hid (Rd w'' A' k c' (lim (Y - X)) ∧ Fr w' A') ∧ Ext w' w'' := fun w' he =>
          rsub_any A2 A1 k2 c2 k1 c1 Y X (by omega) w' (hR2.out.ext he.out) (hR1.out.ext he.out) (by omega) (by omega)
        have HN1 := Lib.hid hN1
        have HN2 := Lib.hid hN2
        have hsz : (lim (Y - X)).length ≤ 16384 ∧ (dtext (Y - X)).length ≤ N + 2 := hsub Y X (.inr rfl)
        clear hN1 hN2 eC
        cases neg <;> cases neg2 <;> first | exact absurd rfl hs | clear hs
        all_goals
          go_wp2_with (first
            | (go_at_call 51; (with_reducible refine (hcm _ (Lib.hid (by (repeat (first | exact ext_refl _ | assumption | refine ext_setCell ?_ (by simp; try omega) _ | refine ext_alloc ?_ _ | refine ext_drew ?_ | refine ext_drewN ?_ _ | refine ext_trans ?_ (Aft.use _) | refine ext_trans ?_ (by assumption)))))).mono ?_); rintro e w6 ⟨rfl, xb6⟩; obtain ⟨xc6, xf6, xl6, xz6⟩ := ext_use xb6; (try simp at xz6); have l6_0 := xl6 (w.heap.size) (by first | omega | (simp; try omega)); have r6_0 := xc6 (w.heap.size) 0 (by first | omega | (simp; try omega)); have f6_0 := xf6 (w.heap.size) 0 (by first | omega | (simp; try omega)); have r6_0_1 := xc6 (w.heap.size) 1 (by first | omega | (simp; try omega)); have f6_0_1 := xf6 (w.heap.size) 1 (by first | omega | (simp; try omega)); have r6_0_2 := xc6 (w.heap.size) 2 (by first | omega | (simp; try omega)); have f6_0_2 := xf6 (w.heap.size) 2 (by first | omega | (simp; try omega)); have l6_1 := xl6 (w.heap.size + 1) (by first | omega | (simp; try omega)); have r6_1 := xc6 (w.heap.size + 1) 0 (by first | omega | (simp; try omega)); have f6_1 := xf6 (w.heap.size + 1) 0 (by first | omega | (simp; try omega)); have r6_1_1 := xc6 (w.heap.size + 1) 1 (by first | omega | (simp; try omega)); have f6_1_1 := xf6 (w.heap.size + 1) 1 (by first | omega | (simp; try omega)); have r6_1_2 := xc6 (w.heap.size + 1) 2 (by first | omega | (simp; try omega)); have f6_1_2 := xf6 (w.heap.size + 1) 2 (by first | omega | (simp; try omega)); have l6_2 := xl6 (w.heap.size + 1 + 1) (by first | omega | (simp; try omega)); have r6_2 := xc6 (w.heap.size + 1 + 1) 0 (by first | omega | (simp; try omega)); have f6_2 := xf6 (w.heap.size + 1 + 1) 0 (by first | omega | (simp; try omega)); have r6_2_1 := xc6 (w.heap.size + 1 + 1) 1 (by first | omega | (simp; try omega)); have f6_2_1 := xf6 (w.heap.size + 1 + 1) 1 (by first | omega | (simp; try omega)); have r6_2_2 := xc6 (w.heap.size + 1 + 1) 2 (by first | omega | (simp; try omega)); have f6_2_2 := xf6 (w.heap.size + 1 + 1) 2 (by first | omega | (simp; try omega)); have l6_3 := xl6 (B1) (by first | omega | (simp; try omega)); have r6_3 := xc6 (B1) 0 (by first | omega | (simp; try omega)); have f6_3 := xf6 (B1) 0 (by first | omega | (simp; try omega)); have l6_4 := xl6 (B2) (by first | omega | (simp; try omega)); have r6_4 := xc6 (B2) 0 (by first | omega | (simp; try omega)); have f6_4 := xf6 (B2) 0 (by first | omega | (simp; try omega)); have l6_5 := xl6 (wc.heap.size) (by first | omega | (simp; try omega)); have r6_5 := xc6 (wc.heap.size) 0 (by first | omega | (simp; try omega)); have f6_5 := xf6 (wc.heap.size) 0 (by first | omega | (simp; try omega)))
            | (go_at_call 53; (with_reducible refine (hsu _ (Lib.hid (by (repeat (first | exact ext_refl _ | assumption | refine ext_setCell ?_ (by simp; try omega) _ | refine ext_alloc ?_ _ | refine ext_drew ?_ | refine ext_drewN ?_ _ | refine ext_trans ?_ (Aft.use _) | refine ext_trans ?_ (by assumption)))))).mono ?_); rintro e w7 ⟨S, k3, c3, rfl, hS, xb7⟩; obtain ⟨xc7, xf7, xl7, xz7⟩ := ext_use xb7; (try simp at xz7); have l7_0 := xl7 (w.heap.size) (by first | omega | (simp; try omega)); have r7_0 := xc7 (w.heap.size) 0 (by first | omega | (simp; try omega)); have f7_0 := xf7 (w.heap.size) 0 (by first | omega | (simp; try omega)); have r7_0_1 := xc7 (w.heap.size) 1 (by first | omega | (simp; try omega)); have f7_0_1 := xf7 (w.heap.size) 1 (by first | omega | (simp; try omega)); have r7_0_2 := xc7 (w.heap.size) 2 (by first | omega | (simp; try omega)); have f7_0_2 := xf7 (w.heap.size) 2 (by first | omega | (simp; try omega)); have l7_1 := xl7 (w.heap.size + 1) (by first | omega | (simp; try omega)); have r7_1 := xc7 (w.heap.size + 1) 0 (by first | omega | (simp; try omega)); have f7_1 := xf7 (w.heap.size + 1) 0 (by first | omega | (simp; try omega)); have r7_1_1 := xc7 (w.heap.size + 1) 1 (by first | omega | (simp; try omega)); have f7_1_1 := xf7 (w.heap.size + 1) 1 (by first | omega | (simp; try omega)); have r7_1_2 := xc7 (w.heap.size + 1) 2 (by first | omega | (simp; try omega)); have f7_1_2 := xf7 (w.heap.size + 1) 2 (by first | omega | (simp; try omega)); have l7_2 := xl7 (w.heap.size + 1 + 1) (by first | omega | (simp; try omega)); have r7_2 := xc7 (w.heap.size + 1 + 1) 0 (by first | omega | (simp; try omega)); have f7_2 := xf7 (w.heap.size + 1 + 1) 0 (by first | omega | (simp; try omega)); have r7_2_1 := xc7 (w.heap.size + 1 + 1) 1 (by first | omega | (simp; try omega)); have f7_2_1 := xf7 (w.heap.size + 1 + 1) 1 (by first | omega | (simp; try omega)); have r7_2_2 := xc7 (w.heap.size + 1 + 1) 2 (by first | omega | (simp; try omega)); have f7_2_2 := xf7 (w.heap.size + 1 + 1) 2 (by first | omega | (simp; try omega)); have l7_3 := xl7 (wc.heap.size) (by first | omega | (simp; try omega)); have r7_3 := xc7 (wc.heap.size) 0 (by first | omega | (simp; try omega)); have f7_3 := xf7 (wc.heap.size) 0 (by first | omega | (simp; try omega)))
            | (go_at_call 54; (with_reducible refine (text_any S k3 c3 (Y - X) (by omega) _ (rd_over (p := ⟨wc.heap.size, 0, none⟩) hS _ (by simp; try omega))).mono ?_); rintro e w9 ⟨rfl, xb9⟩; obtain ⟨xc9, xf9, xl9, xz9⟩ := ext_use xb9; (try simp at xz9); have l9_0 := xl9 (w.heap.size) (by first | omega | (simp; try omega)); have r9_0 := xc9 (w.heap.size) 0 (by first | omega | (simp; try omega)); have f9_0 := xf9 (w.heap.size) 0 (by first | omega | (simp; try omega)); have r9_0_1 := xc9 (w.heap.size) 1 (by first | omega | (simp; try omega)); have f9_0_1 := xf9 (w.heap.size) 1 (by first | omega | (simp; try omega)); have r9_0_2 := xc9 (w.heap.size) 2 (by first | omega | (simp; try omega)); have f9_0_2 := xf9 (w.heap.size) 2 (by first | omega | (simp; try omega)); have l9_1 := xl9 (w.heap.size + 1) (by first | omega | (simp; try omega)); have r9_1 := xc9 (w.heap.size + 1) 0 (by first | omega | (simp; try omega)); have f9_1 := xf9 (w.heap.size + 1) 0 (by first | omega | (simp; try omega)); have r9_1_1 := xc9 (w.heap.size + 1) 1 (by first | omega | (simp; try omega)); have f9_1_1 := xf9 (w.heap.size + 1) 1 (by first | omega | (simp; try omega)); have r9_1_2 := xc9 (w.heap.size + 1) 2 (by first | omega | (simp; try omega)); have f9_1_2 := xf9 (w.heap.size + 1) 2 (by first | omega | (simp; try omega)); have l9_2 := xl9 (w.heap.size + 1 + 1) (by first | omega | (simp; try omega)); have r9_2 := xc9 (w.heap.size + 1 + 1) 0 (by first | omega | (simp; try omega)); have f9_2 := xf9 (w.heap.size + 1 + 1) 0 (by first | omega | (simp; try omega)); have r9_2_1 := xc9 (w.heap.size + 1 + 1) 1 (by first | omega | (simp; try omega)); have f9_2_1 := xf9 (w.heap.size + 1 + 1) 1 (by first | omega | (simp; try omega)); have r9_2_2 := xc9 (w.heap.size + 1 + 1) 2 (by first | omega | (simp; try omega)); have f9_2_2 := xf9 (w.heap.size + 1 + 1) 2 (by first | omega | (simp; try omega)))
            | (go_at_call 55; (with_reducible refine (rmake_any _ (dtext (Y - X)) E (by omega) _).mono ?_); rintro e w10 ⟨rfl, xb10⟩; obtain ⟨xc10, xf10, xl10, xz10⟩ := ext_use xb10; (try simp at xz10); have l10_0 := xl10 (w.heap.size + 1 + 1) (by first | omega | (simp; try omega)); have r10_0 := xc10 (w.heap.size + 1 + 1) 0 (by first | omega | (simp; try omega)); have f10_0 := xf10 (w.heap.size + 1 + 1) 0 (by first | omega | (simp; try omega)); have r10_0_1 := xc10 (w.heap.size + 1 + 1) 1 (by first | omega | (simp; try omega)); have f10_0_1 := xf10 (w.heap.size + 1 + 1) 1 (by first | omega | (simp; try omega)); have r10_0_2 := xc10 (w.heap.size + 1 + 1) 2 (by first | omega | (simp; try omega)); have f10_0_2 := xf10 (w.heap.size + 1 + 1) 2 (by first | omega | (simp; try omega)))
           )
          refine bodyPost_ret (v := duV ⟨mkD _ (dtext (Y - X)) E, mkE (dtext (Y - X)) E⟩) ?h rfl ⟨by rw [HN1.out, HN2.out], ?_⟩
          case h => simp [results, Tryz.results13, go_sem, *]
          repeat (first | exact ext_refl _ | assumption | refine ext_setCell ?_ (by simp; try omega) _ | refine ext_alloc ?_ _ | refine ext_drew ?_ | refine ext_drewN ?_ _ | refine ext_trans ?_ (Aft.use _) | refine ext_trans ?_ (by assumption))
      · have hN1 : sumNeg neg neg2 X Y = false := by unfold sumNeg; rw [if_neg hs, if_neg (by omega), if_neg (by omega)]
        have hN2 : sumAbs neg neg2 X Y = 0 := by unfold sumAbs; rw [if_neg hs, if_neg (by omega)]; omega
        have eC : cmpN X Y = 0 := by unfold cmpN; rw [if_neg (by omega), if_neg (by omega)]
        rw [eC] at hcm
        have htx := fun w => text_any none 0 0 0 (by rw [lim_zero]; decide) w (by rw [lim_zero]; exact Rd.nil w)
        have ht0 : (dtext 0).length ≤ 10 := by decide
        have HN1 := Lib.hid hN1
        have HN2 := Lib.hid hN2
        clear hN1 hN2 eC h
        obtain ⟨T0, hT0⟩ : ∃ T0, T0 = dtext 0 := ⟨_, rfl⟩
        rw [← hT0] at htx ht0
        have HT0 := Lib.hid hT0
        clear hT0
        cases neg <;> cases neg2 <;> first | exact absurd rfl hs | clear hs
        all_goals
          go_wp2_with (first
            | (go_at_call 51; (with_reducible refine (hcm _ (Lib.hid (by (repeat (first | exact ext_refl _ | assumption | refine ext_setCell ?_ (by simp; try omega) _ | refine ext_alloc ?_ _ | refine ext_drew ?_ | refine ext_drewN ?_ _ | refine ext_trans ?_ (Aft.use _) | refine ext_trans ?_ (by assumption)))))).mono ?_); rintro e w6 ⟨rfl, xb6⟩; obtain ⟨xc6, xf6, xl6, xz6⟩ := ext_use xb6; (try simp at xz6); have l6_0 := xl6 (w.heap.size) (by first | omega | (simp; try omega)); have r6_0 := xc6 (w.heap.size) 0 (by first | omega | (simp; try omega)); have f6_0 := xf6 (w.heap.size) 0 (by first | omega | (simp; try omega)); have r6_0_1 := xc6 (w.heap.size) 1 (by first | omega | (simp; try omega)); have f6_0_1 := xf6 (w.heap.size) 1 (by first | omega | (simp; try omega)); have r6_0_2 := xc6 (w.heap.size) 2 (by first | omega | (simp; try omega)); have f6_0_2 := xf6 (w.heap.size) 2 (by first | omega | (simp; try omega)); have l6_1 := xl6 (w.heap.size + 1) (by first | omega | (simp; try omega)); have r6_1 := xc6 (w.heap.size + 1) 0 (by first | omega | (simp; try omega)); have f6_1 := xf6 (w.heap.size + 1) 0 (by first | omega | (simp; try omega)); have r6_1_1 := xc6 (w.heap.size + 1) 1 (by first | omega | (simp; try omega)); have f6_1_1 := xf6 (w.heap.size + 1) 1 (by first | omega | (simp; try omega)); have r6_1_2 := xc6 (w.heap.size + 1) 2 (by first | omega | (simp; try omega)); have f6_1_2 := xf6 (w.heap.size + 1) 2 (by first | omega | (simp; try omega)); have l6_2 := xl6 (w.heap.size + 1 + 1) (by first | omega | (simp; try omega)); have r6_2 := xc6 (w.heap.size + 1 + 1) 0 (by first | omega | (simp; try omega)); have f6_2 := xf6 (w.heap.size + 1 + 1) 0 (by first | omega | (simp; try omega)); have r6_2_1 := xc6 (w.heap.size + 1 + 1) 1 (by first | omega | (simp; try omega)); have f6_2_1 := xf6 (w.heap.size + 1 + 1) 1 (by first | omega | (simp; try omega)); have r6_2_2 := xc6 (w.heap.size + 1 + 1) 2 (by first | omega | (simp; try omega)); have f6_2_2 := xf6 (w.heap.size + 1 + 1) 2 (by first | omega | (simp; try omega)); have l6_3 := xl6 (B1) (by first | omega | (simp; try omega)); have r6_3 := xc6 (B1) 0 (by first | omega | (simp; try omega)); have f6_3 := xf6 (B1) 0 (by first | omega | (simp; try omega)); have l6_4 := xl6 (B2) (by first | omega | (simp; try omega)); have r6_4 := xc6 (B2) 0 (by first | omega | (simp; try omega)); have f6_4 := xf6 (B2) 0 (by first | omega | (simp; try omega)); have l6_5 := xl6 (wc.heap.size) (by first | omega | (simp; try omega)); have r6_5 := xc6 (wc.heap.size) 0 (by first | omega | (simp; try omega)); have f6_5 := xf6 (wc.heap.size) 0 (by first | omega | (simp; try omega)))
            | (go_at_call 54; (with_reducible refine (htx _).mono ?_); rintro e w9 ⟨rfl, xb9⟩; obtain ⟨xc9, xf9, xl9, xz9⟩ := ext_use xb9; (try simp at xz9); have l9_0 := xl9 (w.heap.size) (by first | omega | (simp; try omega)); have r9_0 := xc9 (w.heap.size) 0 (by first | omega | (simp; try omega)); have f9_0 := xf9 (w.heap.size) 0 (by first | omega | (simp; try omega)); have r9_0_1 := xc9 (w.heap.size) 1 (by first | omega | (simp; try omega)); have f9_0_1 := xf9 (w.heap.size) 1 (by first | omega | (simp; try omega)); have r9_0_2 := xc9 (w.heap.size) 2 (by first | omega | (simp; try omega)); have f9_0_2 := xf9 (w.heap.size) 2 (by first | omega | (simp; try omega)); have l9_1 := xl9 (w.heap.size + 1) (by first | omega | (simp; try omega)); have r9_1 := xc9 (w.heap.size + 1) 0 (by first | omega | (simp; try omega)); have f9_1 := xf9 (w.heap.size + 1) 0 (by first | omega | (simp; try omega)); have r9_1_1 := xc9 (w.heap.size + 1) 1 (by first | omega | (simp; try omega)); have f9_1_1 := xf9 (w.heap.size + 1) 1 (by first | omega | (simp; try omega)); have r9_1_2 := xc9 (w.heap.size + 1) 2 (by first | omega | (simp; try omega)); have f9_1_2 := xf9 (w.heap.size + 1) 2 (by first | omega | (simp; try omega)); have l9_2 := xl9 (w.heap.size + 1 + 1) (by first | omega | (simp; try omega)); have r9_2 := xc9 (w.heap.size + 1 + 1) 0 (by first | omega | (simp; try omega)); have f9_2 := xf9 (w.heap.size + 1 + 1) 0 (by first | omega | (simp; try omega)); have r9_2_1 := xc9 (w.heap.size + 1 + 1) 1 (by first | omega | (simp; try omega)); have f9_2_1 := xf9 (w.heap.size + 1 + 1) 1 (by first | omega | (simp; try omega)); have r9_2_2 := xc9 (w.heap.size + 1 + 1) 2 (by first | omega | (simp; try omega)); have f9_2_2 := xf9 (w.heap.size + 1 + 1) 2 (by first | omega | (simp; try omega)))
            | (go_at_call 55; (with_reducible refine (rmake_any _ T0 E (by omega) _).mono ?_); rintro e w10 ⟨rfl, xb10⟩; obtain ⟨xc10, xf10, xl10, xz10⟩ := ext_use xb10; (try simp at xz10); have l10_0 := xl10 (w.heap.size + 1 + 1) (by first | omega | (simp; try omega)); have r10_0 := xc10 (w.heap.size + 1 + 1) 0 (by first | omega | (simp; try omega)); have f10_0 := xf10 (w.heap.size + 1 + 1) 0 (by first | omega | (simp; try omega)); have r10_0_1 := xc10 (w.heap.size + 1 + 1) 1 (by first | omega | (simp; try omega)); have f10_0_1 := xf10 (w.heap.size + 1 + 1) 1 (by first | omega | (simp; try omega)); have r10_0_2 := xc10 (w.heap.size + 1 + 1) 2 (by first | omega | (simp; try omega)); have f10_0_2 := xf10 (w.heap.size + 1 + 1) 2 (by first | omega | (simp; try omega)))
           )
          refine bodyPost_ret (v := duV ⟨mkD _ T0 E, mkE T0 E⟩) ?h rfl ⟨by rw [HN1.out, HN2.out, ← HT0.out], ?_⟩
          case h => simp [results, Tryz.results13, go_sem, *]
          repeat (first | exact ext_refl _ | assumption | refine ext_setCell ?_ (by simp; try omega) _ | refine ext_alloc ?_ _ | refine ext_drew ?_ | refine ext_drewN ?_ _ | refine ext_trans ?_ (Aft.use _) | refine ext_trans ?_ (by assumption))
      · have hN1 : sumNeg neg neg2 X Y = neg := by unfold sumNeg; rw [if_neg hs, if_neg (by omega), if_pos h]
        have hN2 : sumAbs neg neg2 X Y = X - Y := by unfold sumAbs; rw [if_neg hs, if_neg (by omega)]
        have eC : cmpN X Y = 1 := by unfold cmpN; rw [if_neg (by omega), if_pos h]
        rw [eC] at hcm
        have hsu : ∀ w', Hid (Ext wc w') → Calls Tryz.prog 53 #[natV A1 k1 c1, natV A2 k2 c2] w' fun e w'' => ∃ A' k c', e = .returned (.tuple #[natV A' k c', .bool true, .int .i64 0]) ∧ Hid (Rd w'' A' k c' (lim (X - Y)) ∧ Fr w' A') ∧ Ext w' w'' := fun w' he =>
          rsub_any A1 A2 k1 c1 k2 c2 X Y (by omega) w' (hR1.out.ext he.out) (hR2.out.ext he.out) (by omega) (by omega)
        have HN1 := Lib.hid hN1
        have HN2 := Lib.hid hN2
        have hsz : (lim (X - Y)).length ≤ 16384 ∧ (dtext (X - Y)).length ≤ N + 2 := hsub X Y (.inl rfl)
        clear hN1 hN2 eC
        cases neg <;> cases neg2 <;> first | exact absurd rfl hs | clear hs
        all_goals
          go_wp2_with (first
            | (go_at_call 51; (with_reducible refine (hcm _ (Lib.hid (by (repeat (first | exact ext_refl _ | assumption | refine ext_setCell ?_ (by simp; try omega) _ | refine ext_alloc ?_ _ | refine ext_drew ?_ | refine ext_drewN ?_ _ | refine ext_trans ?_ (Aft.use _) | refine ext_trans ?_ (by assumption)))))).mono ?_); rintro e w6 ⟨rfl, xb6⟩; obtain ⟨xc6, xf6, xl6, xz6⟩ := ext_use xb6; (try simp at xz6); have l6_0 := xl6 (w.heap.size) (by first | omega | (simp; try omega)); have r6_0 := xc6 (w.heap.size) 0 (by first | omega | (simp; try omega)); have f6_0 := xf6 (w.heap.size) 0 (by first | omega | (simp; try omega)); have r6_0_1 := xc6 (w.heap.size) 1 (by first | omega | (simp; try omega)); have f6_0_1 := xf6 (w.heap.size) 1 (by first | omega | (simp; try omega)); have r6_0_2 := xc6 (w.heap.size) 2 (by first | omega | (simp; try omega)); have f6_0_2 := xf6 (w.heap.size) 2 (by first | omega | (simp; try omega)); have l6_1 := xl6 (w.heap.size + 1) (by first | omega | (simp; try omega)); have r6_1 := xc6 (w.heap.size + 1) 0 (by first | omega | (simp; try omega)); have f6_1 := xf6 (w.heap.size + 1) 0 (by first | omega | (simp; try omega)); have r6_1_1 := xc6 (w.heap.size + 1) 1 (by first | omega | (simp; try omega)); have f6_1_1 := xf6 (w.heap.size + 1) 1 (by first | omega | (simp; try omega)); have r6_1_2 := xc6 (w.heap.size + 1) 2 (by first | omega | (simp; try omega)); have f6_1_2 := xf6 (w.heap.size + 1) 2 (by first | omega | (simp; try omega)); have l6_2 := xl6 (w.heap.size + 1 + 1) (by first | omega | (simp; try omega)); have r6_2 := xc6 (w.heap.size + 1 + 1) 0 (by first | omega | (simp; try omega)); have f6_2 := xf6 (w.heap.size + 1 + 1) 0 (by first | omega | (simp; try omega)); have r6_2_1 := xc6 (w.heap.size + 1 + 1) 1 (by first | omega | (simp; try omega)); have f6_2_1 := xf6 (w.heap.size + 1 + 1) 1 (by first | omega | (simp; try omega)); have r6_2_2 := xc6 (w.heap.size + 1 + 1) 2 (by first | omega | (simp; try omega)); have f6_2_2 := xf6 (w.heap.size + 1 + 1) 2 (by first | omega | (simp; try omega)); have l6_3 := xl6 (B1) (by first | omega | (simp; try omega)); have r6_3 := xc6 (B1) 0 (by first | omega | (simp; try omega)); have f6_3 := xf6 (B1) 0 (by first | omega | (simp; try omega)); have l6_4 := xl6 (B2) (by first | omega | (simp; try omega)); have r6_4 := xc6 (B2) 0 (by first | omega | (simp; try omega)); have f6_4 := xf6 (B2) 0 (by first | omega | (simp; try omega)); have l6_5 := xl6 (wc.heap.size) (by first | omega | (simp; try omega)); have r6_5 := xc6 (wc.heap.size) 0 (by first | omega | (simp; try omega)); have f6_5 := xf6 (wc.heap.size) 0 (by first | omega | (simp; try omega)))
            | (go_at_call 53; (with_reducible refine (hsu _ (Lib.hid (by (repeat (first | exact ext_refl _ | assumption | refine ext_setCell ?_ (by simp; try omega) _ | refine ext_alloc ?_ _ | refine ext_drew ?_ | refine ext_drewN ?_ _ | refine ext_trans ?_ (Aft.use _) | refine ext_trans ?_ (by assumption)))))).mono ?_); rintro e w7 ⟨S, k3, c3, rfl, hS, xb7⟩; obtain ⟨xc7, xf7, xl7, xz7⟩ := ext_use xb7; (try simp at xz7); have l7_0 := xl7 (w.heap.size) (by first | omega | (simp; try omega)); have r7_0 := xc7 (w.heap.size) 0 (by first | omega | (simp; try omega)); have f7_0 := xf7 (w.heap.size) 0 (by first | omega | (simp; try omega)); have r7_0_1 := xc7 (w.heap.size) 1 (by first | omega | (simp; try omega)); have f7_0_1 := xf7 (w.heap.size) 1 (by first | omega | (simp; try omega)); have r7_0_2 := xc7 (w.heap.size) 2 (by first | omega | (simp; try omega)); have f7_0_2 := xf7 (w.heap.size) 2 (by first | omega | (simp; try omega)); have l7_1 := xl7 (w.heap.size + 1) (by first | omega | (simp; try omega)); have r7_1 := xc7 (w.heap.size + 1) 0 (by first | omega | (simp; try omega)); have f7_1 := xf7 (w.heap.size + 1) 0 (by first | omega | (simp; try omega)); have r7_1_1 := xc7 (w.heap.size + 1) 1 (by first | omega | (simp; try omega)); have f7_1_1 := xf7 (w.heap.size + 1) 1 (by first | omega | (simp; try omega)); have r7_1_2 := xc7 (w.heap.size + 1) 2 (by first | omega | (simp; try omega)); have f7_1_2 := xf7 (w.heap.size + 1) 2 (by first | omega | (simp; try omega)); have l7_2 := xl7 (w.heap.size + 1 + 1) (by first | omega | (simp; try omega)); have r7_2 := xc7 (w.heap.size + 1 + 1) 0 (by first | omega | (simp; try omega)); have f7_2 := xf7 (w.heap.size + 1 + 1) 0 (by first | omega | (simp; try omega)); have r7_2_1 := xc7 (w.heap.size + 1 + 1) 1 (by first | omega | (simp; try omega)); have f7_2_1 := xf7 (w.heap.size + 1 + 1) 1 (by first | omega | (simp; try omega)); have r7_2_2 := xc7 (w.heap.size + 1 + 1) 2 (by first | omega | (simp; try omega)); have f7_2_2 := xf7 (w.heap.size + 1 + 1) 2 (by first | omega | (simp; try omega)); have l7_3 := xl7 (wc.heap.size) (by first | omega | (simp; try omega)); have r7_3 := xc7 (wc.heap.size) 0 (by first | omega | (simp; try omega)); have f7_3 := xf7 (wc.heap.size) 0 (by first | omega | (simp; try omega)))
            | (go_at_call 54; (with_reducible refine (text_any S k3 c3 (X - Y) (by omega) _ (rd_over (p := ⟨wc.heap.size, 0, none⟩) hS _ (by simp; try omega))).mono ?_); rintro e w9 ⟨rfl, xb9⟩; obtain ⟨xc9, xf9, xl9, xz9⟩ := ext_use xb9; (try simp at xz9); have l9_0 := xl9 (w.heap.size) (by first | omega | (simp; try omega)); have r9_0 := xc9 (w.heap.size) 0 (by first | omega | (simp; try omega)); have f9_0 := xf9 (w.heap.size) 0 (by first | omega | (simp; try omega)); have r9_0_1 := xc9 (w.heap.size) 1 (by first | omega | (simp; try omega)); have f9_0_1 := xf9 (w.heap.size) 1 (by first | omega | (simp; try omega)); have r9_0_2 := xc9 (w.heap.size) 2 (by first | omega | (simp; try omega)); have f9_0_2 := xf9 (w.heap.size) 2 (by first | omega | (simp; try omega)); have l9_1 := xl9 (w.heap.size + 1) (by first | omega | (simp; try omega)); have r9_1 := xc9 (w.heap.size + 1) 0 (by first | omega | (simp; try omega)); have f9_1 := xf9 (w.heap.size + 1) 0 (by first | omega | (simp; try omega)); have r9_1_1 := xc9 (w.heap.size + 1) 1 (by first | omega | (simp; try omega)); have f9_1_1 := xf9 (w.heap.size + 1) 1 (by first | omega | (simp; try omega)); have r9_1_2 := xc9 (w.heap.size + 1) 2 (by first | omega | (simp; try omega)); have f9_1_2 := xf9 (w.heap.size + 1) 2 (by first | omega | (simp; try omega)); have l9_2 := xl9 (w.heap.size + 1 + 1) (by first | omega | (simp; try omega)); have r9_2 := xc9 (w.heap.size + 1 + 1) 0 (by first | omega | (simp; try omega)); have f9_2 := xf9 (w.heap.size + 1 + 1) 0 (by first | omega | (simp; try omega)); have r9_2_1 := xc9 (w.heap.size + 1 + 1) 1 (by first | omega | (simp; try omega)); have f9_2_1 := xf9 (w.heap.size + 1 + 1) 1 (by first | omega | (simp; try omega)); have r9_2_2 := xc9 (w.heap.size + 1 + 1) 2 (by first | omega | (simp; try omega)); have f9_2_2 := xf9 (w.heap.size + 1 + 1) 2 (by first | omega | (simp; try omega)))
            | (go_at_call 55; (with_reducible refine (rmake_any _ (dtext (X - Y)) E (by omega) _).mono ?_); rintro e w10 ⟨rfl, xb10⟩; obtain ⟨xc10, xf10, xl10, xz10⟩ := ext_use xb10; (try simp at xz10); have l10_0 := xl10 (w.heap.size + 1 + 1) (by first | omega | (simp; try omega)); have r10_0 := xc10 (w.heap.size + 1 + 1) 0 (by first | omega | (simp; try omega)); have f10_0 := xf10 (w.heap.size + 1 + 1) 0 (by first | omega | (simp; try omega)); have r10_0_1 := xc10 (w.heap.size + 1 + 1) 1 (by first | omega | (simp; try omega)); have f10_0_1 := xf10 (w.heap.size + 1 + 1) 1 (by first | omega | (simp; try omega)); have r10_0_2 := xc10 (w.heap.size + 1 + 1) 2 (by first | omega | (simp; try omega)); have f10_0_2 := xf10 (w.heap.size + 1 + 1) 2 (by first | omega | (simp; try omega)))
           )
          refine bodyPost_ret (v := duV ⟨mkD _ (dtext (X - Y)) E, mkE (dtext (X - Y)) E⟩) ?h rfl ⟨by rw [HN1.out, HN2.out], ?_⟩
          case h => simp [results, Tryz.results13, go_sem, *]
          repeat (first | exact ext_refl _ | assumption | refine ext_setCell ?_ (by simp; try omega) _ | refine ext_alloc ?_ _ | refine ext_drew ?_ | refine ext_drewN ?_ _ | refine ext_trans ?_ (Aft.use _) | refine ext_trans ?_ (by assumption))
end Go.Proofs.YtbgimjfeigeicaaGreatDoor
