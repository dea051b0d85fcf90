/- The document's Mul. -/
import Derived.Test.YtbgimjfeigeicaaGreatDoorSumF
import Derived.Test.YtbgimjfeigeicaaGreatDoorSumG
import Derived.Test.YtbgimjfeigeicaaGreatDoorFlo
namespace Go.Proofs.YtbgimjfeigeicaaGreatDoor
open Go.RowKit
attribute [local go_sem] bs_size bs_extract bs_get bs_append bs_toList const_get
attribute [local go_sem] Oper.detAt detUpon relUpon
attribute [local go_sem] sz2 sz3 sz4 sz5 sz6 sz7 sz8
set_option maxHeartbeats 4000000
set_option maxRecDepth 100000
attribute [local irreducible] Calls
/-- A number and an error. -/
def RTup (N : Nat) (v : Nat) : List Value → Value → World → Prop := fun _ u w => ∃ (A : Option Addr) (k c : Nat), u = .tuple #[natV A k c, .int .i64 0] ∧ Rd w A k c (lim v) ∧ ∀ a, A = some a → N ≤ a.block
theorem stays_tup (N v : Nat) : Stays (RTup N v) := fun _ _ _ _ ⟨A, k, c, h1, h2, h3⟩ he => ⟨A, k, c, h1, h2.ext he, h3⟩
theorem rtup_at {N v : Nat} {vals : List Value} {A : Option Addr} {k c : Nat} {w : World} (h : RTup N v vals (.tuple #[natV A k c, .int .i64 0]) w) : Rd w A k c (lim v) ∧ ∀ a, A = some a → N ≤ a.block := by
  obtain ⟨A', k', c', e, h2, h3⟩ := h
  simp only [natV, Value.tuple.injEq, Value.agg.injEq, Array.mk.injEq, List.cons.injEq, Value.slice.injEq, and_true] at e
  obtain ⟨rfl, rfl, rfl⟩ := e
  exact ⟨h2, h3⟩
theorem rel_mul (N : Nat) (A B : Option Addr) (n c m d a b : Nat) (vals : List Value) (w : World) (hN : N ≤ w.heap.size) (hA : Rd w A n c (lim a)) (hB : Rd w B m d (lim b)) (ha : (lim a).length ≤ 6912) (hb : (lim b).length ≤ 6912) (hs : (lim (a * b)).length ≤ 16384) :
    Calls Tryz.prog 58 #[natV A n c, natV B m d] w fun e w' => ∃ v, e = .returned v ∧ Ext w w' ∧ Fresh w v w' ∧ RTup N (a * b) vals v w' := by
  have h1 := hA.len
  have h2 := hB.len
  refine (rmul_any A B n c m d a b w hA hB (by omega) (by omega) (by omega) hs).mono ?_
  rintro e w' ⟨A', k, c', he, h1, h2⟩
  exact ⟨_, he, h2, (fun b hb => by cases hb), A', k, c', rfl, h1.out.1, fun a ha => Nat.le_trans hN (h1.out.2 a ha)⟩
theorem mulT_pos {l r : List UInt8} (hd : digsB l = true) (hd2 : digsB r = true) (hl : lead l) (hr : lead r) (h0 : l ≠ []) (h1 : r ≠ []) : ∀ k : Nat, (∀ i, k ≤ i → i < (mulT l r).length → (mulT l r).getD i 48 = 48) → 0 < k := by
  intro k hk
  rcases Nat.eq_zero_or_pos k with e | e
  · exfalso
    subst e
    have h2 : 0 < dval l * dval r := Nat.mul_pos (dval_pos hd hl h0) (dval_pos hd2 hr h1)
    have h3 : mulT l r = digs (dval l * dval r) := by unfold mulT dtext; rw [if_neg (by omega)]
    have h4 : mulT l r = List.replicate (mulT l r).length 48 := by
      refine List.ext_getElem (by simp) fun i a b => ?_
      have := hk i (Nat.zero_le _) a
      rw [List.getD_eq_getElem?_getD, List.getElem?_eq_getElem a] at this
      simpa using this
    have h5 : dval (mulT l r) = 0 := by rw [h4]; exact dval_noughts _
    rw [h3, dval_digs] at h5
    omega
  · exact e
theorem trimR_take {S : List UInt8} {k : Nat} (h0 : 0 < k) (hk : k ≤ S.length) (hz : ∀ i, k ≤ i → i < S.length → S.getD i 48 = 48) (hn : S.getD (k - 1) 48 ≠ 48) : trimR 48 S = S.take k := by
  refine trimR_at 48 S (S.length - k) k (by omega) h0 (fun i hi hk2 => ?_) ?_
  · have := hz i hk2 hi
    rw [List.getD_eq_getElem?_getD, List.getElem?_eq_getElem hi] at this
    simpa using this
  · rw [List.getD_eq_getElem?_getD, List.getElem?_eq_getElem (by omega)] at hn
    simpa using hn
theorem rmul10_some (neg neg2 : Bool) (l r : List UInt8) (exp exp2 : Int) (hok : Ok ⟨neg, l, exp⟩) (hok2 : Ok ⟨neg2, r, exp2⟩) (hc : ∀ w, Calls Tryz.prog 39 #[dcV ⟨neg, l, exp⟩, dcV ⟨neg2, r, exp2⟩] w fun e w' => e = .returned (.int .i64 0) ∧ Ext w w') (w : World) :
    Calls Tryz.prog 15 #[dcV ⟨neg, l, exp⟩, dcV ⟨neg2, r, exp2⟩] w fun e w' =>
      e = .returned (duV ⟨mkD (neg != neg2) (trimR 48 (mulT l r)) (exp + exp2 + (mulT l r).length - (trimR 48 (mulT l r)).length), mkE (trimR 48 (mulT l r)) (exp + exp2 + (mulT l r).length - (trimR 48 (mulT l r)).length)⟩) ∧ Ext w w' := by
  obtain ⟨l1, pl, d1, ld1, e1, e2⟩ := hok
  obtain ⟨l2, pr, d2, ld2, e3, e4⟩ := hok2
  simp only at l1 pl d1 ld1 e1 e2 l2 pr d2 ld2 e3 e4
  have i3 : ¬ l = [] := List.length_pos_iff.1 pl
  have i4 : ¬ r = [] := List.length_pos_iff.1 pr
  have hx := fun N vals w hN => rel_number N l d1 pl l1 vals w hN
  have hy := fun N vals w hN => rel_number N r d2 pr l2 vals w hN
  have sx := dval_small d1 l1
  have sy := dval_small d2 l2
  obtain ⟨ss, st⟩ := mul_small d1 d2 l1 l2
  have hpos := Lib.hid (mulT_pos d1 d2 ld1 ld2 i3 i4)
  have htx : ∀ A n c w, Hid (Rd w A n c (lim (dval l * dval r))) → Calls Tryz.prog 54 #[natV A n c] w fun e w' => e = .returned (.tuple #[.string (bs (mulT l r)), .int .i64 0]) ∧ Ext w w' := fun A n c w h => text_any A n c (dval l * dval r) (by omega) w h.out
  clear d1 d2 ld1 ld2
  generalize mulT l r = S at hpos htx st ⊢
  generalize dval l = X at hx sx ss htx
  generalize dval r = Y at hy sy ss htx
  obtain ⟨R, hR⟩ : ∃ R : Du, R = ⟨mkD (neg != neg2) (trimR 48 S) (exp + exp2 + S.length - (trimR 48 S).length), mkE (trimR 48 S) (exp + exp2 + S.length - (trimR 48 S).length)⟩ := ⟨_, rfl⟩
  rw [← hR]
  have HPOST := Lib.hid hR
  clear hR
  go_enter Tryz.func15, Tryz.ntmps15
  go_upto_region 6 with (first
    | (go_at_call 39; (with_reducible refine (hc _).mono ?_); rintro e w1 ⟨rfl, xb1⟩; obtain ⟨xc1, xf1, xl1, xz1⟩ := ext_use xb1; (try simp at xz1); have l1_0 := xl1 (w.heap.size) (by first | omega | (simp; try omega)); have r1_0 := xc1 (w.heap.size) 0 (by first | omega | (simp; try omega)); have f1_0 := xf1 (w.heap.size) 0 (by first | omega | (simp; try omega)); have r1_0_1 := xc1 (w.heap.size) 1 (by first | omega | (simp; try omega)); have f1_0_1 := xf1 (w.heap.size) 1 (by first | omega | (simp; try omega)); have r1_0_2 := xc1 (w.heap.size) 2 (by first | omega | (simp; try omega)); have f1_0_2 := xf1 (w.heap.size) 2 (by first | omega | (simp; try omega)); have l1_1 := xl1 (w.heap.size + 1) (by first | omega | (simp; try omega)); have r1_1 := xc1 (w.heap.size + 1) 0 (by first | omega | (simp; try omega)); have f1_1 := xf1 (w.heap.size + 1) 0 (by first | omega | (simp; try omega)); have r1_1_1 := xc1 (w.heap.size + 1) 1 (by first | omega | (simp; try omega)); have f1_1_1 := xf1 (w.heap.size + 1) 1 (by first | omega | (simp; try omega)); have r1_1_2 := xc1 (w.heap.size + 1) 2 (by first | omega | (simp; try omega)); have f1_1_2 := xf1 (w.heap.size + 1) 2 (by first | omega | (simp; try omega)); have l1_2 := xl1 (w.heap.size + 1 + 1) (by first | omega | (simp; try omega)); have r1_2 := xc1 (w.heap.size + 1 + 1) 0 (by first | omega | (simp; try omega)); have f1_2 := xf1 (w.heap.size + 1 + 1) 0 (by first | omega | (simp; try omega)); have r1_2_1 := xc1 (w.heap.size + 1 + 1) 1 (by first | omega | (simp; try omega)); have f1_2_1 := xf1 (w.heap.size + 1 + 1) 1 (by first | omega | (simp; try omega)); have r1_2_2 := xc1 (w.heap.size + 1 + 1) 2 (by first | omega | (simp; try omega)); have f1_2_2 := xf1 (w.heap.size + 1 + 1) 2 (by first | omega | (simp; try omega)))
    | (go_at_call 48; (with_reducible refine (rnone_any _ _ _ _).mono ?_); rintro e w2 ⟨rfl, xb2⟩; obtain ⟨xc2, xf2, xl2, xz2⟩ := ext_use xb2; (try simp at xz2); have l2_0 := xl2 (w.heap.size) (by first | omega | (simp; try omega)); have r2_0 := xc2 (w.heap.size) 0 (by first | omega | (simp; try omega)); have f2_0 := xf2 (w.heap.size) 0 (by first | omega | (simp; try omega)); have r2_0_1 := xc2 (w.heap.size) 1 (by first | omega | (simp; try omega)); have f2_0_1 := xf2 (w.heap.size) 1 (by first | omega | (simp; try omega)); have r2_0_2 := xc2 (w.heap.size) 2 (by first | omega | (simp; try omega)); have f2_0_2 := xf2 (w.heap.size) 2 (by first | omega | (simp; try omega)); have l2_1 := xl2 (w.heap.size + 1) (by first | omega | (simp; try omega)); have r2_1 := xc2 (w.heap.size + 1) 0 (by first | omega | (simp; try omega)); have f2_1 := xf2 (w.heap.size + 1) 0 (by first | omega | (simp; try omega)); have r2_1_1 := xc2 (w.heap.size + 1) 1 (by first | omega | (simp; try omega)); have f2_1_1 := xf2 (w.heap.size + 1) 1 (by first | omega | (simp; try omega)); have r2_1_2 := xc2 (w.heap.size + 1) 2 (by first | omega | (simp; try omega)); have f2_1_2 := xf2 (w.heap.size + 1) 2 (by first | omega | (simp; try omega)); have l2_2 := xl2 (w.heap.size + 1 + 1) (by first | omega | (simp; try omega)); have r2_2 := xc2 (w.heap.size + 1 + 1) 0 (by first | omega | (simp; try omega)); have f2_2 := xf2 (w.heap.size + 1 + 1) 0 (by first | omega | (simp; try omega)); have r2_2_1 := xc2 (w.heap.size + 1 + 1) 1 (by first | omega | (simp; try omega)); have f2_2_1 := xf2 (w.heap.size + 1 + 1) 1 (by first | omega | (simp; try omega)); have r2_2_2 := xc2 (w.heap.size + 1 + 1) 2 (by first | omega | (simp; try omega)); have f2_2_2 := xf2 (w.heap.size + 1 + 1) 2 (by first | omega | (simp; try omega)))
   )
  go_cut [6, 7] (fun p q wc => ∃ (B1 : Nat) (A1 : Option Addr) (k1 c1 : Nat), p = .int .i64 0 ∧ q = .pointer (some ⟨B1, 0, none⟩) ∧ Hid (Ext w2 wc) ∧ Hid (Rd wc A1 k1 c1 (lim (X * Y))) ∧
      (w2.heap.size ≤ B1 ∧ B1 < wc.heap.size) ∧ wc.cell? ⟨B1, 0, none⟩ = some (.slice A1 k1 c1) ∧ wc.frozen? ⟨B1, 0, none⟩ = false)
  case first =>
    refine wp_drawn_tailF 11 [9] _ (tab [(2, RNat w2.heap.size X), (5, RNat w2.heap.size Y), (6, RTup w2.heap.size (X * Y)), (10, RAlloc w2.heap.size (.cells #[.slice none 0 0] 46))]) (by kernel_rfl) (by kernel_rfl) rfl (by kernel_rfl)
      (tab_stays (by simp [stays_alloc, stays_nat, stays_tup])) (fun hq hqf => ?_)
    simp only [List.take_succ_cons, List.take_zero, List.drop_succ_cons, List.drop_zero]
    iterate 2
      (refine wpK_det rfl (fun K hK => ?_)
       go_simp
       refine hK _ ?_; clear hK K)
    refine wpK_rel _ rfl rfl ?_ ?_
    · rintro _ ⟨nn, rfl⟩ _
      unfold Oper.relAt
      go_simp
      exact hx _ _ _ (ext_size nn.use)
    rintro v ⟨_, ⟨nn, rfl⟩, hr⟩
    obtain ⟨A1, k1, c1, rfl, -, -⟩ := hr
    clear nn
    iterate 2
      (refine wpK_det rfl (fun K hK => ?_)
       go_simp
       refine hK _ ?_; clear hK K)
    refine wpK_rel _ rfl rfl ?_ ?_
    · rintro _ ⟨nn, rfl⟩ _
      unfold Oper.relAt
      go_simp
      exact hy _ _ _ (ext_size nn.use)
    rintro v ⟨_, ⟨nn, rfl⟩, hr⟩
    obtain ⟨A2, k2, c2, rfl, -, -⟩ := hr
    clear nn
    refine wpK_rel _ rfl rfl ?_ ?_
    · rintro _ ⟨nn, rfl⟩ hdep
      have q1 := hdep 2 (by kernel_rfl)
      have q2 := hdep 5 (by kernel_rfl)
      simp only [Facts.put] at q1 q2
      have q3 := rnat_at (vals := []) q1
      have q4 := rnat_at (vals := []) q2
      unfold Oper.relAt
      go_simp
      exact rel_mul _ _ _ _ _ _ _ _ _ _ _ (ext_size nn.use) q3.1 q4.1 sx sy (by omega)
    rintro v ⟨_, ⟨nn, rfl⟩, hr⟩
    obtain ⟨A3, k3, c3, rfl, -, -⟩ := hr
    clear nn
    iterate 3
      (refine wpK_det rfl (fun K hK => ?_)
       go_simp
       refine hK _ ?_; clear hK K)
    refine wpK_rel _ rfl rfl ?_ ?_
    · rintro _ ⟨n, rfl⟩ _
      unfold Oper.relAt
      go_simp
      exact rAlloc_new (vals := []) (by have := ext_size n.use; simpa using this)
    rintro v ⟨_, ⟨n, rfl⟩, hr⟩
    obtain ⟨B1, rfl, leB1⟩ := rAlloc_open (vals := []) hr
    clear hr n
    simp only [Act.put, List.setIfInBounds_toArray, List.set_cons_zero, List.set_cons_succ]
    refine wpK_nil ?_
    intro nq hG
    have h1 : nq.out.heap[B1]? = some (.cells #[.slice none 0 0] 46 (0, 0)) := by have := hG.fact 10; simp [Facts.put, RAlloc] at this; exact this.2
    have r1 : ∃ vals, RTup w2.heap.size (X * Y) vals (.tuple #[natV A3 k3 c3, .int .i64 0]) nq.out := by have := hG.fact 6; simp [Facts.put] at this; exact ⟨_, this⟩
    obtain ⟨_, r1⟩ := r1
    have hs1 : Hid (Rd (nq.out.setCell ⟨B1, 0, none⟩ (.slice A3 k3 c3)) A3 k3 c3 (lim (X * Y))) := rd_apart (rtup_at r1).1 h1 (fun _ e => by cases e) _
    clear r1 h1
    have fB1 := hG.fact 10
    have ltB1 := hG.there 10 B1 (by simp [Facts.put, blk])
    simp [Facts.put, RAlloc] at fB1
    have ceB1 := fun i => cell_of_block fB1.2 i
    have frB1 := fun i => frozen_of_block fB1.2 i
    have neB1 : ∀ b, b < _ → (b = B1) = False := fun b hb => eq_false (Nat.ne_of_lt (Nat.lt_of_lt_of_le hb fB1.1))
    clear fB1
    have hE := nq.use
    clear hG
    refine ⟨undef, nq.out.setCell ⟨B1, 0, none⟩ (.slice A3 k3 c3), .inr ⟨?_, rfl⟩, ?_⟩
    · go_simp
    go_wp2
    go_meet
    case rel =>
      refine ⟨B1, A3, k3, c3, rfl, rfl, ?_, hs1, ⟨leB1, ?_⟩, ?_, ?_⟩
      · show Ext _ _
        (repeat (first | exact ext_refl _ | assumption | refine ext_setCell ?_ (by simp; try omega) _ | refine ext_alloc ?_ _ | refine ext_drew ?_ | refine ext_drewN ?_ _ | refine ext_trans ?_ (Aft.use _) | refine ext_trans ?_ (by assumption)))
      all_goals go_simp
  case rest =>
    obtain ⟨B1, A1, k1, c1, rfl, rfl, hE, hR1, ⟨le1, lt1⟩, cB1, fB1⟩ := hcut
    obtain ⟨xc5, xf5, xl5, xz5⟩ := ext_use (hE.out)
    have l5_0 := xl5 (w.heap.size) (by first | omega | (simp; try omega))
    have r5_0 := xc5 (w.heap.size) 0 (by first | omega | (simp; try omega))
    have f5_0 := xf5 (w.heap.size) 0 (by first | omega | (simp; try omega))
    have r5_0_1 := xc5 (w.heap.size) 1 (by first | omega | (simp; try omega))
    have f5_0_1 := xf5 (w.heap.size) 1 (by first | omega | (simp; try omega))
    have r5_0_2 := xc5 (w.heap.size) 2 (by first | omega | (simp; try omega))
    have f5_0_2 := xf5 (w.heap.size) 2 (by first | omega | (simp; try omega))
    have l5_1 := xl5 (w.heap.size + 1) (by first | omega | (simp; try omega))
    have r5_1 := xc5 (w.heap.size + 1) 0 (by first | omega | (simp; try omega))
    have f5_1 := xf5 (w.heap.size + 1) 0 (by first | omega | (simp; try omega))
    have r5_1_1 := xc5 (w.heap.size + 1) 1 (by first | omega | (simp; try omega))
    have f5_1_1 := xf5 (w.heap.size + 1) 1 (by first | omega | (simp; try omega))
    have r5_1_2 := xc5 (w.heap.size + 1) 2 (by first | omega | (simp; try omega))
    have f5_1_2 := xf5 (w.heap.size + 1) 2 (by first | omega | (simp; try omega))
    have l5_2 := xl5 (w.heap.size + 1 + 1) (by first | omega | (simp; try omega))
    have r5_2 := xc5 (w.heap.size + 1 + 1) 0 (by first | omega | (simp; try omega))
    have f5_2 := xf5 (w.heap.size + 1 + 1) 0 (by first | omega | (simp; try omega))
    have r5_2_1 := xc5 (w.heap.size + 1 + 1) 1 (by first | omega | (simp; try omega))
    have f5_2_1 := xf5 (w.heap.size + 1 + 1) 1 (by first | omega | (simp; try omega))
    have r5_2_2 := xc5 (w.heap.size + 1 + 1) 2 (by first | omega | (simp; try omega))
    have f5_2_2 := xf5 (w.heap.size + 1 + 1) 2 (by first | omega | (simp; try omega))
    have hEE := hE.out
    go_wp2_with (first
      | (go_at_call 54; (with_reducible refine (htx A1 k1 c1 _ hR1).mono ?_); rintro e w9 ⟨rfl, xb9⟩; obtain ⟨xc9, xf9, xl9, xz9⟩ := ext_use xb9; (try simp at xz9); have l9_0 := xl9 (w.heap.size) (by first | omega | (simp; try omega)); have r9_0 := xc9 (w.heap.size) 0 (by first | omega | (simp; try omega)); have f9_0 := xf9 (w.heap.size) 0 (by first | omega | (simp; try omega)); have r9_0_1 := xc9 (w.heap.size) 1 (by first | omega | (simp; try omega)); have f9_0_1 := xf9 (w.heap.size) 1 (by first | omega | (simp; try omega)); have r9_0_2 := xc9 (w.heap.size) 2 (by first | omega | (simp; try omega)); have f9_0_2 := xf9 (w.heap.size) 2 (by first | omega | (simp; try omega)); have l9_1 := xl9 (w.heap.size + 1) (by first | omega | (simp; try omega)); have r9_1 := xc9 (w.heap.size + 1) 0 (by first | omega | (simp; try omega)); have f9_1 := xf9 (w.heap.size + 1) 0 (by first | omega | (simp; try omega)); have r9_1_1 := xc9 (w.heap.size + 1) 1 (by first | omega | (simp; try omega)); have f9_1_1 := xf9 (w.heap.size + 1) 1 (by first | omega | (simp; try omega)); have r9_1_2 := xc9 (w.heap.size + 1) 2 (by first | omega | (simp; try omega)); have f9_1_2 := xf9 (w.heap.size + 1) 2 (by first | omega | (simp; try omega)); have l9_2 := xl9 (w.heap.size + 1 + 1) (by first | omega | (simp; try omega)); have r9_2 := xc9 (w.heap.size + 1 + 1) 0 (by first | omega | (simp; try omega)); have f9_2 := xf9 (w.heap.size + 1 + 1) 0 (by first | omega | (simp; try omega)); have r9_2_1 := xc9 (w.heap.size + 1 + 1) 1 (by first | omega | (simp; try omega)); have f9_2_1 := xf9 (w.heap.size + 1 + 1) 1 (by first | omega | (simp; try omega)); have r9_2_2 := xc9 (w.heap.size + 1 + 1) 2 (by first | omega | (simp; try omega)); have f9_2_2 := xf9 (w.heap.size + 1 + 1) 2 (by first | omega | (simp; try omega)))
     )
    go_loopw [10] (fun vi wr => ∃ k : Nat, k ≤ S.length ∧ vi = .int .i64 (k : Int) ∧ Hid (∀ i, k ≤ i → i < S.length → S.getD i 48 = 48) ∧ wr = w9)
      (fun vi _ => (intOf vi).toNat)
    case atStart =>
      exact ⟨S.length, Nat.le_refl _, rfl, (fun i h1 h2 => by omega), rfl⟩
    case round =>
      obtain ⟨k, hk, rfl, hz, rfl⟩ := hrel
      have hk0 := hpos.out k hz.out
      have hkl : k - 1 < S.length := by omega
      have hkn : ((k : Int) - 1).toNat = k - 1 := by omega
      by_cases hs : S.getD (k - 1) 48 = 48
      · have hs2 : S[k - 1] = 48 := by rw [List.getD_eq_getElem?_getD, List.getElem?_eq_getElem hkl] at hs; simpa using hs
        go_wp2
        go_roundw
        case rel =>
          refine ⟨k - 1, by omega, by go_num, fun i h1 h2 => ?_, by first | trivial | rfl⟩
          by_cases e : i = k - 1
          · rw [e]; exact hs
          · exact hz.out i (by omega) h2
        case measure => simp [intOf]; omega
      · have hT := trimR_take hk0 hk hz.out hs
        have hs2 : ((S[k - 1].toNat : Int) == 48) = false := by
          rw [byte_48n]; intro e; apply hs; rw [List.getD_eq_getElem?_getD, List.getElem?_eq_getElem hkl]; simpa using e
        have HP2 := HPOST.out
        rw [hT] at HP2
        clear hT
        have hkk : (S.take k).length = k := by rw [List.length_take]; omega
        have hkN : ((k : Int)).toNat = k := by omega
        have hmk := fun ng e w => rmake_any ng (S.take k) e (by omega) w
        by_cases hbig : 65536 < k
        · have E4 : ∀ e, mkE (S.take k) e = 4 := fun e => by unfold mkE; rw [if_pos (by omega)]
          have D4 : ∀ ng e, mkD ng (S.take k) e = Dc.zero := fun ng e => by unfold mkD; rw [E4 e]; rfl
          rw [E4, D4] at HP2
          have HP := Lib.hid HP2
          clear HP2
          clear hs hkk hmk E4 D4
          go_wp2
          refine bodyPost_ret (v := duV ⟨Dc.zero, 4⟩) ?h rfl ⟨by rw [HP.out], ?_⟩
          case h => simp [results, Tryz.results15, go_sem, Dc.zero, bs_nil, *]
          repeat (first | exact ext_refl _ | assumption | refine ext_setCell ?_ (by simp; try omega) _ | refine ext_alloc ?_ _ | refine ext_drew ?_ | refine ext_drewN ?_ _ | refine ext_trans ?_ (Aft.use _) | refine ext_trans ?_ (by assumption))
        · have HP := Lib.hid HP2
          clear hs HP2
          cases neg <;> cases neg2
          all_goals
            go_wp2
            refine wp_aft_tail 21 (by kernel_rfl) (by kernel_rfl) (by kernel_rfl) (fun hq hqf => ?_)
            simp only [List.take_succ_cons, List.take_zero, List.drop_succ_cons, List.drop_zero]
            repeat (go_big_quiet_step (first
              | (go_at_call 55; exact aft_of (hmk _ _ _))
              ))
            refine wpQuiet_nil ?_
            rintro _ ⟨nq, rfl⟩
            have xl := ext_lt nq.use
            have xz := ext_size nq.use
            try simp at xz
            go_wp2
            refine bodyPost_ret (v := duV ⟨mkD _ (S.take k) (exp + exp2 + S.length - k), mkE (S.take k) (exp + exp2 + S.length - k)⟩) ?h rfl ⟨by rw [HP.out, hkk], ?_⟩
            case h => simp [results, Tryz.results15, go_sem, *]
            repeat (first | exact ext_refl _ | assumption | refine ext_setCell ?_ (by simp; try omega) _ | refine ext_alloc ?_ _ | refine ext_drew ?_ | refine ext_drewN ?_ _ | refine ext_trans ?_ (Aft.use _) | refine ext_trans ?_ (by assumption))
end Go.Proofs.YtbgimjfeigeicaaGreatDoor
