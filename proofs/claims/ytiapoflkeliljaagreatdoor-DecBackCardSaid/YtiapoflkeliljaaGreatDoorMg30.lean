/- Lemmas of this proof, laid together: DbB. -/
import Derived.Test.YtiapoflkeliljaaGreatDoorMg24
import Derived.Test.YtiapoflkeliljaaGreatDoorMg26
import Derived.Test.YtiapoflkeliljaaGreatDoorMg29
import Derived.Deep.DeepCutAuto
import Derived.Deep.RegionWith
import Derived.Deep.LoopGhost
set_option linter.unusedSimpArgs false
set_option linter.unusedVariables false
section
/- The program's decimals: what a number has of fives. -/
namespace Go.Proofs.YtiapoflkeliljaaGreatDoor
open Go.RowKit
attribute [local go_sem] sz2 sz3 sz4 sz5 sz6 sz7 sz8
set_option maxHeartbeats 4000000
set_option maxRecDepth 100000
attribute [local irreducible] Calls
attribute [local go_sem] Oper.detAt detUpon relUpon
theorem rd_apart2 {w : World} {A : Option Addr} {n c : Nat} {xs : List Nat} {B : Nat} {v : Value} {t : TypeId} (h : Rd w A n c xs) (hB : w.heap[B]? = some (.cells #[v] t (0, 0))) (hv : ∀ x : Nat, v ≠ u32V x) (u : Value) : Rd (w.setCell ⟨B, 0, none⟩ u) A n c xs :=
  ⟨h.len, h.cap, h.mx, h.lb, h.none_, h.at_, fun b off hA i hi => by
    obtain ⟨h1, h2⟩ := h.cells b off hA i hi
    refine ⟨by simpa using h1, ?_⟩
    by_cases e : b = B
    · exfalso
      subst e
      rw [cell_of_row w b _ _ t (0, 0) hB] at h2
      by_cases e0 : off + i = 0
      · rw [e0] at h2
        simp at h2
        exact hv _ h2
      · rw [Array.getElem?_eq_none (by simp; omega)] at h2
        cases h2
    · rw [World.cell?_setCell_far _ _ _ _ (by intro e2; simp at e2; exact e e2.symm)]; exact h2⟩
def RNm (N v : Nat) : List Value → Value → World → Prop := fun _ u w => ∃ (A : Option Addr) (k : Nat), u = natV A k k ∧ Rd w A k k (lim v) ∧ ∀ a, A = some a → N ≤ a.block
theorem stays_nm (N v : Nat) : Stays (RNm N v) := fun _ _ _ _ ⟨A, k, h1, h2, h3⟩ he => ⟨A, k, h1, h2.ext he, h3⟩
theorem nm_at {N v : Nat} {vals : List Value} {A : Option Addr} {k : Nat} {w : World} (h : RNm N v vals (natV A k k) w) : Rd w A k k (lim v) ∧ ∀ a, A = some a → N ≤ a.block := by
  obtain ⟨A', k', e, h2⟩ := h
  simp [natV] at e
  obtain ⟨rfl, rfl⟩ := e
  exact h2
def RDiv (N q r : Nat) : List Value → Value → World → Prop := fun _ u w => ∃ (A : Option Addr) (k : Nat) (B : Option Addr) (m : Nat), u = .tuple #[natV A k k, natV B m m, .int .i64 0] ∧ Rd w A k k (lim q) ∧ (∀ a, A = some a → N ≤ a.block) ∧ Rd w B m m (lim r) ∧ ∀ a, B = some a → N ≤ a.block
theorem stays_div (N q r : Nat) : Stays (RDiv N q r) := fun _ _ _ _ ⟨A, k, B, m, h1, h2, h3, h4, h5⟩ he => ⟨A, k, B, m, h1, h2.ext he, h3, h4.ext he, h5⟩
theorem div_at {N q r : Nat} {vals : List Value} {A : Option Addr} {k : Nat} {B : Option Addr} {m : Nat} {w : World} (h : RDiv N q r vals (.tuple #[natV A k k, natV B m m, .int .i64 0]) w) : Rd w A k k (lim q) ∧ (∀ a, A = some a → N ≤ a.block) ∧ Rd w B m m (lim r) ∧ ∀ a, B = some a → N ≤ a.block := by
  obtain ⟨A', k', B', m', e, h2⟩ := h
  simp [natV] at e
  obtain ⟨⟨rfl, rfl⟩, rfl, rfl⟩ := e
  exact h2
theorem five_lt {v j n : Nat} (h0 : v ≠ 0) (h : 5 ^ j ∣ v) (hl : (lim v).length ≤ n) : j < 32 * n := by
  have h1 := Nat.le_of_dvd (Nat.pos_of_ne_zero h0) h
  have h2 : v < 2 ^ (32 * n) := by
    rw [Nat.pow_mul]
    exact Nat.lt_of_lt_of_le (lim_lt v) (Nat.pow_le_pow_right (by decide) hl)
  have h3 : 2 ^ j ≤ 5 ^ j := Nat.pow_le_pow_left (by decide) j
  exact (Nat.pow_lt_pow_iff_right (by decide)).1 (Nat.lt_of_le_of_lt (Nat.le_trans h3 h1) h2)
/-- By five. -/
theorem ndiv5 (A B : Option Addr) (n c u : Nat) (hn : n ≤ 16384) (hu : u ≠ 0) (w : World) (hA : Rd w A n c (lim u)) (hB : Rd w B 1 1 (lim 5)) :
    Calls Tryz.prog 208 #[natV A n c, natV B 1 1] w (DivPost w (u / 5) (u % 5)) := by
  by_cases h : 5 ≤ u
  · exact ndiv_ge A B n c 1 u 5 hn (by decide) (by decide) h w hA hB
  · have hl : lim u = [u] := lim_one (by omega) (by unfold Bs; omega)
    obtain rfl : n = 1 := by rw [← hA.len, hl]; rfl
    rw [Nat.div_eq_of_lt (by omega), Nat.mod_eq_of_lt (by omega)]
    exact ndiv_lt A B c 1 u 5 (by omega) (by omega) (by decide) w hA hB
theorem len5 : (lim 5).length = 1 := by kernel_rfl
theorem five_step {v j i : Nat} (h0 : v ≠ 0) (hj : 5 ^ j ∣ v) (hi : i ≤ j) : v / 5 ^ i ≠ 0 ∧ (i < j → v / 5 ^ i % 5 = 0) ∧ v / 5 ^ i / 5 = v / 5 ^ (i + 1) := by
  obtain ⟨q, rfl⟩ := hj
  obtain ⟨d, rfl⟩ : ∃ d, j = i + d := ⟨j - i, by omega⟩
  have h5 : 0 < 5 ^ i := Nat.pow_pos (by decide)
  have e : 5 ^ (i + d) * q / 5 ^ i = 5 ^ d * q := by rw [Nat.pow_add, Nat.mul_assoc, Nat.mul_div_cancel_left _ h5]
  rw [e]
  refine ⟨?_, ?_, ?_⟩
  · intro h
    rw [Nat.pow_add, Nat.mul_assoc, h, Nat.mul_zero] at h0; exact h0 rfl
  · intro hlt
    obtain ⟨d', rfl⟩ : ∃ d', d = d' + 1 := ⟨d - 1, by omega⟩
    rw [Nat.pow_succ, Nat.mul_comm (5 ^ d') 5, Nat.mul_assoc]; exact Nat.mul_mod_right 5 _
  · rw [Nat.pow_succ, ← Nat.div_div_eq_div_mul, e]
theorem out_any (A : Option Addr) (n c v j : Nat) (h0 : v ≠ 0) (hj : 5 ^ j ∣ v) (hj1 : v / 5 ^ j % 5 ≠ 0) (hl : n ≤ 16384) (w : World) (hA : Rd w A n c (lim v)) :
    Calls Tryz.prog 138 #[natV A n c, .int .u64 5] w fun e w' => ∃ (B : Option Addr) (k l : Nat), (e = .returned (.tuple #[.int .i64 (j : Int), natV B k l]) ∧ k ≤ n) ∧ Hid (Rd w' B k l (lim (v / 5 ^ j))) ∧ Ext w w' := by
  have HA := Lib.hid hA
  have hst := fun i (hi : i ≤ j) => five_step h0 hj hi
  have HH := Lib.hid hj1
  have hn0 : n ≠ 0 := by have := hA.len; intro h; exact h0 (lim_nil.1 (List.eq_nil_of_length_eq_zero (by omega)))
  clear hA hj1
  have hj6 : j ≤ 1000000 := by have := five_lt h0 hj (Nat.le_of_eq HA.out.len); omega
  clear h0 hj
  go_enter Tryz.func138, Tryz.ntmps138
  go_wp2
  go_loopw [6] (fun vi wr => ∃ (i : Nat) (B : Option Addr) (k l : Nat), i ≤ j ∧ vi = .int .i64 (i : Int) ∧ k ≤ n ∧ Hid (Rd wr B k l (lim (v / 5 ^ i))) ∧ Hid (∀ x, B = some x → x.block ≠ w.heap.size ∧ x.block ≠ w.heap.size + 1) ∧ Hid (Ext w wr) ∧ (w.heap.size + 1 < wr.heap.size ∧ wr.cell? ⟨w.heap.size, 0, none⟩ = some (.slice B k l) ∧ wr.cell? ⟨w.heap.size + 1, 0, none⟩ = some (.slice none 0 0) ∧ wr.frozen? ⟨w.heap.size, 0, none⟩ = false ∧ wr.frozen? ⟨w.heap.size + 1, 0, none⟩ = false))
    (fun vi _ => j - (intOf vi).toNat)
  case atStart => exact ⟨0, A, n, c, Nat.zero_le _, rfl, Nat.le_refl _, by rw [Nat.pow_zero, Nat.div_one]; exact HA.out.ext (by (repeat (first | exact ext_refl _ | assumption | refine ext_setCell ?_ (by simp; try omega) _ | refine ext_alloc ?_ _ | refine ext_drew ?_ | refine ext_drewN ?_ _ | refine ext_trans ?_ (Aft.use _) | refine ext_trans ?_ (by assumption)))), fun x hx => ⟨HA.out.off (Nat.le_refl _) x hx hn0, HA.out.off (Nat.le_succ _) x hx hn0⟩, (show Ext _ _ by (repeat (first | exact ext_refl _ | assumption | refine ext_setCell ?_ (by simp; try omega) _ | refine ext_alloc ?_ _ | refine ext_drew ?_ | refine ext_drewN ?_ _ | refine ext_trans ?_ (Aft.use _) | refine ext_trans ?_ (by assumption)))), by simp [go_sem]⟩
  case round =>
    obtain ⟨i, B, k, l, hi, rfl, hk, hR, hne, hEr, hsz, c0, c1, f0, f1⟩ := hrel
    obtain ⟨u1, u2, u3⟩ := hst i hi
    have U := Lib.hid (And.intro u1 (And.intro u2 u3))
    clear u2 u3
    generalize hu : v / 5 ^ i = u at *
    have hk4 : k ≤ 16384 := Nat.le_trans hk hl
    go_wp2
    refine wp_drawn_tailG 10 [6, 7] (tab [(2, RNm wr.heap.size 5), (3, RDiv wr.heap.size (u / 5) (u % 5)), (8, RAlloc wr.heap.size (.cells #[.slice none 0 0] 30)), (9, RAlloc wr.heap.size (.cells #[.slice none 0 0] 30))]) (by kernel_rfl) (by kernel_rfl) (by kernel_rfl)
      (tab_stays (by simp [stays_alloc, stays_nm, stays_div])) (fun hq hqf => ?_)
    simp only [List.take_succ_cons, List.take_zero, List.drop_succ_cons, List.drop_zero]
    have y0 := fun nq => (hq nq w.heap.size 0 (Nat.lt_of_succ_lt hsz)).trans c0
    iterate 2
      (refine wpK_det rfl (fun K hK => ?_)
       go_simp
       first
         | (refine hK _ ?_; clear hK K)
         | (apply Exists.intro; refine ⟨fun x => ?_, hK _ ?_⟩; (first | exact y0 x | (simp [y0]; done) | (simp [y0]; rfl)); clear hK K))
    refine wpK_rel _ rfl rfl ?_ ?_
    · rintro _ ⟨nn, rfl⟩ _
      unfold Oper.relAt
      go_simp
      refine (nof_any 5 (by decide) nn.out).mono ?_
      rintro e w' ⟨F, f, rfl, h3, h4⟩
      exact ⟨_, rfl, h4, (fun b hb => by simp [blk, natV] at hb), F, f, rfl, h3.out.1, fun a ha => Nat.le_trans (ext_size nn.use) (h3.out.2 a ha)⟩
    rintro v' ⟨_, ⟨nn, rfl⟩, hr⟩
    obtain ⟨F, f, rfl, hf5, -⟩ := hr
    obtain rfl : f = 1 := by rw [← hf5.len]; exact len5
    clear nn hf5
    refine wpK_rel _ rfl rfl ?_ ?_
    · rintro _ ⟨nn, rfl⟩ hdep
      have q1 := hdep 2 (by kernel_rfl)
      simp only [Facts.put] at q1
      have q2 := nm_at (vals := []) q1
      unfold Oper.relAt
      go_simp
      refine (ndiv5 B F k l u hk4 u1 nn.out (hR.out.ext nn.use) q2.1).mono ?_
      rintro e w' ⟨D, d, E, m, rfl, h3, h4⟩
      exact ⟨_, rfl, h4, (fun b hb => by simp [blk] at hb), D, d, E, m, rfl, h3.out.1, fun a ha => Nat.le_trans (ext_size nn.use) (h3.out.2.1 a ha), h3.out.2.2.1, fun a ha => Nat.le_trans (ext_size nn.use) (h3.out.2.2.2 a ha)⟩
    rintro v' ⟨_, ⟨nn, rfl⟩, hr⟩
    obtain ⟨D, d, E, m, rfl, -⟩ := hr
    clear nn
    iterate 4
      (refine wpK_det rfl (fun K hK => ?_)
       go_simp
       refine hK _ ?_; clear hK K)
    refine wpK_rel _ rfl rfl ?_ ?_
    · rintro _ ⟨n, rfl⟩ _
      unfold Oper.relAt
      go_simp
      exact rAlloc_new (vals := []) (by have := ext_size n.use; simpa using this)
    rintro v ⟨_, ⟨n, rfl⟩, hr⟩
    obtain ⟨B1, rfl, leB1⟩ := rAlloc_open (vals := []) hr
    clear hr n
    simp only [Act.put, List.setIfInBounds_toArray, List.set_cons_zero, List.set_cons_succ]
    refine wpK_rel _ rfl rfl ?_ ?_
    · rintro _ ⟨n, rfl⟩ _
      unfold Oper.relAt
      go_simp
      exact rAlloc_new (vals := []) (by have := ext_size n.use; simpa using this)
    rintro v ⟨_, ⟨n, rfl⟩, hr⟩
    obtain ⟨B2, rfl, leB2⟩ := rAlloc_open (vals := []) hr
    clear hr n
    simp only [Act.put, List.setIfInBounds_toArray, List.set_cons_zero, List.set_cons_succ]
    refine wpK_nil ?_
    intro nq hG
    have rD : RDiv wr.heap.size (u / 5) (u % 5) [] (.tuple #[natV D d d, natV E m m, .int .i64 0]) nq.out := by have := hG.fact 3; simp [Facts.put] at this; exact this
    have hD := Lib.hid (div_at rD)
    have h1 : nq.out.heap[B1]? = some (.cells #[.slice none 0 0] 30 (0, 0)) := by have := hG.fact 8; simp [Facts.put, RAlloc] at this; exact this.2
    have h2 : nq.out.heap[B2]? = some (.cells #[.slice none 0 0] 30 (0, 0)) := by have := hG.fact 9; simp [Facts.put, RAlloc] at this; exact this.2
    have h12 : B1 ≠ B2 := fun e => hG.apart 8 9 B1 (by decide) (by simp [Facts.put, blk]) (by simp [Facts.put, blk, e])
    have fB1 := hG.fact 8
    have ltB1 := hG.there 8 B1 (by simp [Facts.put, blk])
    simp [Facts.put, RAlloc] at fB1
    have ceB1 := fun i => cell_of_block fB1.2 i
    have frB1 := fun i => frozen_of_block fB1.2 i
    have neB1 : ∀ b, b < _ → (b = B1) = False := fun b hb => eq_false (Nat.ne_of_lt (Nat.lt_of_lt_of_le hb fB1.1))
    clear fB1
    have fB2 := hG.fact 9
    have ltB2 := hG.there 9 B2 (by simp [Facts.put, blk])
    simp [Facts.put, RAlloc] at fB2
    have ceB2 := fun i => cell_of_block fB2.2 i
    have frB2 := fun i => frozen_of_block fB2.2 i
    have neB2 : ∀ b, b < _ → (b = B2) = False := fun b hb => eq_false (Nat.ne_of_lt (Nat.lt_of_lt_of_le hb fB2.1))
    clear fB2
    have hE := Lib.hid nq.use
    clear hG rD
    have hW1 : Ext wr (nq.out.setCell ⟨B1, 0, none⟩ (.slice D d d)) := ext_setCell hE.out leB1 _
    refine ⟨undef, nq.out.setCell ⟨B1, 0, none⟩ (.slice D d d), .inr ⟨?_, rfl⟩, ?_⟩
    · go_simp
    have c2 : (nq.out.setCell ⟨B1, 0, none⟩ (.slice D d d)).cell? ⟨B2, 0, none⟩ = some (.slice none 0 0) := by
      rw [World.cell?_setCell_far _ _ _ _ (by simp; exact h12)]; exact cell_of_block h2 0
    have g2 : (nq.out.setCell ⟨B1, 0, none⟩ (.slice D d d)).frozen? ⟨B2, 0, none⟩ = false := by simpa using frozen_of_block h2 0
    refine ⟨undef, (nq.out.setCell ⟨B1, 0, none⟩ (.slice D d d)).setCell ⟨B2, 0, none⟩ (.slice E m m), .inr ⟨?_, rfl⟩, ?_⟩
    · go_simp
    refine ⟨.int .i64 0, (nq.out.setCell ⟨B1, 0, none⟩ (.slice D d d)).setCell ⟨B2, 0, none⟩ (.slice E m m), .inl ?_, ?_⟩
    · go_simp
    unfold RunsL
    have lwB : w.heap.size + 1 < B1 ∧ w.heap.size + 1 < B2 := ⟨Nat.lt_of_lt_of_le hsz leB1, Nat.lt_of_lt_of_le hsz leB2⟩
    have h2' : (nq.out.setCell ⟨B1, 0, none⟩ (.slice D d d)).heap[B2]? = some (.cells #[.slice none 0 0] 30 (0, 0)) := (Below.heap_setCell _ ⟨B1, 0, none⟩ _ B2 (fun e => h12 e.symm)).trans h2
    have hs0 := Nat.lt_of_succ_lt hsz
    obtain ⟨W, hWe⟩ : ∃ W, W = (nq.out.setCell ⟨B1, 0, none⟩ (.slice D d d)).setCell ⟨B2, 0, none⟩ (.slice E m m) := ⟨_, rfl⟩
    have hEW : Hid (Ext wr W) := by show Ext wr W; rw [hWe]; exact ext_setCell hW1 leB2 _
    have d0 := (Below.cell (p := ⟨w.heap.size, 0, none⟩) hEW.out hs0).trans c0
    have d1 := (Below.cell (p := ⟨w.heap.size + 1, 0, none⟩) hEW.out hsz).trans c1
    have e0 := (Below.frozen (p := ⟨w.heap.size, 0, none⟩) hEW.out hs0).trans f0
    have e1 := (Below.frozen (p := ⟨w.heap.size + 1, 0, none⟩) hEW.out hsz).trans f1
    have hsW := ext_lt hEW.out _ hsz
    have b2 : W.cell? ⟨B2, 0, none⟩ = some (.slice E m m) := by rw [hWe]; exact World.cell?_setCell_same _ _ _ c2
    have b1 : W.cell? ⟨B1, 0, none⟩ = some (.slice D d d) := by
      rw [hWe, World.cell?_setCell_far _ _ _ _ (by simp; exact fun e => h12 e.symm)]
      exact World.cell?_setCell_same _ _ _ (cell_of_block h1 0)
    have RD : Hid (Rd W D d d (lim (u / 5))) := by
      show Rd W D d d (lim (u / 5)); rw [hWe]
      exact rd_apart2 (rd_apart2 hD.out.1 h1 (fun _ e => by cases e) _) h2' (fun _ e => by cases e) _
    have RE : Hid (Rd W E m m (lim (u % 5))) := by
      show Rd W E m m (lim (u % 5)); rw [hWe]
      exact rd_apart2 (rd_apart2 hD.out.2.2.1 h1 (fun _ e => by cases e) _) h2' (fun _ e => by cases e) _
    have bl1 : B1 < W.heap.size := by rw [hWe]; simpa using ltB1
    have bl2 : B2 < W.heap.size := by rw [hWe]; simpa using ltB2
    have hDb := Lib.hid hD.out.2.1
    rw [← hWe]
    clear hWe hW1 c2 g2 h2' h1 h2 hD hE hq hqf y0 ltB1 ceB1 frB1 neB1 ltB2 ceB2 frB2 neB2 c0 c1 f0 f1
    have hm0 := RE.out.len
    by_cases hij : i < j
    · have hr0 := U.out.2.1 hij
      obtain rfl : m = 0 := by rw [hr0, lim_zero] at hm0; exact hm0.symm
      have hdk : d ≤ k := by rw [← RD.out.len, ← hR.out.len]; exact lim_mono (Nat.div_le_self _ _)
      have hFD : ∀ x, D = some x → w.heap.size + 1 < x.block := fun x hx => by have := hDb.out x hx; omega
      go_wp2
      case roundEnd =>
        refine ⟨⟨i + 1, D, d, d, hij, by simp, Nat.le_trans hdk hk, ?_, fun x hx => by have := hFD x hx; omega, ext_setCell (ext_trans hEr.out hEW.out) (Nat.le_refl _) _, ?_⟩, ?_⟩
        · rw [← U.out.2.2]; exact RD.out.set _ (fun x hx => Nat.lt_of_succ_lt (hFD x hx))
        · simp [go_sem, *]
        · simp [intOf]; omega
    · obtain rfl : i = j := by omega
      have hu5 : u % 5 ≠ 0 := by have := HH.out; rw [hu] at this; exact this
      have hm1 : (0 : Int) < (m : Int) := by
        have h := (lim_len (n := u % 5) (by omega)).2
        omega
      have hg : decide ((0 : Int) < (m : Int)) = true := decide_eq_true hm1
      go_wp2
      go_region
      go_wp2_with fail
      have hW : Ext (W.setCell ⟨w.heap.size + 1, 0, none⟩ (.slice B k l)) (W.setCell ⟨w.heap.size + 1, 0, none⟩ (.slice B k l)).drew := ext_drew (ext_refl _)
      have q0 : ((W.setCell ⟨w.heap.size + 1, 0, none⟩ (.slice B k l)).drew).cell? ⟨w.heap.size + 1, 0, none⟩ = some (.slice B k l) := (Below.cell (p := ⟨w.heap.size + 1, 0, none⟩) hW (by simpa using hsW)).trans (World.cell?_setCell_same _ _ _ d1)
      have hRW := ((hR.out.ext hEW.out).tch ((Tch.refl (w.heap.size + 1) W).set 0 (.slice B k l)) (fun x hx _ => (hne.out x hx).2)).ext hW
      rw [← hu] at hRW
      refine bodyPost_ret (v := .tuple #[.int .i64 ↑i, natV B k l]) ?h rfl ⟨B, k, l, ⟨rfl, hk⟩, hRW, ext_trans (ext_setCell (ext_trans hEr.out hEW.out) (by simp) _) hW⟩
      case h => simp [results, Tryz.results138, go_sem, q0]
end Go.Proofs.YtiapoflkeliljaaGreatDoor
end
