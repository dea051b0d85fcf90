/- Lemmas of this proof, laid together: TwRatJ, TwRatL, TwBigS, TwBigT, TwBigU, TwIntI, TwIntJ, TwIntK, TwIntL, TwIntM, TwIntN, TwRatT. -/
import Derived.Test.YtchchnohmmncfaaGreatDoorMg20
import Derived.Test.YtchchnohmmncfaaGreatDoorMg18
import Derived.Deep.DeepCutAuto
import Derived.Deep.RegionWith
import Derived.Deep.LoopGhost
import Derived.Maps.AppendAt
import Derived.Test.YtchchnohmmncfaaGreatDoorMg17
import Derived.Test.YtchchnohmmncfaaGreatDoorMg13
set_option linter.unusedSimpArgs false
set_option linter.unusedVariables false
section
/- (The document's library.) Fractions of the library's: a product in lowest terms. -/

namespace Go.Proofs.YtchchnohmmncfaaGreatDoor.NB
open Go.RowKit
attribute [local go_sem] sz2 sz3 sz4 sz5 sz6 sz7 sz8
set_option maxHeartbeats 4000000
set_option maxRecDepth 100000
attribute [local irreducible] Calls
attribute [local go_sem] D2.Oper.detAt D2.detUpon D2.relUpon
theorem br_timesX (g : Nat) (s : Bool) (A D B C : Option Addr) (n cn m cm p cp q cq a d b c : Nat) (hd : d ≠ 0) (hc : c ≠ 0) (had : Nat.gcd a d = 1) (hbc : Nat.gcd b c = 1) (hn : n ≤ 100000) (hm : m ≤ 100000) (hp : p ≤ 100000) (hq : q ≤ 100000) (w : World) (hT : Tz w) (hr : RatRoom w g)
    (hA : Rd w A n cn (lim a)) (hD : Rd w D m cm (lim d)) (hB : Rd w B p cp (lim b)) (hC : Rd w C q cq (lim c)) :
    Calls Tryz.prog 117 #[.pointer (some ⟨g, 0, none⟩), .bool s, .slice A n cn, .slice D m cm, .slice B p cp, .slice C q cq] w
      (FPost w g (canN (sgn s (a * b : Nat)) (d * c)) (canW (sgn s (a * b : Nat)) (d * c))) := by
  by_cases h0 : a = 0 ∨ b = 0
  · have e : sgn s (a * b : Nat) = 0 := by
      have : a * b = 0 := by rcases h0 with h | h <;> rw [h] <;> simp
      rw [this]; cases s <;> rfl
    rw [e, canN_zero, canW_zero]
    exact br_times_zero g s A D B C n cn m cm p cp q cq (by rcases h0 with h | h; exact Or.inl (hA.nil_of h); exact Or.inr (hB.nil_of h)) w hr
  · have ha : a ≠ 0 := fun h => h0 (Or.inl h)
    have hb : b ≠ 0 := fun h => h0 (Or.inr h)
    have e : canW (sgn s (a * b : Nat)) (d * c) = canD (sgn s (a * b : Nat)) (d * c) := by
      unfold canW; rw [if_neg]
      have := Nat.mul_ne_zero ha hb
      intro h; have h2 := congrArg Int.natAbs h; rw [sgn_abs, Int.natAbs_zero] at h2; exact this h2
    have k := can_mul had hbc hd hc s
    rw [e, ← k.1, ← k.2]
    exact br_times g s A D B C n cn m cm p cp q cq a d b c ha hb hd hc hn hm hp hq w hT hr hA hD hB hC
namespace D2
end D2
theorem br_Mul (g bx b2 : Nat) (x y : Int) (p q : Nat) (hxp : Nat.gcd x.natAbs (denOf p) = 1) (hyq : Nat.gcd y.natAbs (denOf q) = 1) (A : Option Addr) (n c : Nat) (D : Option Addr) (m e : Nat) (B : Option Addr) (n2 c2 : Nat) (C : Option Addr) (m2 e2 : Nat)
    (hn : n ≤ 100000) (hm : m ≤ 100000) (hn2 : n2 ≤ 100000) (hm2 : m2 ≤ 100000) (w : World) (hT : Tz w) (hr : RatRoom w g) (hx : RatIs w bx x A n c p D m e) (hy : RatIs w b2 y B n2 c2 q C m2 e2) :
    Calls Tryz.prog 73 #[.pointer (some ⟨g, 0, none⟩), .pointer (some ⟨bx, 0, none⟩), .pointer (some ⟨b2, 0, none⟩)] w
      (FPost w g (canN (x * y) (denOf p * denOf q)) (canW (x * y) (denOf p * denOf q))) := by
  have HX := Lib.hid hx
  have HY := Lib.hid hy
  have HR := Lib.hid hr
  have HT := Lib.hid hT
  have lx := hx.int.room.lt
  have x0 := hx.int.neg
  have x1 := hx.int.words
  have ly := hy.int.room.lt
  have y0 := hy.int.neg
  have y1 := hy.int.words
  simp only [Nat.zero_add] at x1 y1
  have dl := den_len hx hm (by decide)
  have dl2 := den_len hy hm2 (by decide)
  have kX : ∀ w', Ext w w' → Calls Tryz.prog 75 #[.pointer (some ⟨bx, 0, none⟩)] w' fun e' w'' => ∃ (B : Option Addr) (k l : Nat), e' = .returned (.slice B k l) ∧ Hid (Rd w'' B k l (lim (denOf p))) ∧ Ext w' w'' := fun w' he => (br_below _ _ _ _ _ _ _ _ _ w' (HX.out.ext he)).mono fun _ _ ⟨B, k, l, h1, h2, h3⟩ => ⟨B, k, l, h1, h2.out.1, h3⟩
  have kY : ∀ w', Ext w w' → Calls Tryz.prog 75 #[.pointer (some ⟨b2, 0, none⟩)] w' fun e' w'' => ∃ (B : Option Addr) (k l : Nat), e' = .returned (.slice B k l) ∧ Hid (Rd w'' B k l (lim (denOf q))) ∧ Ext w' w'' := fun w' he => (br_below _ _ _ _ _ _ _ _ _ w' (HY.out.ext he)).mono fun _ _ ⟨B, k, l, h1, h2, h3⟩ => ⟨B, k, l, h1, h2.out.1, h3⟩
  have kT : ∀ w' P k l Q k2 l2, Ext w w' → Rd w' P k l (lim (denOf p)) → Rd w' Q k2 l2 (lim (denOf q)) → Calls Tryz.prog 117 #[.pointer (some ⟨g, 0, none⟩), .bool (!(decide (x < 0) == decide (y < 0))), .slice A n c, .slice P k l, .slice B n2 c2, .slice Q k2 l2] w' (FPost w g (canN (x * y) (denOf p * denOf q)) (canW (x * y) (denOf p * denOf q))) := fun w' P k l Q k2 l2 he h1 h2 => by
    have := br_timesX g (!(decide (x < 0) == decide (y < 0))) A P B Q n c k l n2 c2 k2 l2 _ _ _ _ (denOf_ne p) (denOf_ne q) hxp hyq hn (by rw [← h1.len]; exact dl) hn2 (by rw [← h2.len]; exact dl2) w' (HT.out.ext he) (HR.out.ext he) (HX.out.int.rd.ext he) h1 (HY.out.int.rd.ext he) h2
    rw [sgn_both] at this
    refine this.mono ?_
    rintro e w'' ⟨rfl, A', n', c', D', m', k', h3, h4⟩
    exact ⟨rfl, A', n', c', D', m', k', ⟨h3.out.1, h3.out.2.1.mono he, h3.out.2.2.mono he⟩, (Tch.of he).trans h4⟩
  clear hx hy hr hT
  go_enter Tryz.func73, Tryz.ntmps73
  go_wp2
  refine D2.wp_drawn_tail 26 (D2.tab [(18, D2.RRow (denOf p)), (25, D2.RRow (denOf q))]) (by kernel_rfl) (by kernel_rfl) (by kernel_rfl) (D2.tab_stays (by simp [D2.stays_row])) (fun hq hqf => ?_)
  simp only [List.take_succ_cons, List.take_zero, List.drop_succ_cons, List.drop_zero]
  have z0 := fun nq => (hq nq bx 0 lx).trans x0
  have z1 := fun nq => (hq nq bx 1 lx).trans x1
  have z2 := fun nq => (hq nq b2 0 ly).trans y0
  have z3 := fun nq => (hq nq b2 1 ly).trans y1
  iterate 18
    (refine D2.wpK_det rfl (fun K hK => ?_)
     go_simp
     first
       | (refine hK _ ?_; clear hK K)
       | (apply Exists.intro; refine ⟨fun x => ?_, hK _ ?_⟩; (first | exact z0 x | exact z1 x | exact z2 x | exact z3 x); clear hK K))
  refine D2.wpK_rel _ rfl rfl ?_ ?_
  · rintro _ ⟨nn, rfl⟩ _
    unfold D2.Oper.relAt
    go_simp
    exact D2.rel_row (kX _ nn.use)
  rintro v ⟨_, ⟨nn, rfl⟩, hr⟩
  obtain ⟨A5, k5, c5, rfl, -⟩ := hr
  clear nn
  iterate 6
    (refine D2.wpK_det rfl (fun K hK => ?_)
     go_simp
     first
       | (refine hK _ ?_; clear hK K)
       | (apply Exists.intro; refine ⟨fun x => ?_, hK _ ?_⟩; (first | exact z0 x | exact z1 x | exact z2 x | exact z3 x); clear hK K))
  refine D2.wpK_rel _ rfl rfl ?_ ?_
  · rintro _ ⟨nn, rfl⟩ _
    unfold D2.Oper.relAt
    go_simp
    exact D2.rel_row (kY _ nn.use)
  rintro v ⟨_, ⟨nn, rfl⟩, hr⟩
  obtain ⟨A6, k6, c6, rfl, -⟩ := hr
  clear nn
  refine D2.wpK_nil ?_
  intro nq hG
  have r5 : D2.RRow (denOf p) [] (.slice A5 k5 c5) nq.out := by have := hG.fact 18; simp [D2.Facts.put] at this; exact this
  have r6 : D2.RRow (denOf q) [] (.slice A6 k6 c6) nq.out := by have := hG.fact 25; simp [D2.Facts.put] at this; exact this
  have hR5 := Lib.hid (D2.row_at r5)
  have hR6 := Lib.hid (D2.row_at r6)
  have hE := Lib.hid nq.use
  clear r5 r6 hG
  go_wp2_with (first
    | (go_at_call 117; (with_reducible refine (kT _ A5 k5 c5 A6 k6 c6 hE.out hR5.out hR6.out).mono ?_); rintro e w9 ⟨rfl, A9, n9, c9, D9, m9, k9, hI9, xt9⟩)
   )
  refine bodyPost_ret (v := .pointer (some ⟨g, 0, none⟩)) ?h rfl ⟨rfl, A9, n9, c9, D9, m9, k9, hI9, xt9⟩
  case h => simp [results, Tryz.results73, go_sem]
end Go.Proofs.YtchchnohmmncfaaGreatDoor.NB
end
section
/- (The document's library.) Fractions of the library's: sums. -/

namespace Go.Proofs.YtchchnohmmncfaaGreatDoor.NB
open Go.RowKit
attribute [local go_sem] sz2 sz3 sz4 sz5 sz6 sz7 sz8
set_option maxHeartbeats 4000000
set_option maxRecDepth 100000
attribute [local irreducible] Calls
attribute [local go_sem] D2.Oper.detAt D2.detUpon D2.relUpon
theorem br_belowO (r g : Nat) (z : Int) (A : Option Addr) (n c d : Nat) (D : Option Addr) (m e : Nat) (w : World) (hr : r < w.heap.size) (hx : RatIs w g z A n c d D m e) (ho : Off D m r) (hm : m ≤ 50000) :
    Calls Tryz.prog 75 #[.pointer (some ⟨g, 0, none⟩)] w fun e' w' => ∃ (B : Option Addr) (k l : Nat), (e' = .returned (.slice B k l) ∧ k ≤ 50000) ∧ Hid (Rd w' B k l (lim (denOf d)) ∧ Off B k r) ∧ Ext w w' := by
  by_cases hd : d = 0
  · subst hd
    refine (br_below_new g z A n c D m e w hx).mono ?_
    rintro e' w' ⟨rfl, h1, h2⟩
    exact ⟨_, 1, 1, ⟨rfl, by decide⟩, ⟨h1.out, fun a ha _ => by cases ha; simp only; omega⟩, h2⟩
  · refine (br_below_old g z A n c d hd D m e w hx).mono ?_
    rintro e' w' ⟨rfl, h2⟩
    exact ⟨D, m, e, ⟨rfl, hm⟩, ⟨by rw [show denOf d = d from if_neg hd]; exact hx.rd.ext h2, ho⟩, h2⟩
theorem br_set_nought (g : Nat) (w : World) (hr : RatRoom w g) : Calls Tryz.prog 137 #[.pointer (some ⟨g, 0, none⟩), .bool false, .slice none 0 0, .slice (some ⟨w.heap.size, 0, none⟩) 1 1] (w.alloc (Obj.cells #[.int .u32 1] 38)) (FPost w g 0 0) := by
  have kz : Calls Tryz.prog 137 #[.pointer (some ⟨g, 0, none⟩), .bool false, .slice none 0 0, .slice (some ⟨w.heap.size, 0, none⟩) 1 1] (w.alloc (Obj.cells #[.int .u32 1] 38)) (SPost (w.alloc (Obj.cells #[.int .u32 1] 38)) g 0 0 none (some ⟨w.heap.size, 0, none⟩)) :=
    br_set_zero g false none 0 0 (some ⟨w.heap.size, 0, none⟩) 1 1 1 _ (hr.ext (ext_alloc (ext_refl _) _)) (by rw [lim_zero]; exact Rd.nil _) (one_row w)
  refine kz.mono ?_
  rintro e w' ⟨rfl, A', n', c', D', m', k', h1, h2⟩
  have h3 := h1.out.2 w (ext_alloc (ext_refl _) _) (Fr.none _) (fun x hx => by cases hx; exact Nat.le_refl _)
  exact ⟨rfl, A', n', c', D', m', k', ⟨h1.out.1, h3.1, h3.2⟩, (Tch.of (ext_alloc (ext_refl _) _)).trans h2⟩
theorem br_added (t : Bool) (g bx b2 : Nat) (x y : Int) (p q : Nat) (hxp : Nat.gcd x.natAbs (denOf p) = 1) (hyq : Nat.gcd y.natAbs (denOf q) = 1) (A : Option Addr) (n c : Nat) (D : Option Addr) (m e : Nat) (B : Option Addr) (n2 c2 : Nat) (C : Option Addr) (m2 e2 : Nat)
    (hn : n ≤ 50000) (hm : m ≤ 50000) (hn2 : n2 ≤ 50000) (hm2 : m2 ≤ 50000) (w : World) (hT : Tz w) (hr : RatRoom w g) (hx : RatIs w bx x A n c p D m e) (hy : RatIs w b2 y B n2 c2 q C m2 e2) (hoD : Off D m g) (hoC : Off C m2 g) :
    Calls Tryz.prog 135 #[.pointer (some ⟨g, 0, none⟩), .pointer (some ⟨bx, 0, none⟩), .pointer (some ⟨b2, 0, none⟩), .bool t] w
      (FPost w g (canN (x * denOf q + (if t then -y else y) * denOf p) (denOf p * denOf q)) (canW (x * denOf q + (if t then -y else y) * denOf p) (denOf p * denOf q))) := by
  have HX := Lib.hid hx
  have HY := Lib.hid hy
  have HR := Lib.hid hr
  have HT := Lib.hid hT
  have lx := hx.int.room.lt
  have x0 := hx.int.neg
  have x1 := hx.int.words
  have ly := hy.int.room.lt
  have y0 := hy.int.neg
  have y1 := hy.int.words
  have hgl := hr.int.lt
  simp only [Nat.zero_add] at x1 y1
  have hlx : (lim x.natAbs).length ≤ 50000 := by rw [hx.int.rd.len]; exact hn
  have hly : (lim y.natAbs).length ≤ 50000 := by rw [hy.int.rd.len]; exact hn2
  have kX : ∀ w', Ext w w' → Calls Tryz.prog 75 #[.pointer (some ⟨bx, 0, none⟩)] w' fun e' w'' => ∃ (B : Option Addr) (k l : Nat), (e' = .returned (.slice B k l) ∧ k ≤ 50000) ∧ Hid (Rd w'' B k l (lim (denOf p)) ∧ Off B k g) ∧ Ext w' w'' := fun w' he => br_belowO g bx x A n c p D m e w' (Nat.lt_of_lt_of_le hgl he.size) (HX.out.ext he) hoD hm
  have kY : ∀ w', Ext w w' → Calls Tryz.prog 75 #[.pointer (some ⟨b2, 0, none⟩)] w' fun e' w'' => ∃ (B : Option Addr) (k l : Nat), (e' = .returned (.slice B k l) ∧ k ≤ 50000) ∧ Hid (Rd w'' B k l (lim (denOf q)) ∧ Off B k g) ∧ Ext w' w'' := fun w' he => br_belowO g b2 y B n2 c2 q C m2 e2 w' (Nat.lt_of_lt_of_le hgl he.size) (HY.out.ext he) hoC hm2
  have hlP := den_len hx hm (by decide)
  have hlQ := den_len hy hm2 (by decide)
  have hp0 := denOf_ne p
  have hq0 := denOf_ne q
  have HoD := Lib.hid hoD
  have HoC := Lib.hid hoC
  clear hx hy hr hT hoD hoC
  generalize denOf p = P at *
  generalize denOf q = Q at *
  obtain ⟨G, hG⟩ : ∃ G, G = Nat.gcd P Q := ⟨_, rfl⟩
  have hG0 : G ≠ 0 := by rw [hG]; intro h; exact hp0 (Nat.eq_zero_of_gcd_eq_zero_left h)
  have kG : ∀ P1 k1 l1 Q1 k2 l2 w', Ext w w' → k1 ≤ 50000 → k2 ≤ 50000 → Rd w' P1 k1 l1 (lim P) → Rd w' Q1 k2 l2 (lim Q) → Calls Tryz.prog 138 #[.slice P1 k1 l1, .slice Q1 k2 l2] w' (WPost w' G) := fun P1 k1 l1 Q1 k2 l2 w' he h1 h2 h3 h4 => by rw [hG]; exact bw_commonA P1 Q1 k1 l1 k2 l2 P Q (by omega) (by omega) w' (HT.out.ext he) h3 h4
  have hdp : G ∣ P := by rw [hG]; exact Nat.gcd_dvd_left P Q
  have hdq : G ∣ Q := by rw [hG]; exact Nat.gcd_dvd_right P Q
  have hyt : Nat.gcd (if t then -y else y).natAbs Q = 1 := by cases t; exact hyq; rw [if_pos rfl, Int.natAbs_neg]; exact hyq
  obtain ⟨S, hS⟩ : ∃ S, S = x * ((Q / G : Nat) : Int) + (if t then -y else y) * ((P / G : Nat) : Int) := ⟨_, rfl⟩
  obtain ⟨H, hH⟩ : ∃ H, H = Nat.gcd S.natAbs G := ⟨_, rfl⟩
  have hcan := can_add hp0 hq0 hxp hyt G hG S hS H hH
  have hSG : S * (G : Int) = x * (Q : Int) + (if t then -y else y) * (P : Int) := by rw [hS]; exact add_made _ _ _ _ _ hdp hdq
  have hsum : sgn (decide (x < 0)) (x.natAbs * (Q / G) : Nat) + sgn (!(decide (y < 0) == t)) (y.natAbs * (P / G) : Nat) = S := by rw [turned_sgn, plain_sgn, hS]
  have hl1 : (lim (x.natAbs * (Q / G))).length ≤ 100000 := Nat.le_trans (lim_mul_len _ _) (by have := lim_mono (Nat.div_le_self Q G); omega)
  have hl2 : (lim (y.natAbs * (P / G))).length ≤ 100000 := Nat.le_trans (lim_mul_len _ _) (by have := lim_mono (Nat.div_le_self P G); omega)
  have hH0 : H ≠ 0 := by rw [hH]; intro h; exact hG0 (Nat.eq_zero_of_gcd_eq_zero_right h)
  have f0 : S = 0 → canN (x * Q + (if t then -y else y) * P) (P * Q) = 0 ∧ canW (x * Q + (if t then -y else y) * P) (P * Q) = 0 := fun h => by
    rw [← hSG, h, Int.zero_mul, canN_zero, canW_zero]; exact ⟨rfl, rfl⟩
  have f1 : S ≠ 0 → canN (x * Q + (if t then -y else y) * P) (P * Q) = sgn (decide (S < 0)) (S.natAbs / H : Nat) ∧ canW (x * Q + (if t then -y else y) * P) (P * Q) = (P / G) * (Q / H) := fun h => by
    refine ⟨hcan.1.symm, ?_⟩
    rw [hcan.2]
    unfold canW
    rw [if_neg]
    rw [← hSG]; exact Int.mul_ne_zero h (by omega)
  have hlS : (lim S.natAbs).length ≤ 100001 := by rw [← hsum]; exact sum_len' (by rw [sgn_abs]; exact hl1) (by rw [sgn_abs]; exact hl2)
  generalize canN (x * Q + (if t then -y else y) * P) (P * Q) = ZN at f0 f1 ⊢
  generalize canW (x * Q + (if t then -y else y) * P) (P * Q) = ZD at f0 f1 ⊢
  have kH : ∀ S1 k1 l1 G1 k2 l2 w', Ext w w' → k1 ≤ 100001 → k2 ≤ 400000 → Rd w' S1 k1 l1 (lim S.natAbs) → Rd w' G1 k2 l2 (lim G) → Calls Tryz.prog 138 #[.slice S1 k1 l1, .slice G1 k2 l2] w' (WPost w' H) := fun S1 k1 l1 G1 k2 l2 w' he h1 h2 h3 h4 => by rw [hH]; exact bw_commonA S1 G1 k1 l1 k2 l2 _ _ (by omega) h2 w' (HT.out.ext he) h3 h4
  have hGP : (lim G).length ≤ 50000 := Nat.le_trans (lim_mono (Nat.le_of_dvd (Nat.pos_of_ne_zero hp0) hdp)) hlP
  have kM1 : ∀ Q1 k l w', Ext w w' → k ≤ 50000 → Rd w' Q1 k l (lim (Q / G)) → Calls Tryz.prog 64 #[.slice A n c, .slice Q1 k l] w' (WPost w' (x.natAbs * (Q / G))) := fun Q1 k l w' he h1 h2 => bw_mulA A Q1 n c k l _ _ (by omega) w' (HX.out.int.rd.ext he) h2
  have kM2 : ∀ Q1 k l w', Ext w w' → k ≤ 50000 → Rd w' Q1 k l (lim (P / G)) → Calls Tryz.prog 64 #[.slice B n2 c2, .slice Q1 k l] w' (WPost w' (y.natAbs * (P / G))) := fun Q1 k l w' he h1 h2 => bw_mulA B Q1 n2 c2 k l _ _ (by omega) w' (HY.out.int.rd.ext he) h2
  have kB : ∀ Q1 k l G1 k2 l2 V W w', W ≠ 0 → k ≤ 400000 → Rd w' Q1 k l (lim V) → Rd w' G1 k2 l2 (lim W) → Calls Tryz.prog 139 #[.slice Q1 k l, .slice G1 k2 l2] w' fun e w'' => ∃ (A' : Option Addr) (k' c' : Nat), e = .returned (.slice A' k' c') ∧ Hid (Rd w'' A' k' c' (lim (V / W))) ∧ Ext w' w'' := fun Q1 k l G1 k2 l2 V W w' h0 h1 h2 h3 => (bw_by Q1 G1 k l k2 l2 V W h0 h1 w' h2 h3).mono fun _ _ ⟨A', k', c', h4, h5, h6⟩ => ⟨A', k', c', h4.1, h5, h6⟩
  have kS : ∀ b s V A' n' c' wz w', Room wz b 0 → Ext wz w' → Rd w' A' n' c' (lim V) → Fr wz A' → Calls Tryz.prog 63 #[.pointer (some ⟨b, 0, none⟩), .bool s, .slice A' n' c'] w' fun e w'' => e = .returned (.pointer (some ⟨b, 0, none⟩)) ∧ Hid (IntIs w'' b 0 (sgn s V) A' n' c') ∧ Tch b w' w'' := fun b s V A' n' c' wz w' h1 h2 h3 h4 => bi_set b 0 s A' n' c' V w' (h1.ext h2) h3 (h4.off h1.lt n')
  have HP := Lib.hid (And.intro hp0 (And.intro hq0 (And.intro hxp hyq)))
  have HS := Lib.hid hS
  have HGG := Lib.hid hG
  have HHH := Lib.hid hH
  clear hcan hSG hdp hdq hyt hp0 hq0 hxp hyq hG hH hS
  go_enter Tryz.func135, Tryz.ntmps135
  go_upto_region 5 with (first
    | (go_at_call 75; (with_reducible refine (kX _ (by (repeat (first | exact ext_refl _ | assumption | refine ext_setCell ?_ (by simp; try omega) _ | refine ext_alloc ?_ _ | refine ext_drew ?_ | refine ext_drewN ?_ _ | refine ext_trans ?_ (Aft.use _) | refine ext_trans ?_ (by assumption))))).mono ?_); rintro e w1 ⟨P1, k1, l1, ⟨rfl, hk1⟩, hR1, xb1⟩; obtain ⟨xc1, xf1, xl1, xz1⟩ := ext_use xb1; (try simp at xz1); obtain ⟨l1_0, gc, gf⟩ := kp xb1 (bx) (by first | omega | (simp; try omega)); have r1_0 := gc 0; have f1_0 := gf 0; have r1_0_1 := gc 1; have f1_0_1 := gf 1; clear gc gf)
    | (go_at_call 75; (with_reducible refine (kY _ (by (repeat (first | exact ext_refl _ | assumption | refine ext_setCell ?_ (by simp; try omega) _ | refine ext_alloc ?_ _ | refine ext_drew ?_ | refine ext_drewN ?_ _ | refine ext_trans ?_ (Aft.use _) | refine ext_trans ?_ (by assumption))))).mono ?_); rintro e w2 ⟨Q1, k2, l2, ⟨rfl, hk2⟩, hR2, xb2⟩; obtain ⟨xc2, xf2, xl2, xz2⟩ := ext_use xb2; (try simp at xz2); obtain ⟨l2_0, gc, gf⟩ := kp xb2 (bx) (by first | omega | (simp; try omega)); have r2_0 := gc 0; have f2_0 := gf 0; have r2_0_1 := gc 1; have f2_0_1 := gf 1; clear gc gf)
    | (go_at_call 138; (with_reducible refine (kG _ _ _ _ _ _ _ (by (repeat (first | exact ext_refl _ | assumption | refine ext_setCell ?_ (by simp; try omega) _ | refine ext_alloc ?_ _ | refine ext_drew ?_ | refine ext_drewN ?_ _ | refine ext_trans ?_ (Aft.use _) | refine ext_trans ?_ (by assumption)))) hk1 hk2 (hR1.out.1.ext xb2) hR2.out.1).mono ?_); rintro e w3 ⟨G1, k3, l3, rfl, hR3, xb3⟩; obtain ⟨xc3, xf3, xl3, xz3⟩ := ext_use xb3; (try simp at xz3); obtain ⟨l3_0, gc, gf⟩ := kp xb3 (bx) (by first | omega | (simp; try omega)); have r3_0 := gc 0; have f3_0 := gf 0; have r3_0_1 := gc 1; have f3_0_1 := gf 1; clear gc gf)
   )
  have hE3 : Hid (Ext w w3) := by show Ext w w3; (repeat (first | exact ext_refl _ | assumption | refine ext_setCell ?_ (by simp; try omega) _ | refine ext_alloc ?_ _ | refine ext_drew ?_ | refine ext_drewN ?_ _ | refine ext_trans ?_ (Aft.use _) | refine ext_trans ?_ (by assumption)))
  have hP3 := Lib.hid (hR1.out.1.ext (ext_trans xb2 xb3))
  have hQ3 := Lib.hid (hR2.out.1.ext xb3)
  have hk3 : k3 ≤ 50000 := by rw [← hR3.out.1.len]; exact hGP
  have hoG : Off G1 k3 g := hR3.out.2.off (ext_lt (ext_trans xb1 xb2) g hgl) k3
  have HOG := Lib.hid (And.intro hoG (And.intro hR1.out.2 hR2.out.2))
  clear kX kY kG hoG
  go_cut [13] (fun v wn => v = .pointer (some ⟨w3.heap.size + 1, 0, none⟩) ∧ Hid (Room wn w3.heap.size 0 ∧ Room wn (w3.heap.size + 1) 0) ∧ Hid (Ext w3 wn))
  case first =>
    go_wp2
    go_meet
    case rel =>
      refine ⟨rfl, ⟨(int_room w3).ext (ext_alloc (ext_refl _) _), ?_⟩, ext_alloc (ext_alloc (ext_refl _) _) _⟩
      have h := int_room (w3.alloc (Obj.cells #[.bool false, .slice none 0 0] 52))
      have e : (w3.alloc (Obj.cells #[.bool false, .slice none 0 0] 52)).heap.size = w3.heap.size + 1 := by simp
      rw [e] at h; exact h
  case rest =>
  obtain ⟨wz, rfl⟩ : ∃ wz, wz = wc := ⟨wc, rfl⟩
  obtain ⟨rfl, hRo, hEz⟩ := hcut
  have hE4 := Lib.hid (ext_trans hE3.out hEz.out)
  have x0 := (Below.cell (p := ⟨bx, 0, none⟩) hE4.out lx).trans x0
  have x1 := (Below.cell (p := ⟨bx, 1, none⟩) hE4.out lx).trans x1
  have ltbx := ext_lt hE4.out bx lx
  clear xb1 xb2 xb3
  go_upto_region 6 with (fail)
  go_cut [12] (fun v wn => ∃ (A6 : Option Addr) (n6 c6 : Nat), (v = .pointer (some ⟨w3.heap.size, 0, none⟩) ∧ n6 ≤ 100000) ∧ Hid (IntIs wn w3.heap.size 0 (sgn (decide (x < 0)) (x.natAbs * (Q / G) : Nat)) A6 n6 c6 ∧ Off A6 n6 (w3.heap.size + 1) ∧ Room wn (w3.heap.size + 1) 0) ∧ Hid (Ext w3 wn))
  case first =>
    have z0 := x0
    have z1 := x1
    refine D2.wp_drawn_tail 15 (D2.tab [(13, D2.RRow (Q / G)), (14, RWord wz.heap.size (x.natAbs * (Q / G)))]) (by kernel_rfl) (by kernel_rfl) (by kernel_rfl) (D2.tab_stays (by simp [D2.stays_row, D2.stays_word])) (fun hq hqf => ?_)
    simp only [List.take_succ_cons, List.take_zero, List.drop_succ_cons, List.drop_zero]
    have z0 := fun nq => (hq nq bx 0 ltbx).trans x0
    have z1 := fun nq => (hq nq bx 1 ltbx).trans x1
    iterate 13
      (refine D2.wpK_det rfl (fun K hK => ?_)
       go_simp
       first
         | (refine hK _ ?_; clear hK K)
         | (apply Exists.intro; refine ⟨fun x => ?_, hK _ ?_⟩; (first | exact z0 x | exact z1 x); clear hK K))
    refine D2.wpK_rel _ rfl rfl ?_ ?_
    · rintro _ ⟨nn, rfl⟩ _
      unfold D2.Oper.relAt
      go_simp
      exact D2.rel_row (kB Q1 k2 l2 G1 k3 l3 Q G _ hG0 (Nat.le_trans hk2 (by decide)) (hQ3.out.ext (ext_trans hEz.out nn.use)) (hR3.out.1.ext (ext_trans hEz.out nn.use)))
    rintro v ⟨_, ⟨nn, rfl⟩, hr⟩
    obtain ⟨A4, n4, c4, rfl, hr4⟩ := hr
    have hn4 : n4 ≤ 50000 := by rw [← hr4.len]; exact Nat.le_trans (lim_mono (Nat.div_le_self _ _)) hlQ
    clear nn hr4
    refine D2.wpK_rel _ rfl rfl ?_ ?_
    · rintro _ ⟨nn, rfl⟩ hdep
      have q1 := hdep 13 (by kernel_rfl)
      simp only [D2.Facts.put] at q1
      have q2 := D2.row_at (vals := []) q1
      unfold D2.Oper.relAt
      go_simp
      exact D2.rel_wpost (ext_size nn.use) (kM1 _ _ _ _ (ext_trans hE4.out nn.use) hn4 q2)
    rintro v ⟨_, ⟨nn, rfl⟩, hr⟩
    obtain ⟨A5, n5, c5, rfl, hr5, -⟩ := hr
    have hn5 : n5 ≤ 100000 := by rw [← hr5.len]; exact hl1
    clear nn hr5
    refine D2.wpK_nil ?_
    intro nq hGG
    have r5 : RWord wz.heap.size (x.natAbs * (Q / G)) [] (.slice A5 n5 c5) nq.out := by have := hGG.fact 14; simp [D2.Facts.put] at this; exact this
    have hR5 := Lib.hid (rword_at r5)
    have hE := Lib.hid nq.use
    have hF5 : Fr wz A5 := hR5.out.2
    clear r5 hGG
    go_wp2_with (first
      | (go_at_call 63; (with_reducible refine (kS _ _ _ A5 n5 c5 wz _ hRo.out.1 hE.out hR5.out.1 hF5).mono ?_); rintro e w6 ⟨rfl, hI6, xt6⟩)
     )
    go_meet
    case rel =>
      exact ⟨A5, n5, c5, ⟨rfl, hn5⟩, ⟨hI6.out, hF5.off hRo.out.2.lt n5, (hRo.out.2.ext hE.out).tch xt6 (by omega)⟩, xt6.ext (ext_trans hEz.out hE.out) (Nat.le_refl _)⟩
  case rest =>
  obtain ⟨wy, rfl⟩ : ∃ wy, wy = wc := ⟨wc, rfl⟩
  obtain ⟨A6, n6, c6, ⟨rfl, hn6⟩, hI6, hEy⟩ := hcut
  have hE5 := Lib.hid (ext_trans hE3.out hEy.out)
  clear x0 x1
  have x0 := (Below.cell (p := ⟨b2, 0, none⟩) hE5.out ly).trans y0
  have x1 := (Below.cell (p := ⟨b2, 1, none⟩) hE5.out ly).trans y1
  have ltb2 := ext_lt hE5.out b2 ly
  go_upto_region 7 with (fail)
  go_cut [12] (fun v wn => ∃ (A7 : Option Addr) (n7 c7 : Nat), (v = .pointer (some ⟨w3.heap.size, 0, none⟩) ∧ n7 ≤ 100000) ∧ Hid (IntIs wn w3.heap.size 0 (sgn (decide (x < 0)) (x.natAbs * (Q / G) : Nat)) A6 n6 c6 ∧ IntIs wn (w3.heap.size + 1) 0 (sgn (!(decide (y < 0) == t)) (y.natAbs * (P / G) : Nat)) A7 n7 c7) ∧ Hid (Ext w3 wn))
  case first =>
    refine D2.wp_drawn_tail 17 (D2.tab [(15, D2.RRow (P / G)), (16, RWord wy.heap.size (y.natAbs * (P / G)))]) (by kernel_rfl) (by kernel_rfl) (by kernel_rfl) (D2.tab_stays (by simp [D2.stays_row, D2.stays_word])) (fun hq hqf => ?_)
    simp only [List.take_succ_cons, List.take_zero, List.drop_succ_cons, List.drop_zero]
    have z0 := fun nq => (hq nq b2 0 ltb2).trans x0
    have z1 := fun nq => (hq nq b2 1 ltb2).trans x1
    iterate 15
      (refine D2.wpK_det rfl (fun K hK => ?_)
       go_simp
       first
         | (refine hK _ ?_; clear hK K)
         | (apply Exists.intro; refine ⟨fun x => ?_, hK _ ?_⟩; (first | exact z0 x | exact z1 x); clear hK K))
    refine D2.wpK_rel _ rfl rfl ?_ ?_
    · rintro _ ⟨nn, rfl⟩ _
      unfold D2.Oper.relAt
      go_simp
      exact D2.rel_row (kB P1 k1 l1 G1 k3 l3 P G _ hG0 (Nat.le_trans hk1 (by decide)) (hP3.out.ext (ext_trans hEy.out nn.use)) (hR3.out.1.ext (ext_trans hEy.out nn.use)))
    rintro v ⟨_, ⟨nn, rfl⟩, hr⟩
    obtain ⟨A4, n4, c4, rfl, hr4⟩ := hr
    have hn4 : n4 ≤ 50000 := by rw [← hr4.len]; exact Nat.le_trans (lim_mono (Nat.div_le_self _ _)) hlP
    clear nn hr4
    refine D2.wpK_rel _ rfl rfl ?_ ?_
    · rintro _ ⟨nn, rfl⟩ hdep
      have q1 := hdep 15 (by kernel_rfl)
      simp only [D2.Facts.put] at q1
      have q2 := D2.row_at (vals := []) q1
      unfold D2.Oper.relAt
      go_simp
      exact D2.rel_wpost (ext_size nn.use) (kM2 _ _ _ _ (ext_trans hE5.out nn.use) hn4 q2)
    rintro v ⟨_, ⟨nn, rfl⟩, hr⟩
    obtain ⟨A5, n5, c5, rfl, hr5, -⟩ := hr
    have hn5 : n5 ≤ 100000 := by rw [← hr5.len]; exact hl2
    clear nn hr5
    refine D2.wpK_nil ?_
    intro nq hGG
    have r5 : RWord wy.heap.size (y.natAbs * (P / G)) [] (.slice A5 n5 c5) nq.out := by have := hGG.fact 16; simp [D2.Facts.put] at this; exact this
    have hR5 := Lib.hid (rword_at r5)
    have hE := Lib.hid nq.use
    have hF5 : Fr wy A5 := hR5.out.2
    clear r5 hGG
    go_wp2_with (first
      | (go_at_call 63; (with_reducible refine (kS _ _ _ A5 n5 c5 wy _ hI6.out.2.2 hE.out hR5.out.1 hF5).mono ?_); rintro e w7 ⟨rfl, hI7, xt7⟩)
     )
    go_meet
    case rel =>
      exact ⟨A5, n5, c5, ⟨rfl, hn5⟩, ⟨(hI6.out.1.ext hE.out).tch xt7 (by omega) hI6.out.2.1, hI7.out⟩, xt7.ext (ext_trans hEy.out hE.out) (by omega)⟩
  case rest =>
  obtain ⟨wx, rfl⟩ : ∃ wx, wx = wc := ⟨wc, rfl⟩
  obtain ⟨A7, n7, c7, ⟨rfl, hn7⟩, hI7, hEx⟩ := hcut
  have hE6 := Lib.hid (ext_trans hE3.out hEx.out)
  clear x0 x1 kM1 kM2
  go_upto_region 9 with (first
    | (go_at_call 33; (with_reducible refine (bi_Add _ 0 _ 0 _ 0 _ _ A6 n6 c6 A7 n7 c7 (Nat.le_trans hn6 (by decide)) (Nat.le_trans hn7 (by decide)) _ hI7.out.1.room hI7.out.1 hI7.out.2).mono ?_); rintro e w8 ⟨rfl, A8, n8, c8, hI8, xt8⟩)
   )
  rw [hsum] at hI8
  have hE8 := Lib.hid (xt8.ext hEx.out (Nat.le_refl _))
  have hE9 := Lib.hid (ext_trans hE3.out hE8.out)
  have s0 := hI8.out.1.neg
  have s1 := hI8.out.1.words
  have ls := hI8.out.1.room.lt
  simp only [Nat.zero_add] at s1
  have hRg := Lib.hid (HR.out.ext hE9.out)
  have hn8 : n8 ≤ 100001 := by rw [← hI8.out.1.rd.len]; exact hlS
  by_cases hS0 : S = 0
  · obtain rfl : n8 = 0 := hI8.out.1.rd.nil_of (by rw [hS0]; rfl)
    obtain ⟨rfl, rfl⟩ := f0 hS0
    clear kH kB kS
    go_wp2_with (first
      | (go_at_call 137; (with_reducible refine (br_set_nought g _ hRg.out).mono ?_); rintro e w9 ⟨rfl, A9, n9, c9, D9, m9, k9, hI9, xt9⟩)
     )
    refine bodyPost_ret (v := .pointer (some ⟨g, 0, none⟩)) ?h rfl ⟨rfl, A9, n9, c9, D9, m9, k9, ⟨hI9.out.1, hI9.out.2.1.mono hE9.out, hI9.out.2.2.mono hE9.out⟩, (Tch.of hE9.out).trans xt9⟩
    case h => simp [results, Tryz.results135, go_sem]
  · have hn0 : ((n8 : Int) == 0) = false := by
      rw [beq_eq_false_iff_ne]; have := hI8.out.1.rd.len; intro h; exact hS0 (Int.natAbs_eq_zero.1 (lim_nil.1 (List.eq_nil_of_length_eq_zero (by omega))))
    obtain ⟨rfl, rfl⟩ := f1 hS0
    go_upto_region 12 with (first
      | (go_at_call 138; (with_reducible refine (kH A8 n8 c8 G1 k3 l3 _ hE9.out hn8 (Nat.le_trans hk3 (by decide)) hI8.out.1.rd (hR3.out.1.ext hE8.out)).mono ?_); rintro e w9 ⟨H1, k9, l9, rfl, hR9, xb9⟩)
     )
    have hEa := Lib.hid (ext_trans hE8.out xb9)
    have hEb := Lib.hid (ext_trans hE3.out hEa.out)
    have s0' := (Below.cell (p := ⟨w3.heap.size, 0, none⟩) xb9 ls).trans s0
    have s1' := (Below.cell (p := ⟨w3.heap.size, 1, none⟩) xb9 ls).trans s1
    have ls' := ext_lt xb9 _ ls
    have hRh := Lib.hid (HR.out.ext hEb.out)
    have hlg := ext_lt hEb.out g hgl
    obtain ⟨v2, hv2⟩ := hRh.out.c2
    clear s0 s1 kH
    go_cut [14] (fun v wn => ∃ (A12 : Option Addr) (n12 c12 : Nat), v = .slice H1 k9 l9 ∧ Hid (IntIs wn g 0 (sgn (decide (S < 0)) (S.natAbs / H : Nat)) A12 n12 c12 ∧ Fr w A12) ∧ Hid (wn.cell? ⟨g, 2, none⟩ = some v2 ∧ wn.frozen? ⟨g, 2, none⟩ = false) ∧ Hid (Tch g w9 wn))
    case first =>
      refine D2.wp_drawn_tail 14 (D2.tab [(12, D2.RRow (S.natAbs / H)), (13, RWord w9.heap.size (S.natAbs / H))]) (by kernel_rfl) (by kernel_rfl) (by kernel_rfl) (D2.tab_stays (by simp [D2.stays_row, D2.stays_word])) (fun hq hqf => ?_)
      simp only [List.take_succ_cons, List.take_zero, List.drop_succ_cons, List.drop_zero]
      have z0 := fun nq => (hq nq w3.heap.size 0 ls').trans s0'
      have z1 := fun nq => (hq nq w3.heap.size 1 ls').trans s1'
      iterate 12
        (refine D2.wpK_det rfl (fun K hK => ?_)
         go_simp
         first
           | (refine hK _ ?_; clear hK K)
           | (apply Exists.intro; refine ⟨fun x => ?_, hK _ ?_⟩; (first | exact z0 x | exact z1 x); clear hK K))
      refine D2.wpK_rel _ rfl rfl ?_ ?_
      · rintro _ ⟨nn, rfl⟩ _
        unfold D2.Oper.relAt
        go_simp
        exact D2.rel_row (kB A8 n8 c8 H1 k9 l9 S.natAbs H _ hH0 (Nat.le_trans hn8 (by decide)) (hI8.out.1.rd.ext (ext_trans xb9 nn.use)) (hR9.out.1.ext nn.use))
      rintro v ⟨_, ⟨nn, rfl⟩, hr⟩
      obtain ⟨A4, n4, c4, rfl, hr4⟩ := hr
      have hn4 : n4 ≤ 1000000 := by rw [← hr4.len]; exact Nat.le_trans (lim_mono (Nat.div_le_self _ _)) (Nat.le_trans hlS (by decide))
      clear nn hr4
      refine D2.wpK_rel _ rfl rfl ?_ ?_
      · rintro _ ⟨nn, rfl⟩ hdep
        have q1 := hdep 12 (by kernel_rfl)
        simp only [D2.Facts.put] at q1
        have q2 := D2.row_at (vals := []) q1
        unfold D2.Oper.relAt
        go_simp
        exact (rel_copied _ _ _ _ _ hn4 _ _ (ext_size nn.use) q2).mono (fun e w' ⟨u, h1, h2, h3, h4⟩ => ⟨u, h1, h2, (by obtain ⟨A, k, c, rfl, -⟩ := h4; exact D2.fresh_row), h4⟩)
      rintro v ⟨_, ⟨nn, rfl⟩, hr⟩
      obtain ⟨A5, n5, c5, rfl, -, -⟩ := hr
      clear nn
      refine D2.wpK_nil ?_
      intro nq hGG
      have r5 : RWord w9.heap.size (S.natAbs / H) [] (.slice A5 n5 c5) nq.out := by have := hGG.fact 13; simp [D2.Facts.put] at this; exact this
      have hR5 := Lib.hid (rword_at r5)
      have hE := Lib.hid nq.use
      have hF5 : Fr w9 A5 := hR5.out.2
      clear r5 hGG
      go_wp2_with (first
        | (go_at_call 63; (with_reducible refine (bi_setx g 0 _ A5 n5 c5 _ _ (hRh.out.int.ext hE.out) hR5.out.1 (hF5.off hlg n5)).mono ?_); rintro e w10 ⟨rfl, hI10, xt10, hq10⟩)
       )
      go_meet
      case rel =>
        exact ⟨A5, n5, c5, rfl, ⟨hI10.out, hF5.mono hEb.out⟩, ⟨((hq10.out 2 (by omega) (by omega)).1.trans (Below.cell (p := ⟨g, 2, none⟩) hE.out hlg)).trans hv2, ((hq10.out 2 (by omega) (by omega)).2.trans (Below.frozen (p := ⟨g, 2, none⟩) hE.out hlg)).trans hRh.out.f2⟩, (Tch.of hE.out).trans xt10⟩
    case rest =>
    obtain ⟨wv, rfl⟩ : ∃ wv, wv = wc := ⟨wc, rfl⟩
    obtain ⟨A12, n12, c12, rfl, hI12, hv12, xt12⟩ := hcut
    have cv := hv12.out.1
    have cf := hv12.out.2
    have lgv := hI12.out.1.room.lt
    have hP9 := Lib.hid ((hP3.out.ext hEa.out).tch xt12.out HOG.out.2.1)
    have hQ9 := Lib.hid ((hQ3.out.ext hEa.out).tch xt12.out HOG.out.2.2)
    have hG9 := Lib.hid ((hR3.out.1.ext hEa.out).tch xt12.out HOG.out.1)
    have hH9 := Lib.hid (hR9.out.1.tch xt12.out (hR9.out.2.off (ext_lt hE9.out g hgl) k9))
    clear s0' s1'
    go_wp2_with (first
      | (go_at_call 139; (with_reducible refine (bw_by P1 G1 k1 l1 k3 l3 P G hG0 (Nat.le_trans hk1 (by decide)) _ hP9.out hG9.out).mono ?_); rintro e wa ⟨Aa, na, ca, ⟨rfl, hka⟩, hRa, xba⟩)
      | (go_at_call 139; (with_reducible refine (bw_by Q1 H1 k2 l2 k9 l9 Q H hH0 (Nat.le_trans hk2 (by decide)) _ (hQ9.out.ext xba) (hH9.out.ext xba)).mono ?_); rintro e wb ⟨Ab, nb, cb, ⟨rfl, hkb⟩, hRb, xbb⟩; have hsb : na + nb ≤ 200000 := Nat.le_trans (Nat.add_le_add (Nat.le_trans hka hk1) (Nat.le_trans hkb hk2)) (by decide))
      | (go_at_call 64; (with_reducible refine (bw_mulA Aa Ab na ca nb cb _ _ hsb _ (hRa.out.ext xbb) hRb.out).mono ?_); rintro e wd ⟨Ad, nd, cd, rfl, hRd, xbd⟩; have hEd := Lib.hid (ext_trans xba (ext_trans xbb xbd)); have cvd := (Below.cell (p := ⟨g, 2, none⟩) hEd.out lgv).trans cv; have cfd := (Below.frozen (p := ⟨g, 2, none⟩) hEd.out lgv).trans cf; have hFd := Lib.hid (hRd.out.2.mono (ext_trans xba xbb)))
     )
    have hFw : Fr w Ad := hFd.out.szmono (Nat.le_trans (ext_size hEb.out) xt12.out.size)
    refine bodyPost_ret (v := .pointer (some ⟨g, 0, none⟩)) ?h rfl ⟨rfl, A12, n12, c12, Ad, nd, cd, ⟨rat_made (hI12.out.1.ext hEd.out) ⟨_, cvd⟩ cfd hRd.out.1 (hFd.out.off lgv nd), hI12.out.2, hFw⟩, (((Tch.of hEb.out).trans xt12.out).trans (Tch.of hEd.out)).set 2 _⟩
    case h => simp [results, Tryz.results135, go_sem]
end Go.Proofs.YtchchnohmmncfaaGreatDoor.NB
end
section
/- (The document's library.) Whole numbers of the library's: out of machine numbers; without a sign; products, differences. -/

namespace Go.Proofs.YtchchnohmmncfaaGreatDoor.NB
open Go.RowKit
attribute [local go_sem] sz2 sz3 sz4 sz5 sz6 sz7 sz8
set_option maxHeartbeats 4000000
set_option maxRecDepth 100000
attribute [local irreducible] Calls
attribute [local go_sem] Oper.detAt detUpon relUpon
theorem bi_SetInt64 (b o : Nat) (x : Int) (h1 : -9223372036854775808 ≤ x) (h2 : x ≤ 9223372036854775807) (w : World) (hr : Room w b o) :
    Calls Tryz.prog 50 #[.pointer (some ⟨b, o, none⟩), .int .i64 x] w (IPost w b o x) := by
  have HR := Lib.hid hr
  have hlt := hr.lt
  clear hr
  by_cases h0 : x < 0
  · obtain ⟨n, rfl⟩ : ∃ n : Nat, x = -(n : Int) := ⟨x.natAbs, by omega⟩
    have hn : n < 18446744073709551616 := by omega
    have h0' : -(n : Int) < 0 := h0
    have hF : ∀ w', Calls Tryz.prog 82 #[.int .u64 (IntKind.u64.wrap (-IntKind.u64.wrap (-(n : Int))))] w' fun e w'' => ∃ (A : Option Addr) (k c : Nat), e = .returned (.slice A k c) ∧ Hid (Rd w'' A k c (lim n) ∧ Fr w' A) ∧ Ext w' w'' := fun w' => by
      have e1 : IntKind.u64.wrap (-IntKind.u64.wrap (-(n : Int))) = (n : Int) := by rw [IntKind.wrap_u64, IntKind.wrap_u64]; omega
      rw [e1]
      exact bw_fromUint n hn w'
    have hsg : Hid (sgn true n = -(n : Int)) := Lib.hid rfl
    go_enter Tryz.func50, Tryz.ntmps50
    go_wp2_with (first
      | (go_at_call 82; (with_reducible refine (hF _).mono ?_); rintro e w1 ⟨A1, k1, c1, rfl, hR1, xb1⟩; obtain ⟨xc1, xf1, xl1, xz1⟩ := ext_use xb1; (try simp at xz1))
      | (go_at_call 63; (with_reducible refine (bi_set b o true A1 k1 c1 n _ (HR.out.ext xb1) hR1.out.1 (hR1.out.2.off hlt k1)).mono ?_); rintro e w3 ⟨rfl, hI3, xt3⟩)
     )
    refine bodyPost_ret (v := .pointer (some ⟨b, o, none⟩)) ?h rfl ⟨rfl, A1, k1, c1, ⟨by have := hI3.out; rwa [hsg.out] at this, hR1.out.2⟩, (Tch.of xb1).trans xt3⟩
    case h => simp [results, Tryz.results50, go_sem]
  · obtain ⟨n, rfl⟩ : ∃ n : Nat, x = (n : Int) := ⟨x.natAbs, by omega⟩
    have hF : ∀ w', Calls Tryz.prog 82 #[.int .u64 (n : Int)] w' fun e w'' => ∃ (A : Option Addr) (k c : Nat), e = .returned (.slice A k c) ∧ Hid (Rd w'' A k c (lim n) ∧ Fr w' A) ∧ Ext w' w'' := fun w' => bw_fromUint n (by omega) w'
    have hsg : Hid (sgn false n = (n : Int)) := Lib.hid rfl
    go_enter Tryz.func50, Tryz.ntmps50
    go_wp2_with (first
      | (go_at_call 82; (with_reducible refine (hF _).mono ?_); rintro e w1 ⟨A1, k1, c1, rfl, hR1, xb1⟩; obtain ⟨xc1, xf1, xl1, xz1⟩ := ext_use xb1; (try simp at xz1))
      | (go_at_call 63; (with_reducible refine (bi_set b o false A1 k1 c1 n _ (HR.out.ext xb1) hR1.out.1 (hR1.out.2.off hlt k1)).mono ?_); rintro e w3 ⟨rfl, hI3, xt3⟩)
     )
    refine bodyPost_ret (v := .pointer (some ⟨b, o, none⟩)) ?h rfl ⟨rfl, A1, k1, c1, ⟨by have := hI3.out; rwa [hsg.out] at this, hR1.out.2⟩, (Tch.of xb1).trans xt3⟩
    case h => simp [results, Tryz.results50, go_sem]
theorem bi_NewInt (x : Int) (h1 : -9223372036854775808 ≤ x) (h2 : x ≤ 9223372036854775807) (w : World) :
    Calls Tryz.prog 25 #[.int .i64 x] w (NPost w x) := by
  have hrm := Lib.hid (int_room w)
  go_enter Tryz.func25, Tryz.ntmps25
  go_wp2_with (first
    | (go_at_call 50; (with_reducible refine (bi_SetInt64 w.heap.size 0 x h1 h2 _ hrm.out).mono ?_); rintro e w3 ⟨rfl, A3, n3, c3, hI3, xt3⟩)
   )
  have hEE := Lib.hid (xt3.ext (ext_alloc (ext_refl w) _) (Nat.le_refl _))
  refine bodyPost_ret (v := .pointer (some ⟨w.heap.size, 0, none⟩)) ?h rfl ⟨_, A3, n3, c3, rfl, ⟨hI3.out.1, Fr.mono hI3.out.2 (ext_alloc (ext_refl w) _)⟩, Nat.le_refl _, hEE.out⟩
  case h => simp [results, Tryz.results25, go_sem]
end Go.Proofs.YtchchnohmmncfaaGreatDoor.NB
end
section
/- (The document's library.) Whole numbers of the library's: products, differences, quotients. -/

namespace Go.Proofs.YtchchnohmmncfaaGreatDoor.NB
open Go.RowKit
attribute [local go_sem] sz2 sz3 sz4 sz5 sz6 sz7 sz8
set_option maxHeartbeats 4000000
set_option maxRecDepth 100000
attribute [local irreducible] Calls
attribute [local go_sem] D2.Oper.detAt D2.detUpon D2.relUpon
namespace D2
end D2
theorem bi_Sub (b o g p h q : Nat) (x y : Int) (A : Option Addr) (n c : Nat) (B : Option Addr) (m d : Nat) (hn : n ≤ 1000000) (hm : m ≤ 1000000) (w : World) (hr : Room w b o) (hx : IntIs w g p x A n c) (hy : IntIs w h q y B m d) :
    Calls Tryz.prog 149 #[.pointer (some ⟨b, o, none⟩), .pointer (some ⟨g, p, none⟩), .pointer (some ⟨h, q, none⟩)] w (IPost w b o (x - y)) := by
  have HX := Lib.hid hx
  have HY := Lib.hid hy
  have HR := Lib.hid hr
  have lx := hx.room.lt
  have x0 := hx.neg
  have x1 := hx.words
  have ly := hy.room.lt
  have y0 := hy.neg
  have y1 := hy.words
  have hbl := hr.lt
  clear hx hy hr
  go_enter Tryz.func149, Tryz.ntmps149
  go_wp2
  refine wp_aft_tail 18 (by kernel_rfl) (by kernel_rfl) (by kernel_rfl) (fun hq hqf => ?_)
  simp only [List.take_succ_cons, List.take_zero, List.drop_succ_cons, List.drop_zero]
  repeat (go_big_quiet_step (first | fail
    ))
  refine wpQuiet_nil ?_
  rintro _ ⟨nq, rfl⟩
  have xl := ext_lt nq.use
  have xz := ext_size nq.use
  try simp at xz
  have hE := Lib.hid nq.use
  go_wp2_with (first
    | (go_at_call 65; (with_reducible refine (bi_added b o A n c x.natAbs _ B m d y.natAbs _ hn hm _ (HR.out.ext hE.out) (HX.out.rd.ext hE.out) (HY.out.rd.ext hE.out)).mono ?_); rintro e w3 ⟨rfl, A3, n3, c3, hI3, xt3⟩)
   )
  refine bodyPost_ret (v := .pointer (some ⟨b, o, none⟩)) ?h rfl ⟨rfl, A3, n3, c3, ⟨by have := hI3.out.1; rwa [sgn_self, sgn_turn, ← Int.sub_eq_add_neg] at this, hI3.out.2.mono hE.out⟩, (Tch.of hE.out).trans xt3⟩
  case h => simp [results, Tryz.results149, go_sem]
theorem bi_Mul (b o g p h q : Nat) (x y : Int) (A : Option Addr) (n c : Nat) (B : Option Addr) (m d : Nat) (hn : n ≤ 100000) (hm : m ≤ 100000) (w : World) (hr : Room w b o) (hx : IntIs w g p x A n c) (hy : IntIs w h q y B m d) :
    Calls Tryz.prog 32 #[.pointer (some ⟨b, o, none⟩), .pointer (some ⟨g, p, none⟩), .pointer (some ⟨h, q, none⟩)] w (IPost w b o (x * y)) := by
  have HX := Lib.hid hx
  have HY := Lib.hid hy
  have HR := Lib.hid hr
  have lx := hx.room.lt
  have x0 := hx.neg
  have x1 := hx.words
  have ly := hy.room.lt
  have y0 := hy.neg
  have y1 := hy.words
  have hbl := hr.lt
  have kM : ∀ w', Ext w w' → Calls Tryz.prog 64 #[.slice A n c, .slice B m d] w' (WPost w' (x.natAbs * y.natAbs)) := fun w' he => bw_mul (n + m) A B n c m d _ _ rfl (by omega) w' (HX.out.rd.ext he) (HY.out.rd.ext he)
  clear hx hy hr
  go_enter Tryz.func32, Tryz.ntmps32
  go_wp2
  refine D2.wp_drawn_tail 19 (D2.tab [(18, RWord w.heap.size (x.natAbs * y.natAbs))]) (by kernel_rfl) (by kernel_rfl) (by kernel_rfl) (D2.tab_stays (by simp [D2.stays_word])) (fun hq hqf => ?_)
  simp only [List.take_succ_cons, List.take_zero, List.drop_succ_cons, List.drop_zero]
  have z0 := fun nq => (hq nq g p lx).trans x0
  have z1 := fun nq => (hq nq g (p + 1) lx).trans x1
  have z2 := fun nq => (hq nq h q ly).trans y0
  have z3 := fun nq => (hq nq h (q + 1) ly).trans y1
  iterate 18
    (refine D2.wpK_det rfl (fun K hK => ?_)
     go_simp
     first
       | (refine hK _ ?_; clear hK K)
       | (apply Exists.intro; refine ⟨fun x => ?_, hK _ ?_⟩; (first | exact z0 x | exact z1 x | exact z2 x | exact z3 x | (simp [z0, z1, z2, z3]; rfl)); clear hK K))
  refine D2.wpK_rel _ rfl rfl ?_ ?_
  · rintro _ ⟨nn, rfl⟩ _
    unfold D2.Oper.relAt
    go_simp
    exact D2.rel_wpost (ext_size nn.use) (kM _ nn.use)
  rintro v ⟨_, ⟨nn, rfl⟩, hr⟩
  obtain ⟨A9, k9, c9, rfl, -, -⟩ := hr
  clear nn
  refine D2.wpK_nil ?_
  intro nq2 hG
  have r9 : RWord w.heap.size (x.natAbs * y.natAbs) [] (.slice A9 k9 c9) nq2.out := by have := hG.fact 18; simp [D2.Facts.put] at this; exact this
  have hR9 := Lib.hid (rword_at r9)
  have hF9 : Fr w A9 := hR9.out.2
  have hO9 := hF9.off HR.out.lt k9
  clear r9 hG
  go_wp2_with (first
    | (go_at_call 63; (with_reducible refine (bi_set b o _ A9 k9 c9 (x.natAbs * y.natAbs) _ (HR.out.ext nq2.use) hR9.out.1 hO9).mono ?_); rintro e w3 ⟨rfl, hI3, xt3⟩)
   )
  refine bodyPost_ret (v := .pointer (some ⟨b, o, none⟩)) ?h rfl ⟨rfl, A9, k9, c9, ⟨by have := hI3.out; rwa [sgn_both] at this, hF9⟩, (Tch.of nq2.use).trans xt3⟩
  case h => simp [results, Tryz.results32, go_sem]
theorem bi_QuoRem (b g bx b2 : Nat) (x y : Int) (hy0 : y ≠ 0) (hbg : b ≠ g) (A : Option Addr) (n c : Nat) (B : Option Addr) (m d : Nat) (hn : n ≤ 400000) (w : World) (hr : Room w b 0) (hr2 : Room w g 0) (hx : IntIs w bx 0 x A n c) (hy : IntIs w b2 0 y B m d) :
    Calls Tryz.prog 148 #[.pointer (some ⟨b, 0, none⟩), .pointer (some ⟨bx, 0, none⟩), .pointer (some ⟨b2, 0, none⟩), .pointer (some ⟨g, 0, none⟩)] w
      (QRPost w b g (sgn (!(decide (x < 0) == decide (y < 0))) (x.natAbs / y.natAbs)) (sgn (decide (x < 0)) (x.natAbs % y.natAbs))) := by
  have HX := Lib.hid hx
  have HY := Lib.hid hy
  have HR := Lib.hid hr
  have HR2 := Lib.hid hr2
  have lx := hx.room.lt
  have x0 := hx.neg
  have x1 := hx.words
  have ly := hy.room.lt
  have y0 := hy.neg
  have y1 := hy.words
  simp only [Nat.zero_add] at x1 y1
  have kD : ∀ w', Ext w w' → Calls Tryz.prog 153 #[.slice A n c, .slice B m d] w' (QPost w' (x.natAbs / y.natAbs) (x.natAbs % y.natAbs)) := fun w' he => bw_div A B n c m d _ _ (by omega) hn w' (HX.out.rd.ext he) (HY.out.rd.ext he)
  clear hx hy hr hr2
  go_enter Tryz.func148, Tryz.ntmps148
  go_wp2
  refine wp_aft (by kernel_rfl) (by kernel_rfl) (fun hq hqf => ?_)
  repeat (go_big_quiet_step (first | fail
    ))
  refine wpQuiet_nil ?_
  rintro _ ⟨nq, rfl⟩
  have xl := ext_lt nq.use
  have xz := ext_size nq.use
  try simp at xz
  have hE := Lib.hid nq.use
  clear hq hqf
  have z0 := (Below.cell (p := ⟨bx, 0, none⟩) hE.out lx).trans x0
  have z1 := (Below.cell (p := ⟨bx, 1, none⟩) hE.out lx).trans x1
  have z2 := (Below.cell (p := ⟨b2, 0, none⟩) hE.out ly).trans y0
  have z3 := (Below.cell (p := ⟨b2, 1, none⟩) hE.out ly).trans y1
  have lx' := ext_lt hE.out _ lx
  have ly' := ext_lt hE.out _ ly
  generalize nq.out = W at *
  clear nq x0 x1 y0 y1
  go_upto_region 3 with (fail)
  refine D2.wp_drawn (D2.tab [(8, D2.RQuo W.heap.size (x.natAbs / y.natAbs) (x.natAbs % y.natAbs))]) (by kernel_rfl) (by kernel_rfl) (D2.tab_stays (by simp [D2.stays_quo])) (fun hq hqf => ?_)
  have u1 := fun nq => (hq nq bx 1 lx').trans z1
  have u3 := fun nq => (hq nq b2 1 ly').trans z3
  iterate 8
    (refine D2.wpK_det rfl (fun K hK => ?_)
     go_simp
     first
       | (refine hK _ ?_; clear hK K)
       | (apply Exists.intro; refine ⟨fun x => ?_, hK _ ?_⟩; (first | exact u1 x | exact u3 x | (simp [u1, u3]; rfl)); clear hK K))
  refine D2.wpK_rel _ rfl rfl ?_ ?_
  · rintro _ ⟨nn, rfl⟩ _
    unfold D2.Oper.relAt
    go_simp
    exact D2.rel_quo (ext_size nn.use) (kD _ (ext_trans hE.out nn.use))
  rintro v ⟨_, ⟨nn, rfl⟩, hr⟩
  obtain ⟨A5, k5, c5, B5, m5, d5, rfl, -⟩ := hr
  clear nn
  iterate 5
    (refine D2.wpK_det rfl (fun K hK => ?_)
     go_simp
     refine hK _ ?_; clear hK K)
  refine D2.wpK_nil ?_
  intro nq hG
  have r5 : D2.RQuo W.heap.size (x.natAbs / y.natAbs) (x.natAbs % y.natAbs) [] (.tuple #[.slice A5 k5 c5, .slice B5 m5 d5]) nq.out := by have := hG.fact 8; simp [D2.Facts.put] at this; exact this
  have hR5 := Lib.hid (D2.quo_at r5)
  have hE2 := Lib.hid (ext_trans hE.out nq.use)
  have fA : Fr w A5 := fun a ha => Nat.le_trans hE.out.size (hR5.out.1.2 a ha)
  have fB : Fr w B5 := fun a ha => Nat.le_trans hE.out.size (hR5.out.2.2 a ha)
  have oAb := fA.off HR.out.lt k5
  have oAg := fA.off HR2.out.lt k5
  have oBb := fB.off HR.out.lt m5
  have oBg := fB.off HR2.out.lt m5
  clear r5 hG u1 u3 hq hqf kD
  generalize nq.out = W2 at *
  clear nq
  clear z0 z1 z2 z3
  have HG := Lib.hid hbg
  have HY0 := Lib.hid hy0
  clear hbg hy0
  go_upto_region 5 with (first
    | (go_at_call 63; (with_reducible refine (bi_set g 0 _ B5 m5 d5 (x.natAbs % y.natAbs) _ (HR2.out.ext hE2.out) hR5.out.2.1 oBg).mono ?_); rintro e w3 ⟨rfl, hI3, xt3⟩)
   )
  have HI3 := Lib.hid (hI3.out)
  have HT3 := Lib.hid xt3
  clear hI3 xt3
  go_wp2_with (first
    | (go_at_call 63; (with_reducible refine (bi_set b 0 _ A5 k5 c5 (x.natAbs / y.natAbs) _ ((HR.out.ext hE2.out).tch HT3.out HG.out) (hR5.out.1.1.tch HT3.out oAg) oAb).mono ?_); rintro e w4 ⟨rfl, hI4, xt4⟩)
   )
  refine bodyPost_ret (v := .tuple #[.pointer (some ⟨b, 0, none⟩), .pointer (some ⟨g, 0, none⟩)]) ?h rfl ⟨rfl, A5, k5, c5, B5, m5, d5, w3, ⟨hI4.out, fA, HI3.out.tch xt4 (Ne.symm HG.out) oBb, fB⟩, (Tch.of hE2.out).trans HT3.out, xt4⟩
  case h => simp [results, Tryz.results148, go_sem]
end Go.Proofs.YtchchnohmmncfaaGreatDoor.NB
end
section
/- (The document's library.) Whole numbers of the library's: quotients rounded down. -/

namespace Go.Proofs.YtchchnohmmncfaaGreatDoor.NB
open Go.RowKit
attribute [local go_sem] sz2 sz3 sz4 sz5 sz6 sz7 sz8
set_option maxHeartbeats 4000000
set_option maxRecDepth 100000
attribute [local irreducible] Calls
theorem bi_DivMod (b g bx b2 : Nat) (x y : Int) (hy0 : 0 < y) (hbg : b ≠ g) (hbx : bx ≠ b ∧ bx ≠ g) (hb2 : b2 ≠ b ∧ b2 ≠ g) (A : Option Addr) (n c : Nat) (B : Option Addr) (m d : Nat) (hn : n ≤ 400000) (hm : m ≤ 400000) (w : World) (hr : Room w b 0) (hr2 : Room w g 0) (hx : IntIs w bx 0 x A n c) (hy : IntIs w b2 0 y B m d) :
    Calls Tryz.prog 134 #[.pointer (some ⟨b, 0, none⟩), .pointer (some ⟨bx, 0, none⟩), .pointer (some ⟨b2, 0, none⟩), .pointer (some ⟨g, 0, none⟩)] w (DMPost w b g (x / y) (x % y)) := by
  have HX := Lib.hid hx
  have HY := Lib.hid hy
  have HR := Lib.hid hr
  have HR2 := Lib.hid hr2
  have lx := hx.room.lt
  have ly := hy.room.lt
  have y0 := hy.neg
  have y1 := hy.words
  simp only [Nat.zero_add] at y1
  have hyn : decide (y < 0) = false := decide_eq_false (by omega)
  rw [hyn] at y0
  have kQ : ∀ w', Ext w w' → Calls Tryz.prog 148 #[.pointer (some ⟨b, 0, none⟩), .pointer (some ⟨bx, 0, none⟩), .pointer (some ⟨b2, 0, none⟩), .pointer (some ⟨g, 0, none⟩)] w' (QRPost w' b g (sgn (decide (x < 0)) (x.natAbs / y.natAbs)) (sgn (decide (x < 0)) (x.natAbs % y.natAbs))) := fun w' he => by
    have := bi_QuoRem b g bx b2 x y (by omega) hbg A n c B m d hn w' (HR.out.ext he) (HR2.out.ext he) (HX.out.ext he) (HY.out.ext he)
    rw [hyn] at this
    have e : ∀ s : Bool, (!(s == false)) = s := by decide
    rw [e] at this
    exact this
  have HBG := Lib.hid hbg
  have HBX := Lib.hid hbx
  have HB2 := Lib.hid hb2
  clear hx hy hr hr2 hbg hbx hb2
  by_cases hneg : x < 0 ∧ x.natAbs % y.natAbs ≠ 0
  · obtain ⟨hx0, hr0⟩ := hneg
    obtain ⟨e1, e2⟩ := floor_turn hy0 hx0 hr0
    have hrn : decide (sgn (decide (x < 0)) (x.natAbs % y.natAbs) < 0) = true := decide_eq_true (by rw [decide_eq_true hx0]; simp [sgn]; omega)
    have hab : (sgn (decide (x < 0)) (x.natAbs % y.natAbs)).natAbs = x.natAbs % y.natAbs := sgn_abs _ _
    have hle : x.natAbs % y.natAbs ≤ y.natAbs := Nat.le_of_lt (Nat.mod_lt _ (by omega))
    have hql : (lim (x.natAbs / y.natAbs)).length ≤ n := by rw [← HX.out.rd.len]; exact lim_mono (Nat.div_le_self _ _)
    have hqa : (sgn (decide (x < 0)) (x.natAbs / y.natAbs)).natAbs = x.natAbs / y.natAbs := sgn_abs _ _
    have hE12 := Lib.hid (And.intro e1 (And.intro e2 (And.intro hab (And.intro hle (And.intro hql hqa)))))
    have hsg : Hid (sgn false (y.natAbs - x.natAbs % y.natAbs) = ((y.natAbs - x.natAbs % y.natAbs : Nat) : Int)) := Lib.hid rfl
    clear e1 e2 hx0 hr0 hyn hab hle hql hqa
    generalize x / y = q at *
    generalize x % y = r at *
    generalize sgn (decide (x < 0)) (x.natAbs / y.natAbs) = q0 at *
    generalize sgn (decide (x < 0)) (x.natAbs % y.natAbs) = r0 at *
    go_enter Tryz.func134, Tryz.ntmps134
    go_upto_region 7 with (first
      | (go_at_call 78; (with_reducible refine (bw_copied B m d (lim y.natAbs) (Nat.le_trans hm (by decide)) _ HY.out.rd).mono ?_); rintro e w2 ⟨rfl, hR2, xb2⟩)
      | (go_at_call 148; (with_reducible refine (kQ _ xb2).mono ?_); rintro e w3 ⟨rfl, A3, n3, c3, B3, m3, d3, w2', hI3, xt3, xt4⟩; have g0 := hI3.out.2.2.1.neg; have g1 := hI3.out.2.2.1.room.lt; rw [hrn] at g0; have hxt := Lib.hid (And.intro xt3 xt4); clear xt3 xt4)
     )
    have hn3 : n3 ≤ 1000000 := by
      have h1 := hI3.out.1.rd.len
      rw [hE12.out.2.2.2.2.2] at h1
      have := hE12.out.2.2.2.2.1
      omega
    have hm3 : m3 ≤ 1000000 := by
      have h1 := hI3.out.2.2.1.rd.len
      rw [hE12.out.2.2.1] at h1
      have h2 := lim_mono hE12.out.2.2.2.1
      rw [HY.out.rd.len] at h2
      omega
    have hob : b < w.heap.size := HR.out.lt
    have hog : g < w.heap.size := HR2.out.lt
    have hOb : Off (some ⟨w.heap.size, 0, none⟩) m b := fun k hk _ e => by cases hk; simp at e; omega
    have hOg : Off (some ⟨w.heap.size, 0, none⟩) m g := fun k hk _ e => by cases hk; simp at e; omega
    have hsz3 : w2.heap.size ≤ w3.heap.size := Nat.le_trans hxt.out.1.size hxt.out.2.size
    have hSz : Hid (Rd w3 (some ⟨w.heap.size, 0, none⟩) m m (lim y.natAbs)) := Lib.hid ((hR2.out.tch hxt.out.1 hOg).tch hxt.out.2 hOb)
    have hB3b : Off B3 m3 b := hI3.out.2.2.2.off (Nat.lt_of_lt_of_le hob xb2.size) m3
    have hA3g : Off A3 n3 g := hI3.out.2.1.off (Nat.lt_of_lt_of_le hog xb2.size) n3
    have HQ := Lib.hid (And.intro hOb (And.intro hOg (And.intro hB3b hA3g)))
    have hsub : ∀ (P4 : Option Addr) (p4 k4 l4 : Nat) (w4 : World), Ext w3 w4 → IntIs w4 p4 0 1 P4 k4 l4 → Calls Tryz.prog 149 #[.pointer (some ⟨b, 0, none⟩), .pointer (some ⟨b, 0, none⟩), .pointer (some ⟨p4, 0, none⟩)] w4 (IPost w4 b 0 q) := fun P4 p4 k4 l4 w4 he h4 => by
      have h5 := h4.rd.len
      rw [show (lim (1 : Int).natAbs).length = 1 by kernel_rfl] at h5
      have := bi_Sub b 0 b 0 p4 0 q0 1 A3 n3 c3 P4 k4 l4 hn3 (by omega) w4 (hI3.out.1.room.ext he) (hI3.out.1.ext he) h4
      rw [hE12.out.1] at this
      exact this
    have hgb := Ne.symm HBG.out
    have hmI := Lib.hid hI3.out.2.2.1
    have hle5 : Hid (x.natAbs % y.natAbs ≤ y.natAbs ∧ r0.natAbs = x.natAbs % y.natAbs) := Lib.hid ⟨hE12.out.2.2.2.1, hE12.out.2.2.1⟩
    have hgs : g < w2.heap.size := Nat.lt_of_lt_of_le hog xb2.size
    have HGB := Lib.hid hgb
    have kS : ∀ w', Rd w' (some ⟨w.heap.size, 0, none⟩) m m (lim y.natAbs) → Rd w' B3 m3 d3 (lim r0.natAbs) → Calls Tryz.prog 109 #[.slice (some ⟨w.heap.size, 0, none⟩) m m, .slice B3 m3 d3] w' (WPost w' (y.natAbs - r0.natAbs)) := fun w' h1 h2 =>
      bw_sub _ B3 m m m3 d3 y.natAbs r0.natAbs (by rw [hle5.out.2]; exact hle5.out.1) (Nat.le_trans hm (by decide)) w' h1 h2
    clear hgb g0 g1 hOb hOg hB3b hA3g hrn
    go_wp2_with (first
      | (go_at_call 25; (with_reducible refine (bi_NewInt 1 (by decide) (by decide) _).mono ?_); rintro e w4 ⟨p4, P4, k4, l4, rfl, hI4, hp4, xb4⟩)
      | (go_at_call 149; (with_reducible refine (hsub P4 p4 k4 l4 _ xb4 hI4.out.1).mono ?_); rintro e w5 ⟨rfl, A5, n5, c5, hI5, xt5⟩; have hm5 := Lib.hid ((hmI.out.ext xb4).tch xt5 HGB.out HQ.out.2.2.1); have hs5 := Lib.hid ((hSz.out.ext xb4).tch xt5 HQ.out.1); have g5 := hm5.out.words; have g6 := hm5.out.room.lt; simp only [Nat.zero_add] at g5; have HT5 := Lib.hid xt5; clear xt5)
      | (go_at_call 109; (with_reducible refine (kS _ hs5.out hm5.out.rd).mono ?_); rintro e w6 ⟨A6, k6, c6, rfl, hR6, xb6⟩; have ho6 := hR6.out.2.off g6 k6)
      | (go_at_call 63; (with_reducible refine (bi_set g 0 false A6 k6 c6 (y.natAbs - r0.natAbs) _ (hm5.out.room.ext xb6) hR6.out.1 ho6).mono ?_); rintro e w7 ⟨rfl, hI7, xt7⟩; have HT7 := Lib.hid xt7; clear xt7)
     )
    have hP : Hid (∀ U, Ext U w → U.heap.size ≤ b → U.heap.size ≤ g → Ext U w7) := Lib.hid fun U hU h1 h2 => HT7.out.ext (ext_trans (HT5.out.ext (ext_trans (hxt.out.2.ext (hxt.out.1.ext (ext_trans hU xb2) h2) h1) xb4) h1) xb6) h2
    have hS : w.heap.size ≤ w7.heap.size := Nat.le_trans xb2.size (Nat.le_trans hsz3 (Nat.le_trans xb4.size (Nat.le_trans HT5.out.size (Nat.le_trans xb6.size HT7.out.size))))
    have hA5 : Off A5 n5 g := hI5.out.2.off (Nat.lt_of_lt_of_le hgs (Nat.le_trans hsz3 xb4.size)) n5
    have hF5 : Fr w A5 := fun a ha => Nat.le_trans (Nat.le_trans xb2.size (Nat.le_trans hsz3 xb4.size)) (hI5.out.2 a ha)
    have hF6 : Fr w A6 := fun a ha => Nat.le_trans (Nat.le_trans xb2.size (Nat.le_trans hsz3 (Nat.le_trans xb4.size HT5.out.size))) (hR6.out.2 a ha)
    have hr7 : sgn false (y.natAbs - r0.natAbs) = r := by rw [hle5.out.2, hsg.out]; exact hE12.out.2.1
    have HR7 := Lib.hid hr7
    clear hr7
    refine bodyPost_ret (v := .tuple #[.pointer (some ⟨b, 0, none⟩), .pointer (some ⟨g, 0, none⟩)]) ?h rfl ⟨rfl, A5, n5, c5, A6, k6, c6, ⟨(hI5.out.1.ext xb6).tch HT7.out HBG.out hA5, hF5, by have := hI7.out; rwa [HR7.out] at this, hF6⟩, hP, hS⟩
    case h => simp [results, Tryz.results134, go_sem]
  · obtain ⟨e1, e2⟩ := floor_plain hy0 hneg
    rw [e1, e2] at kQ
    have hrn : decide (x % y < 0) = false := decide_eq_false (by have := Int.emod_nonneg x (show y ≠ 0 by omega); omega)
    have hE12 := Lib.hid (And.intro e1 e2)
    clear e1 e2 hneg hyn
    generalize x / y = q at *
    generalize x % y = r at *
    go_enter Tryz.func134, Tryz.ntmps134
    go_wp2_with (first
      | (go_at_call 78; (with_reducible refine (bw_copied B m d (lim y.natAbs) (Nat.le_trans hm (by decide)) _ HY.out.rd).mono ?_); rintro e w2 ⟨rfl, hR2, xb2⟩)
      | (go_at_call 148; (with_reducible refine (kQ _ xb2).mono ?_); rintro e w3 ⟨rfl, A3, n3, c3, B3, m3, d3, w2', hI3, xt3, xt4⟩; have g0 := hI3.out.2.2.1.neg; have g1 := hI3.out.2.2.1.room.lt; rw [hrn] at g0; have hxt := Lib.hid (And.intro xt3 xt4); clear xt3 xt4)
     )
    have hP : Hid (∀ U, Ext U w → U.heap.size ≤ b → U.heap.size ≤ g → Ext U w3) := Lib.hid fun U hU h1 h2 => hxt.out.2.ext (hxt.out.1.ext (ext_trans hU xb2) h2) h1
    have hS : w.heap.size ≤ w3.heap.size := Nat.le_trans xb2.size (Nat.le_trans hxt.out.1.size hxt.out.2.size)
    refine bodyPost_ret (v := .tuple #[.pointer (some ⟨b, 0, none⟩), .pointer (some ⟨g, 0, none⟩)]) ?h rfl ⟨rfl, A3, n3, c3, B3, m3, d3, ⟨hI3.out.1, hI3.out.2.1.mono xb2, hI3.out.2.2.1, hI3.out.2.2.2.mono xb2⟩, hP, hS⟩
    case h => simp [results, Tryz.results134, go_sem]
/-- A whole number of one's own, new. -/
theorem bi_Div (b bx b2 : Nat) (x y : Int) (hy0 : 0 < y) (hbx : bx ≠ b) (hb2 : b2 ≠ b) (A : Option Addr) (n c : Nat) (B : Option Addr) (m d : Nat) (hn : n ≤ 400000) (hm : m ≤ 400000) (w : World) (hr : Room w b 0) (hx : IntIs w bx 0 x A n c) (hy : IntIs w b2 0 y B m d) :
    Calls Tryz.prog 113 #[.pointer (some ⟨b, 0, none⟩), .pointer (some ⟨bx, 0, none⟩), .pointer (some ⟨b2, 0, none⟩)] w fun e w' => e = .returned (.pointer (some ⟨b, 0, none⟩)) ∧ ∃ (A : Option Addr) (n c : Nat), Hid (IntIs w' b 0 (x / y) A n c ∧ Fr w A) ∧ Hid (∀ U, Ext U w → U.heap.size ≤ b → Ext U w') := by
  have hbl := hr.lt
  have lx := hx.room.lt
  have ly := hy.room.lt
  have hrm := Lib.hid (int_room w)
  have kD : Calls Tryz.prog 134 #[.pointer (some ⟨b, 0, none⟩), .pointer (some ⟨bx, 0, none⟩), .pointer (some ⟨b2, 0, none⟩), .pointer (some ⟨w.heap.size, 0, none⟩)] (w.alloc (Obj.cells #[.bool false, .slice none 0 0] 52)) (DMPost (w.alloc (Obj.cells #[.bool false, .slice none 0 0] 52)) b w.heap.size (x / y) (x % y)) :=
    bi_DivMod b w.heap.size bx b2 x y hy0 (by omega) ⟨hbx, by omega⟩ ⟨hb2, by omega⟩ A n c B m d hn hm _ (hr.ext (ext_alloc (ext_refl _) _)) hrm.out (hx.ext (ext_alloc (ext_refl _) _)) (hy.ext (ext_alloc (ext_refl _) _))
  clear hx hy hr hbx hb2
  go_enter Tryz.func113, Tryz.ntmps113
  go_wp2_with (first
    | (go_at_call 134; (with_reducible refine kD.mono ?_); rintro e w3 ⟨rfl, A3, n3, c3, B3, m3, d3, hI3, hP3, hS3⟩)
   )
  refine bodyPost_ret (v := .pointer (some ⟨b, 0, none⟩)) ?h rfl ⟨rfl, A3, n3, c3, ⟨hI3.out.1, hI3.out.2.1.mono (ext_alloc (ext_refl w) _)⟩, fun U hU h1 => hP3.out U (ext_alloc hU _) h1 hU.size⟩
  case h => simp [results, Tryz.results113, go_sem]
end Go.Proofs.YtchchnohmmncfaaGreatDoor.NB
end
section
/- (The document's library.) Whole numbers of the library's: powers. -/

namespace Go.Proofs.YtchchnohmmncfaaGreatDoor.NB
open Go.RowKit
attribute [local go_sem] sz2 sz3 sz4 sz5 sz6 sz7 sz8
set_option maxHeartbeats 4000000
set_option maxRecDepth 100000
attribute [local irreducible] Calls
theorem bi_Exp (b bx b2 : Nat) (B e : Nat) (hB : 1 ≤ B) (he0 : 1 ≤ e) (he : e < 4294967296) (A : Option Addr) (n c : Nat) (D : Option Addr) (m d : Nat) (hL : (lim (B ^ e)).length ≤ 20000) (hn : n ≤ 1000000) (w : World) (hr : Room w b 0) (hx : IntIs w bx 0 (B : Int) A n c) (hy : IntIs w b2 0 (e : Int) D m d) :
    Calls Tryz.prog 81 #[.pointer (some ⟨b, 0, none⟩), .pointer (some ⟨bx, 0, none⟩), .pointer (some ⟨b2, 0, none⟩), .pointer none] w (IPost w b 0 (B ^ e : Nat)) := by
  have HX := Lib.hid hx
  have HY := Lib.hid hy
  have HR := Lib.hid hr
  have HL := Lib.hid hL
  have lb := hr.lt
  have ly := hy.room.lt
  have y1 := hy.words
  simp only [Nat.zero_add] at y1
  have hm1 : m = 1 := by
    have h1 := hy.rd.len
    rw [Int.natAbs_natCast, lim_pos (by omega), Nat.div_eq_of_lt he, lim_zero] at h1
    simpa using h1.symm
  subst hm1
  have hsg : Hid ((e : Int).sign = 1) := Lib.hid (Int.sign_eq_one_of_pos (by omega))
  have kS : ∀ w', Ext w w' → Calls Tryz.prog 66 #[.pointer (some ⟨b2, 0, none⟩)] w' fun e w'' => e = .returned (.int .i64 1) ∧ Ext w' w'' := fun w' he => by
    have := bi_Sign b2 0 (e : Int) D 1 d w' (HY.out.ext he)
    rwa [hsg.out] at this
  clear hx hy hr hL
  go_enter Tryz.func81, Tryz.ntmps81
  go_upto_region 7 with (first
    | (go_at_call 25; (with_reducible refine (bi_NewInt 1 (by decide) (by decide) _).mono ?_); rintro e w1 ⟨p1, P1, k1, l1, rfl, hI1, hp1, xb1⟩)
    | (go_at_call 45; (with_reducible refine (bi_Set w1.heap.size 0 bx 0 A n c (B : Int) hn _ (int_room w1) ((HX.out.ext (ext_trans (ext_alloc (ext_refl _) _) xb1)).ext (ext_alloc (ext_refl _) _))).mono ?_); rintro e w2 ⟨rfl, A2, n2, c2, hI2, xt2⟩)
   )
  have hE1 : Ext w w1 := ext_trans (ext_alloc (ext_refl _) _) xb1
  have hE2 : Hid (Ext w w2) := Lib.hid (xt2.ext (ext_alloc hE1 _) hE1.size)
  have hz1 : w.heap.size < w1.heap.size := by have := xb1.size; simp at this; omega
  have hp1' : w.heap.size + 1 ≤ p1 := by simpa using hp1
  have hlp1 : p1 < w1.heap.size := hI1.out.1.room.lt
  have hz2 : w1.heap.size + 1 ≤ w2.heap.size := by have := xt2.size; simpa using this
  have HI1 : Hid (IntIs w2 p1 0 1 P1 k1 l1) := Lib.hid ((hI1.out.1.ext (ext_alloc (ext_refl _) _)).tch xt2 (by omega) (hI1.out.1.rd.off (Nat.le_refl _)))
  have hby : w2.cell? ⟨w.heap.size, 1, none⟩ = some (.slice none 0 0) := by
    rw [xt2.cell (by simp; omega) (by simp; omega)]
    rw [(Below.cell (p := ⟨w.heap.size, 1, none⟩) (ext_alloc (ext_refl w1) _) (by simp; omega))]
    rw [(Below.cell (p := ⟨w.heap.size, 1, none⟩) xb1 (by simp))]
    rw [World.cell?_alloc_at _ _ _ _ rfl]; rfl
  have hfA2 : Off A2 n2 p1 := hI2.out.2.off (by simp; omega) n2
  have HI2 := Lib.hid (And.intro hI2.out.1 hfA2)
  clear hI1 hI2 xt2 xb1 hp1 hE1
  have g1 : w2.cell? ⟨b2, 1, none⟩ = some (.slice D 1 d) := (Below.cell (p := ⟨b2, 1, none⟩) hE2.out ly).trans y1
  have lb2 := ext_lt hE2.out _ ly
  have lw2 : w.heap.size < w2.heap.size := by omega
  clear y1
  go_upto_region 12 with (first
    | (go_at_call 66; (with_reducible refine (kS _ hE2.out).mono ?_); rintro e w3 ⟨rfl, xb3⟩; obtain ⟨xc3, xf3, xl3, xz3⟩ := ext_use xb3; (try simp at xz3); obtain ⟨l3_0, gc, gf⟩ := kp xb3 (b2) (by first | omega | (simp; try omega)); have r3_0 := gc 0; have f3_0 := gf 0; have r3_0_1 := gc 1; have f3_0_1 := gf 1; clear gc gf; obtain ⟨l3_1, gc, gf⟩ := kp xb3 (w.heap.size) (by first | omega | (simp; try omega)); have r3_1 := gc 0; have f3_1 := gf 0; have r3_1_1 := gc 1; have f3_1_1 := gf 1; clear gc gf)
    | (go_at_call 78; (with_reducible refine (bw_copied D 1 d (lim e) (by decide) _ ((HY.out.rd.ext hE2.out).ext xb3)).mono ?_); rintro e' w4 ⟨rfl, hR4, xb4⟩)
   )
  have hE34 : Hid (Ext w2 w4) := Lib.hid (ext_trans xb3 xb4)
  have hby4 : w4.cell? ⟨w.heap.size, 1, none⟩ = some (.slice none 0 0) := (Below.cell (p := ⟨w.heap.size, 1, none⟩) hE34.out lw2).trans hby
  have lw4 := ext_lt hE34.out _ lw2
  have hfr4 : Fr w2 (some ⟨w3.heap.size, 0, none⟩) := fun a ha => by cases ha; exact xb3.size
  have lp2 : p1 < w2.heap.size := by omega
  have hOw := hfr4.off lp2 1
  have hI4 := Lib.hid (And.intro (HI1.out.ext hE34.out) (HI2.out.1.ext hE34.out))
  have HOW := Lib.hid hOw
  have hE4 : Hid (Ext w w4) := Lib.hid (ext_trans hE2.out hE34.out)
  have hby0 : Hid (b ≠ p1 ∧ w.heap.size ≠ p1 ∧ w1.heap.size ≠ p1) := Lib.hid ⟨by omega, by omega, by omega⟩
  have HFA := Lib.hid hfA2
  clear xb3 xb4 hby hfr4 hOw hfA2 HI1 HI2 g1 hE34 hz1 hz2 xc3 xf3 xl3 xz3 l3_0 r3_0 f3_0 r3_0_1 f3_0_1 l3_1 r3_1 f3_1 r3_1_1 f3_1_1
  have hwc : w4.cell? ⟨w3.heap.size, 0, none⟩ = some (.int .u32 (e : Int)) := by
    obtain ⟨x, h1, _, h2⟩ := hR4.out.get 0 (by omega)
    have h3 := h1.out
    rw [lim_pos (by omega), Nat.mod_eq_of_lt he] at h3
    simp at h3
    rw [h3]; simpa using h2
  have hlw3 : w3.heap.size < w4.heap.size := World.block_lt_of_cell? w4 _ hwc
  have hpw : w3.heap.size ≠ p1 := by
    have := HOW.out _ rfl (by decide)
    simpa using this
  obtain ⟨gb, hgb⟩ : ∃ gb, gb = w1.heap.size := ⟨_, rfl⟩
  obtain ⟨gw, hgw⟩ : ∃ gw, gw = w3.heap.size := ⟨_, rfl⟩
  rw [← hgb] at hI4 hby0 ⊢
  rw [← hgw] at hwc hlw3 hpw ⊢
  have hby1 := Lib.hid (And.intro hby0.out hpw)
  have HC4 := Lib.hid (And.intro hby4 hwc)
  have hlp4 : p1 < w4.heap.size := hI4.out.1.room.lt
  have hlb4 : gb < w4.heap.size := hI4.out.2.room.lt
  have hpw1 : w.heap.size ≤ p1 := by omega
  clear hgb hgw hby4 hwc hby0 hpw HOW hR4 hlp1 hE2 lb2 lw2 lp2 hp1'
  go_wp2
  go_loopg [13] 32 (fun j vi wr => ∃ (x : Nat) (A : Option Addr) (n c : Nat), j ≤ 32 ∧ vi = .int .i64 ((j : Int) - 1) ∧ Hid (x = B ^ (e / 2 ^ j)) ∧ Hid (IntIs wr p1 0 (x : Int) A n c) ∧ Hid (IntIs wr gb 0 (B : Int) A2 n2 c2) ∧
      Hid (wr.cell? ⟨w.heap.size, 1, none⟩ = some (.slice none 0 0) ∧ wr.cell? ⟨gw, 0, none⟩ = some (.int .u32 (e : Int))) ∧ w4.heap.size ≤ wr.heap.size ∧ Hid (Ext w wr))
  case atStart => exact ⟨1, P1, k1, l1, Nat.le_refl _, rfl, Lib.hid (by rw [Nat.div_eq_of_lt (show e < 2 ^ 32 by omega)]; rfl), Lib.hid hI4.out.1, Lib.hid hI4.out.2, HC4, Nat.le_refl _, hE4⟩
  case round =>
    clear hI4 HC4 hE4
    obtain ⟨x, A, n, c, hj, rfl, hx, hI, hB', hC, hsz, hE⟩ := hrel
    by_cases h0 : 0 < gk
    · obtain ⟨i, rfl⟩ : ∃ i, gk = i + 1 := ⟨gk - 1, by omega⟩
      have e1 : ((i + 1 : Nat) : Int) - 1 = (i : Int) := by omega
      rw [e1]
      have hnl : n ≤ 20000 := by
        have h1 := hI.out.rd.len
        rw [Int.natAbs_natCast, hx.out] at h1
        have h2 := lim_mono (Nat.pow_le_pow_right hB (Nat.div_le_self e (2 ^ (i + 1))))
        have := HL.out
        omega
      have hsq : Calls Tryz.prog 32 #[.pointer (some ⟨p1, 0, none⟩), .pointer (some ⟨p1, 0, none⟩), .pointer (some ⟨p1, 0, none⟩)] wr (IPost wr p1 0 ((x * x : Nat) : Int)) := by
        have := bi_Mul p1 0 p1 0 p1 0 (x : Int) (x : Int) A n c A n c (by omega) (by omega) wr hI.out.room hI.out hI.out
        rwa [← Int.natCast_mul] at this
      go_upto_region 16 with (first
        | (go_at_call 32; (with_reducible refine hsq.mono ?_); rintro e' w5 ⟨rfl, A5, n5, c5, hI5, xt5⟩)
       )
      have hB5 := Lib.hid (hB'.out.tch xt5 hby1.out.1.2.2 HFA.out)
      have c51 : w5.cell? ⟨w.heap.size, 1, none⟩ = some (.slice none 0 0) := (xt5.cell (by simp; omega) hby1.out.1.2.1).trans hC.out.1
      have c52 : w5.cell? ⟨gw, 0, none⟩ = some (.int .u32 (e : Int)) := (xt5.cell (by simp; omega) hby1.out.2).trans hC.out.2
      have hsz5 : w4.heap.size ≤ w5.heap.size := Nat.le_trans hsz xt5.size
      have hE5 : Hid (Ext w w5) := Lib.hid (xt5.ext hE.out hpw1)
      have hlw5 : gw < w5.heap.size := by omega
      have hlz5 : w.heap.size < w5.heap.size := by have := World.block_lt_of_cell? w5 _ c51; exact this
      have hi0 : (i : Int) / 32 = 0 := by omega
      have hi1 : (i : Int) % 32 = (i : Int) := by omega
      have hst : Hid (x * x * B ^ (e / 2 ^ i % 2) = B ^ (e / 2 ^ i)) := Lib.hid (by rw [hx.out]; exact (pow_halves B e i).symm)
      have hsh : e / 2 ^ i < 4294967296 := Nat.lt_of_le_of_lt (Nat.div_le_self _ _) he
      have HT5 := Lib.hid xt5
      have hC5 := Lib.hid (And.intro c51 c52)
      have hml : n5 ≤ 100000 := by
        have h1 := hI5.out.1.rd.len
        rw [Int.natAbs_natCast] at h1
        have h2 : (lim (x * x)).length ≤ (lim (B ^ (e / 2 ^ i))).length := lim_mono (by
          rw [← hst.out]; exact Nat.le_mul_of_pos_right _ (Nat.pow_pos hB))
        have h3 := lim_mono (Nat.pow_le_pow_right hB (Nat.div_le_self e (2 ^ i)))
        have := HL.out
        omega
      have hbl : n2 ≤ 100000 := by
        have h1 := hB5.out.rd.len
        rw [Int.natAbs_natCast] at h1
        have h2 : B ≤ B ^ e := Nat.le_self_pow (by omega) B
        have h3 := lim_mono h2
        have := HL.out
        omega
      rcases (show e / 2 ^ i % 2 = 0 ∨ e / 2 ^ i % 2 = 1 by omega) with hbit | hbit
      · have hb1 := bit_u32 e i hsh hbit
        simp at hb1
        have HBIT := Lib.hid hbit
        clear hbit xt5 hsq hj h0
        go_wp2
        go_roundg i
        case rel => exact ⟨x * x, A5, n5, c5, by omega, rfl, Lib.hid (by rw [← hst.out, HBIT.out, Nat.pow_zero, Nat.mul_one]), Lib.hid hI5.out.1, hB5, hC5, hsz5, hE5⟩
        case measure => omega
      · have hb1 := bit_u32 e i hsh hbit
        simp at hb1
        have HBIT := Lib.hid hbit
        have hmb : Calls Tryz.prog 32 #[.pointer (some ⟨p1, 0, none⟩), .pointer (some ⟨p1, 0, none⟩), .pointer (some ⟨gb, 0, none⟩)] w5 (IPost w5 p1 0 ((x * x * B : Nat) : Int)) := by
          have := bi_Mul p1 0 p1 0 gb 0 ((x * x : Nat) : Int) (B : Int) A5 n5 c5 A2 n2 c2 hml hbl w5 hI5.out.1.room hI5.out.1 hB5.out
          rwa [← Int.natCast_mul] at this
        clear hbit xt5 hsq hj h0
        go_upto_region 18 with (first
          | (go_at_call 32; (with_reducible refine hmb.mono ?_); rintro e' w6 ⟨rfl, A6, n6, c6, hI6, xt6⟩)
         )
        have hB6 := Lib.hid (hB5.out.tch xt6 hby1.out.1.2.2 HFA.out)
        have c61 : w6.cell? ⟨w.heap.size, 1, none⟩ = some (.slice none 0 0) := (xt6.cell hlz5 hby1.out.1.2.1).trans hC5.out.1
        have c62 : w6.cell? ⟨gw, 0, none⟩ = some (.int .u32 (e : Int)) := (xt6.cell hlw5 hby1.out.2).trans hC5.out.2
        have hlz6 : w.heap.size < w6.heap.size := World.block_lt_of_cell? w6 _ c61
        have hsz6 : w4.heap.size ≤ w6.heap.size := Nat.le_trans hsz5 xt6.size
        have hE6 : Hid (Ext w w6) := Lib.hid (xt6.ext hE5.out hpw1)
        have hC6 := Lib.hid (And.intro c61 c62)
        clear c51 c52 xt6
        go_wp2
        go_roundg i
        case rel => exact ⟨x * x * B, A6, n6, c6, by omega, rfl, Lib.hid (by rw [← hst.out, HBIT.out, Nat.pow_one]), Lib.hid hI6.out.1, hB6, hC6, hsz6, hE6⟩
        case measure => omega
    · obtain rfl : gk = 0 := by omega
      have hxe : x = B ^ e := by rw [hx.out, Nat.pow_zero, Nat.div_one]
      have hnl : n ≤ 1000000 := by
        have h1 := hI.out.rd.len
        rw [Int.natAbs_natCast, hxe] at h1
        have := HL.out
        omega
      have kF := bi_Set b 0 p1 0 A n c (x : Int) hnl wr (HR.out.ext hE.out) hI.out
      have HXE := Lib.hid hxe
      clear hxe h0
      go_wp2_with (first
        | (go_at_call 45; (with_reducible refine kF.mono ?_); rintro e' w7 ⟨rfl, A7, n7, c7, hI7, xt7⟩)
       )
      refine bodyPost_ret (v := .pointer (some ⟨b, 0, none⟩)) ?h rfl ⟨rfl, A7, n7, c7, ⟨by have := hI7.out.1; rwa [HXE.out] at this, hI7.out.2.mono hE.out⟩, (Tch.of hE.out).trans xt7⟩
      case h => simp [results, Tryz.results81, go_sem]
end Go.Proofs.YtchchnohmmncfaaGreatDoor.NB
end
section
/- (The document's library.) Fractions of the library's: out of whole numbers; differences, quotients. -/

namespace Go.Proofs.YtchchnohmmncfaaGreatDoor.NB
open Go.RowKit
attribute [local go_sem] sz2 sz3 sz4 sz5 sz6 sz7 sz8
set_option maxHeartbeats 4000000
set_option maxRecDepth 100000
attribute [local irreducible] Calls
section
attribute [local go_sem] Oper.detAt detUpon relUpon
theorem bi_Setx (b o bx ox : Nat) (A : Option Addr) (n c : Nat) (z : Int) (hn : n ≤ 1000000) (w : World) (hr : Room w b o) (hx : IntIs w bx ox z A n c) :
    Calls Tryz.prog 45 #[.pointer (some ⟨b, o, none⟩), .pointer (some ⟨bx, ox, none⟩)] w fun e w' => e = .returned (.pointer (some ⟨b, o, none⟩)) ∧ ∃ (A : Option Addr) (n c : Nat), Hid (IntIs w' b o z A n c ∧ Fr w A) ∧ Tch b w w' ∧ Hid (∀ p, p ≠ o → p ≠ o + 1 → w'.cell? ⟨b, p, none⟩ = w.cell? ⟨b, p, none⟩ ∧ w'.frozen? ⟨b, p, none⟩ = w.frozen? ⟨b, p, none⟩) := by
  have HX := Lib.hid hx
  have HR := Lib.hid hr
  have lx := hx.room.lt
  have x0 := hx.neg
  have x1 := hx.words
  clear hx hr
  go_enter Tryz.func45, Tryz.ntmps45
  go_wp2
  refine wp_drawn_tail 10 (tab [(9, RWord w.heap.size z.natAbs)]) (by kernel_rfl) (by kernel_rfl) (by kernel_rfl) (tab_stays (by simp [stays_word])) (fun hq hqf => ?_)
  simp only [List.take_succ_cons, List.take_zero, List.drop_succ_cons, List.drop_zero]
  have y0 := fun nq => (hq nq bx ox lx).trans x0
  have y1 := fun nq => (hq nq bx (ox + 1) lx).trans x1
  iterate 9
    (refine wpK_det rfl (fun K hK => ?_)
     go_simp
     first
       | (refine hK _ ?_; clear hK K)
       | (apply Exists.intro; refine ⟨fun x => ?_, hK _ ?_⟩; (first | exact y0 x | exact y1 x | (simp [y0, y1]; rfl)); clear hK K))
  refine wpK_rel _ rfl rfl ?_ ?_
  · rintro _ ⟨nn, rfl⟩ _
    unfold Oper.relAt
    go_simp
    exact rel_copied _ _ _ _ _ hn _ _ (ext_size nn.use) (HX.out.rd.ext nn.use)
  rintro v ⟨_, ⟨nn, rfl⟩, hr⟩
  obtain ⟨A9, k9, c9, rfl, -, -⟩ := hr
  clear nn
  refine wpK_nil ?_
  intro nq2 hG
  have r9 : RWord w.heap.size z.natAbs [] (.slice A9 k9 c9) nq2.out := by have := hG.fact 9; simp [Facts.put] at this; exact this
  have hR9 := Lib.hid (rword_at r9)
  have hF9 : Fr w A9 := hR9.out.2
  have hO9 := hF9.off HR.out.lt k9
  clear r9 hG
  go_wp2_with (first
    | (go_at_call 63; (with_reducible refine (bi_setx b o _ A9 k9 c9 z.natAbs _ (HR.out.ext nq2.use) hR9.out.1 hO9).mono ?_); rintro e w3 ⟨rfl, hI3, xt3, hP3⟩)
   )
  refine bodyPost_ret (v := .pointer (some ⟨b, o, none⟩)) ?h rfl ⟨rfl, A9, k9, c9, ⟨by have := hI3.out; rwa [sgn_self] at this, hF9⟩, (Tch.of nq2.use).trans xt3, Lib.hid fun p h1 h2 => ⟨(hP3.out p h1 h2).1.trans (Below.cell (p := ⟨b, p, none⟩) nq2.use HR.out.lt), (hP3.out p h1 h2).2.trans (Below.frozen (p := ⟨b, p, none⟩) nq2.use HR.out.lt)⟩⟩
  case h => simp [results, Tryz.results45, go_sem]
end
section
attribute [local go_sem] D2.Oper.detAt D2.detUpon D2.relUpon
theorem br_Quo (g bx b2 : Nat) (x y : Int) (p q : Nat) (hy0 : y ≠ 0) (hxp : Nat.gcd x.natAbs (denOf p) = 1) (hyq : Nat.gcd y.natAbs (denOf q) = 1) (A : Option Addr) (n c : Nat) (D : Option Addr) (m e : Nat) (B : Option Addr) (n2 c2 : Nat) (C : Option Addr) (m2 e2 : Nat)
    (hn : n ≤ 100000) (hm : m ≤ 100000) (hn2 : n2 ≤ 100000) (hm2 : m2 ≤ 100000) (w : World) (hT : Tz w) (hr : RatRoom w g) (hx : RatIs w bx x A n c p D m e) (hy : RatIs w b2 y B n2 c2 q C m2 e2) :
    Calls Tryz.prog 84 #[.pointer (some ⟨g, 0, none⟩), .pointer (some ⟨bx, 0, none⟩), .pointer (some ⟨b2, 0, none⟩)] w
      (FPost w g (canN (sgn (!(decide (x < 0) == decide (y < 0))) (x.natAbs * denOf q : Nat)) (denOf p * y.natAbs)) (canW (sgn (!(decide (x < 0) == decide (y < 0))) (x.natAbs * denOf q : Nat)) (denOf p * y.natAbs))) := by
  have HX := Lib.hid hx
  have HY := Lib.hid hy
  have HR := Lib.hid hr
  have HT := Lib.hid hT
  have lx := hx.int.room.lt
  have x0 := hx.int.neg
  have x1 := hx.int.words
  have ly := hy.int.room.lt
  have y0 := hy.int.neg
  have y1 := hy.int.words
  simp only [Nat.zero_add] at x1 y1
  have dl := den_len hx hm (by decide)
  have dl2 := den_len hy hm2 (by decide)
  have kX : ∀ w', Ext w w' → Calls Tryz.prog 75 #[.pointer (some ⟨bx, 0, none⟩)] w' fun e' w'' => ∃ (B : Option Addr) (k l : Nat), e' = .returned (.slice B k l) ∧ Hid (Rd w'' B k l (lim (denOf p))) ∧ Ext w' w'' := fun w' he => (br_below _ _ _ _ _ _ _ _ _ w' (HX.out.ext he)).mono fun _ _ ⟨B, k, l, h1, h2, h3⟩ => ⟨B, k, l, h1, h2.out.1, h3⟩
  have kY : ∀ w', Ext w w' → Calls Tryz.prog 75 #[.pointer (some ⟨b2, 0, none⟩)] w' fun e' w'' => ∃ (B : Option Addr) (k l : Nat), e' = .returned (.slice B k l) ∧ Hid (Rd w'' B k l (lim (denOf q))) ∧ Ext w' w'' := fun w' he => (br_below _ _ _ _ _ _ _ _ _ w' (HY.out.ext he)).mono fun _ _ ⟨B, k, l, h1, h2, h3⟩ => ⟨B, k, l, h1, h2.out.1, h3⟩
  have kT : ∀ w' P k l Q k2 l2, Ext w w' → Rd w' P k l (lim (denOf p)) → Rd w' Q k2 l2 (lim (denOf q)) → Calls Tryz.prog 117 #[.pointer (some ⟨g, 0, none⟩), .bool (!(decide (x < 0) == decide (y < 0))), .slice A n c, .slice P k l, .slice Q k2 l2, .slice B n2 c2] w' (FPost w g (canN (sgn (!(decide (x < 0) == decide (y < 0))) (x.natAbs * denOf q : Nat)) (denOf p * y.natAbs)) (canW (sgn (!(decide (x < 0) == decide (y < 0))) (x.natAbs * denOf q : Nat)) (denOf p * y.natAbs))) := fun w' P k l Q k2 l2 he h1 h2 => by
    have := br_timesX g (!(decide (x < 0) == decide (y < 0))) A P Q B n c k l k2 l2 n2 c2 _ _ _ _ (denOf_ne p) (by omega) hxp (by rw [Nat.gcd_comm]; exact hyq) hn (by rw [← h1.len]; exact dl) (by rw [← h2.len]; exact dl2) hn2 w' (HT.out.ext he) (HR.out.ext he) (HX.out.int.rd.ext he) h1 h2 (HY.out.int.rd.ext he)
    refine this.mono ?_
    rintro e w'' ⟨rfl, A', n', c', D', m', k', h3, h4⟩
    exact ⟨rfl, A', n', c', D', m', k', ⟨h3.out.1, h3.out.2.1.mono he, h3.out.2.2.mono he⟩, (Tch.of he).trans h4⟩
  clear hx hy hr hT
  go_enter Tryz.func84, Tryz.ntmps84
  go_wp2
  refine D2.wp_drawn_tail 26 (D2.tab [(18, D2.RRow (denOf p)), (20, D2.RRow (denOf q))]) (by kernel_rfl) (by kernel_rfl) (by kernel_rfl) (D2.tab_stays (by simp [D2.stays_row])) (fun hq hqf => ?_)
  simp only [List.take_succ_cons, List.take_zero, List.drop_succ_cons, List.drop_zero]
  have z0 := fun nq => (hq nq bx 0 lx).trans x0
  have z1 := fun nq => (hq nq bx 1 lx).trans x1
  have z2 := fun nq => (hq nq b2 0 ly).trans y0
  have z3 := fun nq => (hq nq b2 1 ly).trans y1
  iterate 18
    (refine D2.wpK_det rfl (fun K hK => ?_)
     go_simp
     first
       | (refine hK _ ?_; clear hK K)
       | (apply Exists.intro; refine ⟨fun x => ?_, hK _ ?_⟩; (first | exact z0 x | exact z1 x | exact z2 x | exact z3 x); clear hK K))
  refine D2.wpK_rel _ rfl rfl ?_ ?_
  · rintro _ ⟨nn, rfl⟩ _
    unfold D2.Oper.relAt
    go_simp
    exact D2.rel_row (kX _ nn.use)
  rintro v ⟨_, ⟨nn, rfl⟩, hr⟩
  obtain ⟨A5, k5, c5, rfl, -⟩ := hr
  clear nn
  iterate 1
    (refine D2.wpK_det rfl (fun K hK => ?_)
     go_simp
     first
       | (refine hK _ ?_; clear hK K)
       | (apply Exists.intro; refine ⟨fun x => ?_, hK _ ?_⟩; (first | exact z0 x | exact z1 x | exact z2 x | exact z3 x); clear hK K))
  refine D2.wpK_rel _ rfl rfl ?_ ?_
  · rintro _ ⟨nn, rfl⟩ _
    unfold D2.Oper.relAt
    go_simp
    exact D2.rel_row (kY _ nn.use)
  rintro v ⟨_, ⟨nn, rfl⟩, hr⟩
  obtain ⟨A6, k6, c6, rfl, -⟩ := hr
  clear nn
  iterate 5
    (refine D2.wpK_det rfl (fun K hK => ?_)
     go_simp
     first
       | (refine hK _ ?_; clear hK K)
       | (apply Exists.intro; refine ⟨fun x => ?_, hK _ ?_⟩; (first | exact z0 x | exact z1 x | exact z2 x | exact z3 x); clear hK K))
  refine D2.wpK_nil ?_
  intro nq hG
  have r5 : D2.RRow (denOf p) [] (.slice A5 k5 c5) nq.out := by have := hG.fact 18; simp [D2.Facts.put] at this; exact this
  have r6 : D2.RRow (denOf q) [] (.slice A6 k6 c6) nq.out := by have := hG.fact 20; simp [D2.Facts.put] at this; exact this
  have hR5 := Lib.hid (D2.row_at r5)
  have hR6 := Lib.hid (D2.row_at r6)
  have hE := Lib.hid nq.use
  clear r5 r6 hG
  go_wp2_with (first
    | (go_at_call 117; (with_reducible refine (kT _ A5 k5 c5 A6 k6 c6 hE.out hR5.out hR6.out).mono ?_); rintro e w9 ⟨rfl, A9, n9, c9, D9, m9, k9, hI9, xt9⟩)
   )
  refine bodyPost_ret (v := .pointer (some ⟨g, 0, none⟩)) ?h rfl ⟨rfl, A9, n9, c9, D9, m9, k9, hI9, xt9⟩
  case h => simp [results, Tryz.results84, go_sem]
end
theorem br_Sub (g bx b2 : Nat) (x y : Int) (p q : Nat) (hxp : Nat.gcd x.natAbs (denOf p) = 1) (hyq : Nat.gcd y.natAbs (denOf q) = 1) (A : Option Addr) (n c : Nat) (D : Option Addr) (m e : Nat) (B : Option Addr) (n2 c2 : Nat) (C : Option Addr) (m2 e2 : Nat)
    (hn : n ≤ 50000) (hm : m ≤ 50000) (hn2 : n2 ≤ 50000) (hm2 : m2 ≤ 50000) (w : World) (hT : Tz w) (hr : RatRoom w g) (hx : RatIs w bx x A n c p D m e) (hy : RatIs w b2 y B n2 c2 q C m2 e2) (hoD : Off D m g) (hoC : Off C m2 g) :
    Calls Tryz.prog 114 #[.pointer (some ⟨g, 0, none⟩), .pointer (some ⟨bx, 0, none⟩), .pointer (some ⟨b2, 0, none⟩)] w
      (FPost w g (canN (x * denOf q - y * denOf p) (denOf p * denOf q)) (canW (x * denOf q - y * denOf p) (denOf p * denOf q))) := by
  have k := br_added true g bx b2 x y p q hxp hyq A n c D m e B n2 c2 C m2 e2 hn hm hn2 hm2 w hT hr hx hy hoD hoC
  simp only [if_true] at k
  rw [show x * (denOf q : Int) + -y * (denOf p : Int) = x * denOf q - y * denOf p by rw [Int.neg_mul]; rfl] at k
  generalize canN (x * denOf q - y * denOf p) (denOf p * denOf q) = ZN at k ⊢
  generalize canW (x * denOf q - y * denOf p) (denOf p * denOf q) = ZD at k ⊢
  clear hT hr hx hy hoD hoC hxp hyq
  go_enter Tryz.func114, Tryz.ntmps114
  go_wp2_with (first
    | (go_at_call 135; (with_reducible refine k.mono ?_); rintro e w9 ⟨rfl, A9, n9, c9, D9, m9, k9, hI9, xt9⟩)
   )
  refine bodyPost_ret (v := .pointer (some ⟨g, 0, none⟩)) ?h rfl ⟨rfl, A9, n9, c9, D9, m9, k9, hI9, xt9⟩
  case h => simp [results, Tryz.results114, go_sem]
theorem br_SetInt (g bx : Nat) (z : Int) (A : Option Addr) (n c : Nat) (hn : n ≤ 1000000) (w : World) (hr : RatRoom w g) (hx : IntIs w bx 0 z A n c) :
    Calls Tryz.prog 20 #[.pointer (some ⟨g, 0, none⟩), .pointer (some ⟨bx, 0, none⟩)] w (FPost w g z 0) := by
  have HR := Lib.hid hr
  have kS := bi_Setx g 0 bx 0 A n c z hn w hr.int hx
  have hlt := hr.int.lt
  obtain ⟨v2, h2⟩ := hr.c2
  have f2 := hr.f2
  clear hx hr
  go_enter Tryz.func20, Tryz.ntmps20
  go_wp2_with (first
    | (go_at_call 45; (with_reducible refine kS.mono ?_); rintro e w3 ⟨rfl, A3, n3, c3, hI3, xt3, hP3⟩; have g2 := (hP3.out 2 (by decide) (by decide)).1.trans h2; have g3 := (hP3.out 2 (by decide) (by decide)).2.trans f2; have g4 := hI3.out.1.room.lt; have HT3 := Lib.hid xt3; clear xt3)
   )
  have hM := Lib.hid (rat_made (D := none) (m := 0) (k := 0) (d := 0) hI3.out.1 ⟨_, g2⟩ g3 (by rw [lim_zero]; exact Rd.nil w3) (fun x hx => by cases hx))
  refine bodyPost_ret (v := .pointer (some ⟨g, 0, none⟩)) ?h rfl ⟨rfl, A3, n3, c3, none, 0, 0, ⟨hM.out, hI3.out.2, fun a ha => by cases ha⟩, HT3.out.set _ _⟩
  case h => simp [results, Tryz.results20, go_sem]
theorem br_SetInt64 (g : Nat) (x : Int) (h1 : -9223372036854775808 ≤ x) (h2 : x ≤ 9223372036854775807) (w : World) (hr : RatRoom w g) :
    Calls Tryz.prog 76 #[.pointer (some ⟨g, 0, none⟩), .int .i64 x] w (FPost w g x 0) := by
  have HR := Lib.hid hr
  have kS : ∀ (b : Nat) (A : Option Addr) (n c : Nat) (w' : World), Ext w w' → IntIs w' b 0 x A n c → Calls Tryz.prog 20 #[.pointer (some ⟨g, 0, none⟩), .pointer (some ⟨b, 0, none⟩)] w' (FPost w' g x 0) := fun b A n c w' he hI => by
    have h3 := hI.rd.len
    have h4 : (lim x.natAbs).length ≤ 2 := lim_le (by show x.natAbs < 4294967296 ^ 2; omega)
    exact br_SetInt g b x A n c (by omega) w' (HR.out.ext he) hI
  clear hr
  go_enter Tryz.func76, Tryz.ntmps76
  go_wp2_with (first
    | (go_at_call 25; (with_reducible refine (bi_NewInt x h1 h2 _).mono ?_); rintro e w1 ⟨p1, P1, k1, l1, rfl, hI1, hp1, xb1⟩)
    | (go_at_call 20; (with_reducible refine (kS _ _ _ _ _ xb1 hI1.out.1).mono ?_); rintro e w9 ⟨rfl, A9, n9, c9, D9, m9, k9, hI9, xt9⟩)
   )
  refine bodyPost_ret (v := .pointer (some ⟨g, 0, none⟩)) ?h rfl ⟨rfl, A9, n9, c9, D9, m9, k9, ⟨hI9.out.1, hI9.out.2.1.mono xb1, hI9.out.2.2.mono xb1⟩, (Tch.of xb1).trans xt9⟩
  case h => simp [results, Tryz.results76, go_sem]
end Go.Proofs.YtchchnohmmncfaaGreatDoor.NB
end
