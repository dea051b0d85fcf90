/- Lemmas of this proof, laid together: DbI. -/
import Derived.Test.YtiapoflkeliljaaGreatDoorMg33
import Derived.Test.YtiapoflkeliljaaGreatDoorMg28
import Derived.Test.YtiapoflkeliljaaGreatDoorMg25
set_option linter.unusedSimpArgs false
set_option linter.unusedVariables false
section
/- DecBack: the walk joined. -/
namespace Go.Proofs.YtiapoflkeliljaaGreatDoor
open Go.RowKit
set_option maxHeartbeats 4000000
set_option maxRecDepth 100000
theorem tz_back (w : World) (h : laidMetH Tryz.prog Rows.decBackRow.laid w) : Tz w := by
  rw [MakeChecks.laidMetH_plain _ _ _ (by kernel_rfl)] at h
  have e : (Rows.decBackRow.laid : List (String × DataW Unit)) = ("math/bits.deBruijn32tab", Lib.tabData .u8 tzTab) :: ("unicode/utf8.acceptRanges", Rows.laid_unicode_utf8_acceptRanges) :: ("unicode/utf8.first", Rows.laid_unicode_utf8_first) :: [] := by kernel_rfl
  rw [e] at h
  exact tz_met _ w h
attribute [local irreducible] Calls
/-- How long a decimal's fraction is. -/
theorem dz_roomB {d : Dc} (hd : dcE d = 0) (hl : d.dig.length ≤ 800) (he : d.exp ≤ 1500) : (lim (canN (dz d) (dp d)).natAbs).length ≤ 4000 := by
  obtain ⟨N, hN⟩ : ∃ N : Nat, N = 800 := ⟨_, rfl⟩
  refine lim_fits (n := N + d.exp.toNat) ?_ (by omega) (by decide)
  refine Nat.le_trans (canN_le _ _) ?_
  unfold dz
  rw [sgn_abs, Nat.pow_add]
  exact Nat.mul_le_mul_right _ (Nat.le_of_lt (Nat.lt_of_lt_of_le (dval_lt _ (dc_digs hd)) (Nat.pow_le_pow_right (by decide) (by omega))))
theorem den_small {P e : Nat} (h : P ∣ 10 ^ e) (he : e ≤ 1500) : (lim P).length ≤ 200 := by
  have h1 : P ≤ 10 ^ e := Nat.le_of_dvd (Nat.pow_pos (by decide)) h
  refine lim_le (Nat.lt_of_le_of_lt h1 ?_)
  obtain ⟨K, hK⟩ : ∃ K : Nat, K = 190 := ⟨_, rfl⟩
  have h2 : (10 : Nat) ^ e ≤ 10 ^ (9 * K) := Nat.pow_le_pow_right (by decide) (by omega)
  have h3 : (10 : Nat) ^ (9 * K) < Bs ^ 200 := by
    rw [Nat.pow_mul]
    exact Nat.lt_of_le_of_lt (Nat.pow_le_pow_left (show 10 ^ 9 ≤ Bs by decide) K) (Nat.pow_lt_pow_right (by decide) (by omega))
  exact Nat.lt_of_le_of_lt h2 h3
/-- Of the second fraction: three kinds of answer. -/
theorem second (neg : Bool) (A : Option Addr) (n c : Nat) (xs : List Nat) (D : Option Addr) (m k : Nat) (ys : List Nat) (hm : m ≤ 20) (w : World) (hT : Tz w) (hA : Rd w A n c xs) (hD : Rd w D m k ys) :
    (∃ ee : Int, ∀ w', Ext w w' → Calls Tryz.prog 58 #[ratV neg A n c D m k] w' fun e w'' => e = .returned (noDc ee) ∧ Ext w' w'') ∨
    (∃ (z : Dc) (a d : Nat), Rd w A n c (lim a) ∧ Rd w D m k (lim d) ∧ (∀ w', Ext w w' → Calls Tryz.prog 58 #[ratV neg A n c D m k] w' fun e w'' => e = .returned (.tuple #[dcV z, .bool true, .int .i64 0]) ∧ Ext w' w'') ∧
      (∀ w', Ext w w' → Calls Tryz.prog 57 #[dcV z] w' fun e w'' => ∃ (A : Option Addr) (n c : Nat) (D : Option Addr) (m k : Nat), e = .returned (.tuple #[ratV neg A n c D m k, .int .i64 0]) ∧ Hid (Rd w'' A n c (lim a) ∧ Rd w'' D m k (lim d)) ∧ Ext w' w'')) := by
  by_cases hok : RatOk neg xs ys
  · obtain ⟨h1, h2, h3, h4, h5⟩ := hok
    obtain ⟨l1, e1⟩ := chk_zero hA.lb h1
    obtain ⟨l2, e2⟩ := chk_zero hD.lb h2
    have hn : n ≤ 16384 := by rw [← hA.len]; exact l1
    rw [e1] at hA
    rw [e2] at hD
    obtain ⟨t, j, r, p1, p2, p3, p4, p5, p6, p7, p8⟩ := parts_of h3
    have kO := fun w' (he : Ext w w') => dof_any neg A n c (val xs) D m k (val ys) h3 hn (by omega) h4 h5 w' (hT.ext he) (hA.ext he) (hD.ext he) t j r p1 p2 p3 p4 p5 p6
    unfold ofV at kO
    have lD : (lim (val ys)).length ≤ 200 := by rw [hD.len]; omega
    have ht : t < 32 * 20 := twos_lt h3 p1 (by rw [hD.len]; exact hm)
    have hj : j < 32 * 20 := five_lt (fun e => by rw [e] at p2; simp at p2) p3 (Nat.le_trans (lim_mono (Nat.div_le_self _ _)) (by rw [hD.len]; exact hm))
    by_cases hr : r = 1
    · rw [if_neg (fun h => h hr)] at kO
      by_cases hl : 16384 < (lim (val xs * ofB t j)).length
      · rw [if_pos hl] at kO
        exact .inl ⟨4, kO⟩
      · rw [if_neg hl] at kO
        by_cases ha : val xs = 0
        · rw [if_pos ha] at kO
          refine .inr ⟨Dc.zero, val xs, val ys, hA, hD, kO, fun w' he => ?_⟩
          have hd1 : val ys = 1 := by rw [ha, Nat.gcd_zero_left] at h4; exact h4
          have hng : neg = false := by
            cases neg with
            | false => rfl
            | true => exact absurd ha (h5 rfl)
          have hR := dratio_wide Dc.zero (by decide) (by decide) (by decide) (by rw [show (lim (dz Dc.zero).natAbs).length = 0 by kernel_rfl]; decide) (fun _ => rfl) (fun h => absurd rfl h) w' (hT.ext he)
          rw [ha, hd1, hng]
          exact hR.mono fun e w'' ⟨A, n, c, D, m, k, g1, g2, g3⟩ => ⟨A, n, c, D, m, k, g1, ⟨g2.out.1, g2.out.2.2.1⟩, g3⟩
        · rw [if_neg ha] at kO
          by_cases hme : mkE (ofT (val xs) t j) (ofE (val xs) t j) = 0
          · rw [if_pos hme] at kO
            have hdd : val ys = 2 ^ t * 5 ^ j := by rw [p6, hr, Nat.mul_one]
            obtain ⟨z1, z2, z3, z4, z5, z6, z7, z8, z9⟩ := of_made neg ha hdd h4 (by omega) (by omega) (by omega) hme
            refine .inr ⟨_, val xs, val ys, hA, hD, kO, fun w' he => ?_⟩
            generalize mkD neg (ofT (val xs) t j) (ofE (val xs) t j) = z at *
            have pz : 0 < z.dig.length := List.length_pos_iff.2 z3
            have hR := dratio_wide z z1 (dc_ok z1 pz).len z4 z5 (fun h => absurd h z3) (fun _ => by have := dval_pos (dc_ok z1 pz).digs (dc_ok z1 pz).lead z3; omega) w' (hT.ext he)
            rw [z8, z9] at hR
            refine hR.mono fun e w'' ⟨A, n, c, D, m, k, g1, g2, g3⟩ => ⟨A, n, c, D, m, k, ?_, ?_, g3⟩
            · rw [g1, sgn_lt]
              have : (neg && decide (0 < val xs)) = neg := by rw [decide_eq_true (by omega)]; cases neg <;> rfl
              rw [this]
            · have g4 := g2.out
              rw [sgn_abs] at g4
              exact ⟨g4.1, g4.2.2.1⟩
          · rw [if_neg hme] at kO
            exact .inl ⟨_, kO⟩
    · rw [if_pos hr] at kO
      exact .inl ⟨0, kO⟩
  · exact .inl ⟨20, fun w' he => of_refused neg A n c D m k w' fun w'' he2 => ra_check_no neg A n c xs D m k ys hok w'' ((hT.ext he).ext he2) ((hA.ext he).ext he2) ((hD.ext he).ext he2)⟩
/-- Of the first decimal: what Of of Ratio answers. -/
theorem first_back (x : Dc) (hx : dcE x = 0) (hx0 : x.dig ≠ []) (hl : x.dig.length ≤ 800) (he : -1500 ≤ x.exp ∧ x.exp ≤ 1500) (w : World) (hT : Tz w)
    (A : Option Addr) (n c : Nat) (D : Option Addr) (m k : Nat) (hA : Rd w A n c (lim (canN (dz x) (dp x)).natAbs)) (hD : Rd w D m k (lim (canD (dz x) (dp x)))) :
    Calls Tryz.prog 58 #[ratV (decide (canN (dz x) (dp x) < 0)) A n c D m k] w fun e w'' => e = .returned (.tuple #[dcV x, .bool true, .int .i64 0]) ∧ Ext w w'' := by
  have hd0 : canD (dz x) (dp x) ≠ 0 := canD_pos (dp_ne x)
  obtain ⟨t, j, r, p1, p2, p3, p4, p5, p6, p7, p8⟩ := parts_of hd0
  obtain ⟨r1, t1, j1, b1, b2, b3, b4⟩ := of_back hx hx0 hl he p6 p7 p8
  have hdv : canD (dz x) (dp x) ∣ 10 ^ (-x.exp).toNat := by
    unfold canD dp
    exact Nat.div_dvd_of_dvd (Nat.gcd_dvd_right _ _)
  have hm : m ≤ 200 := by rw [← hD.len]; exact den_small hdv (by omega)
  have hn : n ≤ 16384 := by rw [← hA.len]; exact Nat.le_trans (dz_roomB hx hl he.2) (by decide)
  have kO := dof_any (decide (canN (dz x) (dp x) < 0)) A n c (canN (dz x) (dp x)).natAbs D m k (canD (dz x) (dp x)) hd0 hn hm (can_gcd (dp_ne x)) (fun h => by have := of_decide_eq_true h; omega) w hT hA hD t j r p1 p2 p3 p4 p5 p6
  unfold ofV at kO
  rw [if_neg (fun h => h r1), if_neg (by omega), if_neg b1, if_pos b3, b4] at kO
  exact kO
theorem walk_DecBack (x0 : Bool) (x1 : ByteArray) (x2 : Int) (x3 : Bool) (x4A : Option Addr) (x4l x4c : Nat) (x4 : List Nat) (x5A : Option Addr) (x5l x5c : Nat) (x5 : List Nat) (w : World) (hx1 : x1.size ≤ maxLen) (hx2 : -9223372036854775808 ≤ x2 ∧ x2 ≤ 9223372036854775807) (hx4 : Rd w x4A x4l x4c x4) (hx5 : Rd w x5A x5l x5c x5) (hL : laidMetH Tryz.prog Rows.decBackRow.laid w) :
    Calls Tryz.prog 12 #[.agg #[.bool x0, .string x1, .int .i64 x2], .agg #[.bool x3, .slice x4A x4l x4c, .slice x5A x5l x5c]] w fun e w' => e = .returned (.bool true) ∧ Ext w w' := by
  obtain ⟨l, rfl⟩ := bs_of x1
  rw [bs_size] at hx1
  unfold maxLen at hx1
  have hT := tz_back w hL
  clear hL
  have cl : ∀ w, Calls Tryz.prog 56 #[.agg #[.bool x0, .string (bs l), .int .i64 x2], .int .i64 800, .int .i64 1500] w fun x w' => x = .returned (.bool (decide (dcE ⟨x0, l, x2⟩ = 0 ∧ l.length ≤ 800 ∧ x2 ≤ 1500 ∧ -1500 ≤ x2))) ∧ Ext w w' := fun w => close_two x0 l x2 800 1500 hx1 (by decide) (by decide) w
  by_cases h1 : dcE ⟨x0, l, x2⟩ = 0 ∧ l.length ≤ 800 ∧ x2 ≤ 1500 ∧ -1500 ≤ x2
  · rw [decide_eq_true h1] at cl
    obtain ⟨ha, la, a1, a2⟩ := h1
    have kA := fun w' (he : Ext w w') => dratio_any ⟨x0, l, x2⟩ ha (by simp only; omega) (by simp only; omega) w' (hT.ext he)
    by_cases h0 : l = []
    · subst h0
      have e0 : x2 = 0 := dc_nil (d := ⟨x0, [], x2⟩) ha rfl
      subst e0
      have eN : canN (dz ⟨x0, [], 0⟩) (dp ⟨x0, [], 0⟩) = 0 := by rw [dz_nil rfl, canN_zero]
      have eD : canD (dz ⟨x0, [], 0⟩) (dp ⟨x0, [], 0⟩) = 1 := by rw [dz_nil rfl, show dp ⟨x0, [], 0⟩ = 1 from rfl]; decide
      rw [eN, eD] at kA
      have kO : ∀ (A : Option Addr) (n c : Nat) (D : Option Addr) (m k : Nat) (w' : World), Ext w w' → Rd w' A n c (lim (0 : Int).natAbs) → Rd w' D m k (lim 1) → Calls Tryz.prog 58 #[ratV (decide ((0 : Int) < 0)) A n c D m k] w' fun e w'' => e = .returned (.tuple #[.agg #[.bool false, .string (bs []), .int .i64 0], .bool true, .int .i64 0]) ∧ Ext w' w'' := by
        intro A n c D m k w' he hA hD
        have hm : m ≤ 200 := by rw [← hD.len, show (lim 1).length = 1 by kernel_rfl]; decide
        have hn : n ≤ 16384 := by rw [← hA.len, show (lim (0 : Int).natAbs).length = 0 by kernel_rfl]; decide
        have kO := dof_any false A n c 0 D m k 1 (by decide) hn hm (by decide) (fun h => by cases h) w' (hT.ext he) hA hD 0 0 1 (by decide) (by decide) (by decide) (by decide) (by decide) (by decide)
        have e1 : ¬ 16384 < (lim (0 * ofB 0 0)).length := by rw [Nat.zero_mul, lim_zero]; decide
        unfold ofV at kO
        rw [if_neg (by simp), if_neg e1, if_pos rfl] at kO
        exact kO
      by_cases hm : x5l ≤ 20
      · rcases second x3 x4A x4l x4c x4 x5A x5l x5c x5 hm w hT hx4 hx5 with ⟨ee, kF⟩ | ⟨z, a, d, hA, hD, kF, kB⟩
        · by_cases hee : ee = 0
          · subst hee
            exact back_nil_none x0 0 1 x3 x4A x4l x4c x5A x5l x5c (by omega) w hT cl kA kO kF
          · exact back_nil_err x0 0 1 ee (beq_eq_false_iff_ne.2 hee) x3 x4A x4l x4c x5A x5l x5c (by omega) w hT cl kA kO kF
        · exact back_nil_good x0 0 1 z.neg z.dig z.exp a d x3 x4A x4l x4c x5A x5l x5c (by omega) w hT cl kA kO hA hD kF kB
      · exact back_nil_long x0 0 1 x3 x4A x4l x4c x5A x5l x5c (by omega) w hT cl kA kO
    · have hle : l.isEmpty = false := nempty h0
      have kO := fun (A : Option Addr) (n c : Nat) (D : Option Addr) (m k : Nat) (w' : World) (he : Ext w w') => first_back ⟨x0, l, x2⟩ ha h0 la ⟨a2, a1⟩ w' (hT.ext he) A n c D m k
      by_cases hm : x5l ≤ 20
      · rcases second x3 x4A x4l x4c x4 x5A x5l x5c x5 hm w hT hx4 hx5 with ⟨ee, kF⟩ | ⟨z, a, d, hA, hD, kF, kB⟩
        · by_cases hee : ee = 0
          · subst hee
            exact back_yes_none x0 l x2 _ _ hle x3 x4A x4l x4c x5A x5l x5c (by omega) w hT cl kA kO kF
          · exact back_yes_err x0 l x2 _ _ hle ee (beq_eq_false_iff_ne.2 hee) x3 x4A x4l x4c x5A x5l x5c (by omega) w hT cl kA kO kF
        · exact back_yes_good x0 l x2 _ _ hle z.neg z.dig z.exp a d x3 x4A x4l x4c x5A x5l x5c (by omega) w hT cl kA kO hA hD kF kB
      · exact back_yes_long x0 l x2 _ _ hle x3 x4A x4l x4c x5A x5l x5c (by omega) w hT cl kA kO
  · rw [decide_eq_false h1] at cl
    by_cases hm : x5l ≤ 20
    · rcases second x3 x4A x4l x4c x4 x5A x5l x5c x5 hm w hT hx4 hx5 with ⟨ee, kF⟩ | ⟨z, a, d, hA, hD, kF, kB⟩
      · by_cases hee : ee = 0
        · subst hee
          exact back_no_none x0 l x2 x3 x4A x4l x4c x5A x5l x5c (by omega) w hT cl kF
        · exact back_no_err x0 l x2 ee (beq_eq_false_iff_ne.2 hee) x3 x4A x4l x4c x5A x5l x5c (by omega) w hT cl kF
      · exact back_no_good x0 l x2 z.neg z.dig z.exp a d x3 x4A x4l x4c x5A x5l x5c (by omega) w hT cl hA hD kF kB
    · exact back_no_long x0 l x2 x3 x4A x4l x4c x5A x5l x5c (by omega) w hT cl
end Go.Proofs.YtiapoflkeliljaaGreatDoor
end
