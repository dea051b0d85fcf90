/- Lemmas of this proof, laid together: ParO, D2F, D2G, D2H, OpsB, ScB, LhB, BkG. -/
import Derived.Test.YtchbefambnhjjaaGreatDoorMg31
import Derived.Test.YtchbefambnhjjaaGreatDoorMg29
import Derived.Deep.DeepCutAuto
import Derived.Deep.RegionWith
import Derived.Test.YtchbefambnhjjaaGreatDoorMg30
import Derived.Deep.LoopGhost
import Derived.Test.YtchbefambnhjjaaGreatDoorMg27
import Derived.Test.YtchbefambnhjjaaGreatDoorMg28
import Derived.Test.YtchbefambnhjjaaGreatDoorMg26
set_option linter.unusedSimpArgs false
set_option linter.unusedVariables false
section
/- A text is read: the program's answer and the document's, together. -/
namespace Go.Proofs.YtchbefambnhjjaaGreatDoor
open Go.RowKit
attribute [local go_sem] bs_size bs_extract bs_get bs_append bs_toList const_get
attribute [local go_sem] sz2 sz3 sz4 sz5 sz6 sz7 sz8
set_option maxHeartbeats 4000000
set_option maxRecDepth 100000
attribute [local irreducible] Calls
theorem RdO.nil (w : World) (Z : Option Addr) : RdO w none 0 0 [] Z := ⟨Rd.nil w, World.ownsRow_nil _ _ _ _, (fun a z h => by cases h), rfl⟩
theorem fr_none (w : World) : Fr w none := fun a h => by cases h
end Go.Proofs.YtchbefambnhjjaaGreatDoor
end
section
/- The document's fractions: sums, differences, products, quotients, order (written by mkd2f.py out of D2F.tpl). -/
namespace Go.Proofs.YtchbefambnhjjaaGreatDoor.NB
open Go.RowKit
attribute [local go_sem] sz2 sz3 sz4 sz5 sz6 sz7 sz8
set_option maxHeartbeats 4000000
set_option maxRecDepth 100000
attribute [local irreducible] Calls
abbrev DfPst (w : World) (s : Bool) (xs ys : List Nat) (E : Int) : Ending → World → Prop := fun e w' => ∃ F : FH, e = .returned (.tuple #[fV s F, .int .i64 E]) ∧ Hid (Rd w' F.A F.n F.c xs ∧ Rd w' F.D F.m F.k ys ∧ Fr w F.A ∧ Fr w F.D) ∧ Ext w w'
section
variable (s t : Bool) (A : Option Addr) (n c : Nat) (D : Option Addr) (m k : Nat) (B : Option Addr) (n2 c2 : Nat) (C : Option Addr) (m2 k2 : Nat) (w : World)
end
end Go.Proofs.YtchbefambnhjjaaGreatDoor.NB
end
section
/- The document's fractions: times powers. -/
namespace Go.Proofs.YtchbefambnhjjaaGreatDoor.NB
open Go.RowKit
attribute [local go_sem] sz2 sz3 sz4 sz5 sz6 sz7 sz8
set_option maxHeartbeats 4000000
set_option maxRecDepth 100000
attribute [local irreducible] Calls
theorem rd_far (b : Nat) (e : Int) (hb : 2 ≤ b) (hbl : b < 4294967296) (h1 : -9223372036854775808 ≤ e) (h2 : e ≤ 9223372036854775807) (r : Bool) (hr : (-300 ≤ e ∧ e ≤ 300 ∧ r = false) ∨ ((e > 4194304 ∨ e < -4194304) ∧ r = true)) (w : World) :
  Calls Tryz.prog 106 #[.int .u32 (b : Int), .int .i64 e] w fun x w' => x = .returned (.bool r) ∧ Ext w w' := by
 go_enter Tryz.func106, Tryz.ntmps106
 go_wp2
 go_loop [0, 5] (fun v u => ∃ c k : Nat, v = .int .u32 (c : Int) ∧ u = .int .i64 (k : Int) ∧ c < 4294967296 ∧ Hid (c * 2 ^ k ≤ b ∧ 1 ≤ c ∧ (1 ≤ k ∨ c = b)) ∧ k ≤ 32) (fun v _ => (intOf v).toNat)
 case atStart => exact ⟨b, 0, rfl, by go_num, hbl, ⟨by simp, by omega, .inr rfl⟩, by omega⟩
 case round =>
  obtain ⟨c, k, rfl, rfl, hc, hk, hk2⟩ := hrel
  obtain ⟨q1, q2, q3⟩ := hk.out
  by_cases h0 : 1 < c
  ·have hlt : decide ((1 : Int) < (c : Int)) = true := decide_eq_true (by omega)
   have hk31 : k < 32 := by
    have h3 : 2 ^ k ≤ b := Nat.le_trans (by have := Nat.mul_le_mul_right (2 ^ k) q2; omega) q1
    exact (Nat.pow_lt_pow_iff_right (show 1 < 2 by decide)).1 (Nat.lt_of_le_of_lt h3 hbl)
   have hq : Hid (c / 2 * 2 ^ (k + 1) ≤ b) := Lib.hid (Nat.le_trans (by rw [Nat.pow_succ, Nat.mul_comm (2 ^ k) 2, ← Nat.mul_assoc]; exact Nat.mul_le_mul_right _ (Nat.div_mul_le_self c 2)) q1)
   clear q1 q2 q3
   go_wp2
   exact ⟨⟨c / 2, k + 1, by rw [Int.natCast_ediv]; rfl, by go_num, by omega, ⟨hq.out, by omega, .inl (by omega)⟩, by omega⟩, by simp [intOf]; omega⟩
  ·obtain rfl : c = 1 := by omega
   have hlt : decide ((1 : Int) < ((1 : Nat) : Int)) = false := rfl
   have hk1 : 1 ≤ k := by omega
   have hk31 : k < 32 := (Nat.pow_lt_pow_iff_right (show 1 < 2 by decide)).1 (Nat.lt_of_le_of_lt (by omega) hbl)
   obtain ⟨K, hK⟩ : ∃ K : Nat, 2097152 / k = K := ⟨_, rfl⟩
   have hKi : (2097152 : Int) / (k : Int) = (K : Int) := by rw [← hK]; rfl
   have hK1 : 67650 ≤ K := by rw [← hK]; exact Nat.le_trans (show 67650 ≤ 2097152 / 31 by decide) (Nat.div_le_div_left (show k ≤ 31 by omega) (by omega))
   have hK2 : K ≤ 2097152 := by rw [← hK]; exact Nat.div_le_self _ _
   clear q1 q2 q3 hK
   have hc : (decide ((K : Int) < e) = false ∧ decide (e < -(K : Int)) = false ∧ r = false) ∨ (decide ((K : Int) < e) = true ∧ True ∧ r = true) ∨ (decide ((K : Int) < e) = false ∧ decide (e < -(K : Int)) = true ∧ r = true) := by
    rcases hr with ⟨r1, r2, r3⟩ | ⟨r1 | r1, r3⟩
    ·exact .inl ⟨decide_eq_false (by omega), decide_eq_false (by omega), r3⟩
    ·exact .inr (.inl ⟨decide_eq_true (by omega), trivial, r3⟩)
    ·exact .inr (.inr ⟨decide_eq_false (by omega), decide_eq_true (by omega), r3⟩)
   clear hr
   rcases hc with ⟨d1, d2, rfl⟩ | ⟨d1, d2, rfl⟩ | ⟨d1, d2, rfl⟩
   all_goals
    go_wp2
    go_ret
    exact ⟨rfl, jR _⟩
abbrev DwPst (w : World) (z : Int) : Ending → World → Prop := fun e w' => ∃ F : FH, e = .returned (fV (decide (z < 0)) F) ∧ Hid (Rd w' F.A F.n F.c (lim z.natAbs) ∧ Rd w' F.D F.m F.k (lim 1) ∧ Fr w F.A ∧ Fr w F.D) ∧ Ext w w'
theorem rd_Whole (z : Int) (h1 : -9223372036854775808 ≤ z) (h2 : z ≤ 9223372036854775807) (w : World) :
    Calls Tryz.prog 33 #[.int .i64 z] w (DwPst w z) := by
  have hl : (lim z.natAbs).length ≤ 3 := lim_le (by have : Bs ^ 3 = 79228162514264337593543950336 := by kernel_rfl
                                                    rw [this]; omega)
  have kS : Calls Tryz.prog 90 #[.pointer (some ⟨w.heap.size + 1, 0, none⟩), .int .i64 z] (newRat (w.alloc (Obj.cells #[.bool false, .slice none 0 0, .slice none 0 0] 32))) fun e w' => e = .returned (.pointer (some ⟨w.heap.size + 1, 0, none⟩)) ∧ ∃ (A : Option Addr) (n c : Nat) (D : Option Addr) (m k : Nat), Hid (RatIs w' (w.heap.size + 1) z A n c 0 D m k) ∧ Ext (w.alloc (Obj.cells #[.bool false, .slice none 0 0, .slice none 0 0] 32)) w' := by
    have h := br_SetInt64 (w.alloc (Obj.cells #[.bool false, .slice none 0 0, .slice none 0 0] 32)).heap.size z h1 h2 _ (room_rat (w.alloc (Obj.cells #[.bool false, .slice none 0 0, .slice none 0 0] 32)))
    have e0 : (w.alloc (Obj.cells #[.bool false, .slice none 0 0, .slice none 0 0] 32)).heap.size = w.heap.size + 1 := by simp
    rw [e0] at h
    refine h.mono ?_
    rintro e w' ⟨rfl, A, n, c, D, m, k, h3, h4⟩
    exact ⟨rfl, A, n, c, D, m, k, Lib.hid h3.out.1, h4.ext (jA (jR _) _) (by simp)⟩
  have kO : ∀ (A : Option Addr) (n c : Nat) (D : Option Addr) (m k : Nat) (w' : World), RatIs w' (w.heap.size + 1) z A n c 0 D m k → Calls Tryz.prog 52 #[.pointer (some ⟨w.heap.size + 1, 0, none⟩)] w' (UPost w' z 1) := fun A n c D m k w' h => by
    have e1 := h.int.rd.len
    have e2 := h.rd.len
    rw [lim_zero] at e2
    have e3 : (lim (denOf 0)).length = 1 := by kernel_rfl
    exact rd_Of (w.heap.size + 1) z A n c 0 D m k (by omega) (by simp at e2; omega) (by omega) w' h
  go_enter Tryz.func33, Tryz.ntmps33
  go_wp2_with (first
    | (go_at_call 90; (with_reducible refine (kS).mono ?_); rintro e w1 ⟨rfl, A1, n1, c1, D1, m1, k1, hR1, xb1⟩; obtain ⟨xc1, xf1, xl1, xz1⟩ := jU xb1; (try simp at xz1); obtain ⟨l1_0, r1_0, f1_0, r1_0_1, f1_0_1, r1_0_2, f1_0_2⟩ := kq3 xb1 (w.heap.size))
    | (go_at_call 52; (with_reducible refine (kO _ _ _ _ _ _ _ hR1.out).mono ?_); rintro e w2 ⟨A2, n2, c2, D2, m2, k2, rfl, hR2, xb2⟩; obtain ⟨xc2, xf2, xl2, xz2⟩ := jU xb2; (try simp at xz2); obtain ⟨l2_0, r2_0, f2_0, r2_0_1, f2_0_1, r2_0_2, f2_0_2⟩ := kq3 xb2 (w.heap.size))
   )
  have z0 : w2.cell? ⟨w.heap.size, 0, none⟩ = some (.bool false) := by simp [go_sem, *]
  have z1 : w2.cell? ⟨w.heap.size, 1, none⟩ = some (.slice none 0 0) := by simp [go_sem, *]
  have z2 : w2.cell? ⟨w.heap.size, 2, none⟩ = some (.slice none 0 0) := by simp [go_sem, *]
  have rl : w.heap.size < w2.heap.size := by assumption
  have n5 : ∀ a, A2 = some a → w.heap.size < a.block := fun a ha => by have := hR2.out.2.1 a ha; omega
  have n6 : ∀ a, D2 = some a → w.heap.size < a.block := fun a ha => by have := hR2.out.2.2.2 a ha; omega
  have hE : Ext w w2 := xcl
  obtain ⟨q0, q1, q2⟩ := set3 (b := w.heap.size) z0 z1 z2 (.bool (decide (z < 0))) (.slice A2 n2 c2) (.slice D2 m2 k2)
  have hal : Ext (((w2.setCell ⟨w.heap.size, 0, none⟩ (.bool (decide (z < 0)))).setCell ⟨w.heap.size, 1, none⟩ (.slice A2 n2 c2)).setCell ⟨w.heap.size, 2, none⟩ (.slice D2 m2 k2)) ((((w2.setCell ⟨w.heap.size, 0, none⟩ (.bool (decide (z < 0)))).setCell ⟨w.heap.size, 1, none⟩ (.slice A2 n2 c2)).setCell ⟨w.heap.size, 2, none⟩ (.slice D2 m2 k2)).alloc (Obj.cells #[.bool (decide (z < 0)), .slice A2 n2 c2, .slice D2 m2 k2] 32)) := jA (jR _) _
  have rl' : w.heap.size < (((w2.setCell ⟨w.heap.size, 0, none⟩ (.bool (decide (z < 0)))).setCell ⟨w.heap.size, 1, none⟩ (.slice A2 n2 c2)).setCell ⟨w.heap.size, 2, none⟩ (.slice D2 m2 k2)).heap.size := by simpa using rl
  have q0 := (Below.cell (p := ⟨w.heap.size, 0, none⟩) hal rl').trans q0
  have q1 := (Below.cell (p := ⟨w.heap.size, 1, none⟩) hal rl').trans q1
  have q2 := (Below.cell (p := ⟨w.heap.size, 2, none⟩) hal rl').trans q2
  refine bodyPost_ret (v := ratV (decide (z < 0)) A2 n2 c2 D2 m2 k2) ?h rfl ⟨⟨A2, n2, c2, D2, m2, k2⟩, rfl, ⟨(hR2.out.1.set3 n5 _ _ _).ext hal, (hR2.out.2.2.1.set3 n6 _ _ _).ext hal, fun a ha => Nat.le_of_lt (n5 a ha), fun a ha => Nat.le_of_lt (n6 a ha)⟩, jT (ext_set3 hE (Nat.le_refl _) _ _ _) hal⟩
  case h => simp [results, Tryz.results33, go_sem, q0, q1, q2]
end Go.Proofs.YtchbefambnhjjaaGreatDoor.NB
end
section
/- The document's fractions: times powers, case by case (written by mkd2h.py). -/
namespace Go.Proofs.YtchbefambnhjjaaGreatDoor.NB
open Go.RowKit
attribute [local go_sem] sz2 sz3 sz4 sz5 sz6 sz7 sz8
set_option maxHeartbeats 4000000
set_option maxRecDepth 100000
attribute [local irreducible] Calls
section
variable (s : Bool) (A : Option Addr) (n c : Nat) (D : Option Addr) (m k : Nat) (b : Nat) (e : Int) (w : World)
theorem sd_no (kC : ∀ w', Ext w w' → Calls Tryz.prog 27 #[ratV s A n c D m k] w' fun e w'' => e = .returned (.int .i64 20) ∧ Ext w' w'') :
  Calls Tryz.prog 47 #[ratV s A n c D m k, .int .u32 (b : Int), .int .i64 e] w (DfPst w false [] [] 20) := by
 go_enter Tryz.func47, Tryz.ntmps47
 go_wp2_with (first
  | (go_at_call 27; (with_reducible refine (kC _ xcl).mono ?_); rintro e w1 ⟨rfl, xb1⟩; obtain ⟨xc1, xf1, xl1, xz1⟩ := jU xb1; (try simp at xz1); obtain ⟨l1_0, r1_0, f1_0, r1_0_1, f1_0_1, r1_0_2, f1_0_2⟩ := kq3 xb1 (w.heap.size); obtain ⟨l1_1, r1_1, f1_1, r1_1_1, f1_1_1, r1_1_2, f1_1_2⟩ := kq3 xb1 (w.heap.size + 1))
  )
 have z0 : w1.cell? ⟨w.heap.size + 1, 0, none⟩ = some (.bool false) := by simp [go_sem, *]
 have z1 : w1.cell? ⟨w.heap.size + 1, 1, none⟩ = some (.slice none 0 0) := by simp [go_sem, *]
 have z2 : w1.cell? ⟨w.heap.size + 1, 2, none⟩ = some (.slice none 0 0) := by simp [go_sem, *]
 obtain ⟨q0, q1, q2⟩ := set3 (b := w.heap.size + 1) z0 z1 z2 (.bool false) (.slice none 0 0) (.slice none 0 0)
 have hEE : Ext w w1 := xcl
 refine bodyPost_ret (v := .tuple #[ratV false none 0 0 none 0 0, .int .i64 20]) ?h rfl ⟨⟨none, 0, 0, none, 0, 0⟩, rfl, ⟨Rd.nil _, Rd.nil _, fr_none _, fr_none _⟩, ext_set3 hEE (Nat.le_succ _) _ _ _⟩
 case h => simp [results, Tryz.results47, go_sem, q0, q1, q2]
theorem sd_nought (x : Int) (p : Nat) (he : e < 0) (kC : ∀ w', Ext w w' → Calls Tryz.prog 27 #[ratV s A n c D m k] w' fun e w'' => e = .returned (.int .i64 0) ∧ Ext w' w'') (kR : ∀ w', Ext w w' → Calls Tryz.prog 62 #[ratV s A n c D m k] w' (RatPst w' x p)) :
  Calls Tryz.prog 47 #[ratV s A n c D m k, .int .u32 0, .int .i64 e] w (DfPst w false [] [] 11) := by
 have he2 : decide (e < 0) = true := decide_eq_true he
 go_enter Tryz.func47, Tryz.ntmps47
 go_wp2_with (first
  | (go_at_call 27; (with_reducible refine (kC _ xcl).mono ?_); rintro e w1 ⟨rfl, xb1⟩; obtain ⟨xc1, xf1, xl1, xz1⟩ := jU xb1; (try simp at xz1); obtain ⟨l1_0, r1_0, f1_0, r1_0_1, f1_0_1, r1_0_2, f1_0_2⟩ := kq3 xb1 (w.heap.size); obtain ⟨l1_1, r1_1, f1_1, r1_1_1, f1_1_1, r1_1_2, f1_1_2⟩ := kq3 xb1 (w.heap.size + 1))
  | (go_at_call 62; (with_reducible refine (kR _ xcl).mono ?_); rintro e w2 ⟨g2, A2, n2, c2, D2, m2, k2, rfl, hR2, hg2, xb2⟩; obtain ⟨xc2, xf2, xl2, xz2⟩ := jU xb2; (try simp at xz2); obtain ⟨l2_0, r2_0, f2_0, r2_0_1, f2_0_1, r2_0_2, f2_0_2⟩ := kq3 xb2 (w.heap.size + 1))
  )
 have z0 : w2.cell? ⟨w.heap.size + 1, 0, none⟩ = some (.bool false) := by simp [go_sem, *]
 have z1 : w2.cell? ⟨w.heap.size + 1, 1, none⟩ = some (.slice none 0 0) := by simp [go_sem, *]
 have z2 : w2.cell? ⟨w.heap.size + 1, 2, none⟩ = some (.slice none 0 0) := by simp [go_sem, *]
 obtain ⟨q0, q1, q2⟩ := set3 (b := w.heap.size + 1) z0 z1 z2 (.bool false) (.slice none 0 0) (.slice none 0 0)
 have hEE : Ext w w2 := xcl
 refine bodyPost_ret (v := .tuple #[ratV false none 0 0 none 0 0, .int .i64 11]) ?h rfl ⟨⟨none, 0, 0, none, 0, 0⟩, rfl, ⟨Rd.nil _, Rd.nil _, fr_none _, fr_none _⟩, ext_set3 hEE (Nat.le_succ _) _ _ _⟩
 case h => simp [results, Tryz.results47, go_sem, q0, q1, q2]
theorem sd_one (x : Int) (p : Nat) (z : Int) (E : Nat) (h : e = 0 ∨ b = 1) (kC : ∀ w', Ext w w' → Calls Tryz.prog 27 #[ratV s A n c D m k] w' fun e w'' => e = .returned (.int .i64 0) ∧ Ext w' w'') (kR : ∀ w', Ext w w' → Calls Tryz.prog 62 #[ratV s A n c D m k] w' (RatPst w' x p)) (kF : ∀ (g : Nat) (A : Option Addr) (n c : Nat) (D : Option Addr) (m k : Nat) (w' : World), RatIs w' g x A n c p D m k → Calls Tryz.prog 52 #[.pointer (some ⟨g, 0, none⟩)] w' (UPost w' z E)) :
  Calls Tryz.prog 47 #[ratV s A n c D m k, .int .u32 (b : Int), .int .i64 e] w (DfPst w (decide (z < 0)) (lim z.natAbs) (lim E) 0) := by
 rcases h with rfl | rfl
 ·by_cases hb : b = 0
  ·subst hb
   go_enter Tryz.func47, Tryz.ntmps47
   go_wp2_with (first
  | (go_at_call 27; (with_reducible refine (kC _ xcl).mono ?_); rintro e w1 ⟨rfl, xb1⟩; obtain ⟨xc1, xf1, xl1, xz1⟩ := jU xb1; (try simp at xz1); obtain ⟨l1_0, r1_0, f1_0, r1_0_1, f1_0_1, r1_0_2, f1_0_2⟩ := kq3 xb1 (w.heap.size); obtain ⟨l1_1, r1_1, f1_1, r1_1_1, f1_1_1, r1_1_2, f1_1_2⟩ := kq3 xb1 (w.heap.size + 1))
  | (go_at_call 62; (with_reducible refine (kR _ xcl).mono ?_); rintro e w2 ⟨g2, A2, n2, c2, D2, m2, k2, rfl, hR2, hg2, xb2⟩; obtain ⟨xc2, xf2, xl2, xz2⟩ := jU xb2; (try simp at xz2); obtain ⟨l2_0, r2_0, f2_0, r2_0_1, f2_0_1, r2_0_2, f2_0_2⟩ := kq3 xb2 (w.heap.size + 1))
  | (go_at_call 52; (with_reducible refine (kF _ _ _ _ _ _ _ _ hR2.out.1).mono ?_); rintro e w4 ⟨A4, n4, c4, D4, m4, k4, rfl, hR4, xb4⟩; obtain ⟨xc4, xf4, xl4, xz4⟩ := jU xb4; (try simp at xz4); obtain ⟨l4_0, r4_0, f4_0, r4_0_1, f4_0_1, r4_0_2, f4_0_2⟩ := kq3 xb4 (w.heap.size + 1))
    )
   have z0 : w4.cell? ⟨w.heap.size + 1, 0, none⟩ = some (.bool false) := by simp [go_sem, *]
   have z1 : w4.cell? ⟨w.heap.size + 1, 1, none⟩ = some (.slice none 0 0) := by simp [go_sem, *]
   have z2 : w4.cell? ⟨w.heap.size + 1, 2, none⟩ = some (.slice none 0 0) := by simp [go_sem, *]
   have hEE : Ext w w4 := xcl
   obtain ⟨q0, q1, q2⟩ := set3 (b := w.heap.size + 1) z0 z1 z2 (.bool (decide (z < 0))) (.slice A4 n4 c4) (.slice D4 m4 k4)
   have n5 : ∀ a, A4 = some a → w.heap.size + 1 < a.block := fun a ha => by have := hR4.out.2.1 a ha; (try simp at this); omega
   have n6 : ∀ a, D4 = some a → w.heap.size + 1 < a.block := fun a ha => by have := hR4.out.2.2.2 a ha; (try simp at this); omega
   refine bodyPost_ret (v := .tuple #[ratV (decide (z < 0)) A4 n4 c4 D4 m4 k4, .int .i64 0]) ?h rfl ⟨⟨A4, n4, c4, D4, m4, k4⟩, rfl, ⟨hR4.out.1.set3 n5 _ _ _, hR4.out.2.2.1.set3 n6 _ _ _, fun a ha => by have := n5 a ha; omega, fun a ha => by have := n6 a ha; omega⟩, ext_set3 hEE (Nat.le_succ _) _ _ _⟩
   case h => simp [results, Tryz.results47, go_sem, q0, q1, q2]
  ·have hb0 : ((b : Int) == 0) = false := by rw [beq_eq_false_iff_ne]; omega
   have hb1 : ¬ (b : Int) = 0 := by omega
   go_enter Tryz.func47, Tryz.ntmps47
   go_wp2_with (first
  | (go_at_call 27; (with_reducible refine (kC _ xcl).mono ?_); rintro e w1 ⟨rfl, xb1⟩; obtain ⟨xc1, xf1, xl1, xz1⟩ := jU xb1; (try simp at xz1); obtain ⟨l1_0, r1_0, f1_0, r1_0_1, f1_0_1, r1_0_2, f1_0_2⟩ := kq3 xb1 (w.heap.size); obtain ⟨l1_1, r1_1, f1_1, r1_1_1, f1_1_1, r1_1_2, f1_1_2⟩ := kq3 xb1 (w.heap.size + 1))
  | (go_at_call 62; (with_reducible refine (kR _ xcl).mono ?_); rintro e w2 ⟨g2, A2, n2, c2, D2, m2, k2, rfl, hR2, hg2, xb2⟩; obtain ⟨xc2, xf2, xl2, xz2⟩ := jU xb2; (try simp at xz2); obtain ⟨l2_0, r2_0, f2_0, r2_0_1, f2_0_1, r2_0_2, f2_0_2⟩ := kq3 xb2 (w.heap.size + 1))
  | (go_at_call 52; (with_reducible refine (kF _ _ _ _ _ _ _ _ hR2.out.1).mono ?_); rintro e w4 ⟨A4, n4, c4, D4, m4, k4, rfl, hR4, xb4⟩; obtain ⟨xc4, xf4, xl4, xz4⟩ := jU xb4; (try simp at xz4); obtain ⟨l4_0, r4_0, f4_0, r4_0_1, f4_0_1, r4_0_2, f4_0_2⟩ := kq3 xb4 (w.heap.size + 1))
    )
   have z0 : w4.cell? ⟨w.heap.size + 1, 0, none⟩ = some (.bool false) := by simp [go_sem, *]
   have z1 : w4.cell? ⟨w.heap.size + 1, 1, none⟩ = some (.slice none 0 0) := by simp [go_sem, *]
   have z2 : w4.cell? ⟨w.heap.size + 1, 2, none⟩ = some (.slice none 0 0) := by simp [go_sem, *]
   have hEE : Ext w w4 := xcl
   obtain ⟨q0, q1, q2⟩ := set3 (b := w.heap.size + 1) z0 z1 z2 (.bool (decide (z < 0))) (.slice A4 n4 c4) (.slice D4 m4 k4)
   have n5 : ∀ a, A4 = some a → w.heap.size + 1 < a.block := fun a ha => by have := hR4.out.2.1 a ha; (try simp at this); omega
   have n6 : ∀ a, D4 = some a → w.heap.size + 1 < a.block := fun a ha => by have := hR4.out.2.2.2 a ha; (try simp at this); omega
   refine bodyPost_ret (v := .tuple #[ratV (decide (z < 0)) A4 n4 c4 D4 m4 k4, .int .i64 0]) ?h rfl ⟨⟨A4, n4, c4, D4, m4, k4⟩, rfl, ⟨hR4.out.1.set3 n5 _ _ _, hR4.out.2.2.1.set3 n6 _ _ _, fun a ha => by have := n5 a ha; omega, fun a ha => by have := n6 a ha; omega⟩, ext_set3 hEE (Nat.le_succ _) _ _ _⟩
   case h => simp [results, Tryz.results47, go_sem, q0, q1, q2]
 ·by_cases he : e = 0
  ·subst he
   go_enter Tryz.func47, Tryz.ntmps47
   go_wp2_with (first
  | (go_at_call 27; (with_reducible refine (kC _ xcl).mono ?_); rintro e w1 ⟨rfl, xb1⟩; obtain ⟨xc1, xf1, xl1, xz1⟩ := jU xb1; (try simp at xz1); obtain ⟨l1_0, r1_0, f1_0, r1_0_1, f1_0_1, r1_0_2, f1_0_2⟩ := kq3 xb1 (w.heap.size); obtain ⟨l1_1, r1_1, f1_1, r1_1_1, f1_1_1, r1_1_2, f1_1_2⟩ := kq3 xb1 (w.heap.size + 1))
  | (go_at_call 62; (with_reducible refine (kR _ xcl).mono ?_); rintro e w2 ⟨g2, A2, n2, c2, D2, m2, k2, rfl, hR2, hg2, xb2⟩; obtain ⟨xc2, xf2, xl2, xz2⟩ := jU xb2; (try simp at xz2); obtain ⟨l2_0, r2_0, f2_0, r2_0_1, f2_0_1, r2_0_2, f2_0_2⟩ := kq3 xb2 (w.heap.size + 1))
  | (go_at_call 52; (with_reducible refine (kF _ _ _ _ _ _ _ _ hR2.out.1).mono ?_); rintro e w4 ⟨A4, n4, c4, D4, m4, k4, rfl, hR4, xb4⟩; obtain ⟨xc4, xf4, xl4, xz4⟩ := jU xb4; (try simp at xz4); obtain ⟨l4_0, r4_0, f4_0, r4_0_1, f4_0_1, r4_0_2, f4_0_2⟩ := kq3 xb4 (w.heap.size + 1))
    )
   have z0 : w4.cell? ⟨w.heap.size + 1, 0, none⟩ = some (.bool false) := by simp [go_sem, *]
   have z1 : w4.cell? ⟨w.heap.size + 1, 1, none⟩ = some (.slice none 0 0) := by simp [go_sem, *]
   have z2 : w4.cell? ⟨w.heap.size + 1, 2, none⟩ = some (.slice none 0 0) := by simp [go_sem, *]
   have hEE : Ext w w4 := xcl
   obtain ⟨q0, q1, q2⟩ := set3 (b := w.heap.size + 1) z0 z1 z2 (.bool (decide (z < 0))) (.slice A4 n4 c4) (.slice D4 m4 k4)
   have n5 : ∀ a, A4 = some a → w.heap.size + 1 < a.block := fun a ha => by have := hR4.out.2.1 a ha; (try simp at this); omega
   have n6 : ∀ a, D4 = some a → w.heap.size + 1 < a.block := fun a ha => by have := hR4.out.2.2.2 a ha; (try simp at this); omega
   refine bodyPost_ret (v := .tuple #[ratV (decide (z < 0)) A4 n4 c4 D4 m4 k4, .int .i64 0]) ?h rfl ⟨⟨A4, n4, c4, D4, m4, k4⟩, rfl, ⟨hR4.out.1.set3 n5 _ _ _, hR4.out.2.2.1.set3 n6 _ _ _, fun a ha => by have := n5 a ha; omega, fun a ha => by have := n6 a ha; omega⟩, ext_set3 hEE (Nat.le_succ _) _ _ _⟩
   case h => simp [results, Tryz.results47, go_sem, q0, q1, q2]
  ·have he3 : (e == 0) = false := by rw [beq_eq_false_iff_ne]; omega
   go_enter Tryz.func47, Tryz.ntmps47
   go_wp2_with (first
  | (go_at_call 27; (with_reducible refine (kC _ xcl).mono ?_); rintro e w1 ⟨rfl, xb1⟩; obtain ⟨xc1, xf1, xl1, xz1⟩ := jU xb1; (try simp at xz1); obtain ⟨l1_0, r1_0, f1_0, r1_0_1, f1_0_1, r1_0_2, f1_0_2⟩ := kq3 xb1 (w.heap.size); obtain ⟨l1_1, r1_1, f1_1, r1_1_1, f1_1_1, r1_1_2, f1_1_2⟩ := kq3 xb1 (w.heap.size + 1))
  | (go_at_call 62; (with_reducible refine (kR _ xcl).mono ?_); rintro e w2 ⟨g2, A2, n2, c2, D2, m2, k2, rfl, hR2, hg2, xb2⟩; obtain ⟨xc2, xf2, xl2, xz2⟩ := jU xb2; (try simp at xz2); obtain ⟨l2_0, r2_0, f2_0, r2_0_1, f2_0_1, r2_0_2, f2_0_2⟩ := kq3 xb2 (w.heap.size + 1))
  | (go_at_call 52; (with_reducible refine (kF _ _ _ _ _ _ _ _ hR2.out.1).mono ?_); rintro e w4 ⟨A4, n4, c4, D4, m4, k4, rfl, hR4, xb4⟩; obtain ⟨xc4, xf4, xl4, xz4⟩ := jU xb4; (try simp at xz4); obtain ⟨l4_0, r4_0, f4_0, r4_0_1, f4_0_1, r4_0_2, f4_0_2⟩ := kq3 xb4 (w.heap.size + 1))
    )
   have z0 : w4.cell? ⟨w.heap.size + 1, 0, none⟩ = some (.bool false) := by simp [go_sem, *]
   have z1 : w4.cell? ⟨w.heap.size + 1, 1, none⟩ = some (.slice none 0 0) := by simp [go_sem, *]
   have z2 : w4.cell? ⟨w.heap.size + 1, 2, none⟩ = some (.slice none 0 0) := by simp [go_sem, *]
   have hEE : Ext w w4 := xcl
   obtain ⟨q0, q1, q2⟩ := set3 (b := w.heap.size + 1) z0 z1 z2 (.bool (decide (z < 0))) (.slice A4 n4 c4) (.slice D4 m4 k4)
   have n5 : ∀ a, A4 = some a → w.heap.size + 1 < a.block := fun a ha => by have := hR4.out.2.1 a ha; (try simp at this); omega
   have n6 : ∀ a, D4 = some a → w.heap.size + 1 < a.block := fun a ha => by have := hR4.out.2.2.2 a ha; (try simp at this); omega
   refine bodyPost_ret (v := .tuple #[ratV (decide (z < 0)) A4 n4 c4 D4 m4 k4, .int .i64 0]) ?h rfl ⟨⟨A4, n4, c4, D4, m4, k4⟩, rfl, ⟨hR4.out.1.set3 n5 _ _ _, hR4.out.2.2.1.set3 n6 _ _ _, fun a ha => by have := n5 a ha; omega, fun a ha => by have := n6 a ha; omega⟩, ext_set3 hEE (Nat.le_succ _) _ _ _⟩
   case h => simp [results, Tryz.results47, go_sem, q0, q1, q2]
theorem sd_zero0 (x : Int) (p : Nat) (S : Int) (he : 0 < e) (hS : (S == 0) = false) (kC : ∀ w', Ext w w' → Calls Tryz.prog 27 #[ratV s A n c D m k] w' fun e w'' => e = .returned (.int .i64 0) ∧ Ext w' w'') (kR : ∀ w', Ext w w' → Calls Tryz.prog 62 #[ratV s A n c D m k] w' (RatPst w' x p)) (kS : ∀ (h : Nat) (B : Option Addr) (n2 c2 : Nat) (C : Option Addr) (m2 k2 : Nat) (w' : World), RatIs w' h x B n2 c2 p C m2 k2 → Calls Tryz.prog 99 #[.pointer (some ⟨h, 0, none⟩)] w' fun e w'' => e = .returned (.int .i64 S) ∧ Ext w' w'') :
  Calls Tryz.prog 47 #[ratV s A n c D m k, .int .u32 0, .int .i64 e] w (DfPst w false (lim (0 : Int).natAbs) (lim 1) 0) := by
 have he2 : decide (e < 0) = false := decide_eq_false (by omega)
 have he3 : (e == 0) = false := by rw [beq_eq_false_iff_ne]; omega
 have he4 : ¬ e = 0 := by omega
 go_enter Tryz.func47, Tryz.ntmps47
 go_wp2_with (first
  | (go_at_call 27; (with_reducible refine (kC _ xcl).mono ?_); rintro e w1 ⟨rfl, xb1⟩; obtain ⟨xc1, xf1, xl1, xz1⟩ := jU xb1; (try simp at xz1); obtain ⟨l1_0, r1_0, f1_0, r1_0_1, f1_0_1, r1_0_2, f1_0_2⟩ := kq3 xb1 (w.heap.size); obtain ⟨l1_1, r1_1, f1_1, r1_1_1, f1_1_1, r1_1_2, f1_1_2⟩ := kq3 xb1 (w.heap.size + 1))
  | (go_at_call 62; (with_reducible refine (kR _ xcl).mono ?_); rintro e w2 ⟨g2, A2, n2, c2, D2, m2, k2, rfl, hR2, hg2, xb2⟩; obtain ⟨xc2, xf2, xl2, xz2⟩ := jU xb2; (try simp at xz2); obtain ⟨l2_0, r2_0, f2_0, r2_0_1, f2_0_1, r2_0_2, f2_0_2⟩ := kq3 xb2 (w.heap.size + 1))
  | (go_at_call 99; (with_reducible refine (kS _ _ _ _ _ _ _ _ hR2.out.1).mono ?_); rintro e w3 ⟨rfl, xb3⟩; obtain ⟨xc3, xf3, xl3, xz3⟩ := jU xb3; (try simp at xz3); obtain ⟨l3_0, r3_0, f3_0, r3_0_1, f3_0_1, r3_0_2, f3_0_2⟩ := kq3 xb3 (w.heap.size + 1))
  | (go_at_call 33; (with_reducible refine (rd_Whole 0 (by decide) (by decide) _).mono ?_); rintro e w5 ⟨F5, rfl, hR5, xb5⟩; obtain ⟨xc5, xf5, xl5, xz5⟩ := jU xb5; (try simp at xz5); obtain ⟨l5_0, r5_0, f5_0, r5_0_1, f5_0_1, r5_0_2, f5_0_2⟩ := kq3 xb5 (w.heap.size + 1))
  )
 have z0 : w5.cell? ⟨w.heap.size + 1, 0, none⟩ = some (.bool false) := by simp [go_sem, *]
 have z1 : w5.cell? ⟨w.heap.size + 1, 1, none⟩ = some (.slice none 0 0) := by simp [go_sem, *]
 have z2 : w5.cell? ⟨w.heap.size + 1, 2, none⟩ = some (.slice none 0 0) := by simp [go_sem, *]
 have hEE : Ext w w5 := xcl
 obtain ⟨q0, q1, q2⟩ := set3 (b := w.heap.size + 1) z0 z1 z2 (.bool false) (.slice F5.A F5.n F5.c) (.slice F5.D F5.m F5.k)
 have n5 : ∀ a, F5.A = some a → w.heap.size + 1 < a.block := fun a ha => by have := hR5.out.2.2.1 a ha; (try simp at this); omega
 have n6 : ∀ a, F5.D = some a → w.heap.size + 1 < a.block := fun a ha => by have := hR5.out.2.2.2 a ha; (try simp at this); omega
 refine bodyPost_ret (v := .tuple #[fV false F5, .int .i64 0]) ?h rfl ⟨F5, rfl, ⟨hR5.out.1.set3 n5 _ _ _, hR5.out.2.1.set3 n6 _ _ _, fun a ha => by have := n5 a ha; omega, fun a ha => by have := n6 a ha; omega⟩, ext_set3 hEE (Nat.le_succ _) _ _ _⟩
 case h => simp [results, Tryz.results47, go_sem, q0, q1, q2]
theorem sd_zeroS (x : Int) (p : Nat) (S : Int) (he : ¬ e = 0) (hb : 2 ≤ b ∨ (b = 0 ∧ 0 < e)) (hS : (S == 0) = true) (kC : ∀ w', Ext w w' → Calls Tryz.prog 27 #[ratV s A n c D m k] w' fun e w'' => e = .returned (.int .i64 0) ∧ Ext w' w'') (kR : ∀ w', Ext w w' → Calls Tryz.prog 62 #[ratV s A n c D m k] w' (RatPst w' x p)) (kS : ∀ (h : Nat) (B : Option Addr) (n2 c2 : Nat) (C : Option Addr) (m2 k2 : Nat) (w' : World), RatIs w' h x B n2 c2 p C m2 k2 → Calls Tryz.prog 99 #[.pointer (some ⟨h, 0, none⟩)] w' fun e w'' => e = .returned (.int .i64 S) ∧ Ext w' w'') :
  Calls Tryz.prog 47 #[ratV s A n c D m k, .int .u32 (b : Int), .int .i64 e] w (DfPst w false (lim (0 : Int).natAbs) (lim 1) 0) := by
 obtain rfl : S = 0 := by simpa using hS
 rcases hb with hb | ⟨rfl, he0⟩
 ·have hb0 : ((b : Int) == 0) = false := by rw [beq_eq_false_iff_ne]; omega
  have hb1 : ((b : Int) == 1) = false := by rw [beq_eq_false_iff_ne]; omega
  have he3 : (e == 0) = false := by rw [beq_eq_false_iff_ne]; omega
  go_enter Tryz.func47, Tryz.ntmps47
  go_wp2_with (first
  | (go_at_call 27; (with_reducible refine (kC _ xcl).mono ?_); rintro e w1 ⟨rfl, xb1⟩; obtain ⟨xc1, xf1, xl1, xz1⟩ := jU xb1; (try simp at xz1); obtain ⟨l1_0, r1_0, f1_0, r1_0_1, f1_0_1, r1_0_2, f1_0_2⟩ := kq3 xb1 (w.heap.size); obtain ⟨l1_1, r1_1, f1_1, r1_1_1, f1_1_1, r1_1_2, f1_1_2⟩ := kq3 xb1 (w.heap.size + 1))
  | (go_at_call 62; (with_reducible refine (kR _ xcl).mono ?_); rintro e w2 ⟨g2, A2, n2, c2, D2, m2, k2, rfl, hR2, hg2, xb2⟩; obtain ⟨xc2, xf2, xl2, xz2⟩ := jU xb2; (try simp at xz2); obtain ⟨l2_0, r2_0, f2_0, r2_0_1, f2_0_1, r2_0_2, f2_0_2⟩ := kq3 xb2 (w.heap.size + 1))
  | (go_at_call 99; (with_reducible refine (kS _ _ _ _ _ _ _ _ hR2.out.1).mono ?_); rintro e w3 ⟨rfl, xb3⟩; obtain ⟨xc3, xf3, xl3, xz3⟩ := jU xb3; (try simp at xz3); obtain ⟨l3_0, r3_0, f3_0, r3_0_1, f3_0_1, r3_0_2, f3_0_2⟩ := kq3 xb3 (w.heap.size + 1))
  | (go_at_call 33; (with_reducible refine (rd_Whole 0 (by decide) (by decide) _).mono ?_); rintro e w5 ⟨F5, rfl, hR5, xb5⟩; obtain ⟨xc5, xf5, xl5, xz5⟩ := jU xb5; (try simp at xz5); obtain ⟨l5_0, r5_0, f5_0, r5_0_1, f5_0_1, r5_0_2, f5_0_2⟩ := kq3 xb5 (w.heap.size + 1))
   )
  have z0 : w5.cell? ⟨w.heap.size + 1, 0, none⟩ = some (.bool false) := by simp [go_sem, *]
  have z1 : w5.cell? ⟨w.heap.size + 1, 1, none⟩ = some (.slice none 0 0) := by simp [go_sem, *]
  have z2 : w5.cell? ⟨w.heap.size + 1, 2, none⟩ = some (.slice none 0 0) := by simp [go_sem, *]
  have hEE : Ext w w5 := xcl
  obtain ⟨q0, q1, q2⟩ := set3 (b := w.heap.size + 1) z0 z1 z2 (.bool false) (.slice F5.A F5.n F5.c) (.slice F5.D F5.m F5.k)
  have n5 : ∀ a, F5.A = some a → w.heap.size + 1 < a.block := fun a ha => by have := hR5.out.2.2.1 a ha; (try simp at this); omega
  have n6 : ∀ a, F5.D = some a → w.heap.size + 1 < a.block := fun a ha => by have := hR5.out.2.2.2 a ha; (try simp at this); omega
  refine bodyPost_ret (v := .tuple #[fV false F5, .int .i64 0]) ?h rfl ⟨F5, rfl, ⟨hR5.out.1.set3 n5 _ _ _, hR5.out.2.1.set3 n6 _ _ _, fun a ha => by have := n5 a ha; omega, fun a ha => by have := n6 a ha; omega⟩, ext_set3 hEE (Nat.le_succ _) _ _ _⟩
  case h => simp [results, Tryz.results47, go_sem, q0, q1, q2]
 ·have he3 : (e == 0) = false := by rw [beq_eq_false_iff_ne]; omega
  have he2 : decide (e < 0) = false := decide_eq_false (by omega)
  go_enter Tryz.func47, Tryz.ntmps47
  go_wp2_with (first
  | (go_at_call 27; (with_reducible refine (kC _ xcl).mono ?_); rintro e w1 ⟨rfl, xb1⟩; obtain ⟨xc1, xf1, xl1, xz1⟩ := jU xb1; (try simp at xz1); obtain ⟨l1_0, r1_0, f1_0, r1_0_1, f1_0_1, r1_0_2, f1_0_2⟩ := kq3 xb1 (w.heap.size); obtain ⟨l1_1, r1_1, f1_1, r1_1_1, f1_1_1, r1_1_2, f1_1_2⟩ := kq3 xb1 (w.heap.size + 1))
  | (go_at_call 62; (with_reducible refine (kR _ xcl).mono ?_); rintro e w2 ⟨g2, A2, n2, c2, D2, m2, k2, rfl, hR2, hg2, xb2⟩; obtain ⟨xc2, xf2, xl2, xz2⟩ := jU xb2; (try simp at xz2); obtain ⟨l2_0, r2_0, f2_0, r2_0_1, f2_0_1, r2_0_2, f2_0_2⟩ := kq3 xb2 (w.heap.size + 1))
  | (go_at_call 99; (with_reducible refine (kS _ _ _ _ _ _ _ _ hR2.out.1).mono ?_); rintro e w3 ⟨rfl, xb3⟩; obtain ⟨xc3, xf3, xl3, xz3⟩ := jU xb3; (try simp at xz3); obtain ⟨l3_0, r3_0, f3_0, r3_0_1, f3_0_1, r3_0_2, f3_0_2⟩ := kq3 xb3 (w.heap.size + 1))
  | (go_at_call 33; (with_reducible refine (rd_Whole 0 (by decide) (by decide) _).mono ?_); rintro e w5 ⟨F5, rfl, hR5, xb5⟩; obtain ⟨xc5, xf5, xl5, xz5⟩ := jU xb5; (try simp at xz5); obtain ⟨l5_0, r5_0, f5_0, r5_0_1, f5_0_1, r5_0_2, f5_0_2⟩ := kq3 xb5 (w.heap.size + 1))
   )
  have z0 : w5.cell? ⟨w.heap.size + 1, 0, none⟩ = some (.bool false) := by simp [go_sem, *]
  have z1 : w5.cell? ⟨w.heap.size + 1, 1, none⟩ = some (.slice none 0 0) := by simp [go_sem, *]
  have z2 : w5.cell? ⟨w.heap.size + 1, 2, none⟩ = some (.slice none 0 0) := by simp [go_sem, *]
  have hEE : Ext w w5 := xcl
  obtain ⟨q0, q1, q2⟩ := set3 (b := w.heap.size + 1) z0 z1 z2 (.bool false) (.slice F5.A F5.n F5.c) (.slice F5.D F5.m F5.k)
  have n5 : ∀ a, F5.A = some a → w.heap.size + 1 < a.block := fun a ha => by have := hR5.out.2.2.1 a ha; (try simp at this); omega
  have n6 : ∀ a, F5.D = some a → w.heap.size + 1 < a.block := fun a ha => by have := hR5.out.2.2.2 a ha; (try simp at this); omega
  refine bodyPost_ret (v := .tuple #[fV false F5, .int .i64 0]) ?h rfl ⟨F5, rfl, ⟨hR5.out.1.set3 n5 _ _ _, hR5.out.2.1.set3 n6 _ _ _, fun a ha => by have := n5 a ha; omega, fun a ha => by have := n6 a ha; omega⟩, ext_set3 hEE (Nat.le_succ _) _ _ _⟩
  case h => simp [results, Tryz.results47, go_sem, q0, q1, q2]
theorem sd_far (x : Int) (p : Nat) (S : Int) (he : ¬ e = 0) (hb : 2 ≤ b) (hS : (S == 0) = false) (kC : ∀ w', Ext w w' → Calls Tryz.prog 27 #[ratV s A n c D m k] w' fun e w'' => e = .returned (.int .i64 0) ∧ Ext w' w'') (kR : ∀ w', Ext w w' → Calls Tryz.prog 62 #[ratV s A n c D m k] w' (RatPst w' x p)) (kS : ∀ (h : Nat) (B : Option Addr) (n2 c2 : Nat) (C : Option Addr) (m2 k2 : Nat) (w' : World), RatIs w' h x B n2 c2 p C m2 k2 → Calls Tryz.prog 99 #[.pointer (some ⟨h, 0, none⟩)] w' fun e w'' => e = .returned (.int .i64 S) ∧ Ext w' w'') (kFar : ∀ w', Calls Tryz.prog 106 #[.int .u32 (b : Int), .int .i64 e] w' fun x w'' => x = .returned (.bool true) ∧ Ext w' w'') :
  Calls Tryz.prog 47 #[ratV s A n c D m k, .int .u32 (b : Int), .int .i64 e] w (DfPst w false [] [] 4) := by
 have he3 : (e == 0) = false := by rw [beq_eq_false_iff_ne]; omega
 have hb0 : ((b : Int) == 0) = false := by rw [beq_eq_false_iff_ne]; omega
 have hb1 : ((b : Int) == 1) = false := by rw [beq_eq_false_iff_ne]; omega
 have hb2 : ¬ (b : Int) = 0 := by omega
 go_enter Tryz.func47, Tryz.ntmps47
 go_wp2_with (first
  | (go_at_call 27; (with_reducible refine (kC _ xcl).mono ?_); rintro e w1 ⟨rfl, xb1⟩; obtain ⟨xc1, xf1, xl1, xz1⟩ := jU xb1; (try simp at xz1); obtain ⟨l1_0, r1_0, f1_0, r1_0_1, f1_0_1, r1_0_2, f1_0_2⟩ := kq3 xb1 (w.heap.size); obtain ⟨l1_1, r1_1, f1_1, r1_1_1, f1_1_1, r1_1_2, f1_1_2⟩ := kq3 xb1 (w.heap.size + 1))
  | (go_at_call 62; (with_reducible refine (kR _ xcl).mono ?_); rintro e w2 ⟨g2, A2, n2, c2, D2, m2, k2, rfl, hR2, hg2, xb2⟩; obtain ⟨xc2, xf2, xl2, xz2⟩ := jU xb2; (try simp at xz2); obtain ⟨l2_0, r2_0, f2_0, r2_0_1, f2_0_1, r2_0_2, f2_0_2⟩ := kq3 xb2 (w.heap.size + 1))
  | (go_at_call 99; (with_reducible refine (kS _ _ _ _ _ _ _ _ hR2.out.1).mono ?_); rintro e w3 ⟨rfl, xb3⟩; obtain ⟨xc3, xf3, xl3, xz3⟩ := jU xb3; (try simp at xz3); obtain ⟨l3_0, r3_0, f3_0, r3_0_1, f3_0_1, r3_0_2, f3_0_2⟩ := kq3 xb3 (w.heap.size + 1))
  | (go_at_call 106; (with_reducible refine (kFar _).mono ?_); rintro e w4 ⟨rfl, xb4⟩; obtain ⟨xc4, xf4, xl4, xz4⟩ := jU xb4; (try simp at xz4); obtain ⟨l4_0, r4_0, f4_0, r4_0_1, f4_0_1, r4_0_2, f4_0_2⟩ := kq3 xb4 (w.heap.size + 1))
  )
 have z0 : w4.cell? ⟨w.heap.size + 1, 0, none⟩ = some (.bool false) := by simp [go_sem, *]
 have z1 : w4.cell? ⟨w.heap.size + 1, 1, none⟩ = some (.slice none 0 0) := by simp [go_sem, *]
 have z2 : w4.cell? ⟨w.heap.size + 1, 2, none⟩ = some (.slice none 0 0) := by simp [go_sem, *]
 obtain ⟨q0, q1, q2⟩ := set3 (b := w.heap.size + 1) z0 z1 z2 (.bool false) (.slice none 0 0) (.slice none 0 0)
 have hEE : Ext w w4 := xcl
 refine bodyPost_ret (v := .tuple #[ratV false none 0 0 none 0 0, .int .i64 4]) ?h rfl ⟨⟨none, 0, 0, none, 0, 0⟩, rfl, ⟨Rd.nil _, Rd.nil _, fr_none _, fr_none _⟩, ext_set3 hEE (Nat.le_succ _) _ _ _⟩
 case h => simp [results, Tryz.results47, go_sem, q0, q1, q2]
theorem sd_Quo (x : Int) (p : Nat) (S : Int) (N V : Nat) (z : Int) (q E : Nat) (he : ¬ e = 0) (hd : decide (e < 0) = true) (hb : 2 ≤ b) (hbl : b < 4294967296) (hS : (S == 0) = false) (kC : ∀ w', Ext w w' → Calls Tryz.prog 27 #[ratV s A n c D m k] w' fun e w'' => e = .returned (.int .i64 0) ∧ Ext w' w'') (kR : ∀ w', Ext w w' → Calls Tryz.prog 62 #[ratV s A n c D m k] w' (RatPst w' x p)) (kS : ∀ (h : Nat) (B : Option Addr) (n2 c2 : Nat) (C : Option Addr) (m2 k2 : Nat) (w' : World), RatIs w' h x B n2 c2 p C m2 k2 → Calls Tryz.prog 99 #[.pointer (some ⟨h, 0, none⟩)] w' fun e w'' => e = .returned (.int .i64 S) ∧ Ext w' w'') (kFar : ∀ w', Calls Tryz.prog 106 #[.int .u32 (b : Int), .int .i64 e] w' fun x w'' => x = .returned (.bool false) ∧ Ext w' w'')
  (kN : ∀ w', Calls Tryz.prog 50 #[.int .i64 e] w' (NPost w' e)) (kB : ∀ w', Calls Tryz.prog 50 #[.int .i64 (b : Int)] w' (NPost w' ((b : Nat) : Int)))
  (kA : ∀ (g : Nat) (A : Option Addr) (n c : Nat) (w' : World), IntIs w' g 0 e A n c → Calls Tryz.prog 107 #[.pointer (some ⟨g, 0, none⟩), .pointer (some ⟨g, 0, none⟩)] w' (IPost w' g 0 ((N : Nat) : Int)))
  (kE : ∀ (g h i : Nat) (A : Option Addr) (n c : Nat) (B : Option Addr) (n2 c2 : Nat) (w' : World), Room w' g 0 → IntIs w' h 0 ((b : Nat) : Int) A n c → IntIs w' i 0 ((N : Nat) : Int) B n2 c2 → Calls Tryz.prog 109 #[.pointer (some ⟨g, 0, none⟩), .pointer (some ⟨h, 0, none⟩), .pointer (some ⟨i, 0, none⟩), .pointer none] w' (IPost w' g 0 ((V : Nat) : Int)))
  (kI : ∀ (g h : Nat) (A : Option Addr) (n c : Nat) (w' : World), RatRoom w' g → IntIs w' h 0 ((V : Nat) : Int) A n c → Calls Tryz.prog 108 #[.pointer (some ⟨g, 0, none⟩), .pointer (some ⟨h, 0, none⟩)] w' (FPost w' g ((V : Nat) : Int) 0))
  (kO : ∀ (g : Nat) (A : Option Addr) (n c : Nat) (D : Option Addr) (m k h : Nat) (B : Option Addr) (n2 c2 : Nat) (C : Option Addr) (m2 k2 : Nat) (w' : World), Ext w w' → RatIs w' g x A n c p D m k → RatIs w' h ((V : Nat) : Int) B n2 c2 0 C m2 k2 → Calls Tryz.prog 100 #[.pointer (some ⟨g, 0, none⟩), .pointer (some ⟨g, 0, none⟩), .pointer (some ⟨h, 0, none⟩)] w' (FPost w' g z q)) (kF : ∀ (g : Nat) (A : Option Addr) (n c : Nat) (D : Option Addr) (m k : Nat) (w' : World), RatIs w' g z A n c q D m k → Calls Tryz.prog 52 #[.pointer (some ⟨g, 0, none⟩)] w' (UPost w' z E)) :
  Calls Tryz.prog 47 #[ratV s A n c D m k, .int .u32 (b : Int), .int .i64 e] w (DfPst w (decide (z < 0)) (lim z.natAbs) (lim E) 0) := by
 have he3 : (e == 0) = false := by rw [beq_eq_false_iff_ne]; omega
 have hb0 : ((b : Int) == 0) = false := by rw [beq_eq_false_iff_ne]; omega
 have hb1 : ((b : Int) == 1) = false := by rw [beq_eq_false_iff_ne]; omega
 have hb2 : ¬ (b : Int) = 0 := by omega
 go_enter Tryz.func47, Tryz.ntmps47
 go_upto_region 14 with (first
  | (go_at_call 27; (with_reducible refine (kC _ xcl).mono ?_); rintro e w1 ⟨rfl, xb1⟩; obtain ⟨xc1, xf1, xl1, xz1⟩ := jU xb1; (try simp at xz1); obtain ⟨l1_0, r1_0, f1_0, r1_0_1, f1_0_1, r1_0_2, f1_0_2⟩ := kq3 xb1 (w.heap.size); obtain ⟨l1_1, r1_1, f1_1, r1_1_1, f1_1_1, r1_1_2, f1_1_2⟩ := kq3 xb1 (w.heap.size + 1))
  | (go_at_call 62; (with_reducible refine (kR _ xcl).mono ?_); rintro e w2 ⟨g2, A2, n2, c2, D2, m2, k2, rfl, hR2, hg2, xb2⟩; obtain ⟨xc2, xf2, xl2, xz2⟩ := jU xb2; (try simp at xz2); obtain ⟨l2_0, r2_0, f2_0, r2_0_1, f2_0_1, r2_0_2, f2_0_2⟩ := kq3 xb2 (w.heap.size + 1))
  | (go_at_call 99; (with_reducible refine (kS _ _ _ _ _ _ _ _ hR2.out.1).mono ?_); rintro e w3 ⟨rfl, xb3⟩; obtain ⟨xc3, xf3, xl3, xz3⟩ := jU xb3; (try simp at xz3); obtain ⟨l3_0, r3_0, f3_0, r3_0_1, f3_0_1, r3_0_2, f3_0_2⟩ := kq3 xb3 (w.heap.size + 1))
  | (go_at_call 106; (with_reducible refine (kFar _).mono ?_); rintro e w4 ⟨rfl, xb4⟩; obtain ⟨xc4, xf4, xl4, xz4⟩ := jU xb4; (try simp at xz4); obtain ⟨l4_0, r4_0, f4_0, r4_0_1, f4_0_1, r4_0_2, f4_0_2⟩ := kq3 xb4 (w.heap.size + 1))
  | (go_at_call 50; (with_reducible refine (kN _).mono ?_); rintro e w5 ⟨b5, A5, n5, c5, rfl, hI5, hb5, xb5⟩; obtain ⟨xc5, xf5, xl5, xz5⟩ := jU xb5; (try simp at xz5); obtain ⟨l5_0, r5_0, f5_0, r5_0_1, f5_0_1, r5_0_2, f5_0_2⟩ := kq3 xb5 (w.heap.size + 1))
  )
 have hX4 : Hid (RatIs w4 g2 x A2 n2 c2 p D2 m2 k2) := Lib.hid (hR2.out.1.ext (jT xb3 xb4))
 have hE04 : Hid (Ext ((w.alloc (Obj.cells #[.bool s, .slice A n c, .slice D m k] 32)).alloc (Obj.cells #[.bool false, .slice none 0 0, .slice none 0 0] 32)) w4) := Lib.hid (jT xb1 (jT xb2 (jT xb3 xb4)))
 have hg0 := hg2
 have hg02 : ((w.alloc (Obj.cells #[.bool s, .slice A n c, .slice D m k] 32)).alloc (Obj.cells #[.bool false, .slice none 0 0, .slice none 0 0] 32)).heap.size ≤ g2 := Nat.le_trans (ext_size xb1) hg0
 have kA5 := kA b5 A5 n5 c5 w5 hI5.out.1
 go_upto_region 15 with (first
  | (go_at_call 107; (with_reducible refine kA5.mono ?_); rintro e w6 ⟨rfl, A6, n6, c6, hI6, xt6⟩)
  )
 have hE46 : Ext w4 w6 := xt6.ext xb5 hb5
 have hE06 := Lib.hid (jT hE04.out hE46)
 have hX6 : Hid (RatIs w6 g2 x A2 n2 c2 p D2 m2 k2) := Lib.hid (hX4.out.ext hE46)
 have hI6' := Lib.hid hI6.out.1
 clear kA5 xb5 hI5 hb5 xt6 hI6 hE46 hX4 hE04 hR2 xb1 xb2 xb3 xb4 hg0 hg2
 go_upto_region 16 with (first
  | (go_at_call 50; (with_reducible refine (kB _).mono ?_); rintro e w7 ⟨b7, A7, n7, c7, rfl, hI7, hb7, xb7⟩; obtain ⟨xc7, xf7, xl7, xz7⟩ := jU xb7; (try simp at xz7))
  | (go_at_call 109; have hr8 : Hid (Room w7 (w6.heap.size + 1) 0) := Lib.hid (by have := (room_int (w6.alloc (Obj.cells #[.bool false, .slice none 0 0, .slice none 0 0] 74))).ext xb7; simpa using this); (with_reducible refine (kE (w6.heap.size + 1) b7 _ A7 n7 c7 A6 n6 c6 w7 hr8.out hI7.out.1 (hI6'.out.ext (jT (jA (jA (jR _) _) _) xb7))).mono ?_); rintro e w8 ⟨rfl, A8, n8, c8, hI8, xt8⟩)
  | (go_at_call 108; have hr9 : Hid (RatRoom w8 w6.heap.size) := Lib.hid (((room_rat w6).ext (jT (jA (jR _) _) xb7)).tch xt8 (by omega)); (with_reducible refine (kI w6.heap.size (w6.heap.size + 1) A8 n8 c8 w8 hr9.out hI8.out.1).mono ?_); rintro e w9 ⟨rfl, A9, n9, c9, D9, m9, k9, hR9, xt9⟩)
  )
 have hE68 : Ext w6 w8 := xt8.ext (jT (jA (jA (jR _) _) _) xb7) (Nat.le_succ _)
 have hE69 : Ext w6 w9 := xt9.ext hE68 (Nat.le_refl _)
 have hE09 := Lib.hid (jT hE06.out hE69)
 have hE9 : Hid (Ext w w9) := Lib.hid (jT (jA (jA (jR w) _) _) hE09.out)
 have kO9 := kO g2 A2 n2 c2 D2 m2 k2 w6.heap.size A9 n9 c9 D9 m9 k9 w9 hE9.out (hX6.out.ext hE69) hR9.out.1
 clear hI7 hb7 xb7 hI8 xt8 hR9 xt9 hE68 hE69 hE06 hX6 hI6' kA kE kI kB kN kO
 go_wp2_with (first
  | (go_at_call 100; (with_reducible refine kO9.mono ?_); rintro e w10 ⟨rfl, A10, n10, c10, D10, m10, k10, hR10, xt10⟩; have hE10 := Lib.hid (xt10.ext hE09.out hg02); obtain ⟨l10_0, gc, gf⟩ := kp hE10.out (w.heap.size + 1) (by simp); have r10_0 := gc 0; have f10_0 := gf 0; have r10_1 := gc 1; have f10_1 := gf 1; have r10_2 := gc 2; have f10_2 := gf 2; clear gc gf)
  | (go_at_call 52; (with_reducible refine (kF _ _ _ _ _ _ _ _ hR10.out.1).mono ?_); rintro e w11 ⟨A11, n11, c11, D11, m11, k11, rfl, hR11, xb11⟩; obtain ⟨xc11, xf11, xl11, xz11⟩ := jU xb11; (try simp at xz11); obtain ⟨l11_0, r11_0, f11_0, r11_0_1, f11_0_1, r11_0_2, f11_0_2⟩ := kq3 xb11 (w.heap.size + 1))
  )
 have z0 : w11.cell? ⟨w.heap.size + 1, 0, none⟩ = some (.bool false) := by simp [go_sem, *]
 have z1 : w11.cell? ⟨w.heap.size + 1, 1, none⟩ = some (.slice none 0 0) := by simp [go_sem, *]
 have z2 : w11.cell? ⟨w.heap.size + 1, 2, none⟩ = some (.slice none 0 0) := by simp [go_sem, *]
 have hEE : Ext w w11 := by exact jT (jA (jA (jR w) _) _) (jT hE10.out xb11)
 obtain ⟨q0, q1, q2⟩ := set3 (b := w.heap.size + 1) z0 z1 z2 (.bool (decide (z < 0))) (.slice A11 n11 c11) (.slice D11 m11 k11)
 have n5 : ∀ a, A11 = some a → w.heap.size + 1 < a.block := fun a ha => by have := hR11.out.2.1 a ha; (try simp at this); omega
 have n6 : ∀ a, D11 = some a → w.heap.size + 1 < a.block := fun a ha => by have := hR11.out.2.2.2 a ha; (try simp at this); omega
 refine bodyPost_ret (v := .tuple #[ratV (decide (z < 0)) A11 n11 c11 D11 m11 k11, .int .i64 0]) ?h rfl ⟨⟨A11, n11, c11, D11, m11, k11⟩, rfl, ⟨hR11.out.1.set3 n5 _ _ _, hR11.out.2.2.1.set3 n6 _ _ _, fun a ha => by have := n5 a ha; omega, fun a ha => by have := n6 a ha; omega⟩, ext_set3 hEE (Nat.le_succ _) _ _ _⟩
 case h => simp [results, Tryz.results47, go_sem, q0, q1, q2]
theorem sd_Mul (x : Int) (p : Nat) (S : Int) (N V : Nat) (z : Int) (q E : Nat) (he : ¬ e = 0) (hd : decide (e < 0) = false) (hb : 2 ≤ b) (hbl : b < 4294967296) (hS : (S == 0) = false) (kC : ∀ w', Ext w w' → Calls Tryz.prog 27 #[ratV s A n c D m k] w' fun e w'' => e = .returned (.int .i64 0) ∧ Ext w' w'') (kR : ∀ w', Ext w w' → Calls Tryz.prog 62 #[ratV s A n c D m k] w' (RatPst w' x p)) (kS : ∀ (h : Nat) (B : Option Addr) (n2 c2 : Nat) (C : Option Addr) (m2 k2 : Nat) (w' : World), RatIs w' h x B n2 c2 p C m2 k2 → Calls Tryz.prog 99 #[.pointer (some ⟨h, 0, none⟩)] w' fun e w'' => e = .returned (.int .i64 S) ∧ Ext w' w'') (kFar : ∀ w', Calls Tryz.prog 106 #[.int .u32 (b : Int), .int .i64 e] w' fun x w'' => x = .returned (.bool false) ∧ Ext w' w'')
  (kN : ∀ w', Calls Tryz.prog 50 #[.int .i64 e] w' (NPost w' e)) (kB : ∀ w', Calls Tryz.prog 50 #[.int .i64 (b : Int)] w' (NPost w' ((b : Nat) : Int)))
  (kA : ∀ (g : Nat) (A : Option Addr) (n c : Nat) (w' : World), IntIs w' g 0 e A n c → Calls Tryz.prog 107 #[.pointer (some ⟨g, 0, none⟩), .pointer (some ⟨g, 0, none⟩)] w' (IPost w' g 0 ((N : Nat) : Int)))
  (kE : ∀ (g h i : Nat) (A : Option Addr) (n c : Nat) (B : Option Addr) (n2 c2 : Nat) (w' : World), Room w' g 0 → IntIs w' h 0 ((b : Nat) : Int) A n c → IntIs w' i 0 ((N : Nat) : Int) B n2 c2 → Calls Tryz.prog 109 #[.pointer (some ⟨g, 0, none⟩), .pointer (some ⟨h, 0, none⟩), .pointer (some ⟨i, 0, none⟩), .pointer none] w' (IPost w' g 0 ((V : Nat) : Int)))
  (kI : ∀ (g h : Nat) (A : Option Addr) (n c : Nat) (w' : World), RatRoom w' g → IntIs w' h 0 ((V : Nat) : Int) A n c → Calls Tryz.prog 108 #[.pointer (some ⟨g, 0, none⟩), .pointer (some ⟨h, 0, none⟩)] w' (FPost w' g ((V : Nat) : Int) 0))
  (kO : ∀ (g : Nat) (A : Option Addr) (n c : Nat) (D : Option Addr) (m k h : Nat) (B : Option Addr) (n2 c2 : Nat) (C : Option Addr) (m2 k2 : Nat) (w' : World), Ext w w' → RatIs w' g x A n c p D m k → RatIs w' h ((V : Nat) : Int) B n2 c2 0 C m2 k2 → Calls Tryz.prog 97 #[.pointer (some ⟨g, 0, none⟩), .pointer (some ⟨g, 0, none⟩), .pointer (some ⟨h, 0, none⟩)] w' (FPost w' g z q)) (kF : ∀ (g : Nat) (A : Option Addr) (n c : Nat) (D : Option Addr) (m k : Nat) (w' : World), RatIs w' g z A n c q D m k → Calls Tryz.prog 52 #[.pointer (some ⟨g, 0, none⟩)] w' (UPost w' z E)) :
  Calls Tryz.prog 47 #[ratV s A n c D m k, .int .u32 (b : Int), .int .i64 e] w (DfPst w (decide (z < 0)) (lim z.natAbs) (lim E) 0) := by
 have he3 : (e == 0) = false := by rw [beq_eq_false_iff_ne]; omega
 have hb0 : ((b : Int) == 0) = false := by rw [beq_eq_false_iff_ne]; omega
 have hb1 : ((b : Int) == 1) = false := by rw [beq_eq_false_iff_ne]; omega
 have hb2 : ¬ (b : Int) = 0 := by omega
 go_enter Tryz.func47, Tryz.ntmps47
 go_upto_region 14 with (first
  | (go_at_call 27; (with_reducible refine (kC _ xcl).mono ?_); rintro e w1 ⟨rfl, xb1⟩; obtain ⟨xc1, xf1, xl1, xz1⟩ := jU xb1; (try simp at xz1); obtain ⟨l1_0, r1_0, f1_0, r1_0_1, f1_0_1, r1_0_2, f1_0_2⟩ := kq3 xb1 (w.heap.size); obtain ⟨l1_1, r1_1, f1_1, r1_1_1, f1_1_1, r1_1_2, f1_1_2⟩ := kq3 xb1 (w.heap.size + 1))
  | (go_at_call 62; (with_reducible refine (kR _ xcl).mono ?_); rintro e w2 ⟨g2, A2, n2, c2, D2, m2, k2, rfl, hR2, hg2, xb2⟩; obtain ⟨xc2, xf2, xl2, xz2⟩ := jU xb2; (try simp at xz2); obtain ⟨l2_0, r2_0, f2_0, r2_0_1, f2_0_1, r2_0_2, f2_0_2⟩ := kq3 xb2 (w.heap.size + 1))
  | (go_at_call 99; (with_reducible refine (kS _ _ _ _ _ _ _ _ hR2.out.1).mono ?_); rintro e w3 ⟨rfl, xb3⟩; obtain ⟨xc3, xf3, xl3, xz3⟩ := jU xb3; (try simp at xz3); obtain ⟨l3_0, r3_0, f3_0, r3_0_1, f3_0_1, r3_0_2, f3_0_2⟩ := kq3 xb3 (w.heap.size + 1))
  | (go_at_call 106; (with_reducible refine (kFar _).mono ?_); rintro e w4 ⟨rfl, xb4⟩; obtain ⟨xc4, xf4, xl4, xz4⟩ := jU xb4; (try simp at xz4); obtain ⟨l4_0, r4_0, f4_0, r4_0_1, f4_0_1, r4_0_2, f4_0_2⟩ := kq3 xb4 (w.heap.size + 1))
  | (go_at_call 50; (with_reducible refine (kN _).mono ?_); rintro e w5 ⟨b5, A5, n5, c5, rfl, hI5, hb5, xb5⟩; obtain ⟨xc5, xf5, xl5, xz5⟩ := jU xb5; (try simp at xz5); obtain ⟨l5_0, r5_0, f5_0, r5_0_1, f5_0_1, r5_0_2, f5_0_2⟩ := kq3 xb5 (w.heap.size + 1))
  )
 have hX4 : Hid (RatIs w4 g2 x A2 n2 c2 p D2 m2 k2) := Lib.hid (hR2.out.1.ext (jT xb3 xb4))
 have hE04 : Hid (Ext ((w.alloc (Obj.cells #[.bool s, .slice A n c, .slice D m k] 32)).alloc (Obj.cells #[.bool false, .slice none 0 0, .slice none 0 0] 32)) w4) := Lib.hid (jT xb1 (jT xb2 (jT xb3 xb4)))
 have hg0 := hg2
 have hg02 : ((w.alloc (Obj.cells #[.bool s, .slice A n c, .slice D m k] 32)).alloc (Obj.cells #[.bool false, .slice none 0 0, .slice none 0 0] 32)).heap.size ≤ g2 := Nat.le_trans (ext_size xb1) hg0
 have kA5 := kA b5 A5 n5 c5 w5 hI5.out.1
 go_upto_region 15 with (first
  | (go_at_call 107; (with_reducible refine kA5.mono ?_); rintro e w6 ⟨rfl, A6, n6, c6, hI6, xt6⟩)
  )
 have hE46 : Ext w4 w6 := xt6.ext xb5 hb5
 have hE06 := Lib.hid (jT hE04.out hE46)
 have hX6 : Hid (RatIs w6 g2 x A2 n2 c2 p D2 m2 k2) := Lib.hid (hX4.out.ext hE46)
 have hI6' := Lib.hid hI6.out.1
 clear kA5 xb5 hI5 hb5 xt6 hI6 hE46 hX4 hE04 hR2 xb1 xb2 xb3 xb4 hg0 hg2
 go_upto_region 16 with (first
  | (go_at_call 50; (with_reducible refine (kB _).mono ?_); rintro e w7 ⟨b7, A7, n7, c7, rfl, hI7, hb7, xb7⟩; obtain ⟨xc7, xf7, xl7, xz7⟩ := jU xb7; (try simp at xz7))
  | (go_at_call 109; have hr8 : Hid (Room w7 (w6.heap.size + 1) 0) := Lib.hid (by have := (room_int (w6.alloc (Obj.cells #[.bool false, .slice none 0 0, .slice none 0 0] 74))).ext xb7; simpa using this); (with_reducible refine (kE (w6.heap.size + 1) b7 _ A7 n7 c7 A6 n6 c6 w7 hr8.out hI7.out.1 (hI6'.out.ext (jT (jA (jA (jR _) _) _) xb7))).mono ?_); rintro e w8 ⟨rfl, A8, n8, c8, hI8, xt8⟩)
  | (go_at_call 108; have hr9 : Hid (RatRoom w8 w6.heap.size) := Lib.hid (((room_rat w6).ext (jT (jA (jR _) _) xb7)).tch xt8 (by omega)); (with_reducible refine (kI w6.heap.size (w6.heap.size + 1) A8 n8 c8 w8 hr9.out hI8.out.1).mono ?_); rintro e w9 ⟨rfl, A9, n9, c9, D9, m9, k9, hR9, xt9⟩)
  )
 have hE68 : Ext w6 w8 := xt8.ext (jT (jA (jA (jR _) _) _) xb7) (Nat.le_succ _)
 have hE69 : Ext w6 w9 := xt9.ext hE68 (Nat.le_refl _)
 have hE09 := Lib.hid (jT hE06.out hE69)
 have hE9 : Hid (Ext w w9) := Lib.hid (jT (jA (jA (jR w) _) _) hE09.out)
 have kO9 := kO g2 A2 n2 c2 D2 m2 k2 w6.heap.size A9 n9 c9 D9 m9 k9 w9 hE9.out (hX6.out.ext hE69) hR9.out.1
 clear hI7 hb7 xb7 hI8 xt8 hR9 xt9 hE68 hE69 hE06 hX6 hI6' kA kE kI kB kN kO
 go_wp2_with (first
  | (go_at_call 97; (with_reducible refine kO9.mono ?_); rintro e w10 ⟨rfl, A10, n10, c10, D10, m10, k10, hR10, xt10⟩; have hE10 := Lib.hid (xt10.ext hE09.out hg02); obtain ⟨l10_0, gc, gf⟩ := kp hE10.out (w.heap.size + 1) (by simp); have r10_0 := gc 0; have f10_0 := gf 0; have r10_1 := gc 1; have f10_1 := gf 1; have r10_2 := gc 2; have f10_2 := gf 2; clear gc gf)
  | (go_at_call 52; (with_reducible refine (kF _ _ _ _ _ _ _ _ hR10.out.1).mono ?_); rintro e w11 ⟨A11, n11, c11, D11, m11, k11, rfl, hR11, xb11⟩; obtain ⟨xc11, xf11, xl11, xz11⟩ := jU xb11; (try simp at xz11); obtain ⟨l11_0, r11_0, f11_0, r11_0_1, f11_0_1, r11_0_2, f11_0_2⟩ := kq3 xb11 (w.heap.size + 1))
  )
 have z0 : w11.cell? ⟨w.heap.size + 1, 0, none⟩ = some (.bool false) := by simp [go_sem, *]
 have z1 : w11.cell? ⟨w.heap.size + 1, 1, none⟩ = some (.slice none 0 0) := by simp [go_sem, *]
 have z2 : w11.cell? ⟨w.heap.size + 1, 2, none⟩ = some (.slice none 0 0) := by simp [go_sem, *]
 have hEE : Ext w w11 := by exact jT (jA (jA (jR w) _) _) (jT hE10.out xb11)
 obtain ⟨q0, q1, q2⟩ := set3 (b := w.heap.size + 1) z0 z1 z2 (.bool (decide (z < 0))) (.slice A11 n11 c11) (.slice D11 m11 k11)
 have n5 : ∀ a, A11 = some a → w.heap.size + 1 < a.block := fun a ha => by have := hR11.out.2.1 a ha; (try simp at this); omega
 have n6 : ∀ a, D11 = some a → w.heap.size + 1 < a.block := fun a ha => by have := hR11.out.2.2.2 a ha; (try simp at this); omega
 refine bodyPost_ret (v := .tuple #[ratV (decide (z < 0)) A11 n11 c11 D11 m11 k11, .int .i64 0]) ?h rfl ⟨⟨A11, n11, c11, D11, m11, k11⟩, rfl, ⟨hR11.out.1.set3 n5 _ _ _, hR11.out.2.2.1.set3 n6 _ _ _, fun a ha => by have := n5 a ha; omega, fun a ha => by have := n6 a ha; omega⟩, ext_set3 hEE (Nat.le_succ _) _ _ _⟩
 case h => simp [results, Tryz.results47, go_sem, q0, q1, q2]
end
end Go.Proofs.YtchbefambnhjjaaGreatDoor.NB
end
section
/- Two fractions: the program's answer and the document's, together (written by mkopsb.py). -/
namespace Go.Proofs.YtchbefambnhjjaaGreatDoor.NB
open Go.RowKit
set_option maxHeartbeats 4000000
set_option maxRecDepth 100000
attribute [local irreducible] Calls
theorem rd_check_no (s : Bool) (A : Option Addr) (n c : Nat) (xs : List Nat) (D : Option Addr) (m k : Nat) (ys : List Nat) (hno : ¬ RatOk s xs ys) (w : World) (hT : Tz w) (hA : Rd w A n c xs) (hD : Rd w D m k ys) :
  Calls Tryz.prog 27 #[ratV s A n c D m k] w fun e w' => e = .returned (.int .i64 20) ∧ Ext w w' := by
 by_cases h1 : chk xs = 0
 ·by_cases h2 : chk ys ≠ 0 ∨ m = 0
  ·exact rd_Check_no2 s A n c D m k w xs ys h1 h2 hA hD
  ·have h2' : chk ys = 0 := by
    by_cases h : chk ys = 0
    ·exact h
    ·exact absurd (.inl h) h2
   have hm : m ≠ 0 := fun h => h2 (.inr h)
   obtain ⟨l1, e1⟩ := chk_zero hA.lb h1
   obtain ⟨l2, e2⟩ := chk_zero hD.lb h2'
   have a1 := hA.len
   have a2 := hD.len
   have h3 : val ys ≠ 0 := fun h => hm (by rw [← a2, e2, h, lim_zero]; rfl)
   have hA' := hA
   have hD' := hD
   rw [e1] at hA'
   rw [e2] at hD'
   refine rd_Check_in s A n c (val xs) D m k (val ys) w (Nat.gcd (val xs) (val ys)) rfl h3 (by omega) (by omega) hT hA' hD' 20 ?_
   rw [if_pos]
   by_cases h4 : Nat.gcd (val xs) (val ys) = 1
   ·left
    by_cases h5 : val xs = 0
    ·refine ⟨h5, ?_⟩
     by_cases h6 : s = true
     ·exact .inl h6
     ·right
      intro h7
      exact hno ⟨h1, h2', h3, h4, fun h => absurd h h6⟩
    ·exact absurd ⟨h1, h2', h3, h4, fun _ => h5⟩ hno
   ·exact .inr h4
 ·exact rd_Check_no1 s A n c D m k w rfl xs ys h1 hA hD
theorem rd_check_yes (s : Bool) (A : Option Addr) (n c a : Nat) (D : Option Addr) (m k d : Nat) (hd : d ≠ 0) (hn : n ≤ 16384) (hm : m ≤ 16384) (hg : Nat.gcd a d = 1) (hng : s = true → a ≠ 0) (w : World) (hT : Tz w) (hA : Rd w A n c (lim a)) (hD : Rd w D m k (lim d)) :
  Calls Tryz.prog 27 #[ratV s A n c D m k] w fun e w' => e = .returned (.int .i64 0) ∧ Ext w w' := by
 refine rd_Check_in s A n c a D m k d w 1 hg hd hn hm hT hA hD 0 ?_
 rw [if_neg]
 rintro (⟨h1, h2⟩ | h)
 ·rcases h2 with h2 | h2
  ·exact hng h2 h1
  ·rw [h1, Nat.gcd_zero_left] at hg; exact h2 hg
 ·exact h rfl
end Go.Proofs.YtchbefambnhjjaaGreatDoor.NB
namespace Go.Proofs.YtchbefambnhjjaaGreatDoor
open Go.RowKit
set_option maxHeartbeats 4000000
set_option maxRecDepth 100000
attribute [local irreducible] Calls
abbrev OfPst (w : World) (s : Bool) (xs ys : List Nat) (E : Int) : Ending → World → Prop := fun e w' => ∃ F : FH, e = .returned (.tuple #[fV s F, .int .i64 E]) ∧ Hid (RdO w' F.A F.n F.c xs none ∧ Fr w F.A ∧ RdO w' F.D F.m F.k ys F.A ∧ Fr w F.D) ∧ Ext w w'
structure FrIn (w : World) (F : FH) (xs ys : List Nat) : Prop where
 num : Rd w F.A F.n F.c xs
 den : Rd w F.D F.m F.k ys
theorem FrIn.ext {w w' : World} {F : FH} {xs ys : List Nat} (h : FrIn w F xs ys) (he : Ext w w') : FrIn w' F xs ys := ⟨h.num.ext he, h.den.ext he⟩
theorem of_t {w : World} {z : Int} {d : Nat} {f : FuncId} {v : Array Value} (h : Calls Tryz.prog f v w (TPost w z d)) : Calls Tryz.prog f v w (OfPst w (decide (z < 0)) (lim z.natAbs) (lim d) 0) := by
 refine h.mono ?_
 rintro e w' ⟨A, n, c, D, m, k, rfl, h1, h2⟩
 exact ⟨⟨A, n, c, D, m, k⟩, rfl, h1, h2⟩
theorem of_no {w : World} {E : Int} {f : FuncId} {v : Array Value} (h : Calls Tryz.prog f v w (NoE w E)) : Calls Tryz.prog f v w (OfPst w false [] [] E) := by
 refine h.mono ?_
 rintro e w' ⟨rfl, h1⟩
 exact ⟨⟨none, 0, 0, none, 0, 0⟩, rfl, Lib.hid ⟨RdO.nil _ _, fr_none _, RdO.nil _ _, fr_none _⟩, h1⟩
theorem RatOk.parts {s : Bool} {xs ys : List Nat} (h : RatOk s xs ys) (hb : Lb xs) (hb2 : Lb ys) : ∃ a d, xs = lim a ∧ ys = lim d ∧ d ≠ 0 ∧ Nat.gcd a d = 1 ∧ (s = true → a ≠ 0) :=
 ⟨val xs, val ys, (chk_zero hb h.1).2, (chk_zero hb2 h.2.1).2, h.2.2.1, h.2.2.2.1, h.2.2.2.2⟩
section
variable {s t : Bool} {xs ys us vs : List Nat}
theorem tk_no {s : Bool} {xs ys : List Nat} (h : ¬ RatOk s xs ys) (F : FH) (w : World) (hT : Tz w) (hF : FrIn w F xs ys) : ∀ w', Ext w w' → Calls Tryz.prog 68 #[fV s F] w' fun e w'' => e = .returned (.tuple #[.pointer none, .int .i64 20]) ∧ Ext w' w'' := fun w' he => ra_taken_no s F.A F.n F.c xs F.D F.m F.k ys h w' (hT.ext he) (hF.num.ext he) (hF.den.ext he)
theorem dk_no {s : Bool} {xs ys : List Nat} (h : ¬ RatOk s xs ys) (F : FH) (w : World) (hT : Tz w) (hF : FrIn w F xs ys) : ∀ w', Ext w w' → Calls Tryz.prog 27 #[fV s F] w' fun e w'' => e = .returned (.int .i64 20) ∧ Ext w' w'' := fun w' he => NB.rd_check_no s F.A F.n F.c xs F.D F.m F.k ys h w' (hT.ext he) (hF.num.ext he) (hF.den.ext he)
section
variable {a d : Nat} (hd : d ≠ 0) (hg : Nat.gcd a d = 1) (hn : s = true → a ≠ 0) (l1 : (lim a).length ≤ 40) (l2 : (lim d).length ≤ 40) (F : FH) (w : World) (hT : Tz w) (hF : FrIn w F (lim a) (lim d))
include hd hg hn l1 l2 hT hF
theorem tk_yes : ∀ w', Ext w w' → Calls Tryz.prog 68 #[fV s F] w' (KPost w' (sgn s a) (lowD a d)) := fun w' he => ra_taken s F.A F.n F.c a F.D F.m F.k d hd (by have := hF.num.len; omega) (by have := hF.den.len; omega) hg hn w' (hT.ext he) (hF.num.ext he) (hF.den.ext he)
theorem dk_yes : ∀ w', Ext w w' → Calls Tryz.prog 27 #[fV s F] w' fun e w'' => e = .returned (.int .i64 0) ∧ Ext w' w'' := fun w' he => NB.rd_check_yes s F.A F.n F.c a F.D F.m F.k d hd (by have := hF.num.len; omega) (by have := hF.den.len; omega) hg hn w' (hT.ext he) (hF.num.ext he) (hF.den.ext he)
end
theorem dr_yes {s : Bool} {a d : Nat} (hd : d ≠ 0) (hg : Nat.gcd a d = 1) (l1 : (lim a).length ≤ 40) (l2 : (lim d).length ≤ 40) (F : FH) (w : World) (hT : Tz w) (hF : FrIn w F (lim a) (lim d)) : ∀ w', Ext w w' → Calls Tryz.prog 62 #[fV s F] w' (NB.RatPst w' (sgn s a) (lowD a d)) := fun w' he => NB.rd_Rat s F.A F.n F.c a F.D F.m F.k d hd (by have := hF.num.len; omega) (by have := hF.den.len; omega) hg w' (hT.ext he) (hF.num.ext he) (hF.den.ext he)
end
end Go.Proofs.YtchbefambnhjjaaGreatDoor
end
section
/- Times a power: the program's answer and the document's, together. -/
namespace Go.Proofs.YtchbefambnhjjaaGreatDoor
open Go.RowKit
set_option maxHeartbeats 4000000
set_option maxRecDepth 100000
attribute [local irreducible] Calls
abbrev ScPst (s : Bool) (xs ys : List Nat) (b : Nat) (e : Int) : Prop := ∃ (r : Bool) (zs ws : List Nat) (E : Int), zs.length ≤ 1000000 ∧ ws.length ≤ 1000000 ∧
 (∀ F w, Tz w → FrIn w F xs ys → Calls Tryz.prog 46 #[fV s F, .int .u32 (b : Int), .int .i64 e] w (OfPst w r zs ws E)) ∧ (∀ F w, Tz w → FrIn w F xs ys → Calls Tryz.prog 47 #[fV s F, .int .u32 (b : Int), .int .i64 e] w (NB.DfPst w r zs ws E))
theorem sgn_over (x : Int) (V : Nat) : sgn (!(decide (x < 0) == decide (((V : Nat) : Int) < 0))) (x.natAbs * 1 : Nat) = x := by
 rw [decide_eq_false (show ¬ ((V : Nat) : Int) < 0 by omega), Nat.mul_one]
 by_cases h : x < 0
 ·rw [decide_eq_true h]
  have := ra_own x
  rw [decide_eq_true h] at this
  exact this
 ·rw [decide_eq_false h]
  have := ra_own x
  rw [decide_eq_false h] at this
  exact this
theorem few_small {v : Nat} (h : v < 18446744073709551616) : (lim v).length ≤ 2 := by
 refine lim_le ?_
 have e : Bs ^ 2 = 18446744073709551616 := by kernel_rfl
 rw [e]
 exact h
section
variable {s : Bool} {a d b : Nat} {e : Int} (hd : d ≠ 0) (hg : Nat.gcd a d = 1) (hn : s = true → a ≠ 0) (l1 : (lim a).length ≤ 40) (l2 : (lim d).length ≤ 40)
include hd hg hn l1 l2
theorem sc_same (h : e = 0 ∨ b = 1) : ScPst s (lim a) (lim d) b e := by
 have hw := lim_mono (lowD_le a d)
 refine ⟨_, lim (sgn s a).natAbs, lim d, 0, by rw [sgn_abs]; omega, by omega, fun F w hT hF => of_t (sc_one s F.A F.n F.c F.D F.m F.k b e w h (tk_yes hd hg hn l1 l2 F w hT hF) (fun g A n c D m k w' hX => ?_)), fun F w hT hF => NB.sd_one s F.A F.n F.c F.D F.m F.k b e w (sgn s a) (lowD a d) (sgn s a) d h (dk_yes hd hg hn l1 l2 F w hT hF) (dr_yes hd hg l1 l2 F w hT hF) (fun g A n c D m k w' hX => ?_)⟩
 ·have e1 := hX.int.rd.len
  have e2 := hX.rd.len
  rw [sgn_abs] at e1
  have h := ra_told_ok g (sgn s a) A n c (lowD a d) D m k (by omega) (by omega) (by rw [den_low hd hg]; omega) w' hX
  rwa [den_low hd hg] at h
 ·have e1 := hX.int.rd.len
  have e2 := hX.rd.len
  rw [sgn_abs] at e1
  have h := NB.rd_Of g (sgn s a) A n c (lowD a d) D m k (by omega) (by omega) (by rw [den_low hd hg]; omega) w' hX
  rwa [den_low hd hg] at h
theorem sc_val (hb : 2 ≤ b) (hbl : b < 4294967296) (he : ¬ e = 0) (ha : a ≠ 0) (h1 : -300 ≤ e) (h2 : e ≤ 300) : ScPst s (lim a) (lim d) b e := by
 have hw := lim_mono (lowD_le a d)
 have hf : Few 40 (sgn s a) d := ⟨by rw [sgn_abs]; exact l1, l2⟩
 have hfp := pw_few hf hbl h1 h2
 have hfc := hfp.can
 have hq := pwD_pos (e := e) hd (show 1 ≤ b by omega)
 have hwl := lim_mono (canW_le (pwZ (sgn s a) b e) (pwD d b e))
 have hx0 : sgn s a ≠ 0 := fun h => ha (by have := congrArg Int.natAbs h; rwa [sgn_abs] at this)
 obtain ⟨N, hN⟩ : ∃ N : Nat, N = e.natAbs := ⟨_, rfl⟩
 have hN1 : 1 ≤ N := by omega
 have hlV := pow_few hbl N
 have hVp : b ^ N ≠ 0 := Nat.pos_iff_ne_zero.1 (Nat.pow_pos (by omega))
 have hV1 : denOf 0 = 1 := rfl
 refine ⟨_, lim (canN (pwZ (sgn s a) b e) (pwD d b e)).natAbs, lim (canD (pwZ (sgn s a) b e) (pwD d b e)), 0, by have := hfc.1; omega, by have := hfc.2; omega, fun F w hT hF => of_t (tpost_scale s F.A F.n F.c a F.D F.m F.k d b e w hd (by have := hF.num.len; omega) (by have := hF.den.len; omega) hg hn (by omega) hbl h1 h2 hT hF.num hF.den), fun F w hT hF => ?_⟩
 have kS : ∀ (h : Nat) (B : Option Addr) (n2 c2 : Nat) (C : Option Addr) (m2 k2 : Nat) (w' : World), RatIs w' h (sgn s a) B n2 c2 (lowD a d) C m2 k2 → Calls Tryz.prog 99 #[.pointer (some ⟨h, 0, none⟩)] w' fun e w'' => e = .returned (.int .i64 (sgn s a).sign) ∧ Ext w' w'' := fun h B n2 c2 C m2 k2 w' hY => NB.br_Sign h _ B n2 c2 w' hY.int
 have hS : ((sgn s a).sign == 0) = false := by rw [beq_eq_false_iff_ne, ne_eq, Int.sign_eq_zero_iff_zero]; exact hx0
 have kFar : ∀ w', Calls Tryz.prog 106 #[.int .u32 (b : Int), .int .i64 e] w' fun x w'' => x = .returned (.bool false) ∧ Ext w' w'' := fun w' => NB.rd_far b e hb hbl (by omega) (by omega) false (.inl ⟨h1, h2, rfl⟩) w'
 have kN : ∀ w', Calls Tryz.prog 50 #[.int .i64 e] w' (NPost w' e) := fun w' => NB.bi_NewInt e (by omega) (by omega) w'
 have kB : ∀ w', Calls Tryz.prog 50 #[.int .i64 (b : Int)] w' (NPost w' ((b : Nat) : Int)) := fun w' => NB.bi_NewInt (b : Int) (by omega) (by omega) w'
 have kA : ∀ (g : Nat) (A : Option Addr) (n c : Nat) (w' : World), IntIs w' g 0 e A n c → Calls Tryz.prog 107 #[.pointer (some ⟨g, 0, none⟩), .pointer (some ⟨g, 0, none⟩)] w' (IPost w' g 0 ((N : Nat) : Int)) := fun g A n c w' h => by
  have e1 := h.rd.len
  have e2 := few_small (v := e.natAbs) (by omega)
  rw [hN]
  exact NB.bi_Abs g 0 g 0 A n c e (by omega) w' h.room h
 have kE : ∀ (g h i : Nat) (A : Option Addr) (n c : Nat) (B : Option Addr) (n2 c2 : Nat) (w' : World), Room w' g 0 → IntIs w' h 0 ((b : Nat) : Int) A n c → IntIs w' i 0 ((N : Nat) : Int) B n2 c2 → Calls Tryz.prog 109 #[.pointer (some ⟨g, 0, none⟩), .pointer (some ⟨h, 0, none⟩), .pointer (some ⟨i, 0, none⟩), .pointer none] w' (IPost w' g 0 ((b ^ N : Nat) : Int)) := fun g h i A n c B n2 c2 w' hr hX hY => by
  have e1 := hX.rd.len
  have e2 := few_small (v := ((b : Nat) : Int).natAbs) (by omega)
  exact NB.bi_Exp g h i b N (by omega) hN1 (by omega) A n c B n2 c2 (by omega) (by omega) w' hr hX hY
 have kI : ∀ (g h : Nat) (A : Option Addr) (n c : Nat) (w' : World), RatRoom w' g → IntIs w' h 0 ((b ^ N : Nat) : Int) A n c → Calls Tryz.prog 108 #[.pointer (some ⟨g, 0, none⟩), .pointer (some ⟨h, 0, none⟩)] w' (FPost w' g ((b ^ N : Nat) : Int) 0) := fun g h A n c w' hr hX => by
  have e1 := hX.rd.len
  rw [Int.natAbs_natCast] at e1
  exact NB.br_SetInt g h _ A n c (by omega) w' hr hX
 have kF : ∀ (g : Nat) (A : Option Addr) (n c : Nat) (D : Option Addr) (m k : Nat) (w' : World), RatIs w' g (canN (pwZ (sgn s a) b e) (pwD d b e)) A n c (canW (pwZ (sgn s a) b e) (pwD d b e)) D m k → Calls Tryz.prog 52 #[.pointer (some ⟨g, 0, none⟩)] w' (NB.UPost w' (canN (pwZ (sgn s a) b e) (pwD d b e)) (canD (pwZ (sgn s a) b e) (pwD d b e))) := fun g A n c D m k w' hX => by
  have e1 := hX.int.rd.len
  have e2 := hX.rd.len
  have f1 := hfc.1
  have f2 := hfc.2
  have f3 := hfp.2
  have h := NB.rd_Of g _ A n c _ D m k (by omega) (by omega) (by rw [canW_den hq]; omega) w' hX
  rwa [canW_den hq] at h
 have hgx : Nat.gcd (sgn s a).natAbs (denOf (lowD a d)) = 1 := by rw [sgn_abs, den_low hd hg]; exact hg
 have hgv : Nat.gcd ((b ^ N : Nat) : Int).natAbs (denOf 0) = 1 := by rw [hV1]; exact Nat.gcd_one_right _
 by_cases hneg : e < 0
 ·refine NB.sd_Quo s F.A F.n F.c F.D F.m F.k b e w (sgn s a) (lowD a d) (sgn s a).sign N (b ^ N) _ (canW (pwZ (sgn s a) b e) (pwD d b e)) _ he (decide_eq_true hneg) hb hbl hS (dk_yes hd hg hn l1 l2 F w hT hF) (dr_yes hd hg l1 l2 F w hT hF) kS kFar kN kB kA kE kI (fun g A n c D m k h B n2 c2 C m2 k2 w' he' hX hY => ?_) kF
  have e1 := hX.int.rd.len
  have e2 := hX.rd.len
  have e3 := hY.int.rd.len
  have e4 := hY.rd.len
  rw [sgn_abs] at e1
  rw [Int.natAbs_natCast] at e3
  rw [lim_zero] at e4
  simp only [List.length_nil] at e4
  have h := NB.br_Quo g g h (sgn s a) ((b ^ N : Nat) : Int) (lowD a d) 0 (by omega) hgx hgv A n c D m k B n2 c2 C m2 k2 (by omega) (by omega) (by omega) (by omega) w' (hT.ext he') hX.room hX hY
  rw [den_low hd hg, hV1, sgn_over, Int.natAbs_natCast] at h
  have ez : pwZ (sgn s a) b e = sgn s a := by unfold pwZ; rw [if_pos hneg]
  have ed : pwD d b e = d * b ^ N := by unfold pwD; rw [if_pos hneg, hN]; congr 2; omega
  rw [ez, ed]
  exact h
 ·refine NB.sd_Mul s F.A F.n F.c F.D F.m F.k b e w (sgn s a) (lowD a d) (sgn s a).sign N (b ^ N) _ (canW (pwZ (sgn s a) b e) (pwD d b e)) _ he (decide_eq_false hneg) hb hbl hS (dk_yes hd hg hn l1 l2 F w hT hF) (dr_yes hd hg l1 l2 F w hT hF) kS kFar kN kB kA kE kI (fun g A n c D m k h B n2 c2 C m2 k2 w' he' hX hY => ?_) kF
  have e1 := hX.int.rd.len
  have e2 := hX.rd.len
  have e3 := hY.int.rd.len
  have e4 := hY.rd.len
  rw [sgn_abs] at e1
  rw [Int.natAbs_natCast] at e3
  rw [lim_zero] at e4
  simp only [List.length_nil] at e4
  have h := NB.br_Mul g g h (sgn s a) ((b ^ N : Nat) : Int) (lowD a d) 0 hgx hgv A n c D m k B n2 c2 C m2 k2 (by omega) (by omega) (by omega) (by omega) w' (hT.ext he') hX.room hX hY
  rw [den_low hd hg, hV1, Nat.mul_one] at h
  have ez : pwZ (sgn s a) b e = sgn s a * ((b ^ N : Nat) : Int) := by unfold pwZ; rw [if_neg hneg, hN]; congr 3; omega
  have ed : pwD d b e = d := by unfold pwD; rw [if_neg hneg]
  rw [ez, ed]
  exact h
theorem sc_nil (he : ¬ e = 0) (hb : (b = 0 ∧ 0 < e) ∨ (2 ≤ b ∧ a = 0)) : ScPst s (lim a) (lim d) b e := by
 have kS : ∀ (h : Nat) (B : Option Addr) (n2 c2 : Nat) (C : Option Addr) (m2 k2 : Nat) (w' : World), RatIs w' h (sgn s a) B n2 c2 (lowD a d) C m2 k2 → Calls Tryz.prog 99 #[.pointer (some ⟨h, 0, none⟩)] w' fun e w'' => e = .returned (.int .i64 (sgn s a).sign) ∧ Ext w' w'' := fun h B n2 c2 C m2 k2 w' hY => NB.br_Sign h _ B n2 c2 w' hY.int
 have e1 : (lim 1).length = 1 := by kernel_rfl
 have e0 : (lim (0 : Int).natAbs).length = 0 := by kernel_rfl
 have ea : a = 0 → ((sgn s a).sign == 0) = true := fun h => by subst h; cases s <;> rfl
 refine ⟨false, lim (0 : Int).natAbs, lim 1, 0, by omega, by omega, fun F w hT hF => ?_, fun F w hT hF => ?_⟩
 ·rcases hb with ⟨rfl, hp⟩ | ⟨hb, rfl⟩
  ·exact of_t (sc_zero s F.A F.n F.c F.D F.m F.k e w hp (tk_yes hd hg hn l1 l2 F w hT hF))
  ·have hk := tk_yes hd hg hn l1 l2 F w hT hF
   rw [show sgn s 0 = 0 by cases s <;> rfl] at hk
   exact of_t (sc_noughts s F.A F.n F.c F.D F.m F.k b e w he hb hk)
 ·by_cases ha : a = 0
  ·refine NB.sd_zeroS s F.A F.n F.c F.D F.m F.k b e w (sgn s a) (lowD a d) _ he ?_ (ea ha) (dk_yes hd hg hn l1 l2 F w hT hF) (dr_yes hd hg l1 l2 F w hT hF) kS
   rcases hb with h | ⟨h, _⟩
   ·exact .inr h
   ·exact .inl h
  ·rcases hb with ⟨rfl, hp⟩ | ⟨_, h⟩
   ·exact NB.sd_zero0 s F.A F.n F.c F.D F.m F.k e w (sgn s a) (lowD a d) _ hp (by rw [beq_eq_false_iff_ne, ne_eq, Int.sign_eq_zero_iff_zero]; exact fun h => ha (by have := congrArg Int.natAbs h; rwa [sgn_abs] at this)) (dk_yes hd hg hn l1 l2 F w hT hF) (dr_yes hd hg l1 l2 F w hT hF) kS
   ·exact absurd h ha
theorem sc_beyond (hb : 2 ≤ b) (hbl : b < 4294967296) (he1 : -9223372036854775808 ≤ e) (he2 : e ≤ 9223372036854775807) (ha : a ≠ 0) (hfar : e > 4194304 ∨ e < -4194304) : ScPst s (lim a) (lim d) b e := by
 have hx0 : sgn s a ≠ 0 := fun h => ha (by have := congrArg Int.natAbs h; rwa [sgn_abs] at this)
 have he : ¬ e = 0 := by omega
 have hbl2 := bitLen_two hb hbl
 obtain ⟨K, hK, hK1, hK2⟩ := most_ok (M := Lib.bitLen b - 1) (by omega) (by omega)
 exact ⟨false, [], [], 4, by simp, by simp, fun F w hT hF => of_no (sc_far s F.A F.n F.c F.D F.m F.k b e w hx0 he hb hbl rfl (show ((Lib.bitLen b : Nat) : Int) - 1 = ((Lib.bitLen b - 1 : Nat) : Int) by omega) (by omega) (by omega) hK hK2 (by omega) (tk_yes hd hg hn l1 l2 F w hT hF)),
  fun F w hT hF => NB.sd_far s F.A F.n F.c F.D F.m F.k b e w (sgn s a) (lowD a d) (sgn s a).sign he hb (by rw [beq_eq_false_iff_ne, ne_eq, Int.sign_eq_zero_iff_zero]; exact hx0) (dk_yes hd hg hn l1 l2 F w hT hF) (dr_yes hd hg l1 l2 F w hT hF) (fun h B n2 c2 C m2 k2 w' hY => NB.br_Sign h _ B n2 c2 w' hY.int) (fun w' => NB.rd_far b e hb hbl he1 he2 true (.inr ⟨hfar, rfl⟩) w')⟩
end
theorem bo_Scale {s : Bool} {xs ys : List Nat} (hx : Lb xs) (hy : Lb ys) (l1 : xs.length ≤ 40) (l2 : ys.length ≤ 40) (b : Nat) (hbl : b < 4294967296) (e : Int) (he1 : -9223372036854775808 ≤ e) (he2 : e ≤ 9223372036854775807) (hl : b < 2 ∨ (-300 ≤ e ∧ e ≤ 300) ∨ e > 4194304 ∨ e < -4194304) : ScPst s xs ys b e := by
 by_cases h1 : RatOk s xs ys
 ·obtain ⟨a, d, rfl, rfl, hd, hg, hn⟩ := h1.parts hx hy
  by_cases h0 : e = 0 ∨ b = 1
  ·exact sc_same hd hg hn l1 l2 h0
  ·have he : ¬ e = 0 := fun h => h0 (.inl h)
   have hb1 : ¬ b = 1 := fun h => h0 (.inr h)
   by_cases hb : b = 0
   ·by_cases hneg : e < 0
    ·subst hb
     exact ⟨false, [], [], 11, by simp, by simp, fun F w hT hF => of_no (sc_nought s F.A F.n F.c F.D F.m F.k e w hneg (tk_yes hd hg hn l1 l2 F w hT hF)), fun F w hT hF => NB.sd_nought s F.A F.n F.c F.D F.m F.k e w (sgn s a) (lowD a d) hneg (dk_yes hd hg hn l1 l2 F w hT hF) (dr_yes hd hg l1 l2 F w hT hF)⟩
    ·exact sc_nil hd hg hn l1 l2 he (.inl ⟨hb, by omega⟩)
   ·by_cases ha : a = 0
    ·exact sc_nil hd hg hn l1 l2 he (.inr ⟨by omega, ha⟩)
    ·rcases hl with h | ⟨h3, h4⟩ | h
     ·omega
     ·exact sc_val hd hg hn l1 l2 (by omega) hbl he ha h3 h4
     ·exact sc_beyond hd hg hn l1 l2 (by omega) hbl he1 he2 ha h
 ·exact ⟨false, [], [], 20, by simp, by simp, fun F w hT hF => of_no (sc_no s F.A F.n F.c F.D F.m F.k b e w (tk_no h1 F w hT hF)), fun F w hT hF => NB.sd_no s F.A F.n F.c F.D F.m F.k b e w (dk_no h1 F w hT hF)⟩
end Go.Proofs.YtchbefambnhjjaaGreatDoor
end
section
/- The second law's helpers: fractions that are lent. -/
namespace Go.Proofs.YtchbefambnhjjaaGreatDoor
open Go.RowKit
attribute [local go_sem] sz2 sz3 sz4 sz5 sz6 sz7 sz8
set_option maxHeartbeats 4000000
set_option maxRecDepth 100000
attribute [local irreducible] Calls
structure LRat (w : World) (g n c h m d : Nat) (xs ys : List Nat) : Prop where
 num : LRow w g n c xs
 den : LRow w h m d ys
 ne : g ≠ h
theorem LRat.ext {w w' : World} {g n c h m d : Nat} {xs ys : List Nat} (k : LRat w g n c h m d xs ys) (he : Ext w w') : LRat w' g n c h m d xs ys := ⟨own_ext k.num he, own_ext k.den he, k.ne⟩
theorem LRow.rd {w : World} {g n c : Nat} {xs : List Nat} (h : LRow w g n c xs) (hb : Lb xs) : Rd w (some ⟨g, 0, none⟩) n c xs := by
 have hlb : Lb (Mk xs) := fun x hx => by
  rcases List.mem_append.1 hx with h | h
  ·exact hb x h
  ·obtain ⟨_, rfl⟩ := List.mem_replicate.1 h; decide
 have hnl : xs.length = n := by have := h.1; simp at this; omega
 obtain ⟨A', c', he, hR⟩ := Rd.own h hlb
 simp only [Value.slice.injEq, true_and] at he
 obtain ⟨rfl, rfl⟩ := he
 have := hR.take (k := n) (by omega)
 rwa [show (Mk xs).take n = xs by unfold Mk; rw [← hnl]; exact List.take_left] at this
theorem rl_lent (s : Bool) (A : Option Addr) (n c : Nat) (xs : List Nat) (D : Option Addr) (m k : Nat) (ys : List Nat) (hn : n ≤ 100000) (hm : m ≤ 100000) (w : World) (hA : Rd w A n c xs) (hD : Rd w D m k ys) :
  Calls Tryz.prog 15 #[ratV s A n c D m k] w fun e w' => ∃ (g cg h ch : Nat), e = .returned (ratV s (some ⟨g, 0, none⟩) n cg (some ⟨h, 0, none⟩) m ch) ∧ Hid (LRat w' g n cg h m ch xs ys ∧ w.heap.size ≤ g ∧ w.heap.size ≤ h) ∧ Ext w w' := by
 have k1 : ∀ w', Ext w w' → Calls Tryz.prog 29 #[natV A n c] w' fun e w'' => ∃ (g cap : Nat), e = .returned (natV (some ⟨g, 0, none⟩) n cap) ∧ Hid (LRow w'' g n cap xs ∧ w'.heap.size ≤ g) ∧ Ext w' w'' := fun w' he => rl_lend A n c xs hn w' (hA.ext he)
 have k2 : ∀ w', Ext w w' → Calls Tryz.prog 29 #[natV D m k] w' fun e w'' => ∃ (g cap : Nat), e = .returned (natV (some ⟨g, 0, none⟩) m cap) ∧ Hid (LRow w'' g m cap ys ∧ w'.heap.size ≤ g) ∧ Ext w' w'' := fun w' he => rl_lend D m k ys hm w' (hD.ext he)
 clear hA hD
 go_enter Tryz.func15, Tryz.ntmps15
 go_wp2_with (first
  | (go_at_call 29; (with_reducible refine (k1 _ xcl).mono ?_); rintro e w1 ⟨g1, c1, rfl, hL1, xb1⟩; obtain ⟨xc1, xf1, xl1, xz1⟩ := jU xb1; (try simp at xz1); obtain ⟨l1_0, r1_0, f1_0, r1_0_1, f1_0_1, r1_0_2, f1_0_2⟩ := kq3 xb1 (w.heap.size); obtain ⟨l1_1, r1_1, f1_1, r1_1_1, f1_1_1, r1_1_2, f1_1_2⟩ := kq3 xb1 (w.heap.size + 1))
  | (go_at_call 29; (with_reducible refine (k2 _ xcl).mono ?_); rintro e w2 ⟨g2, c2, rfl, hL2, xb2⟩; obtain ⟨xc2, xf2, xl2, xz2⟩ := jU xb2; (try simp at xz2); obtain ⟨l2_0, r2_0, f2_0, r2_0_1, f2_0_1, r2_0_2, f2_0_2⟩ := kq3 xb2 (w.heap.size); obtain ⟨l2_1, r2_1, f2_1, r2_1_1, f2_1_1, r2_1_2, f2_1_2⟩ := kq3 xb2 (w.heap.size + 1); obtain ⟨l2_2, r2_2, f2_2⟩ := kq1 xb2 (w1.heap.size))
  )
 have z0 : w2.cell? ⟨w.heap.size + 1, 0, none⟩ = some (.bool false) := by simp [go_sem, *]
 have z1 : w2.cell? ⟨w.heap.size + 1, 1, none⟩ = some (.slice none 0 0) := by simp [go_sem, *]
 have z2 : w2.cell? ⟨w.heap.size + 1, 2, none⟩ = some (.slice none 0 0) := by simp [go_sem, *]
 have rl : w.heap.size + 1 < w2.heap.size := by assumption
 obtain ⟨q0, q1, q2⟩ := set3 (b := w.heap.size + 1) z0 z1 z2 (.bool s) (.slice (some ⟨g1, 0, none⟩) n c1) (.slice (some ⟨g2, 0, none⟩) m c2)
 have hal : Ext (((w2.setCell ⟨w.heap.size + 1, 0, none⟩ (.bool s)).setCell ⟨w.heap.size + 1, 1, none⟩ (.slice (some ⟨g1, 0, none⟩) n c1)).setCell ⟨w.heap.size + 1, 2, none⟩ (.slice (some ⟨g2, 0, none⟩) m c2)) ((((w2.setCell ⟨w.heap.size + 1, 0, none⟩ (.bool s)).setCell ⟨w.heap.size + 1, 1, none⟩ (.slice (some ⟨g1, 0, none⟩) n c1)).setCell ⟨w.heap.size + 1, 2, none⟩ (.slice (some ⟨g2, 0, none⟩) m c2)).alloc (Obj.cells #[.slice (some ⟨g2, 0, none⟩) m c2] 30)) := jA (jR _) _
 have rl' : w.heap.size + 1 < (((w2.setCell ⟨w.heap.size + 1, 0, none⟩ (.bool s)).setCell ⟨w.heap.size + 1, 1, none⟩ (.slice (some ⟨g1, 0, none⟩) n c1)).setCell ⟨w.heap.size + 1, 2, none⟩ (.slice (some ⟨g2, 0, none⟩) m c2)).heap.size := by simpa using rl
 have q0 := (Below.cell (p := ⟨w.heap.size + 1, 0, none⟩) hal rl').trans q0
 have q1 := (Below.cell (p := ⟨w.heap.size + 1, 1, none⟩) hal rl').trans q1
 have q2 := (Below.cell (p := ⟨w.heap.size + 1, 2, none⟩) hal rl').trans q2
 have y1 := hL1.out.2
 have y2 := hL2.out.2
 have o1 := own_lt hL1.out.1 rfl
 have s1 := ext_size xb1
 simp at y1 y2 o1 s1
 have hp : ∀ {g' n' c' : Nat} {zs : List Nat}, g' ≠ w.heap.size + 1 → LRow w2 g' n' c' zs → LRow ((((w2.setCell ⟨w.heap.size + 1, 0, none⟩ (.bool s)).setCell ⟨w.heap.size + 1, 1, none⟩ (.slice (some ⟨g1, 0, none⟩) n c1)).setCell ⟨w.heap.size + 1, 2, none⟩ (.slice (some ⟨g2, 0, none⟩) m c2)).alloc (Obj.cells #[.slice (some ⟨g2, 0, none⟩) m c2] 30)) g' n' c' zs := fun hne h => own_ext (own_put (p := ⟨w.heap.size + 1, 2, none⟩) (own_put (p := ⟨w.heap.size + 1, 1, none⟩) (own_put (p := ⟨w.heap.size + 1, 0, none⟩) h _ (fun a ha => by cases ha; exact hne)) _ (fun a ha => by cases ha; exact hne)) _ (fun a ha => by cases ha; exact hne)) hal
 have hL1' : LRow w2 g1 n c1 xs := own_ext hL1.out.1 xcl
 have hE : Ext w w2 := xcl
 refine bodyPost_ret (v := ratV s (some ⟨g1, 0, none⟩) n c1 (some ⟨g2, 0, none⟩) m c2) ?h rfl ⟨g1, c1, g2, c2, rfl, ⟨⟨hp (by omega) hL1', hp (by omega) hL2.out.1, by omega⟩, by omega, by omega⟩, jT (ext_set3 hE (by omega) _ _ _) hal⟩
 case h => simp [results, Tryz.results15, go_sem, q0, q1, q2, natV]
theorem rl_still (s : Bool) (g n c h m d : Nat) (xs ys : List Nat) (B : Option Addr) (e : Nat) (C : Option Addr) (f : Nat) (w : World) (hA : LRat w g n c h m d xs ys) (hB : Rd w B n e xs) (hC : Rd w C m f ys) :
  Calls Tryz.prog 25 #[ratV s (some ⟨g, 0, none⟩) n c (some ⟨h, 0, none⟩) m d, ratV s B n e C m f] w fun e w' => e = .returned (.bool true) ∧ Ext w w' := by
 have k1 : ∀ w', Ext w w' → Calls Tryz.prog 34 #[natV (some ⟨g, 0, none⟩) n c, natV B n e] w' fun e w'' => e = .returned (.bool true) ∧ Ext w' w'' := fun w' he => rl_kept g n c xs B n e w' (own_ext hA.num he) (hB.ext he)
 have k2 : ∀ w', Ext w w' → Calls Tryz.prog 34 #[natV (some ⟨h, 0, none⟩) m d, natV C m f] w' fun e w'' => e = .returned (.bool true) ∧ Ext w' w'' := fun w' he => rl_kept h m d ys C m f w' (own_ext hA.den he) (hC.ext he)
 clear hA hB hC
 cases s
 all_goals
  go_enter Tryz.func25, Tryz.ntmps25
  go_wp2_with (first
   | (go_at_call 34; (with_reducible refine (k1 _ xcl).mono ?_); rintro e w1 ⟨rfl, xb1⟩; obtain ⟨xc1, xf1, xl1, xz1⟩ := jU xb1; (try simp at xz1); obtain ⟨l1_0, r1_0, f1_0, r1_0_1, f1_0_1, r1_0_2, f1_0_2⟩ := kq3 xb1 (w.heap.size); obtain ⟨l1_1, r1_1, f1_1, r1_1_1, f1_1_1, r1_1_2, f1_1_2⟩ := kq3 xb1 (w.heap.size + 1))
   | (go_at_call 34; (with_reducible refine (k2 _ xcl).mono ?_); rintro e w2 ⟨rfl, xb2⟩; obtain ⟨xc2, xf2, xl2, xz2⟩ := jU xb2; (try simp at xz2); obtain ⟨l2_0, r2_0, f2_0, r2_0_1, f2_0_1, r2_0_2, f2_0_2⟩ := kq3 xb2 (w.heap.size); obtain ⟨l2_1, r2_1, f2_1, r2_1_1, f2_1_1, r2_1_2, f2_1_2⟩ := kq3 xb2 (w.heap.size + 1))
   )
  refine bodyPost_ret (v := .bool true) ?h rfl ⟨rfl, ?_⟩
  case h => simp [results, Tryz.results25, go_sem]
  exact xcl
end Go.Proofs.YtchbefambnhjjaaGreatDoor
end
section
/- The second law's book: blocks of the law's own. -/
namespace Go.Proofs.YtchbefambnhjjaaGreatDoor
open Go.RowKit
attribute [local irreducible] Calls
abbrev RecOff (r : Rec) (b : Nat) : Prop := (∀ a, r.F.A = some a → r.F.n ≠ 0 → a.block ≠ b) ∧ (∀ a, r.F.D = some a → r.F.m ≠ 0 → a.block ≠ b) ∧ (∀ a, r.G.A = some a → r.G.n ≠ 0 → a.block ≠ b) ∧ (∀ a, r.G.D = some a → r.G.m ≠ 0 → a.block ≠ b)
structure Loc (u : World) (β : Nat) (H : BH) (rs : List Rec) (ls : List Row) (b : Nat) : Prop where
 lt : b < u.heap.size
 c0 : ∃ v, u.cell? ⟨b, 0, none⟩ = some v
 c1 : ∃ v, u.cell? ⟨b, 1, none⟩ = some v
 c2 : ∃ v, u.cell? ⟨b, 2, none⟩ = some v
 froz : ∀ o, u.frozen? ⟨b, o, none⟩ = false
 off : ¬ InBk β H b
 recs : ∀ r ∈ rs, RecOff r b
 rows : ∀ r ∈ ls, ∀ a, r.A = some a → a.block ≠ b
section
variable {u u' : World} {B β : Nat} {H H' : BH} {rs : List Rec} {ls : List Row} {b : Nat}
theorem Loc.ext (h : Loc u β H rs ls b) (he : Ext u u') : Loc u' β H rs ls b := by
 obtain ⟨v0, h0⟩ := h.c0
 obtain ⟨v1, h1⟩ := h.c1
 obtain ⟨v2, h2⟩ := h.c2
 exact ⟨Nat.lt_of_lt_of_le h.lt he.size, ⟨v0, (Below.cell (p := ⟨b, 0, none⟩) he h.lt).trans h0⟩, ⟨v1, (Below.cell (p := ⟨b, 1, none⟩) he h.lt).trans h1⟩, ⟨v2, (Below.cell (p := ⟨b, 2, none⟩) he h.lt).trans h2⟩, fun o => (Below.frozen (p := ⟨b, o, none⟩) he h.lt).trans (h.froz o), h.off, h.recs, h.rows⟩
theorem Loc.new (h : Bk u B β H rs ls) (v0 v1 v2 : Value) (t : TypeId) : Loc (u.alloc (Obj.cells #[v0, v1, v2] t)) β H rs ls u.heap.size := by
 refine ⟨by simp, ⟨v0, by simp [go_sem]⟩, ⟨v1, by simp [go_sem]⟩, ⟨v2, by simp [go_sem]⟩, fun o => by simp [go_sem], h.off (Nat.le_refl _), fun r hr => ?_, fun r hr a ha => ?_⟩
 ·obtain ⟨h1, h2, h3, h4⟩ := h.recs r hr
  exact ⟨fun a ha hn => by have := h1.rd.lt ha hn; omega, fun a ha hn => by have := h2.rd.lt ha hn; omega, fun a ha hn => by have := h3.rd.lt ha hn; omega, fun a ha hn => by have := h4.rd.lt ha hn; omega⟩
 ·have := own_lt (h.rows r hr).own ha; omega
theorem Loc.turn (h : Loc u β H rs ls b) (t : TurnB u u' β H H') {r : Rec} (hr : RecOff r b) (hA : ∀ a, r.F.A = some a → a.block ≠ b) (hD : ∀ a, r.F.D = some a → a.block ≠ b) : Loc u' β H' (rs ++ [r]) (ls ++ [⟨r.F.A, r.F.n, r.xs⟩, ⟨r.F.D, r.F.m, r.ys⟩]) b := by
 obtain ⟨t1, t2, t3, t4⟩ := t.cell h.lt h.off
 obtain ⟨v0, h0⟩ := h.c0
 obtain ⟨v1, h1⟩ := h.c1
 obtain ⟨v2, h2⟩ := h.c2
 refine ⟨t3, ⟨v0, (t1 0).trans h0⟩, ⟨v1, (t1 1).trans h1⟩, ⟨v2, (t1 2).trans h2⟩, fun o => (t2 o).trans (h.froz o), t4, fun q hq => ?_, fun q hq => ?_⟩
 ·rcases List.mem_append.1 hq with hq | hq
  ·exact h.recs q hq
  ·rw [List.mem_singleton] at hq; subst hq; exact hr
 ·rcases List.mem_append.1 hq with hq | hq
  ·exact h.rows q hq
  ·rcases List.mem_cons.1 hq with rfl | hq
   ·exact hA
   ·rw [List.mem_singleton] at hq; subst hq; exact hD
abbrev put3 (u : World) (b : Nat) (v0 v1 v2 : Value) : World := ((u.setCell ⟨b, 0, none⟩ v0).setCell ⟨b, 1, none⟩ v1).setCell ⟨b, 2, none⟩ v2
theorem frm3 (u : World) (b : Nat) (v0 v1 v2 : Value) : Frm (fun k => k = b) u (put3 u b v0 v1 v2) := by
 have one : ∀ (w : World) (o : Nat) (v : Value), Frm (fun k => k = b) w (w.setCell ⟨b, o, none⟩ v) := fun w o v => Frm.set v (.inl rfl)
 exact ((one _ 0 v0).trans (one _ 1 v1)).trans (one _ 2 v2)
theorem Bk.put (h : Bk u B β H rs ls) (hl : Loc u β H rs ls b) (v0 v1 v2 : Value) : Bk (put3 u b v0 v1 v2) B β H rs ls := by
 have t := frm3 u b v0 v1 v2
 refine ⟨h.book.frm t (fun k hk e => hl.off (e ▸ hk)), fun r hr => ?_, fun r hr => ?_, h.apart, h.low⟩
 ·obtain ⟨h1, h2, h3, h4⟩ := h.recs r hr
  obtain ⟨g1, g2, g3, g4⟩ := hl.recs r hr
  exact ⟨h1.frm t g1, h2.frm t g2, h3.frm t g3, h4.frm t g4⟩
 ·have hh := h.rows r hr
  exact ⟨own_frm hh.own t (hl.rows r hr), hh.off, hh.low, hh.few⟩
theorem put_cells (hl : Loc u β H rs ls b) (v0 v1 v2 : Value) : (put3 u b v0 v1 v2).cell? ⟨b, 0, none⟩ = some v0 ∧ (put3 u b v0 v1 v2).cell? ⟨b, 1, none⟩ = some v1 ∧ (put3 u b v0 v1 v2).cell? ⟨b, 2, none⟩ = some v2 := by
 obtain ⟨w0, h0⟩ := hl.c0
 obtain ⟨w1, h1⟩ := hl.c1
 obtain ⟨w2, h2⟩ := hl.c2
 exact set3 h0 h1 h2 v0 v1 v2
theorem Loc.put (hl : Loc u β H rs ls b) (v0 v1 v2 : Value) : Loc (put3 u b v0 v1 v2) β H rs ls b := by
 obtain ⟨q0, q1, q2⟩ := put_cells hl v0 v1 v2
 exact ⟨by simpa using hl.lt, ⟨_, q0⟩, ⟨_, q1⟩, ⟨_, q2⟩, fun o => by simp [go_sem, hl.froz o], hl.off, hl.recs, hl.rows⟩
theorem Loc.put' {b2 : Nat} (hl : Loc u β H rs ls b2) (hne : b2 ≠ b) (v0 v1 v2 : Value) : Loc (put3 u b v0 v1 v2) β H rs ls b2 := by
 have t := frm3 u b v0 v1 v2
 have cc : ∀ o, (put3 u b v0 v1 v2).cell? ⟨b2, o, none⟩ = u.cell? ⟨b2, o, none⟩ := fun o => t.cell (p := ⟨b2, o, none⟩) hl.lt hne
 obtain ⟨w0, h0⟩ := hl.c0
 obtain ⟨w1, h1⟩ := hl.c1
 obtain ⟨w2, h2⟩ := hl.c2
 exact ⟨by simpa using hl.lt, ⟨w0, (cc 0).trans h0⟩, ⟨w1, (cc 1).trans h1⟩, ⟨w2, (cc 2).trans h2⟩, fun o => by simp [go_sem, hl.froz o], hl.off, hl.recs, hl.rows⟩
theorem RdO.frm {S : Nat → Prop} {w w' : World} {A : Option Addr} {n c : Nat} {xs : List Nat} {Z : Option Addr} (h : RdO w A n c xs Z) (hf : Frm S w w') (ho : ∀ a, A = some a → ¬ S a.block) : RdO w' A n c xs Z :=
 ⟨h.toRd.frm hf (fun a ha _ => ho a ha), own_frm h.own hf ho, h.apt, h.full⟩
end
end Go.Proofs.YtchbefambnhjjaaGreatDoor
end
