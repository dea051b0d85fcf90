/- Lemmas of this proof, laid together: SumC, SumF. -/
import Derived.Test.YtiapoflkeliljaaGreatDoorMg09
import Derived.Test.YtiapoflkeliljaaGreatDoorMg12
import Derived.Test.YtiapoflkeliljaaGreatDoorMg07
import Derived.Test.YtiapoflkeliljaaGreatDoorMg05
set_option linter.unusedSimpArgs false
set_option linter.unusedVariables false
section
/- Sums of decimals: what they come to; the program's Add. -/
namespace Go.Proofs.YtiapoflkeliljaaGreatDoor
open Go.RowKit
attribute [local go_sem] bs_size bs_extract bs_get bs_append bs_toList const_get
attribute [local go_sem] sz2 sz3 sz4 sz5 sz6 sz7 sz8
set_option maxHeartbeats 4000000
set_option maxRecDepth 100000
attribute [local irreducible] Calls
structure Du where
  d : Dc
  e : Int
abbrev duV (r : Du) : Value := .tuple #[dcV r.d, .int .i64 r.e]
/-- A decimal's digits with so many noughts, as a number. -/
def upV (l : List UInt8) (n : Nat) : Nat := dval (l ++ zerosL n)
/-- The sum of two that are not nought, laid at one exponent. -/
def sumNeg (neg neg2 : Bool) (x y : Nat) : Bool := if neg = neg2 then neg else if x < y then neg2 else if y < x then neg else false
def sumAbs (neg neg2 : Bool) (x y : Nat) : Nat := if neg = neg2 then x + y else if x < y then y - x else x - y
def addR (a b : Dc) : Du :=
  if ¬ chkD a b = 0 then ⟨Dc.zero, chkD a b⟩ else
  if a.dig = [] ∧ b.dig = [] then ⟨⟨a.neg && b.neg, [], 0⟩, 0⟩ else if a.dig = [] then ⟨b, 0⟩ else if b.dig = [] then ⟨a, 0⟩ else
  if 65536 < a.dig.length + a.exp - min a.exp b.exp ∨ 65536 < b.dig.length + b.exp - min a.exp b.exp then ⟨Dc.zero, 4⟩ else
  let x := upV a.dig (a.exp - min a.exp b.exp).toNat
  let y := upV b.dig (b.exp - min a.exp b.exp).toNat
  ⟨mkD (sumNeg a.neg b.neg x y) (dtext (sumAbs a.neg b.neg x y)) (min a.exp b.exp), mkE (dtext (sumAbs a.neg b.neg x y)) (min a.exp b.exp)⟩
theorem pow_big {n k : Nat} (j : Nat) (h1 : n ≤ 8 * j) (h2 : 27 * j ≤ 32 * k) : 10 ^ n ≤ Bs ^ k := by
  have e1 : 10 ^ n ≤ 10 ^ (8 * j) := Nat.pow_le_pow_right (by decide) h1
  have e2 : (10 ^ 8) ^ j ≤ (2 ^ 27) ^ j := Nat.pow_le_pow_left (by decide) j
  have e3 : 2 ^ (27 * j) ≤ 2 ^ (32 * k) := Nat.pow_le_pow_right (by decide) h2
  rw [← Nat.pow_mul] at e2
  rw [← Nat.pow_mul] at e2
  have e4 : (2 ^ 32) ^ k = 2 ^ (32 * k) := (Nat.pow_mul 2 32 k).symm
  have e5 : Bs = 2 ^ 32 := rfl
  rw [e5, e4]
  exact Nat.le_trans e1 (Nat.le_trans e2 e3)
theorem lim_small {v n k : Nat} (j : Nat) (hv : v < 10 ^ n) (h1 : n ≤ 8 * j) (h2 : 27 * j ≤ 32 * k) : (lim v).length ≤ k := lim_le (Nat.lt_of_lt_of_le hv (pow_big j h1 h2))
theorem dval_small {l : List UInt8} (hd : digsB l = true) (hl : l.length ≤ 65536) : (lim (dval l)).length ≤ 6912 := lim_small (n := l.length) 8192 (dval_lt l hd) (by omega) (by decide)
theorem add_small {a b n : Nat} (ha : a < 10 ^ n) (hb : b < 10 ^ n) (hn : n ≤ 65536) : (lim (a + b)).length ≤ 6914 ∧ (dtext (a + b)).length ≤ n + 2 := by
  have h : a + b < 10 ^ (n + 1) := by rw [Nat.pow_succ]; omega
  refine ⟨lim_small (n := n + 1) 8193 h (by omega) (by decide), ?_⟩
  unfold dtext
  split
  · simp
  · have := digs_len h; omega
theorem lt_small {a n : Nat} (ha : a < 10 ^ n) (hn : n ≤ 65536) : (lim a).length ≤ 6914 ∧ (dtext a).length ≤ n + 2 := by
  have := add_small (b := 0) ha (Nat.pow_pos (by decide)) hn
  exact this
theorem digs_up {l : List UInt8} (h : digsB l = true) (n : Nat) : digsB (l ++ zerosL n) = true := by
  unfold digsB at h ⊢
  rw [List.all_append, h]
  have := digs_noughts n
  unfold digsB at this
  exact this
theorem pnumber_some (l : List UInt8) (hd : digsB l = true) (h0 : 0 < l.length) (hl : l.length ≤ 65536) (w : World) :
    Calls Tryz.prog 133 #[.string (bs l)] w fun e w' => ∃ (A : Option Addr) (k : Nat), e = .returned (.tuple #[natV A k k, .int .i64 0]) ∧ Hid (Rd w' A k k (lim (dval l)) ∧ Fr w A) ∧ Ext w w' := by
  have hp := fun w' => pparse_any l hd h0 hl w'
  have hne : l.isEmpty = false := by simp [List.length_pos_iff.1 h0]
  clear hd
  go_enter Tryz.func133, Tryz.ntmps133
  go_wp2_with (first
    | (go_at_call 202; (with_reducible refine (hp _).mono ?_); rintro e w1 ⟨A, k, rfl, hR, xb1⟩; obtain ⟨xc1, xf1, xl1, xz1⟩ := ext_use xb1; (try simp at xz1); obtain ⟨l1_0, gc, gf⟩ := kp xb1 (w.heap.size) (by first | omega | (simp; try omega)); have r1_0 := gc 0; have f1_0 := gf 0; clear gc gf)
   )
  refine bodyPost_ret (v := .tuple #[natV A k k, .int .i64 0]) ?h rfl ⟨A, k, rfl, ⟨?_, ?_⟩, ?_⟩
  case h => simp [results, Tryz.results133, go_sem, *]
  · exact (hR.out.1.set _ (fun a ha => by have := hR.out.2 a ha; simp at this ⊢; omega)).ext (ext_alloc (ext_refl _) _)
  · exact hR.out.2.mono (by (repeat (first | exact ext_refl _ | assumption | refine ext_setCell ?_ (by simp; try omega) _ | refine ext_alloc ?_ _ | refine ext_drew ?_ | refine ext_drewN ?_ _ | refine ext_trans ?_ (Aft.use _) | refine ext_trans ?_ (by assumption))))
  · (repeat (first | exact ext_refl _ | assumption | refine ext_setCell ?_ (by simp; try omega) _ | refine ext_alloc ?_ _ | refine ext_drew ?_ | refine ext_drewN ?_ _ | refine ext_trans ?_ (Aft.use _) | refine ext_trans ?_ (by assumption)))
theorem rd_over {w0 w' : World} {A : Option Addr} {n c : Nat} {xs : List Nat} (h : Hid (Rd w' A n c xs ∧ Fr w0 A)) {p : Addr} (u : Value) (hp : p.block < w0.heap.size) : Rd (w'.setCell p u) A n c xs :=
  h.out.1.set u fun a ha => Nat.lt_of_lt_of_le hp (h.out.2 a ha)
theorem longer_at (l : List UInt8) (n : Int) (k : Nat) (hk : n = k) (hl : l.length ≤ 65536) (hn : k ≤ 65536) (w : World) : Calls Tryz.prog 194 #[.string (bs l), .int .i64 n] w fun e w' => e = .returned (.string (bs (l ++ zerosL k))) ∧ Ext w w' := by
  subst hk
  exact longer_any l k (by omega) (by omega) w
theorem add_same (neg : Bool) (l r : List UInt8) (E : Int) (n m : Nat) (hE : min (E + n) (E + m) = E) (hl : l.length + n ≤ 65536) (hr : r.length + m ≤ 65536) (hd : digsB l = true) (hd2 : digsB r = true) (hl0 : 0 < l.length) (hr0 : 0 < r.length)
    (he : -1073741824 ≤ E ∧ E ≤ 1073741824) (hc : ∀ w, Calls Tryz.prog 192 #[dcV ⟨neg, l, E + n⟩, dcV ⟨neg, r, E + m⟩] w fun e w' => e = .returned (.int .i64 0) ∧ Ext w w') (w : World) :
    Calls Tryz.prog 124 #[dcV ⟨neg, l, E + n⟩, dcV ⟨neg, r, E + m⟩] w fun e w' => e = .returned (duV ⟨mkD neg (dtext (upV l n + upV r m)) E, mkE (dtext (upV l n + upV r m)) E⟩) ∧ Ext w w' := by
  have hx := fun w => pnumber_some (l ++ zerosL n) (digs_up hd n) (by simp; omega) (by simp [zerosL]; exact hl) w
  have hy := fun w => pnumber_some (r ++ zerosL m) (digs_up hd2 m) (by simp; omega) (by simp [zerosL]; exact hr) w
  obtain ⟨N, hN⟩ : ∃ N, N = 65536 := ⟨_, rfl⟩
  have bx : upV l n < 10 ^ N := Nat.lt_of_lt_of_le (dval_lt _ (digs_up hd n)) (Nat.pow_le_pow_right (by decide) (by simp [zerosL]; omega))
  have bY : upV r m < 10 ^ N := Nat.lt_of_lt_of_le (dval_lt _ (digs_up hd2 m)) (Nat.pow_le_pow_right (by decide) (by simp [zerosL]; omega))
  have sx := (lt_small bx (by omega)).1
  have sy := (lt_small bY (by omega)).1
  obtain ⟨ss, st⟩ := add_small bx bY (by omega)
  clear bx bY hd hd2
  change ∀ w, Calls _ _ _ w (fun e w' => ∃ A k, _ ∧ Hid (Rd w' A k k (lim (upV l n)) ∧ _) ∧ _) at hx
  change ∀ w, Calls _ _ _ w (fun e w' => ∃ A k, _ ∧ Hid (Rd w' A k k (lim (upV r m)) ∧ _) ∧ _) at hy
  generalize upV l n = X at hx sx ss st ⊢
  generalize upV r m = Y at hy sy ss st ⊢
  have i1 : E + (n : Int) - E = n := by omega
  have i2 : E + (m : Int) - E = m := by omega
  have i3 : ¬ l = [] := by intro e; rw [e] at hl0; exact absurd hl0 (by simp)
  have i4 : ¬ r = [] := by intro e; rw [e] at hr0; exact absurd hr0 (by simp)
  have i5 : l.isEmpty = false := by simp [i3]
  have i6 : r.isEmpty = false := by simp [i4]
  go_enter Tryz.func124, Tryz.ntmps124
  go_wp2_with (first
    | (go_at_call 192; (with_reducible refine (hc _).mono ?_); rintro e w1 ⟨rfl, xb1⟩; obtain ⟨xc1, xf1, xl1, xz1⟩ := ext_use xb1; (try simp at xz1); obtain ⟨l1_0, gc, gf⟩ := kp xb1 (w.heap.size) (by first | omega | (simp; try omega)); have r1_0 := gc 0; have f1_0 := gf 0; have r1_0_1 := gc 1; have f1_0_1 := gf 1; have r1_0_2 := gc 2; have f1_0_2 := gf 2; clear gc gf; obtain ⟨l1_1, gc, gf⟩ := kp xb1 (w.heap.size + 1) (by first | omega | (simp; try omega)); have r1_1 := gc 0; have f1_1 := gf 0; have r1_1_1 := gc 1; have f1_1_1 := gf 1; have r1_1_2 := gc 2; have f1_1_2 := gf 2; clear gc gf; obtain ⟨l1_2, gc, gf⟩ := kp xb1 (w.heap.size + 1 + 1) (by first | omega | (simp; try omega)); have r1_2 := gc 0; have f1_2 := gf 0; have r1_2_1 := gc 1; have f1_2_1 := gf 1; have r1_2_2 := gc 2; have f1_2_2 := gf 2; clear gc gf)
    | (go_at_call 193; (with_reducible refine (none_any _ _ _ _).mono ?_); rintro e w2 ⟨rfl, xb2⟩; obtain ⟨xc2, xf2, xl2, xz2⟩ := ext_use xb2; (try simp at xz2); obtain ⟨l2_0, gc, gf⟩ := kp xb2 (w.heap.size) (by first | omega | (simp; try omega)); have r2_0 := gc 0; have f2_0 := gf 0; have r2_0_1 := gc 1; have f2_0_1 := gf 1; have r2_0_2 := gc 2; have f2_0_2 := gf 2; clear gc gf; obtain ⟨l2_1, gc, gf⟩ := kp xb2 (w.heap.size + 1) (by first | omega | (simp; try omega)); have r2_1 := gc 0; have f2_1 := gf 0; have r2_1_1 := gc 1; have f2_1_1 := gf 1; have r2_1_2 := gc 2; have f2_1_2 := gf 2; clear gc gf; obtain ⟨l2_2, gc, gf⟩ := kp xb2 (w.heap.size + 1 + 1) (by first | omega | (simp; try omega)); have r2_2 := gc 0; have f2_2 := gf 0; have r2_2_1 := gc 1; have f2_2_1 := gf 1; have r2_2_2 := gc 2; have f2_2_2 := gf 2; clear gc gf)
    | (go_at_call 193; (with_reducible refine (none_any _ _ _ _).mono ?_); rintro e w3 ⟨rfl, xb3⟩; obtain ⟨xc3, xf3, xl3, xz3⟩ := ext_use xb3; (try simp at xz3); obtain ⟨l3_0, gc, gf⟩ := kp xb3 (w.heap.size) (by first | omega | (simp; try omega)); have r3_0 := gc 0; have f3_0 := gf 0; have r3_0_1 := gc 1; have f3_0_1 := gf 1; have r3_0_2 := gc 2; have f3_0_2 := gf 2; clear gc gf; obtain ⟨l3_1, gc, gf⟩ := kp xb3 (w.heap.size + 1) (by first | omega | (simp; try omega)); have r3_1 := gc 0; have f3_1 := gf 0; have r3_1_1 := gc 1; have f3_1_1 := gf 1; have r3_1_2 := gc 2; have f3_1_2 := gf 2; clear gc gf; obtain ⟨l3_2, gc, gf⟩ := kp xb3 (w.heap.size + 1 + 1) (by first | omega | (simp; try omega)); have r3_2 := gc 0; have f3_2 := gf 0; have r3_2_1 := gc 1; have f3_2_1 := gf 1; have r3_2_2 := gc 2; have f3_2_2 := gf 2; clear gc gf)
    | (go_at_call 194; (with_reducible refine (longer_at l _ n (by omega) (by omega) (by omega) _).mono ?_); rintro e w4 ⟨rfl, xb4⟩; obtain ⟨xc4, xf4, xl4, xz4⟩ := ext_use xb4; (try simp at xz4); obtain ⟨l4_0, gc, gf⟩ := kp xb4 (w.heap.size) (by first | omega | (simp; try omega)); have r4_0 := gc 0; have f4_0 := gf 0; have r4_0_1 := gc 1; have f4_0_1 := gf 1; have r4_0_2 := gc 2; have f4_0_2 := gf 2; clear gc gf; obtain ⟨l4_1, gc, gf⟩ := kp xb4 (w.heap.size + 1) (by first | omega | (simp; try omega)); have r4_1 := gc 0; have f4_1 := gf 0; have r4_1_1 := gc 1; have f4_1_1 := gf 1; have r4_1_2 := gc 2; have f4_1_2 := gf 2; clear gc gf; obtain ⟨l4_2, gc, gf⟩ := kp xb4 (w.heap.size + 1 + 1) (by first | omega | (simp; try omega)); have r4_2 := gc 0; have f4_2 := gf 0; have r4_2_1 := gc 1; have f4_2_1 := gf 1; have r4_2_2 := gc 2; have f4_2_2 := gf 2; clear gc gf)
    | (go_at_call 194; (with_reducible refine (longer_at r _ m (by omega) (by omega) (by omega) _).mono ?_); rintro e w6 ⟨rfl, xb6⟩; obtain ⟨xc6, xf6, xl6, xz6⟩ := ext_use xb6; (try simp at xz6); obtain ⟨l6_0, gc, gf⟩ := kp xb6 (w.heap.size) (by first | omega | (simp; try omega)); have r6_0 := gc 0; have f6_0 := gf 0; have r6_0_1 := gc 1; have f6_0_1 := gf 1; have r6_0_2 := gc 2; have f6_0_2 := gf 2; clear gc gf; obtain ⟨l6_1, gc, gf⟩ := kp xb6 (w.heap.size + 1) (by first | omega | (simp; try omega)); have r6_1 := gc 0; have f6_1 := gf 0; have r6_1_1 := gc 1; have f6_1_1 := gf 1; have r6_1_2 := gc 2; have f6_1_2 := gf 2; clear gc gf; obtain ⟨l6_2, gc, gf⟩ := kp xb6 (w.heap.size + 1 + 1) (by first | omega | (simp; try omega)); have r6_2 := gc 0; have f6_2 := gf 0; have r6_2_1 := gc 1; have f6_2_1 := gf 1; have r6_2_2 := gc 2; have f6_2_2 := gf 2; clear gc gf; obtain ⟨l6_3, gc, gf⟩ := kp xb6 (w5.heap.size) (by first | omega | (simp; try omega)); have r6_3 := gc 0; have f6_3 := gf 0; clear gc gf)
    | (go_at_call 133; (with_reducible refine (hx _).mono ?_); rintro e w5 ⟨A, k, rfl, hX, xb5⟩; obtain ⟨xc5, xf5, xl5, xz5⟩ := ext_use xb5; (try simp at xz5); obtain ⟨l5_0, gc, gf⟩ := kp xb5 (w.heap.size) (by first | omega | (simp; try omega)); have r5_0 := gc 0; have f5_0 := gf 0; have r5_0_1 := gc 1; have f5_0_1 := gf 1; have r5_0_2 := gc 2; have f5_0_2 := gf 2; clear gc gf; obtain ⟨l5_1, gc, gf⟩ := kp xb5 (w.heap.size + 1) (by first | omega | (simp; try omega)); have r5_1 := gc 0; have f5_1 := gf 0; have r5_1_1 := gc 1; have f5_1_1 := gf 1; have r5_1_2 := gc 2; have f5_1_2 := gf 2; clear gc gf; obtain ⟨l5_2, gc, gf⟩ := kp xb5 (w.heap.size + 1 + 1) (by first | omega | (simp; try omega)); have r5_2 := gc 0; have f5_2 := gf 0; have r5_2_1 := gc 1; have f5_2_1 := gf 1; have r5_2_2 := gc 2; have f5_2_2 := gf 2; clear gc gf)
    | (go_at_call 133; (with_reducible refine (hy _).mono ?_); rintro e w7 ⟨B, k2, rfl, hY, xb7⟩; obtain ⟨xc7, xf7, xl7, xz7⟩ := ext_use xb7; (try simp at xz7); obtain ⟨l7_0, gc, gf⟩ := kp xb7 (w.heap.size) (by first | omega | (simp; try omega)); have r7_0 := gc 0; have f7_0 := gf 0; have r7_0_1 := gc 1; have f7_0_1 := gf 1; have r7_0_2 := gc 2; have f7_0_2 := gf 2; clear gc gf; obtain ⟨l7_1, gc, gf⟩ := kp xb7 (w.heap.size + 1) (by first | omega | (simp; try omega)); have r7_1 := gc 0; have f7_1 := gf 0; have r7_1_1 := gc 1; have f7_1_1 := gf 1; have r7_1_2 := gc 2; have f7_1_2 := gf 2; clear gc gf; obtain ⟨l7_2, gc, gf⟩ := kp xb7 (w.heap.size + 1 + 1) (by first | omega | (simp; try omega)); have r7_2 := gc 0; have f7_2 := gf 0; have r7_2_1 := gc 1; have f7_2_1 := gf 1; have r7_2_2 := gc 2; have f7_2_2 := gf 2; clear gc gf; obtain ⟨l7_3, gc, gf⟩ := kp xb7 (w5.heap.size) (by first | omega | (simp; try omega)); have r7_3 := gc 0; have f7_3 := gf 0; clear gc gf)
    | (go_at_call 195; (with_reducible refine (padd_any A B k k k2 k2 X Y _ (hX.out.1.ext (by (repeat (first | exact ext_refl _ | assumption | refine ext_setCell ?_ (by simp; try omega) _ | refine ext_alloc ?_ _ | refine ext_drew ?_ | refine ext_drewN ?_ _ | refine ext_trans ?_ (Aft.use _) | refine ext_trans ?_ (by assumption))))) (hY.out.1.ext (by (repeat (first | exact ext_refl _ | assumption | refine ext_setCell ?_ (by simp; try omega) _ | refine ext_alloc ?_ _ | refine ext_drew ?_ | refine ext_drewN ?_ _ | refine ext_trans ?_ (Aft.use _) | refine ext_trans ?_ (by assumption))))) (by omega) (by omega) (by omega)).mono ?_); rintro e w8 ⟨S, k3, rfl, hS, xb8⟩; obtain ⟨xc8, xf8, xl8, xz8⟩ := ext_use xb8; (try simp at xz8); obtain ⟨l8_0, gc, gf⟩ := kp xb8 (w.heap.size) (by first | omega | (simp; try omega)); have r8_0 := gc 0; have f8_0 := gf 0; have r8_0_1 := gc 1; have f8_0_1 := gf 1; have r8_0_2 := gc 2; have f8_0_2 := gf 2; clear gc gf; obtain ⟨l8_1, gc, gf⟩ := kp xb8 (w.heap.size + 1) (by first | omega | (simp; try omega)); have r8_1 := gc 0; have f8_1 := gf 0; have r8_1_1 := gc 1; have f8_1_1 := gf 1; have r8_1_2 := gc 2; have f8_1_2 := gf 2; clear gc gf; obtain ⟨l8_2, gc, gf⟩ := kp xb8 (w.heap.size + 1 + 1) (by first | omega | (simp; try omega)); have r8_2 := gc 0; have f8_2 := gf 0; have r8_2_1 := gc 1; have f8_2_1 := gf 1; have r8_2_2 := gc 2; have f8_2_2 := gf 2; clear gc gf; obtain ⟨l8_3, gc, gf⟩ := kp xb8 (w7.heap.size + 1) (by first | omega | (simp; try omega)); have r8_3 := gc 0; have f8_3 := gf 0; clear gc gf)
    | (go_at_call 140; (with_reducible refine (ptext_any S k3 k3 (X + Y) (by omega) _ (rd_over hS _ (by simp))).mono ?_); rintro e w9 ⟨rfl, xb9⟩; obtain ⟨xc9, xf9, xl9, xz9⟩ := ext_use xb9; (try simp at xz9); obtain ⟨l9_0, gc, gf⟩ := kp xb9 (w.heap.size) (by first | omega | (simp; try omega)); have r9_0 := gc 0; have f9_0 := gf 0; have r9_0_1 := gc 1; have f9_0_1 := gf 1; have r9_0_2 := gc 2; have f9_0_2 := gf 2; clear gc gf; obtain ⟨l9_1, gc, gf⟩ := kp xb9 (w.heap.size + 1) (by first | omega | (simp; try omega)); have r9_1 := gc 0; have f9_1 := gf 0; have r9_1_1 := gc 1; have f9_1_1 := gf 1; have r9_1_2 := gc 2; have f9_1_2 := gf 2; clear gc gf; obtain ⟨l9_2, gc, gf⟩ := kp xb9 (w.heap.size + 1 + 1) (by first | omega | (simp; try omega)); have r9_2 := gc 0; have f9_2 := gf 0; have r9_2_1 := gc 1; have f9_2_1 := gf 1; have r9_2_2 := gc 2; have f9_2_2 := gf 2; clear gc gf)
    | (go_at_call 142; (with_reducible refine (make_any neg (dtext (X + Y)) E (by omega) _).mono ?_); rintro e w10 ⟨rfl, xb10⟩; obtain ⟨xc10, xf10, xl10, xz10⟩ := ext_use xb10; (try simp at xz10); obtain ⟨l10_0, gc, gf⟩ := kp xb10 (w.heap.size + 1 + 1) (by first | omega | (simp; try omega)); have r10_0 := gc 0; have f10_0 := gf 0; have r10_0_1 := gc 1; have f10_0_1 := gf 1; have r10_0_2 := gc 2; have f10_0_2 := gf 2; clear gc gf)
   )
  refine bodyPost_ret (v := duV ⟨mkD neg (dtext (X + Y)) E, mkE (dtext (X + Y)) E⟩) ?h rfl ⟨rfl, ?_⟩
  case h => simp [results, Tryz.results124, go_sem, *]
  repeat (first | exact ext_refl _ | assumption | refine ext_setCell ?_ (by simp; try omega) _ | refine ext_alloc ?_ _ | refine ext_drew ?_ | refine ext_drewN ?_ _ | refine ext_trans ?_ (Aft.use _) | refine ext_trans ?_ (by assumption))
end Go.Proofs.YtiapoflkeliljaaGreatDoor
end
section
/- Products of decimals: the program's Mul. -/
namespace Go.Proofs.YtiapoflkeliljaaGreatDoor
open Go.RowKit
attribute [local go_sem] bs_size bs_extract bs_get bs_append bs_toList const_get
attribute [local go_sem] sz2 sz3 sz4 sz5 sz6 sz7 sz8
set_option maxHeartbeats 4000000
set_option maxRecDepth 100000
attribute [local irreducible] Calls
/-- A product's text, without the noughts at its end. -/
def mulT (l r : List UInt8) : List UInt8 := dtext (dval l * dval r)
def mulR (a b : Dc) : Du :=
  if ¬ chkD a b = 0 then ⟨Dc.zero, chkD a b⟩ else if a.dig = [] ∨ b.dig = [] then ⟨⟨a.neg != b.neg, [], 0⟩, 0⟩ else
  ⟨mkD (a.neg != b.neg) (trimR 48 (mulT a.dig b.dig)) (a.exp + b.exp + (mulT a.dig b.dig).length - (trimR 48 (mulT a.dig b.dig)).length), mkE (trimR 48 (mulT a.dig b.dig)) (a.exp + b.exp + (mulT a.dig b.dig).length - (trimR 48 (mulT a.dig b.dig)).length)⟩
theorem mul_small {l r : List UInt8} (hd : digsB l = true) (hd2 : digsB r = true) (hl : l.length ≤ 65536) (hr : r.length ≤ 65536) : (lim (dval l * dval r)).length ≤ 13824 ∧ (mulT l r).length ≤ 131073 := by
  have h : dval l * dval r < 10 ^ (l.length + r.length) := by
    rw [Nat.pow_add]
    exact Nat.mul_lt_mul'' (dval_lt l hd) (dval_lt r hd2)
  refine ⟨lim_small (n := l.length + r.length) 16384 h (by omega) (by decide), ?_⟩
  unfold mulT dtext
  split
  · simp
  · have := digs_len h; omega
theorem mul_any (a b : Dc) (ha : a.dig.length ≤ 9223372036854775807) (hb : b.dig.length ≤ 9223372036854775807) (w : World) : Calls Tryz.prog 126 #[dcV a, dcV b] w fun e w' => e = .returned (duV (mulR a b)) ∧ Ext w w' := by
  have hc := fun w => both_any a b ha hb w
  by_cases h1 : chkD a b = 0
  · rw [h1] at hc
    have ca : dcE a = 0 := by
      unfold chkD at h1
      split at h1
      · assumption
      · assumption
    have cb : dcE b = 0 := by
      unfold chkD at h1
      rwa [if_pos ca] at h1
    obtain ⟨neg, l, exp⟩ := a
    obtain ⟨neg2, r, exp2⟩ := b
    by_cases hl : l = []
    · subst hl
      rw [show mulR ⟨neg, [], exp⟩ ⟨neg2, r, exp2⟩ = ⟨⟨neg != neg2, [], 0⟩, 0⟩ by unfold mulR; rw [if_neg (by simp [h1]), if_pos (.inl rfl)]]
      clear h1 ca cb ha hb
      cases neg <;> cases neg2
      all_goals
        go_enter Tryz.func126, Tryz.ntmps126
        go_wp2_with (first
          | (go_at_call 192; (with_reducible refine (hc _).mono ?_); rintro e w1 ⟨rfl, xb1⟩; obtain ⟨xc1, xf1, xl1, xz1⟩ := ext_use xb1; (try simp at xz1); obtain ⟨l1_0, gc, gf⟩ := kp xb1 (w.heap.size) (by first | omega | (simp; try omega)); have r1_0 := gc 0; have f1_0 := gf 0; have r1_0_1 := gc 1; have f1_0_1 := gf 1; have r1_0_2 := gc 2; have f1_0_2 := gf 2; clear gc gf; obtain ⟨l1_1, gc, gf⟩ := kp xb1 (w.heap.size + 1) (by first | omega | (simp; try omega)); have r1_1 := gc 0; have f1_1 := gf 0; have r1_1_1 := gc 1; have f1_1_1 := gf 1; have r1_1_2 := gc 2; have f1_1_2 := gf 2; clear gc gf; obtain ⟨l1_2, gc, gf⟩ := kp xb1 (w.heap.size + 1 + 1) (by first | omega | (simp; try omega)); have r1_2 := gc 0; have f1_2 := gf 0; have r1_2_1 := gc 1; have f1_2_1 := gf 1; have r1_2_2 := gc 2; have f1_2_2 := gf 2; clear gc gf)
          | (go_at_call 193; (with_reducible refine (none_any _ _ _ _).mono ?_); rintro e w2 ⟨rfl, xb2⟩; obtain ⟨xc2, xf2, xl2, xz2⟩ := ext_use xb2; (try simp at xz2); obtain ⟨l2_0, gc, gf⟩ := kp xb2 (w.heap.size) (by first | omega | (simp; try omega)); have r2_0 := gc 0; have f2_0 := gf 0; have r2_0_1 := gc 1; have f2_0_1 := gf 1; have r2_0_2 := gc 2; have f2_0_2 := gf 2; clear gc gf; obtain ⟨l2_1, gc, gf⟩ := kp xb2 (w.heap.size + 1) (by first | omega | (simp; try omega)); have r2_1 := gc 0; have f2_1 := gf 0; have r2_1_1 := gc 1; have f2_1_1 := gf 1; have r2_1_2 := gc 2; have f2_1_2 := gf 2; clear gc gf; obtain ⟨l2_2, gc, gf⟩ := kp xb2 (w.heap.size + 1 + 1) (by first | omega | (simp; try omega)); have r2_2 := gc 0; have f2_2 := gf 0; have r2_2_1 := gc 1; have f2_2_1 := gf 1; have r2_2_2 := gc 2; have f2_2_2 := gf 2; clear gc gf)
         )
        refine bodyPost_ret (v := _) ?h rfl ⟨rfl, ?_⟩
        case h => simp [results, Tryz.results126, go_sem, Dc.zero, bs_nil, *]
        repeat (first | exact ext_refl _ | assumption | refine ext_setCell ?_ (by simp; try omega) _ | refine ext_alloc ?_ _ | refine ext_drew ?_ | refine ext_drewN ?_ _ | refine ext_trans ?_ (Aft.use _) | refine ext_trans ?_ (by assumption))
    · have i5 : l.isEmpty = false := by cases l <;> simp_all
      by_cases hr : r = []
      · subst hr
        rw [show mulR ⟨neg, l, exp⟩ ⟨neg2, [], exp2⟩ = ⟨⟨neg != neg2, [], 0⟩, 0⟩ by unfold mulR; rw [if_neg (by simp [h1]), if_pos (.inr rfl)]]
        clear h1 ca cb ha hb
        cases neg <;> cases neg2
        all_goals
          go_enter Tryz.func126, Tryz.ntmps126
          go_wp2_with (first
            | (go_at_call 192; (with_reducible refine (hc _).mono ?_); rintro e w1 ⟨rfl, xb1⟩; obtain ⟨xc1, xf1, xl1, xz1⟩ := ext_use xb1; (try simp at xz1); obtain ⟨l1_0, gc, gf⟩ := kp xb1 (w.heap.size) (by first | omega | (simp; try omega)); have r1_0 := gc 0; have f1_0 := gf 0; have r1_0_1 := gc 1; have f1_0_1 := gf 1; have r1_0_2 := gc 2; have f1_0_2 := gf 2; clear gc gf; obtain ⟨l1_1, gc, gf⟩ := kp xb1 (w.heap.size + 1) (by first | omega | (simp; try omega)); have r1_1 := gc 0; have f1_1 := gf 0; have r1_1_1 := gc 1; have f1_1_1 := gf 1; have r1_1_2 := gc 2; have f1_1_2 := gf 2; clear gc gf; obtain ⟨l1_2, gc, gf⟩ := kp xb1 (w.heap.size + 1 + 1) (by first | omega | (simp; try omega)); have r1_2 := gc 0; have f1_2 := gf 0; have r1_2_1 := gc 1; have f1_2_1 := gf 1; have r1_2_2 := gc 2; have f1_2_2 := gf 2; clear gc gf)
            | (go_at_call 193; (with_reducible refine (none_any _ _ _ _).mono ?_); rintro e w2 ⟨rfl, xb2⟩; obtain ⟨xc2, xf2, xl2, xz2⟩ := ext_use xb2; (try simp at xz2); obtain ⟨l2_0, gc, gf⟩ := kp xb2 (w.heap.size) (by first | omega | (simp; try omega)); have r2_0 := gc 0; have f2_0 := gf 0; have r2_0_1 := gc 1; have f2_0_1 := gf 1; have r2_0_2 := gc 2; have f2_0_2 := gf 2; clear gc gf; obtain ⟨l2_1, gc, gf⟩ := kp xb2 (w.heap.size + 1) (by first | omega | (simp; try omega)); have r2_1 := gc 0; have f2_1 := gf 0; have r2_1_1 := gc 1; have f2_1_1 := gf 1; have r2_1_2 := gc 2; have f2_1_2 := gf 2; clear gc gf; obtain ⟨l2_2, gc, gf⟩ := kp xb2 (w.heap.size + 1 + 1) (by first | omega | (simp; try omega)); have r2_2 := gc 0; have f2_2 := gf 0; have r2_2_1 := gc 1; have f2_2_1 := gf 1; have r2_2_2 := gc 2; have f2_2_2 := gf 2; clear gc gf)
            | (go_at_call 193; (with_reducible refine (none_any _ _ _ _).mono ?_); rintro e w3 ⟨rfl, xb3⟩; obtain ⟨xc3, xf3, xl3, xz3⟩ := ext_use xb3; (try simp at xz3); obtain ⟨l3_0, gc, gf⟩ := kp xb3 (w.heap.size) (by first | omega | (simp; try omega)); have r3_0 := gc 0; have f3_0 := gf 0; have r3_0_1 := gc 1; have f3_0_1 := gf 1; have r3_0_2 := gc 2; have f3_0_2 := gf 2; clear gc gf; obtain ⟨l3_1, gc, gf⟩ := kp xb3 (w.heap.size + 1) (by first | omega | (simp; try omega)); have r3_1 := gc 0; have f3_1 := gf 0; have r3_1_1 := gc 1; have f3_1_1 := gf 1; have r3_1_2 := gc 2; have f3_1_2 := gf 2; clear gc gf; obtain ⟨l3_2, gc, gf⟩ := kp xb3 (w.heap.size + 1 + 1) (by first | omega | (simp; try omega)); have r3_2 := gc 0; have f3_2 := gf 0; have r3_2_1 := gc 1; have f3_2_1 := gf 1; have r3_2_2 := gc 2; have f3_2_2 := gf 2; clear gc gf)
           )
          refine bodyPost_ret (v := _) ?h rfl ⟨rfl, ?_⟩
          case h => simp [results, Tryz.results126, go_sem, Dc.zero, bs_nil, *]
          repeat (first | exact ext_refl _ | assumption | refine ext_setCell ?_ (by simp; try omega) _ | refine ext_alloc ?_ _ | refine ext_drew ?_ | refine ext_drewN ?_ _ | refine ext_trans ?_ (Aft.use _) | refine ext_trans ?_ (by assumption))
      · have i6 : r.isEmpty = false := by cases r <;> simp_all
        have pl : 0 < l.length := List.length_pos_iff.2 hl
        have pr : 0 < r.length := List.length_pos_iff.2 hr
        obtain ⟨l1, _, d1, _, e1, e2⟩ := dc_ok ca pl
        obtain ⟨l2, _, d2, _, e3, e4⟩ := dc_ok cb pr
        simp only at l1 d1 e1 e2 l2 d2 e3 e4
        have R : mulR ⟨neg, l, exp⟩ ⟨neg2, r, exp2⟩ = ⟨mkD (neg != neg2) (trimR 48 (mulT l r)) (exp + exp2 + (mulT l r).length - (trimR 48 (mulT l r)).length), mkE (trimR 48 (mulT l r)) (exp + exp2 + (mulT l r).length - (trimR 48 (mulT l r)).length)⟩ := by
          unfold mulR; rw [if_neg (by simp [h1]), if_neg (by simp [hl, hr])]
        rw [R]
        have hx := fun w => pnumber_some l d1 pl l1 w
        have hy := fun w => pnumber_some r d2 pr l2 w
        have sx := dval_small d1 l1
        have sy := dval_small d2 l2
        obtain ⟨ss, st⟩ := mul_small d1 d2 l1 l2
        have htx : ∀ A n c w, Rd w A n c (lim (dval l * dval r)) → Calls Tryz.prog 140 #[natV A n c] w fun e w' => e = .returned (.tuple #[.string (bs (mulT l r)), .int .i64 0]) ∧ Ext w w' := fun A n c w h => ptext_any A n c (dval l * dval r) (by omega) w h
        have htr := trimR_le 48 (mulT l r)
        have htm := fun w => trimRight (mulT l r) (by omega) w
        have hmk := fun ng e w => make_any ng (trimR 48 (mulT l r)) e (by omega) w
        clear R h1 ca cb ha hb d1 d2 hl hr
        generalize trimR 48 (mulT l r) = T at htr htm hmk ⊢
        generalize mulT l r = S at htr htm htx st ⊢
        generalize dval l = X at hx sx ss htx
        generalize dval r = Y at hy sy ss htx
        cases neg <;> cases neg2
        all_goals
          go_enter Tryz.func126, Tryz.ntmps126
          go_wp2_with (first
            | (go_at_call 192; (with_reducible refine (hc _).mono ?_); rintro e w1 ⟨rfl, xb1⟩; obtain ⟨xc1, xf1, xl1, xz1⟩ := ext_use xb1; (try simp at xz1); obtain ⟨l1_0, gc, gf⟩ := kp xb1 (w.heap.size) (by first | omega | (simp; try omega)); have r1_0 := gc 0; have f1_0 := gf 0; have r1_0_1 := gc 1; have f1_0_1 := gf 1; have r1_0_2 := gc 2; have f1_0_2 := gf 2; clear gc gf; obtain ⟨l1_1, gc, gf⟩ := kp xb1 (w.heap.size + 1) (by first | omega | (simp; try omega)); have r1_1 := gc 0; have f1_1 := gf 0; have r1_1_1 := gc 1; have f1_1_1 := gf 1; have r1_1_2 := gc 2; have f1_1_2 := gf 2; clear gc gf; obtain ⟨l1_2, gc, gf⟩ := kp xb1 (w.heap.size + 1 + 1) (by first | omega | (simp; try omega)); have r1_2 := gc 0; have f1_2 := gf 0; have r1_2_1 := gc 1; have f1_2_1 := gf 1; have r1_2_2 := gc 2; have f1_2_2 := gf 2; clear gc gf)
            | (go_at_call 193; (with_reducible refine (none_any _ _ _ _).mono ?_); rintro e w2 ⟨rfl, xb2⟩; obtain ⟨xc2, xf2, xl2, xz2⟩ := ext_use xb2; (try simp at xz2); obtain ⟨l2_0, gc, gf⟩ := kp xb2 (w.heap.size) (by first | omega | (simp; try omega)); have r2_0 := gc 0; have f2_0 := gf 0; have r2_0_1 := gc 1; have f2_0_1 := gf 1; have r2_0_2 := gc 2; have f2_0_2 := gf 2; clear gc gf; obtain ⟨l2_1, gc, gf⟩ := kp xb2 (w.heap.size + 1) (by first | omega | (simp; try omega)); have r2_1 := gc 0; have f2_1 := gf 0; have r2_1_1 := gc 1; have f2_1_1 := gf 1; have r2_1_2 := gc 2; have f2_1_2 := gf 2; clear gc gf; obtain ⟨l2_2, gc, gf⟩ := kp xb2 (w.heap.size + 1 + 1) (by first | omega | (simp; try omega)); have r2_2 := gc 0; have f2_2 := gf 0; have r2_2_1 := gc 1; have f2_2_1 := gf 1; have r2_2_2 := gc 2; have f2_2_2 := gf 2; clear gc gf)
            | (go_at_call 193; (with_reducible refine (none_any _ _ _ _).mono ?_); rintro e w3 ⟨rfl, xb3⟩; obtain ⟨xc3, xf3, xl3, xz3⟩ := ext_use xb3; (try simp at xz3); obtain ⟨l3_0, gc, gf⟩ := kp xb3 (w.heap.size) (by first | omega | (simp; try omega)); have r3_0 := gc 0; have f3_0 := gf 0; have r3_0_1 := gc 1; have f3_0_1 := gf 1; have r3_0_2 := gc 2; have f3_0_2 := gf 2; clear gc gf; obtain ⟨l3_1, gc, gf⟩ := kp xb3 (w.heap.size + 1) (by first | omega | (simp; try omega)); have r3_1 := gc 0; have f3_1 := gf 0; have r3_1_1 := gc 1; have f3_1_1 := gf 1; have r3_1_2 := gc 2; have f3_1_2 := gf 2; clear gc gf; obtain ⟨l3_2, gc, gf⟩ := kp xb3 (w.heap.size + 1 + 1) (by first | omega | (simp; try omega)); have r3_2 := gc 0; have f3_2 := gf 0; have r3_2_1 := gc 1; have f3_2_1 := gf 1; have r3_2_2 := gc 2; have f3_2_2 := gf 2; clear gc gf)
            | (go_at_call 133; (with_reducible refine (hx _).mono ?_); rintro e w5 ⟨A, k, rfl, hX, xb5⟩; obtain ⟨xc5, xf5, xl5, xz5⟩ := ext_use xb5; (try simp at xz5); obtain ⟨l5_0, gc, gf⟩ := kp xb5 (w.heap.size) (by first | omega | (simp; try omega)); have r5_0 := gc 0; have f5_0 := gf 0; have r5_0_1 := gc 1; have f5_0_1 := gf 1; have r5_0_2 := gc 2; have f5_0_2 := gf 2; clear gc gf; obtain ⟨l5_1, gc, gf⟩ := kp xb5 (w.heap.size + 1) (by first | omega | (simp; try omega)); have r5_1 := gc 0; have f5_1 := gf 0; have r5_1_1 := gc 1; have f5_1_1 := gf 1; have r5_1_2 := gc 2; have f5_1_2 := gf 2; clear gc gf; obtain ⟨l5_2, gc, gf⟩ := kp xb5 (w.heap.size + 1 + 1) (by first | omega | (simp; try omega)); have r5_2 := gc 0; have f5_2 := gf 0; have r5_2_1 := gc 1; have f5_2_1 := gf 1; have r5_2_2 := gc 2; have f5_2_2 := gf 2; clear gc gf)
            | (go_at_call 133; (with_reducible refine (hy _).mono ?_); rintro e w7 ⟨B, k2, rfl, hY, xb7⟩; obtain ⟨xc7, xf7, xl7, xz7⟩ := ext_use xb7; (try simp at xz7); obtain ⟨l7_0, gc, gf⟩ := kp xb7 (w.heap.size) (by first | omega | (simp; try omega)); have r7_0 := gc 0; have f7_0 := gf 0; have r7_0_1 := gc 1; have f7_0_1 := gf 1; have r7_0_2 := gc 2; have f7_0_2 := gf 2; clear gc gf; obtain ⟨l7_1, gc, gf⟩ := kp xb7 (w.heap.size + 1) (by first | omega | (simp; try omega)); have r7_1 := gc 0; have f7_1 := gf 0; have r7_1_1 := gc 1; have f7_1_1 := gf 1; have r7_1_2 := gc 2; have f7_1_2 := gf 2; clear gc gf; obtain ⟨l7_2, gc, gf⟩ := kp xb7 (w.heap.size + 1 + 1) (by first | omega | (simp; try omega)); have r7_2 := gc 0; have f7_2 := gf 0; have r7_2_1 := gc 1; have f7_2_1 := gf 1; have r7_2_2 := gc 2; have f7_2_2 := gf 2; clear gc gf; obtain ⟨l7_3, gc, gf⟩ := kp xb7 (w5.heap.size) (by first | omega | (simp; try omega)); have r7_3 := gc 0; have f7_3 := gf 0; clear gc gf)
            | (go_at_call 135; (with_reducible refine (pmul_any A B k k k2 k2 X Y _ (hX.out.1.ext (by (repeat (first | exact ext_refl _ | assumption | refine ext_setCell ?_ (by simp; try omega) _ | refine ext_alloc ?_ _ | refine ext_drew ?_ | refine ext_drewN ?_ _ | refine ext_trans ?_ (Aft.use _) | refine ext_trans ?_ (by assumption))))) (hY.out.1.ext (by (repeat (first | exact ext_refl _ | assumption | refine ext_setCell ?_ (by simp; try omega) _ | refine ext_alloc ?_ _ | refine ext_drew ?_ | refine ext_drewN ?_ _ | refine ext_trans ?_ (Aft.use _) | refine ext_trans ?_ (by assumption))))) (by omega) (by omega) (by have h1 := hX.out.1.len; have h2 := hY.out.1.len; omega) (by omega)).mono ?_); rintro e w8 ⟨P, k3, rfl, hP, xb8⟩; obtain ⟨xc8, xf8, xl8, xz8⟩ := ext_use xb8; (try simp at xz8); obtain ⟨l8_0, gc, gf⟩ := kp xb8 (w.heap.size) (by first | omega | (simp; try omega)); have r8_0 := gc 0; have f8_0 := gf 0; have r8_0_1 := gc 1; have f8_0_1 := gf 1; have r8_0_2 := gc 2; have f8_0_2 := gf 2; clear gc gf; obtain ⟨l8_1, gc, gf⟩ := kp xb8 (w.heap.size + 1) (by first | omega | (simp; try omega)); have r8_1 := gc 0; have f8_1 := gf 0; have r8_1_1 := gc 1; have f8_1_1 := gf 1; have r8_1_2 := gc 2; have f8_1_2 := gf 2; clear gc gf; obtain ⟨l8_2, gc, gf⟩ := kp xb8 (w.heap.size + 1 + 1) (by first | omega | (simp; try omega)); have r8_2 := gc 0; have f8_2 := gf 0; have r8_2_1 := gc 1; have f8_2_1 := gf 1; have r8_2_2 := gc 2; have f8_2_2 := gf 2; clear gc gf)
            | (go_at_call 140; (with_reducible refine (htx P k3 k3 _ (hP.out.1.ext (by (repeat (first | exact ext_refl _ | assumption | refine ext_setCell ?_ (by simp; try omega) _ | refine ext_alloc ?_ _ | refine ext_drew ?_ | refine ext_drewN ?_ _ | refine ext_trans ?_ (Aft.use _) | refine ext_trans ?_ (by assumption)))))).mono ?_); rintro e w9 ⟨rfl, xb9⟩; obtain ⟨xc9, xf9, xl9, xz9⟩ := ext_use xb9; (try simp at xz9); obtain ⟨l9_0, gc, gf⟩ := kp xb9 (w.heap.size) (by first | omega | (simp; try omega)); have r9_0 := gc 0; have f9_0 := gf 0; have r9_0_1 := gc 1; have f9_0_1 := gf 1; have r9_0_2 := gc 2; have f9_0_2 := gf 2; clear gc gf; obtain ⟨l9_1, gc, gf⟩ := kp xb9 (w.heap.size + 1) (by first | omega | (simp; try omega)); have r9_1 := gc 0; have f9_1 := gf 0; have r9_1_1 := gc 1; have f9_1_1 := gf 1; have r9_1_2 := gc 2; have f9_1_2 := gf 2; clear gc gf; obtain ⟨l9_2, gc, gf⟩ := kp xb9 (w.heap.size + 1 + 1) (by first | omega | (simp; try omega)); have r9_2 := gc 0; have f9_2 := gf 0; have r9_2_1 := gc 1; have f9_2_1 := gf 1; have r9_2_2 := gc 2; have f9_2_2 := gf 2; clear gc gf)
            | (go_at_call 141; (with_reducible refine (htm _).mono ?_); rintro e w' ⟨rfl, rfl⟩)
            | (go_at_call 142; (with_reducible refine (hmk _ _ _).mono ?_); rintro e w10 ⟨rfl, xb10⟩; obtain ⟨xc10, xf10, xl10, xz10⟩ := ext_use xb10; (try simp at xz10); obtain ⟨l10_0, gc, gf⟩ := kp xb10 (w.heap.size + 1 + 1) (by first | omega | (simp; try omega)); have r10_0 := gc 0; have f10_0 := gf 0; have r10_0_1 := gc 1; have f10_0_1 := gf 1; have r10_0_2 := gc 2; have f10_0_2 := gf 2; clear gc gf)
           )
          refine bodyPost_ret (v := duV ⟨mkD _ T (exp + exp2 + S.length - T.length), mkE T (exp + exp2 + S.length - T.length)⟩) ?h rfl ⟨rfl, ?_⟩
          case h => simp [results, Tryz.results126, go_sem, *]
          repeat (first | exact ext_refl _ | assumption | refine ext_setCell ?_ (by simp; try omega) _ | refine ext_alloc ?_ _ | refine ext_drew ?_ | refine ext_drewN ?_ _ | refine ext_trans ?_ (Aft.use _) | refine ext_trans ?_ (by assumption))
  · have R : mulR a b = ⟨Dc.zero, chkD a b⟩ := by unfold mulR; rw [if_pos h1]
    rw [R]
    generalize chkD a b = E at hc h1
    have hne : (E == 0) = false := by rw [beq_eq_false_iff_ne]; exact h1
    clear R h1
    obtain ⟨neg, l, exp⟩ := a
    obtain ⟨neg2, l2, exp2⟩ := b
    go_enter Tryz.func126, Tryz.ntmps126
    go_wp2_with (first
      | (go_at_call 192; (with_reducible refine (hc _).mono ?_); rintro e w1 ⟨rfl, xb1⟩; obtain ⟨xc1, xf1, xl1, xz1⟩ := ext_use xb1; (try simp at xz1); obtain ⟨l1_0, gc, gf⟩ := kp xb1 (w.heap.size) (by first | omega | (simp; try omega)); have r1_0 := gc 0; have f1_0 := gf 0; have r1_0_1 := gc 1; have f1_0_1 := gf 1; have r1_0_2 := gc 2; have f1_0_2 := gf 2; clear gc gf; obtain ⟨l1_1, gc, gf⟩ := kp xb1 (w.heap.size + 1) (by first | omega | (simp; try omega)); have r1_1 := gc 0; have f1_1 := gf 0; have r1_1_1 := gc 1; have f1_1_1 := gf 1; have r1_1_2 := gc 2; have f1_1_2 := gf 2; clear gc gf; obtain ⟨l1_2, gc, gf⟩ := kp xb1 (w.heap.size + 1 + 1) (by first | omega | (simp; try omega)); have r1_2 := gc 0; have f1_2 := gf 0; have r1_2_1 := gc 1; have f1_2_1 := gf 1; have r1_2_2 := gc 2; have f1_2_2 := gf 2; clear gc gf)
     )
    refine bodyPost_ret (v := _) ?h rfl ⟨rfl, ?_⟩
    case h => simp [results, Tryz.results126, go_sem, Dc.zero, bs_nil, *]
    repeat (first | exact ext_refl _ | assumption | refine ext_setCell ?_ (by simp; try omega) _ | refine ext_alloc ?_ _ | refine ext_drew ?_ | refine ext_drewN ?_ _ | refine ext_trans ?_ (Aft.use _) | refine ext_trans ?_ (by assumption))
end Go.Proofs.YtiapoflkeliljaaGreatDoor
end
