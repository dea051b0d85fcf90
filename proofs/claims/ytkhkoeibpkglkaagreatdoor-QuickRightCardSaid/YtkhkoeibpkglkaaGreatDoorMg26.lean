/- Lemmas of this proof, laid together: RatF, RatG, AlvT, Alv, Prt, TxP, WorP, WorQ, WorN, WorR, NearA, NearP, ExP, RatO, RatQ, RatS. -/
import Derived.Test.YtkhkoeibpkglkaaGreatDoorMg18
import Derived.Test.YtkhkoeibpkglkaaGreatDoorMg19
import Derived.Test.YtkhkoeibpkglkaaGreatDoorMg25
import Derived.Test.YtkhkoeibpkglkaaGreatDoorMg09
import Derived.Deep.DeepCutAuto
import Derived.Deep.RegionWith
import Derived.Deep.LoopGhost
import Derived.Test.YtkhkoeibpkglkaaGreatDoorMg10
import Derived.Test.YtkhkoeibpkglkaaGreatDoorMg07
import Derived.Test.YtkhkoeibpkglkaaGreatDoorMg03
import Derived.Test.YtkhkoeibpkglkaaGreatDoorMg08
set_option linter.unusedSimpArgs false
set_option linter.unusedVariables false
section
/- The program's decimals as fractions. -/
namespace Go.Proofs.YtkhkoeibpkglkaaGreatDoor
open Go.RowKit
attribute [local go_sem] bs_size bs_extract bs_get bs_append bs_toList const_get
attribute [local go_sem] sz2 sz3 sz4 sz5 sz6 sz7 sz8
set_option maxHeartbeats 4000000
set_option maxRecDepth 100000
attribute [local irreducible] Calls
theorem pnumber_nil (w : World) : Calls Tryz.prog 52 #[.string (bs [])] w (NatPost0 w 0) := by
  go_enter Tryz.func52, Tryz.ntmps52
  go_wp2
  refine bodyPost_ret (v := .tuple #[natV none 0 0, .int .i64 0]) ?h rfl ⟨none, 0, rfl, ⟨by rw [lim_zero]; exact Rd.nil _, Fr.none _⟩, ?_⟩
  case h => simp [results, Tryz.results52, go_sem, *]
  repeat (first | exact ext_refl _ | assumption | refine ext_setCell ?_ (by simp; try omega) _ | refine ext_alloc ?_ _ | refine ext_drew ?_ | refine ext_drewN ?_ _ | refine ext_trans ?_ (Aft.use _) | refine ext_trans ?_ (by assumption))
theorem pnumber_any (l : List UInt8) (hd : digsB l = true) (hl : l.length ≤ 65536) (w : World) : Calls Tryz.prog 52 #[.string (bs l)] w (NatPost0 w (dval l)) := by
  by_cases h0 : 0 < l.length
  · exact pnumber_some l hd h0 hl w
  · obtain rfl : l = [] := List.eq_nil_of_length_eq_zero (by omega)
    exact pnumber_nil w
/-- A number with an error of nought, not long. -/
abbrev NatPostL (w : World) (v L : Nat) : Ending → World → Prop := fun e w' => ∃ (A : Option Addr) (k : Nat), (e = .returned (.tuple #[natV A k k, .int .i64 0]) ∧ k ≤ L) ∧ Hid (Rd w' A k k (lim v) ∧ Fr w A) ∧ Ext w w'
theorem natPostL {w : World} {v L : Nat} (h : (lim v).length ≤ L) {e : Ending} {w' : World} (hp : NatPost0 w v e w') : NatPostL w v L e w' := by
  obtain ⟨A, k, he, hR, hx⟩ := hp
  exact ⟨A, k, ⟨he, by rw [← hR.out.1.len]; exact h⟩, hR, hx⟩
theorem ten_len (n : Nat) (hn : n ≤ 16000) : (lim (10 ^ n)).length ≤ 4001 := lim_fits (n := n) (Nat.le_refl _) (by omega) (by omega)
theorem dratio_neg (neg : Bool) (l : List UInt8) (E : Nat) (hE1 : 1 ≤ E) (hE2 : E ≤ 4000) (hl : l.length ≤ 4000) (hok : dcE ⟨neg, l, -(E : Int)⟩ = 0) (hdg : digsB l = true) (w : World) (hT : Tz w) :
    Calls Tryz.prog 33 #[dcV ⟨neg, l, -(E : Int)⟩] w (TPost w (sgn neg (dval l / Nat.gcd (dval l) (10 ^ E) : Nat)) (denOf (lowD (dval l) (10 ^ E)))) := by
  have HT := Lib.hid hT
  have hnl : (lim (dval l)).length ≤ 4001 := Nat.le_trans (lim_mono (Nat.le_of_lt (Nat.lt_of_lt_of_le (dval_lt l hdg) (Nat.pow_le_pow_right (by decide) hl)))) (ten_len 4000 (by omega))
  have hx := fun w => (pnumber_any l hdg (by omega) w).mono (fun e w' h => natPostL hnl h)
  have hp : ∀ w, Calls Tryz.prog 53 #[.int .u32 10, .int .i64 (E : Int)] w (NatPostL w (10 ^ E) 4001) := fun w => (npow_pos 10 E (by omega) (by omega) hE1 (by omega) (Nat.le_trans (ten_len E (by omega)) (by omega)) w).mono (fun e w' h => natPostL (ten_len E (by omega)) h)
  have hc := fun w => check_any' ⟨neg, l, -(E : Int)⟩ (by simp; omega) w
  rw [hok] at hc
  have h10 : 10 ^ E ≠ 0 := by have := Nat.pow_pos (n := E) (show 0 < 10 by decide); omega
  generalize dval l = X at hx hnl ⊢
  generalize 10 ^ E = Y at hp h10 ⊢
  clear hT hok hdg
  have hmax : max (-(E : Int)) (E : Int) = (E : Int) := by omega
  have hlt : -(E : Int) < 0 := by omega
  go_enter Tryz.func33, Tryz.ntmps33
  go_wp2_with (first
    | (go_at_call 32; (with_reducible refine (hc _).mono ?_); rintro e w1 ⟨rfl, xb1⟩; obtain ⟨xc1, xf1, xl1, xz1⟩ := ext_use xb1; (try simp at xz1); obtain ⟨l1_0, gc, gf⟩ := kp xb1 (w.heap.size) (by first | omega | (simp; try omega)); have r1_0 := gc 0; have f1_0 := gf 0; have r1_0_1 := gc 1; have f1_0_1 := gf 1; have r1_0_2 := gc 2; have f1_0_2 := gf 2; clear gc gf; obtain ⟨l1_1, gc, gf⟩ := kp xb1 (w.heap.size + 1) (by first | omega | (simp; try omega)); have r1_1 := gc 0; have f1_1 := gf 0; have r1_1_1 := gc 1; have f1_1_1 := gf 1; have r1_1_2 := gc 2; have f1_1_2 := gf 2; clear gc gf)
    | (go_at_call 52; (with_reducible refine (hx _).mono ?_); rintro e w2 ⟨A, k, ⟨rfl, hk⟩, hX, xb2⟩; obtain ⟨xc2, xf2, xl2, xz2⟩ := ext_use xb2; (try simp at xz2); obtain ⟨l2_0, gc, gf⟩ := kp xb2 (w.heap.size) (by first | omega | (simp; try omega)); have r2_0 := gc 0; have f2_0 := gf 0; have r2_0_1 := gc 1; have f2_0_1 := gf 1; have r2_0_2 := gc 2; have f2_0_2 := gf 2; clear gc gf; obtain ⟨l2_1, gc, gf⟩ := kp xb2 (w.heap.size + 1) (by first | omega | (simp; try omega)); have r2_1 := gc 0; have f2_1 := gf 0; have r2_1_1 := gc 1; have f2_1_1 := gf 1; have r2_1_2 := gc 2; have f2_1_2 := gf 2; clear gc gf)
    | (go_at_call 53; (with_reducible refine (hp _).mono ?_); rintro e w3 ⟨B, j, ⟨rfl, hj⟩, hY, xb3⟩; obtain ⟨xc3, xf3, xl3, xz3⟩ := ext_use xb3; (try simp at xz3); obtain ⟨l3_0, gc, gf⟩ := kp xb3 (w.heap.size) (by first | omega | (simp; try omega)); have r3_0 := gc 0; have f3_0 := gf 0; have r3_0_1 := gc 1; have f3_0_1 := gf 1; have r3_0_2 := gc 2; have f3_0_2 := gf 2; clear gc gf; obtain ⟨l3_1, gc, gf⟩ := kp xb3 (w.heap.size + 1) (by first | omega | (simp; try omega)); have r3_1 := gc 0; have f3_1 := gf 0; have r3_1_1 := gc 1; have f3_1_1 := gf 1; have r3_1_2 := gc 2; have f3_1_2 := gf 2; clear gc gf; obtain ⟨l3_2, gc, gf⟩ := kp xb3 (w2.heap.size) (by first | omega | (simp; try omega)); have r3_2 := gc 0; have f3_2 := gf 0; clear gc gf)
    | (go_at_call 54; (with_reducible refine (ra_make neg A k k X B j j Y h10 (by omega) (by omega) _ (HT.out.ext (by (repeat (first | exact ext_refl _ | assumption | refine ext_setCell ?_ (by simp; try omega) _ | refine ext_alloc ?_ _ | refine ext_drew ?_ | refine ext_drewN ?_ _ | refine ext_trans ?_ (Aft.use _) | refine ext_trans ?_ (by assumption))))) (hX.out.1.ext (by (repeat (first | exact ext_refl _ | assumption | refine ext_setCell ?_ (by simp; try omega) _ | refine ext_alloc ?_ _ | refine ext_drew ?_ | refine ext_drewN ?_ _ | refine ext_trans ?_ (Aft.use _) | refine ext_trans ?_ (by assumption))))) (hY.out.1.ext (by (repeat (first | exact ext_refl _ | assumption | refine ext_setCell ?_ (by simp; try omega) _ | refine ext_alloc ?_ _ | refine ext_drew ?_ | refine ext_drewN ?_ _ | refine ext_trans ?_ (Aft.use _) | refine ext_trans ?_ (by assumption)))))).mono ?_); rintro e w4 ⟨C, n, c, D, m, d, rfl, hZ, xb4⟩; obtain ⟨xc4, xf4, xl4, xz4⟩ := ext_use xb4; (try simp at xz4); obtain ⟨l4_0, gc, gf⟩ := kp xb4 (w.heap.size) (by first | omega | (simp; try omega)); have r4_0 := gc 0; have f4_0 := gf 0; have r4_0_1 := gc 1; have f4_0_1 := gf 1; have r4_0_2 := gc 2; have f4_0_2 := gf 2; clear gc gf; obtain ⟨l4_1, gc, gf⟩ := kp xb4 (w.heap.size + 1) (by first | omega | (simp; try omega)); have r4_1 := gc 0; have f4_1 := gf 0; have r4_1_1 := gc 1; have f4_1_1 := gf 1; have r4_1_2 := gc 2; have f4_1_2 := gf 2; clear gc gf)
   )
  have n5 : ∀ x, C = some x → w.heap.size + 1 < x.block := fun x hx => by have := hZ.out.2.1 x hx; simp at this; omega
  have n6 : ∀ x, D = some x → w.heap.size + 1 < x.block := fun x hx => by have := hZ.out.2.2.2 x hx; simp at this; omega
  have z0 : w4.cell? ⟨w.heap.size + 1, 0, none⟩ = some (.bool false) := by simp [go_sem, *]
  have z1 : w4.cell? ⟨w.heap.size + 1, 1, none⟩ = some (.slice none 0 0) := by simp [go_sem, *]
  have z2 : w4.cell? ⟨w.heap.size + 1, 2, none⟩ = some (.slice none 0 0) := by simp [go_sem, *]
  obtain ⟨q0, q1, q2⟩ := set3 (b := w.heap.size + 1) z0 z1 z2 (.bool (decide (sgn neg (X / X.gcd Y : Nat) < 0))) (.slice C n c) (.slice D m d)
  have hEE : Ext w w4 := by (repeat (first | exact ext_refl _ | assumption | refine ext_setCell ?_ (by simp; try omega) _ | refine ext_alloc ?_ _ | refine ext_drew ?_ | refine ext_drewN ?_ _ | refine ext_trans ?_ (Aft.use _) | refine ext_trans ?_ (by assumption)))
  refine bodyPost_ret (v := .tuple #[ratV (decide (sgn neg ↑(X / X.gcd Y) < 0)) C n c D m d, .int .i64 0]) ?h rfl ⟨C, n, c, D, m, d, rfl, ⟨hZ.out.1.set3 n5 _ _ _, fun x hx => Nat.le_of_lt (by have := n5 x hx; omega), hZ.out.2.2.1.set3 n6 _ _ _, fun x hx => Nat.le_of_lt (by have := n6 x hx; omega)⟩, ext_set3 hEE (by omega) _ _ _⟩
  case h => simp [results, Tryz.results33, go_sem, q0, q1, q2]
end Go.Proofs.YtkhkoeibpkglkaaGreatDoor
end
section
/- DecTexts: the plain part. -/
namespace Go.Proofs.YtkhkoeibpkglkaaGreatDoor
set_option maxRecDepth 100000
theorem dc_lastq {d : Dc} (h : dcE d = 0) (h0 : 0 < d.dig.length) : ∀ x, d.dig.getLast? = some x → x ≠ 48 := by
  unfold dcE at h
  split at h
  · cases h
  · rw [if_neg (by omega)] at h
    split at h
    · cases h
    · split at h
      · cases h
      · rename_i h3
        exact fun x hx e => h3 (.inr (.inl (by rw [hx, e])))
end Go.Proofs.YtkhkoeibpkglkaaGreatDoor
end
section
/- What decimals are worth: the plain part. -/
namespace Go.Proofs.YtkhkoeibpkglkaaGreatDoor
set_option maxRecDepth 100000
theorem trimL_spec (c : UInt8) : ∀ l : List UInt8, ∃ a, l = List.replicate a c ++ trimL c l ∧ ∀ x, (trimL c l).head? = some x → x ≠ c
  | [] => ⟨0, rfl, fun x hx => by simp [trimL] at hx⟩
  | y :: l => by
    by_cases h : y = c
    · subst h
      obtain ⟨a, h1, h2⟩ := trimL_spec y l
      have e : trimL y (y :: l) = trimL y l := by simp [trimL]
      rw [e]
      exact ⟨a + 1, by rw [List.replicate_succ, List.cons_append, ← h1], h2⟩
    · have e : trimL c (y :: l) = y :: l := by simp [trimL, h]
      rw [e]
      exact ⟨0, rfl, fun x hx => by simp at hx; subst hx; exact h⟩
theorem trimR_spec (c : UInt8) (l : List UInt8) : ∃ b, l = trimR c l ++ List.replicate b c ∧ ∀ x, (trimR c l).getLast? = some x → x ≠ c := by
  obtain ⟨b, h1, h2⟩ := trimL_spec c l.reverse
  refine ⟨b, ?_, fun x hx => h2 x ?_⟩
  · have := congrArg List.reverse h1
    rw [List.reverse_reverse, List.reverse_append, List.reverse_replicate] at this
    exact this
  · unfold trimR at hx
    rwa [List.getLast?_reverse] at hx
theorem mk_spec (l : List UInt8) : ∃ a b, l = zerosL a ++ (mkDig l ++ zerosL b) ∧ mkN l = (b : Int) ∧ (∀ x, (mkDig l).head? = some x → x ≠ 48) ∧ (∀ x, (mkDig l).getLast? = some x → x ≠ 48) := by
  obtain ⟨b, h1, h2⟩ := trimR_spec 48 l
  obtain ⟨a, h3, h4⟩ := trimL_spec 48 (trimR 48 l)
  refine ⟨a, b, ?_, ?_, h4, fun x hx => h2 x ?_⟩
  · conv => lhs; rw [h1, h3]
    rw [List.append_assoc]; rfl
  · unfold mkN
    have := congrArg List.length h1
    rw [List.length_append, List.length_replicate] at this
    omega
  · change (trimL 48 (trimR 48 l)).getLast? = some x at hx
    rw [h3, List.getLast?_append, hx]; rfl
theorem dval_pos_last {l : List UInt8} (hd : digsB l = true) (hl : ∀ x, l.getLast? = some x → x ≠ 48) (hne : l ≠ []) : 0 < dval l := by
  obtain ⟨t, x, rfl⟩ : ∃ t x, l = t ++ [x] := ⟨l.dropLast, l.getLast hne, (List.dropLast_concat_getLast hne).symm⟩
  have h1 : x ≠ 48 := hl x (by simp)
  have h2 : isD x = true := by unfold digsB at hd; simp at hd; exact hd.2
  have h3 := isD_yes x h2
  have h4 : x.toNat ≠ 48 := fun e => h1 (UInt8.toNat_inj.1 e)
  rw [dval_snoc]; omega
theorem mk_val (l : List UInt8) : ∃ b : Nat, mkN l = b ∧ dval l = dval (mkDig l) * 10 ^ b := by
  obtain ⟨a, b, h1, h2, -, -⟩ := mk_spec l
  refine ⟨b, h2, ?_⟩
  conv => lhs; rw [h1]
  have hz : ∀ k, dval (zerosL k) = 0 := dval_noughts
  rw [dval_append, dval_append, hz, hz]; simp [zerosL]
/-- How much a decimal's digits are worth in units of ten to the power of F. -/
def mag (d : Dc) (F : Int) : Nat := dval d.dig * 10 ^ (d.exp - F).toNat
theorem mag_nil {d : Dc} (h : d.dig = []) (F : Int) : mag d F = 0 := by unfold mag; rw [h]; simp [dval]
theorem dc_digs {d : Dc} (h : dcE d = 0) : digsB d.dig = true := by
  by_cases h0 : 0 < d.dig.length
  · exact (dc_ok h h0).digs
  · rw [List.eq_nil_of_length_eq_zero (by omega : d.dig.length = 0)]; rfl
/-- What was made may be, and is worth as much. -/
theorem mk_wv {neg : Bool} {l : List UInt8} {E : Int} (hd : digsB l = true) (h : mkE l E = 0) : dcE (mkD neg l E) = 0 ∧ (mkD neg l E).neg = neg ∧ (∀ F, F ≤ E → mag (mkD neg l E) F = dval l * 10 ^ (E - F).toNat) ∧ ((mkD neg l E).dig ≠ [] → E ≤ (mkD neg l E).exp) := by
  obtain ⟨b, hb, hv⟩ := mk_val l
  obtain ⟨a, b', h1, h2, h3, h4⟩ := mk_spec l
  obtain rfl : b' = b := by have := h2.symm.trans hb; omega
  have hdd : digsB (mkDig l) = true := by
    rw [h1] at hd
    unfold digsB at hd ⊢
    rw [List.all_append, List.all_append] at hd
    simp at hd ⊢
    exact hd.2.1
  unfold mkD
  rw [if_pos h]
  by_cases h0 : mkDig l = []
  · rw [if_pos h0]
    refine ⟨by unfold dcE; simp, rfl, fun F hF => ?_, fun h => absurd rfl h⟩
    rw [hv, h0, mag_nil rfl]; simp [dval]
  · rw [if_neg h0]
    have hpos : 0 < (mkDig l).length := List.length_pos_iff.2 h0
    have hlen : (mkDig l).length ≤ l.length := by have := congrArg List.length h1; simp at this; omega
    unfold mkE at h
    split at h
    · cases h
    · split at h
      · cases h
      · split at h
        · cases h
        · rename_i g1 g2 g3
          have g4 : ¬ far (E + mkN l) = true := fun e => g3 (.inr (.inr e))
          refine ⟨?_, rfl, fun F hF => ?_, fun _ => by simp only; omega⟩
          · unfold dcE
            rw [if_neg (by simp only; omega), if_neg (by simp only; omega), if_neg (by simp only; rw [hdd]; simp), if_neg]
            rintro (e | e | e)
            · exact h3 _ e rfl
            · exact h4 _ e rfl
            · exact g4 e
          · unfold mag
            simp only
            rw [hv, Nat.mul_assoc, ← Nat.pow_add]
            congr 2; omega
end Go.Proofs.YtkhkoeibpkglkaaGreatDoor
end
section
/- Decimals as fractions: the plain law of sums, products and order. -/
namespace Go.Proofs.YtkhkoeibpkglkaaGreatDoor
set_option maxRecDepth 100000
/-- Above and below the line, as a decimal gives it. -/
def dz (d : Dc) : Int := sgn d.neg (dval d.dig * 10 ^ d.exp.toNat : Nat)
def dp (d : Dc) : Nat := 10 ^ (-d.exp).toNat
theorem dp_ne (d : Dc) : dp d ≠ 0 := by unfold dp; have := Nat.pow_pos (n := (-d.exp).toNat) (show 0 < 10 by decide); omega
end Go.Proofs.YtkhkoeibpkglkaaGreatDoor
end
section
/- The program's decimals as fractions: exponents from nought on; all. -/
namespace Go.Proofs.YtkhkoeibpkglkaaGreatDoor
open Go.RowKit
attribute [local go_sem] bs_size bs_extract bs_get bs_append bs_toList const_get
attribute [local go_sem] sz2 sz3 sz4 sz5 sz6 sz7 sz8
set_option maxHeartbeats 4000000
set_option maxRecDepth 100000
attribute [local irreducible] Calls
attribute [local go_sem] D2.Oper.detAt D2.detUpon D2.relUpon
namespace D2
end D2
theorem dratio_pos (neg : Bool) (l : List UInt8) (E : Nat) (hE2 : E ≤ 7000) (hl : l.length ≤ 4000) (hok : dcE ⟨neg, l, (E : Int)⟩ = 0) (hdg : digsB l = true) (w : World) (hT : Tz w) :
    Calls Tryz.prog 33 #[dcV ⟨neg, l, (E : Int)⟩] w (TPost w (sgn neg (dval l * 10 ^ E : Nat)) 1) := by
  have HT := Lib.hid hT
  have hxl := Nat.lt_of_lt_of_le (dval_lt l hdg) (Nat.pow_le_pow_right (show 0 < 10 by decide) hl)
  have hnl : (lim (dval l)).length ≤ 4001 := Nat.le_trans (lim_mono (Nat.le_of_lt hxl)) (ten_len 4000 (by omega))
  have hml : (lim (dval l * 10 ^ E)).length ≤ 4001 := by
    obtain ⟨N, hN⟩ : ∃ N : Nat, N = 4000 := ⟨_, rfl⟩
    rw [← hN] at hxl
    refine Nat.le_trans (lim_mono (Nat.mul_le_mul_right _ (Nat.le_of_lt hxl))) ?_
    rw [← Nat.pow_add]
    exact ten_len (N + E) (by omega)
  have hx := fun w => (pnumber_any l hdg (by omega) w).mono (fun e w' h => natPostL hnl h)
  have hp : ∀ w, Calls Tryz.prog 53 #[.int .u32 10, .int .i64 (E : Int)] w (NatPostL w (10 ^ E) 4001) := fun w => by
    by_cases h : E = 0
    · subst h
      exact (npow_zero 10 w).mono (fun e w' h => natPostL (ten_len 0 (by omega)) h)
    · exact (npow_pos 10 E (by omega) (by omega) (by omega) (by omega) (Nat.le_trans (ten_len E (by omega)) (by omega)) w).mono (fun e w' h => natPostL (ten_len E (by omega)) h)
  have hc := fun w => check_any' ⟨neg, l, (E : Int)⟩ (by simp; omega) w
  rw [hok] at hc
  have hlp := ten_len E (by omega)
  generalize dval l = X at hx hnl hml ⊢
  generalize 10 ^ E = Y at hp hlp hml ⊢
  clear hT hok hdg
  have kM : ∀ A k B j w', Rd w' A k k (lim X) → Rd w' B j j (lim Y) → Calls Tryz.prog 55 #[natV A k k, natV B j j] w' (NatPostL w' (X * Y) 4001) := fun A k B j w' h1 h2 => by
    have e1 := h1.len
    have e2 := h2.len
    exact (pmul_any A B k k j j X Y w' h1 h2 (by omega) (by omega) (by omega) (by omega)).mono (fun e w'' h => natPostL hml h)
  have kR : ∀ A k B j w', Ext w w' → Rd w' A k k (lim (X * Y)) → Rd w' B j j (lim 1) → Calls Tryz.prog 54 #[.bool neg, natV A k k, natV B j j] w' (TPost w' (sgn neg (X * Y : Nat)) 1) := fun A k B j w' he h1 h2 => by
    have e1 := h1.len
    have e2 := h2.len
    have e3 : (lim 1).length = 1 := by kernel_rfl
    have h := ra_make neg A k k (X * Y) B j j 1 (by decide) (by omega) (by omega) w' (HT.out.ext he) h1 h2
    rw [Nat.gcd_one_right, Nat.div_one] at h
    have e : denOf (lowD (X * Y) 1) = 1 := by unfold lowD; rw [Nat.gcd_one_right, Nat.div_one]; split <;> rfl
    rwa [e] at h
  have hmax : max (E : Int) (-(E : Int)) = (E : Int) := by omega
  have hlt : decide ((E : Int) < 0) = false := decide_eq_false (by omega)
  clear hnl hml hlp hxl
  go_enter Tryz.func33, Tryz.ntmps33
  go_wp2_with (first
    | (go_at_call 32; (with_reducible refine (hc _).mono ?_); rintro e w1 ⟨rfl, xb1⟩; obtain ⟨xc1, xf1, xl1, xz1⟩ := ext_use xb1; (try simp at xz1); obtain ⟨l1_0, gc, gf⟩ := kp xb1 (w.heap.size) (by first | omega | (simp; try omega)); have r1_0 := gc 0; have f1_0 := gf 0; have r1_0_1 := gc 1; have f1_0_1 := gf 1; have r1_0_2 := gc 2; have f1_0_2 := gf 2; clear gc gf; obtain ⟨l1_1, gc, gf⟩ := kp xb1 (w.heap.size + 1) (by first | omega | (simp; try omega)); have r1_1 := gc 0; have f1_1 := gf 0; have r1_1_1 := gc 1; have f1_1_1 := gf 1; have r1_1_2 := gc 2; have f1_1_2 := gf 2; clear gc gf)
    | (go_at_call 52; (with_reducible refine (hx _).mono ?_); rintro e w2 ⟨A, k, ⟨rfl, hk⟩, hX, xb2⟩; obtain ⟨xc2, xf2, xl2, xz2⟩ := ext_use xb2; (try simp at xz2); obtain ⟨l2_0, gc, gf⟩ := kp xb2 (w.heap.size) (by first | omega | (simp; try omega)); have r2_0 := gc 0; have f2_0 := gf 0; have r2_0_1 := gc 1; have f2_0_1 := gf 1; have r2_0_2 := gc 2; have f2_0_2 := gf 2; clear gc gf; obtain ⟨l2_1, gc, gf⟩ := kp xb2 (w.heap.size + 1) (by first | omega | (simp; try omega)); have r2_1 := gc 0; have f2_1 := gf 0; have r2_1_1 := gc 1; have f2_1_1 := gf 1; have r2_1_2 := gc 2; have f2_1_2 := gf 2; clear gc gf)
    | (go_at_call 53; (with_reducible refine (hp _).mono ?_); rintro e w3 ⟨B, j, ⟨rfl, hj⟩, hY, xb3⟩; obtain ⟨xc3, xf3, xl3, xz3⟩ := ext_use xb3; (try simp at xz3); obtain ⟨l3_0, gc, gf⟩ := kp xb3 (w.heap.size) (by first | omega | (simp; try omega)); have r3_0 := gc 0; have f3_0 := gf 0; have r3_0_1 := gc 1; have f3_0_1 := gf 1; have r3_0_2 := gc 2; have f3_0_2 := gf 2; clear gc gf; obtain ⟨l3_1, gc, gf⟩ := kp xb3 (w.heap.size + 1) (by first | omega | (simp; try omega)); have r3_1 := gc 0; have f3_1 := gf 0; have r3_1_1 := gc 1; have f3_1_1 := gf 1; have r3_1_2 := gc 2; have f3_1_2 := gf 2; clear gc gf; obtain ⟨l3_2, gc, gf⟩ := kp xb3 (w2.heap.size) (by first | omega | (simp; try omega)); have r3_2 := gc 0; have f3_2 := gf 0; clear gc gf)
    | (go_at_call 55; (with_reducible refine (kM _ _ _ _ _ (hX.out.1.ext (by (repeat (first | exact ext_refl _ | assumption | refine ext_setCell ?_ (by simp; try omega) _ | refine ext_alloc ?_ _ | refine ext_drew ?_ | refine ext_drewN ?_ _ | refine ext_trans ?_ (Aft.use _) | refine ext_trans ?_ (by assumption))))) (hY.out.1.ext (by (repeat (first | exact ext_refl _ | assumption | refine ext_setCell ?_ (by simp; try omega) _ | refine ext_alloc ?_ _ | refine ext_drew ?_ | refine ext_drewN ?_ _ | refine ext_trans ?_ (Aft.use _) | refine ext_trans ?_ (by assumption)))))).mono ?_); rintro e w4 ⟨C, m, ⟨rfl, hm⟩, hZ, xb4⟩; obtain ⟨xc4, xf4, xl4, xz4⟩ := ext_use xb4; (try simp at xz4); obtain ⟨l4_0, gc, gf⟩ := kp xb4 (w.heap.size) (by first | omega | (simp; try omega)); have r4_0 := gc 0; have f4_0 := gf 0; have r4_0_1 := gc 1; have f4_0_1 := gf 1; have r4_0_2 := gc 2; have f4_0_2 := gf 2; clear gc gf; obtain ⟨l4_1, gc, gf⟩ := kp xb4 (w.heap.size + 1) (by first | omega | (simp; try omega)); have r4_1 := gc 0; have f4_1 := gf 0; have r4_1_1 := gc 1; have f4_1_1 := gf 1; have r4_1_2 := gc 2; have f4_1_2 := gf 2; clear gc gf; obtain ⟨l4_2, gc, gf⟩ := kp xb4 (w2.heap.size) (by first | omega | (simp; try omega)); have r4_2 := gc 0; have f4_2 := gf 0; clear gc gf)
   )
  have y0 : w4.cell? ⟨w.heap.size, 0, none⟩ = some (.bool neg) := by simp [go_sem, *]
  have hEE4 : Hid (Ext w w4) := by show Ext w w4; (repeat (first | exact ext_refl _ | assumption | refine ext_setCell ?_ (by simp; try omega) _ | refine ext_alloc ?_ _ | refine ext_drew ?_ | refine ext_drewN ?_ _ | refine ext_trans ?_ (Aft.use _) | refine ext_trans ?_ (by assumption)))
  have lw4 : w.heap.size < w4.heap.size := by assumption
  have l24 : w2.heap.size < w4.heap.size := by assumption
  have hZ' : Hid (Rd (w4.setCell ⟨w2.heap.size, 0, none⟩ (.slice C m m)) C m m (lim (X * Y))) := hZ.out.1.tch ((Tch.refl w2.heap.size w4).set 0 _) (fun x hx _ e => by have := hZ.out.2 x hx; have := ext_size xb3; simp at *; omega)
  go_region_with (first
    | (go_at_call 56; (with_reducible refine (nof_one _).mono ?_); rintro e w5 ⟨G, g, rfl, hO, xb5⟩; obtain ⟨xc5, xf5, xl5, xz5⟩ := ext_use xb5; (try simp at xz5); obtain ⟨l5_0, gc, gf⟩ := kp xb5 (w.heap.size) (by first | omega | (simp; try omega)); have r5_0 := gc 0; have f5_0 := gf 0; have r5_0_1 := gc 1; have f5_0_1 := gf 1; have r5_0_2 := gc 2; have f5_0_2 := gf 2; clear gc gf; obtain ⟨l5_1, gc, gf⟩ := kp xb5 (w.heap.size + 1) (by first | omega | (simp; try omega)); have r5_1 := gc 0; have f5_1 := gf 0; have r5_1_1 := gc 1; have f5_1_1 := gf 1; have r5_1_2 := gc 2; have f5_1_2 := gf 2; clear gc gf; obtain ⟨l5_2, gc, gf⟩ := kp xb5 (w2.heap.size) (by first | omega | (simp; try omega)); have r5_2 := gc 0; have f5_2 := gf 0; clear gc gf)
    | (go_at_call 54; (with_reducible refine (kR _ _ _ _ _ (by (repeat (first | exact ext_refl _ | assumption | refine ext_setCell ?_ (by simp; try omega) _ | refine ext_alloc ?_ _ | refine ext_drew ?_ | refine ext_drewN ?_ _ | refine ext_trans ?_ (Aft.use _) | refine ext_trans ?_ (by assumption)))) (hZ'.out.ext (by (repeat (first | exact ext_refl _ | assumption | refine ext_setCell ?_ (by simp; try omega) _ | refine ext_alloc ?_ _ | refine ext_drew ?_ | refine ext_drewN ?_ _ | refine ext_trans ?_ (Aft.use _) | refine ext_trans ?_ (by assumption))))) (hO.out.1.ext (by (repeat (first | exact ext_refl _ | assumption | refine ext_setCell ?_ (by simp; try omega) _ | refine ext_alloc ?_ _ | refine ext_drew ?_ | refine ext_drewN ?_ _ | refine ext_trans ?_ (Aft.use _) | refine ext_trans ?_ (by assumption)))))).mono ?_); rintro e w6 ⟨H, n, c, D, m2, d, rfl, hI, xb6⟩; obtain ⟨xc6, xf6, xl6, xz6⟩ := ext_use xb6; (try simp at xz6); obtain ⟨l6_0, gc, gf⟩ := kp xb6 (w.heap.size) (by first | omega | (simp; try omega)); have r6_0 := gc 0; have f6_0 := gf 0; have r6_0_1 := gc 1; have f6_0_1 := gf 1; have r6_0_2 := gc 2; have f6_0_2 := gf 2; clear gc gf; obtain ⟨l6_1, gc, gf⟩ := kp xb6 (w.heap.size + 1) (by first | omega | (simp; try omega)); have r6_1 := gc 0; have f6_1 := gf 0; have r6_1_1 := gc 1; have f6_1_1 := gf 1; have r6_1_2 := gc 2; have f6_1_2 := gf 2; clear gc gf; obtain ⟨l6_2, gc, gf⟩ := kp xb6 (w2.heap.size) (by first | omega | (simp; try omega)); have r6_2 := gc 0; have f6_2 := gf 0; clear gc gf)
   )
  all_goals
    have n5 : ∀ x, H = some x → w.heap.size + 1 < x.block := fun x hx => by have := hI.out.2.1 x hx; (try simp at this); omega
    have n6 : ∀ x, D = some x → w.heap.size + 1 < x.block := fun x hx => by have := hI.out.2.2.2 x hx; (try simp at this); omega
    have z0 : w6.cell? ⟨w.heap.size + 1, 0, none⟩ = some (.bool false) := by simp [go_sem, *]
    have z1 : w6.cell? ⟨w.heap.size + 1, 1, none⟩ = some (.slice none 0 0) := by simp [go_sem, *]
    have z2 : w6.cell? ⟨w.heap.size + 1, 2, none⟩ = some (.slice none 0 0) := by simp [go_sem, *]
    obtain ⟨q0, q1, q2⟩ := set3 (b := w.heap.size + 1) z0 z1 z2 (.bool (decide (sgn neg (X * Y : Nat) < 0))) (.slice H n c) (.slice D m2 d)
    have hEE : Ext w w6 := by (repeat (first | exact ext_refl _ | assumption | refine ext_setCell ?_ (by simp; try omega) _ | refine ext_alloc ?_ _ | refine ext_drew ?_ | refine ext_drewN ?_ _ | refine ext_trans ?_ (Aft.use _) | refine ext_trans ?_ (by assumption)))
    go_wp2_with fail
    refine bodyPost_ret (v := .tuple #[ratV (decide (sgn neg ↑(X * Y) < 0)) H n c D m2 d, .int .i64 0]) ?h rfl ⟨H, n, c, D, m2, d, rfl, ⟨hI.out.1.set3 n5 _ _ _, fun x hx => Nat.le_of_lt (by have := n5 x hx; omega), hI.out.2.2.1.set3 n6 _ _ _, fun x hx => Nat.le_of_lt (by have := n6 x hx; omega)⟩, ext_set3 hEE (by omega) _ _ _⟩
    case h => simp [results, Tryz.results33, go_sem, q0, q1, q2]
theorem can_sgn (neg : Bool) (X Y : Nat) (hY : Y ≠ 0) : canN (sgn neg X) Y = sgn neg (X / Nat.gcd X Y : Nat) ∧ canD (sgn neg X) Y = denOf (lowD X Y) := by
  unfold canN canD
  rw [sgn_abs, sgn_lt]
  by_cases h : X = 0
  · subst h
    refine ⟨by rw [Nat.zero_div]; cases neg <;> rfl, ?_⟩
    rw [Nat.gcd_zero_left, Nat.div_self (Nat.pos_of_ne_zero hY)]
    unfold lowD; rw [if_pos rfl]; rfl
  · have h1 : (neg && decide (0 < X)) = neg := by rw [decide_eq_true (Nat.pos_of_ne_zero h), Bool.and_true]
    rw [h1]
    refine ⟨rfl, ?_⟩
    have h2 : Y / Nat.gcd X Y ≠ 0 := by
      have := Nat.div_pos (Nat.le_of_dvd (Nat.pos_of_ne_zero hY) (Nat.gcd_dvd_right X Y)) (Nat.gcd_pos_of_pos_right X (Nat.pos_of_ne_zero hY))
      omega
    unfold lowD denOf
    rw [if_neg h, if_neg h2]
theorem can_whole (z : Int) : canN z 1 = z ∧ canD z 1 = 1 := by
  unfold canN canD
  rw [Nat.gcd_one_right, Nat.div_one, Nat.div_one]
  exact ⟨sgn_self z, rfl⟩
theorem dratio_any (d : Dc) (hok : dcE d = 0) (hl : d.dig.length ≤ 4000) (he : -4000 ≤ d.exp ∧ d.exp ≤ 7000) (w : World) (hT : Tz w) :
    Calls Tryz.prog 33 #[dcV d] w (TPost w (canN (dz d) (dp d)) (canD (dz d) (dp d))) := by
  have hdg := dc_digs hok
  obtain ⟨neg, l, exp⟩ := d
  simp only at hl he hdg
  by_cases h : exp < 0
  · obtain ⟨E, rfl⟩ : ∃ E : Nat, exp = -(E : Int) := ⟨(-exp).toNat, by omega⟩
    have e1 : dz ⟨neg, l, -(E : Int)⟩ = sgn neg (dval l) := by
      unfold dz; simp only
      rw [show (-(E : Int)).toNat = 0 by omega, Nat.pow_zero, Nat.mul_one]
    have e2 : dp ⟨neg, l, -(E : Int)⟩ = 10 ^ E := by
      unfold dp; simp only
      rw [show (-(-(E : Int))).toNat = E by omega]
    have hY : 10 ^ E ≠ 0 := by have := Nat.pow_pos (n := E) (show 0 < 10 by decide); omega
    have k := dratio_neg neg l E (by omega) (by omega) hl hok hdg w hT
    obtain ⟨c1, c2⟩ := can_sgn neg (dval l) (10 ^ E) hY
    rw [e1, e2, c1, c2]
    exact k
  · obtain ⟨E, rfl⟩ : ∃ E : Nat, exp = (E : Int) := ⟨exp.toNat, by omega⟩
    have e1 : dz ⟨neg, l, (E : Int)⟩ = sgn neg (dval l * 10 ^ E : Nat) := by
      unfold dz; simp only
      rw [Int.toNat_natCast]
    have e2 : dp ⟨neg, l, (E : Int)⟩ = 1 := by
      unfold dp; simp only
      rw [show (-(E : Int)).toNat = 0 by omega, Nat.pow_zero]
    obtain ⟨c1, c2⟩ := can_whole (sgn neg (dval l * 10 ^ E : Nat))
    rw [e1, e2, c1, c2]
    exact dratio_pos neg l E (by omega) hl hok hdg w hT
end Go.Proofs.YtkhkoeibpkglkaaGreatDoor
end
section
/- The program's fractions: those that are refused. -/
namespace Go.Proofs.YtkhkoeibpkglkaaGreatDoor
open Go.RowKit
attribute [local go_sem] sz2 sz3 sz4 sz5 sz6 sz7 sz8
set_option maxHeartbeats 4000000
set_option maxRecDepth 100000
attribute [local irreducible] Calls
theorem neq_look' (b b' : Bool) (n n' m m' : Int) (w : World) : (binOp .neq 219 (.agg #[.bool b, .int .i64 n, .int .i64 m]) (.agg #[.bool b', .int .i64 n', .int .i64 m'])).run Tryz.prog w = .ok (.bool (!(b == b' && (n == n' && m == m')))) w := by
  by_cases h1 : n = n' <;> by_cases h2 : m = m' <;> cases b <;> cases b' <;> simp [go_sem, h1, h2]
/-- Seen otherwise. -/
def lookD (b b' : Bool) (n n' m m' : Int) : Nat := if b = b' ∧ n = n' ∧ m = m' then 0 else 1
theorem neq_look_ne (b b' : Bool) (n n' m m' : Int) (w : World) [hz : NeZero (lookD b b' n n' m m')] : (binOp .neq 219 (.agg #[.bool b, .int .i64 n, .int .i64 m]) (.agg #[.bool b', .int .i64 n', .int .i64 m'])).run Tryz.prog w = .ok (.bool true) w := by
  rw [neq_look']
  have h : ¬ (b = b' ∧ n = n' ∧ m = m') := fun h => hz.out (if_pos h)
  have e : (!(b == b' && (n == n' && m == m'))) = true := by
    rw [Bool.not_eq_true', Bool.and_eq_false_iff, Bool.and_eq_false_iff, beq_eq_false_iff_ne, beq_eq_false_iff_ne, beq_eq_false_iff_ne]
    by_cases h1 : b = b'
    · right
      by_cases h2 : n = n'
      · right; intro e; exact h ⟨h1, h2, e⟩
      · left; exact h2
    · exact .inl h1
  rw [e]
attribute [local go_sem high] neq_look neq_look_ne
end Go.Proofs.YtkhkoeibpkglkaaGreatDoor
end
section
/- The program's fractions: which may be. -/
namespace Go.Proofs.YtkhkoeibpkglkaaGreatDoor
open Go.RowKit
attribute [local go_sem] sz2 sz3 sz4 sz5 sz6 sz7 sz8
set_option maxHeartbeats 4000000
set_option maxRecDepth 100000
attribute [local irreducible] Calls
theorem ra_check_yes (neg : Bool) (A : Option Addr) (n c a : Nat) (D : Option Addr) (m k d : Nat) (hd : d ≠ 0) (hn : n ≤ 16384) (hm : m ≤ 16384) (hg : Nat.gcd a d = 1) (hng : neg = true → a ≠ 0) (w : World) (hT : Tz w) (hA : Rd w A n c (lim a)) (hD : Rd w D m k (lim d)) :
    Calls Tryz.prog 73 #[ratV neg A n c D m k] w fun e w' => e = .returned (.int .i64 0) ∧ Ext w w' := by
  have kt : ∀ w', Ext w w' → Calls Tryz.prog 131 #[ratV neg A n c D m k] w' (KPost w' (sgn neg a) (lowD a d)) := fun w' he => ra_taken neg A n c a D m k d hd hn hm hg hng w' (hT.ext he) (hA.ext he) (hD.ext he)
  clear hT hA hD hng hg
  go_enter Tryz.func73, Tryz.ntmps73
  go_wp2_with (first
    | (go_at_call 131; (with_reducible refine (kt _ (by (repeat (first | exact ext_refl _ | assumption | refine ext_setCell ?_ (by simp; try omega) _ | refine ext_alloc ?_ _ | refine ext_drew ?_ | refine ext_drewN ?_ _ | refine ext_trans ?_ (Aft.use _) | refine ext_trans ?_ (by assumption))))).mono ?_); rintro e w1 ⟨g, A1, n1, c1, D1, m1, k1, rfl, hI1, hg1, xb1⟩; obtain ⟨xc1, xf1, xl1, xz1⟩ := ext_use xb1; (try simp at xz1); obtain ⟨l1_0, gc, gf⟩ := kp xb1 (w.heap.size) (by first | omega | (simp; try omega)); have r1_0 := gc 0; have f1_0 := gf 0; have r1_0_1 := gc 1; have f1_0_1 := gf 1; have r1_0_2 := gc 2; have f1_0_2 := gf 2; clear gc gf)
   )
  refine bodyPost_ret (v := .int .i64 0) ?h rfl ⟨rfl, ?_⟩
  case h => simp [results, Tryz.results73, go_sem]
  repeat (first | exact ext_refl _ | assumption | refine ext_setCell ?_ (by simp; try omega) _ | refine ext_alloc ?_ _ | refine ext_drew ?_ | refine ext_drewN ?_ _ | refine ext_trans ?_ (Aft.use _) | refine ext_trans ?_ (by assumption))
end Go.Proofs.YtkhkoeibpkglkaaGreatDoor
end
