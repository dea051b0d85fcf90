/- Lemmas of this proof, laid together: QkS, QuickSureW. -/
import Derived.Test.YtkhkoeibpkglkaaGreatDoorMg30
import Derived.Test.YtkhkoeibpkglkaaGreatDoorMg31
import Derived.Test.YtkhkoeibpkglkaaGreatDoorMg32
import Derived.Test.YtkhkoeibpkglkaaGreatDoorMg26
import Derived.Deep.DeepCutAuto
import Derived.Deep.RegionWith
set_option linter.unusedSimpArgs false
set_option linter.unusedVariables false
section
/- QuickSure: the plain law; the calls that it makes. -/
namespace Go.Proofs.YtkhkoeibpkglkaaGreatDoor
open Go.RowKit
set_option maxHeartbeats 8000000
set_option maxRecDepth 100000
theorem bits_xor64 (a b : Nat) (ha : a < 18446744073709551616) (hb : b < 18446744073709551616) : bits .xor .u64 (a : Int) (b : Int) = ((a ^^^ b : Nat) : Int) := by
  have hx : a ^^^ b < 2 ^ 64 := Nat.xor_lt_two_pow (by omega) (by omega)
  have h1 : (BitVec.ofInt 64 (a : Int)).toNat = a := by
    rw [BitVec.ofInt_natCast, BitVec.toNat_ofNat]; exact Nat.mod_eq_of_lt (by omega)
  have h2 : (BitVec.ofInt 64 (b : Int)).toNat = b := by
    rw [BitVec.ofInt_natCast, BitVec.toNat_ofNat]; exact Nat.mod_eq_of_lt (by omega)
  show IntKind.u64.wrap ((BitVec.ofInt 64 (a : Int) ^^^ BitVec.ofInt 64 (b : Int)).toNat : Int) = _
  rw [BitVec.toNat_xor, h1, h2, IntKind.wrap_u64]
  omega
theorem rdB_flip (E F : Nat) (neg : Bool) (n : Nat) (e : Int) : rdB E F neg n e ^^^ rdB E F (!neg) n e = 2 ^ (E + F) := by
  have h := xor_top (rdB_lt (E := E) (F := F) (n := n) (e := e))
  cases neg with
  | false =>
    show rdB E F false n e ^^^ rdB E F true n e = _
    rw [rdB_neg, ← h, ← Nat.xor_assoc, Nat.xor_self, Nat.zero_xor]
  | true =>
    show rdB E F true n e ^^^ rdB E F false n e = _
    rw [rdB_neg, ← h, Nat.xor_comm, ← Nat.xor_assoc, Nat.xor_self, Nat.zero_xor]
theorem rdB_lt2 (E F : Nat) (neg : Bool) (n : Nat) (e : Int) : rdB E F neg n e < 2 ^ (E + F + 1) := by
  have h := rdB_lt (E := E) (F := F) (n := n) (e := e)
  have h2 : 2 ^ (E + F + 1) = 2 * 2 ^ (E + F) := by rw [Nat.pow_succ, Nat.mul_comm]
  cases neg with
  | false => omega
  | true => rw [rdB_neg]; omega
theorem flip64 (neg : Bool) (n : Nat) (e : Int) : bits .xor .u64 ((rdB 11 52 neg n e : Nat) : Int) ((rdB 11 52 (!neg) n e : Nat) : Int) = 9223372036854775808 := by
  have h1 := rdB_lt2 11 52 neg n e
  have h2 := rdB_lt2 11 52 (!neg) n e
  rw [bits_xor64 _ _ h1 h2, rdB_flip]
  rfl
theorem flip32 (neg : Bool) (n : Nat) (e : Int) : bits .xor .u32 ((rdB 8 23 neg n e : Nat) : Int) ((rdB 8 23 (!neg) n e : Nat) : Int) = 2147483648 := by
  have h1 := rdB_lt2 8 23 neg n e
  have h2 := rdB_lt2 8 23 (!neg) n e
  rw [bits_xor32 _ _ h1 h2, rdB_flip]
  rfl
/-- What is made of a number's digits. -/
theorem sure_made (neg : Bool) (m : Nat) (E : Int) (hm : m < 10 ^ 20) (hE : -100 ≤ E ∧ E ≤ 100) : mkE (dtext m) E = 0 ∧ (∃ l x, mkD neg (dtext m) E = ⟨neg, l, x⟩ ∧ dcE ⟨neg, l, x⟩ = 0 ∧ dval l ≤ m ∧ l.length ≤ 20 ∧ (l ≠ [] → E ≤ x) ∧ (-200 ≤ x ∧ x ≤ 200)) := by
  have hlen : (dtext m).length ≤ 20 := by
    unfold dtext
    split
    · decide
    · exact digs_len hm
  have hdg : digsB (dtext m) = true := by
    unfold dtext
    split
    · rfl
    · exact digs_digs m
  have hdv : dval (dtext m) = m := by
    unfold dtext
    split
    · rename_i h; rw [h]; rfl
    · exact dval_digs m
  obtain ⟨b, hb, hv⟩ := mk_val (dtext m)
  obtain ⟨a, b', h1, h2, -⟩ := mk_spec (dtext m)
  have hb20 : b ≤ 20 := by
    have h3 := congrArg List.length h1
    simp [zerosL] at h3
    omega
  have hml : (mkDig (dtext m)).length ≤ 20 := by
    have h3 := congrArg List.length h1
    simp [zerosL] at h3
    omega
  have hmk : mkE (dtext m) E = 0 := by
    unfold mkE
    rw [if_neg (by omega), if_neg (by rw [hdg]; simp)]
    split
    · rfl
    · rw [if_neg]
      have hf : ¬ far (E + mkN (dtext m)) = true := by
        rw [hb]; unfold far; simp; omega
      rintro (h | h | h)
      · omega
      · omega
      · exact hf h
  obtain ⟨w1, w2, -, w4⟩ := mk_wv (neg := neg) hdg hmk
  have eD : mkD neg (dtext m) E = ⟨neg, (mkD neg (dtext m) E).dig, (mkD neg (dtext m) E).exp⟩ := by
    generalize mkD neg (dtext m) E = D at w2 ⊢
    cases D
    simp only at w2
    subst w2
    rfl
  refine ⟨hmk, (mkD neg (dtext m) E).dig, (mkD neg (dtext m) E).exp, eD, ?_, ?_, ?_, w4, ?_⟩
  · rw [← eD]; exact w1
  · unfold mkD
    rw [if_pos hmk]
    split
    · simp [dval]
    · show dval (mkDig (dtext m)) ≤ m
      refine Nat.le_trans (m := dval (dtext m)) ?_ (Nat.le_of_eq hdv)
      rw [hv]
      exact Nat.le_mul_of_pos_right _ (Nat.pow_pos (n := b) (show 0 < 10 by decide))
  · unfold mkD
    rw [if_pos hmk]
    split
    · simp
    · exact hml
  · unfold mkD
    rw [if_pos hmk]
    split
    · simp
    · simp only; omega
theorem sure_ask {neg : Bool} {l : List UInt8} {x : Int} {whole power more : Nat} (h : dcE ⟨neg, l, x⟩ = 0) (hv : dval l ≤ whole) (h1 : l ≠ [] → -(power : Int) ≤ x) (h2 : x ≤ power) (hpm : power ≤ more) : askB ⟨neg, l, x⟩ whole power more = true := by
  unfold askB
  rw [decide_eq_true h, Bool.true_and]
  by_cases hn : l = []
  · show (decide (l = []) || _) = true
    rw [decide_eq_true hn, Bool.true_or]
  · show (decide (l = []) || (decide (dval l * 10 ^ askK ⟨neg, l, x⟩ power ≤ whole) && (decide (-(power : Int) ≤ x) && decide (x ≤ (more : Int))))) = true
    have hk : askK ⟨neg, l, x⟩ power = 0 := by unfold askK; simp only; omega
    rw [hk, Nat.pow_zero, Nat.mul_one, decide_eq_true hv, decide_eq_true (h1 hn), decide_eq_true (show x ≤ (more : Int) by omega)]
    simp
end Go.Proofs.YtkhkoeibpkglkaaGreatDoor
end
section
/- QuickSure: the walk. -/
namespace Go.Proofs.YtkhkoeibpkglkaaGreatDoor
open Go.RowKit
attribute [local go_sem] bs_size bs_extract bs_get bs_append bs_toList const_get
attribute [local go_sem] sz2 sz3 sz4 sz5 sz6 sz7 sz8
set_option maxHeartbeats 8000000
set_option maxRecDepth 100000
theorem qw_sure (w : World) (h : laidMetH Tryz.prog Rows.quickSureRow.laid w) : Qw w := by
  rw [MakeChecks.laidMetH_plain _ _ _ (by kernel_rfl)] at h
  exact qw_long _ (by kernel_rfl) w h
theorem fbits32 (b : Nat) (w : World) : (callFunc 31 #[.float .f32 b]).run Tryz.prog w = .ok (.value (.int .u32 b)) w := by
  rw [run_callFunc_extern Tryz.func31 (by kernel_rfl) (by kernel_rfl) (by kernel_rfl) (e := Extern.MathFloatBits.float32bits) (by kernel_rfl)]; rfl
attribute [local go_sem] fbits fbits32
attribute [local irreducible] Calls
theorem walk_QuickSure (x0 : Nat) (x1 : Int) (x2 : Bool) (w : World) (hx0 : x0 < 2 ^ 64) (hx1 : -9223372036854775808 ≤ x1 ∧ x1 ≤ 9223372036854775807) (hL : laidMetH Tryz.prog Rows.quickSureRow.laid w) :
    Calls Tryz.prog 5 #[.int .u64 x0, .int .i64 x1, .bool x2] w fun e w' => e = .returned (.bool true) ∧ Ext w w' := by
  have hQ := qw_sure w hL
  have kA := Lib.hid (fun w' (he : Ext w w') => alive14_any w' (hQ.tz.ext he) (hQ.er.ext he))
  obtain ⟨m, hm⟩ : ∃ m, x0 % 9007199254740993 = m := ⟨_, rfl⟩
  obtain ⟨k, hk⟩ : ∃ k, x0 % 16777217 = k := ⟨_, rfl⟩
  obtain ⟨a, ha⟩ : ∃ a, x1.tmod 23 = a := ⟨_, rfl⟩
  obtain ⟨b, hb⟩ : ∃ b, x1.tmod 11 = b := ⟨_, rfl⟩
  have hmI : (x0 : Int) % 9007199254740993 = (m : Int) := by omega
  have hkI : (x0 : Int) % 16777217 = (k : Int) := by omega
  have hm2 : m ≤ 9007199254740992 := by omega
  have hk2 : k ≤ 16777216 := by omega
  have ha2 : -22 ≤ a ∧ a ≤ 22 := by
    have h1 := Int.tmod_lt_of_pos x1 (show (0 : Int) < 23 by decide)
    have h2 := Int.lt_tmod_of_pos x1 (show (0 : Int) < 23 by decide)
    omega
  have hb2 : -10 ≤ b ∧ b ≤ 10 := by
    have h1 := Int.tmod_lt_of_pos x1 (show (0 : Int) < 11 by decide)
    have h2 := Int.lt_tmod_of_pos x1 (show (0 : Int) < 11 by decide)
    omega
  have kF1 := Lib.hid (fun w' (he : Ext w w') => fu_any m (by omega) w' (pw_ext hQ.pw he))
  have kF2 := Lib.hid (fun w' (he : Ext w w') => fu_any k (by omega) w' (pw_ext hQ.pw he))
  obtain ⟨e1, l1, y1, d1, ok1, v1, len1, ex1, r1⟩ := sure_made x2 m a (by omega) (by omega)
  obtain ⟨e2, l2, y2, d2, ok2, v2, len2, ex2, r2⟩ := sure_made x2 k b (by omega) (by omega)
  have hdl : ∀ n : Nat, n < 10 ^ 20 → (dtext n).length ≤ 20 := fun n hn => by
    unfold dtext
    split
    · decide
    · exact digs_len hn
  have kM1 := Lib.hid (fun w' => show Calls Tryz.prog 26 #[.bool x2, .string (bs (dtext m)), .int .i64 a] w' fun e w'' => e = .returned (.tuple #[.agg #[.bool x2, .string (bs l1), .int .i64 y1], .int .i64 0]) ∧ Ext w' w'' by
    have := make_any x2 (dtext m) a (by have := hdl m (by omega); omega) w'; rwa [e1, d1] at this)
  have kM2 := Lib.hid (fun w' => show Calls Tryz.prog 26 #[.bool x2, .string (bs (dtext k)), .int .i64 b] w' fun e w'' => e = .returned (.tuple #[.agg #[.bool x2, .string (bs l2), .int .i64 y2], .int .i64 0]) ∧ Ext w' w'' by
    have := make_any x2 (dtext k) b (by have := hdl k (by omega); omega) w'; rwa [e2, d2] at this)
  have okn : ∀ {l : List UInt8} {x : Int} (n n' : Bool), dcE ⟨n, l, x⟩ = 0 → dcE ⟨n', l, x⟩ = 0 := fun n n' h => h
  have hE := Lib.hid (fun w' (he : Ext w w') => hQ.er.ext he)
  by_cases g1 : 22 < y1 ∨ 10 < y2
  · generalize dtext m = T1 at *
    generalize dtext k = T2 at *
    have hy1 : ¬ 22 < y1 → 10 < y2 := fun h => by omega
    clear hL hQ hx0 hm hk e1 e2 d1 d2 ok1 ok2 v1 v2 ex1 ex2 hdl okn hx1
    by_cases g2 : 22 < y1
    · have d1 : decide (22 < y1) = true := decide_eq_true g2
      clear g1 hy1
      go_enter Tryz.func5, Tryz.ntmps5
      go_wp2_with (first
        | (go_at_call 8; (with_reducible refine (kA.out _ (by (repeat (first | exact ext_refl _ | assumption | refine ext_setCell ?_ (by simp; try omega) _ | refine ext_alloc ?_ _ | refine ext_drew ?_ | refine ext_drewN ?_ _ | refine ext_trans ?_ (Aft.use _) | refine ext_trans ?_ (by assumption))))).mono ?_); rintro e w1 ⟨rfl, xb1⟩; obtain ⟨xc1, xf1, xl1, xz1⟩ := ext_use xb1; (try simp at xz1))
        | (go_at_call 27; (with_reducible refine (kF1.out _ (by (repeat (first | exact ext_refl _ | assumption | refine ext_setCell ?_ (by simp; try omega) _ | refine ext_alloc ?_ _ | refine ext_drew ?_ | refine ext_drewN ?_ _ | refine ext_trans ?_ (Aft.use _) | refine ext_trans ?_ (by assumption))))).mono ?_); rintro e w2 ⟨rfl, xb2⟩; obtain ⟨xc2, xf2, xl2, xz2⟩ := ext_use xb2; (try simp at xz2))
        | (go_at_call 26; (with_reducible refine (kM1.out _).mono ?_); rintro e w3 ⟨rfl, xb3⟩; obtain ⟨xc3, xf3, xl3, xz3⟩ := ext_use xb3; (try simp at xz3))
        | (go_at_call 27; (with_reducible refine (kF2.out _ (by (repeat (first | exact ext_refl _ | assumption | refine ext_setCell ?_ (by simp; try omega) _ | refine ext_alloc ?_ _ | refine ext_drew ?_ | refine ext_drewN ?_ _ | refine ext_trans ?_ (Aft.use _) | refine ext_trans ?_ (by assumption))))).mono ?_); rintro e w4 ⟨rfl, xb4⟩; obtain ⟨xc4, xf4, xl4, xz4⟩ := ext_use xb4; (try simp at xz4); obtain ⟨l4_0, gc, gf⟩ := kp xb4 (w3.heap.size) (by first | omega | (simp; try omega)); have r4_0 := gc 0; have f4_0 := gf 0; have r4_0_1 := gc 1; have f4_0_1 := gf 1; have r4_0_2 := gc 2; have f4_0_2 := gf 2; clear gc gf)
        | (go_at_call 26; (with_reducible refine (kM2.out _).mono ?_); rintro e w5 ⟨rfl, xb5⟩; obtain ⟨xc5, xf5, xl5, xz5⟩ := ext_use xb5; (try simp at xz5); obtain ⟨l5_0, gc, gf⟩ := kp xb5 (w3.heap.size) (by first | omega | (simp; try omega)); have r5_0 := gc 0; have f5_0 := gf 0; have r5_0_1 := gc 1; have f5_0_1 := gf 1; have r5_0_2 := gc 2; have f5_0_2 := gf 2; clear gc gf)
       )
      refine bodyPost_ret (v := .bool true) ?h rfl ⟨rfl, ?_⟩
      case h => simp [results, Tryz.results5, go_sem]
      repeat (first | exact ext_refl _ | assumption | refine ext_setCell ?_ (by simp; try omega) _ | refine ext_alloc ?_ _ | refine ext_drew ?_ | refine ext_drewN ?_ _ | refine ext_trans ?_ (Aft.use _) | refine ext_trans ?_ (by assumption))
    · have d1 : decide (22 < y1) = false := decide_eq_false g2
      have g3 := hy1 g2
      have d2 : decide (10 < y2) = true := decide_eq_true g3
      clear g1 hy1
      go_enter Tryz.func5, Tryz.ntmps5
      go_wp2_with (first
        | (go_at_call 8; (with_reducible refine (kA.out _ (by (repeat (first | exact ext_refl _ | assumption | refine ext_setCell ?_ (by simp; try omega) _ | refine ext_alloc ?_ _ | refine ext_drew ?_ | refine ext_drewN ?_ _ | refine ext_trans ?_ (Aft.use _) | refine ext_trans ?_ (by assumption))))).mono ?_); rintro e w1 ⟨rfl, xb1⟩; obtain ⟨xc1, xf1, xl1, xz1⟩ := ext_use xb1; (try simp at xz1))
        | (go_at_call 27; (with_reducible refine (kF1.out _ (by (repeat (first | exact ext_refl _ | assumption | refine ext_setCell ?_ (by simp; try omega) _ | refine ext_alloc ?_ _ | refine ext_drew ?_ | refine ext_drewN ?_ _ | refine ext_trans ?_ (Aft.use _) | refine ext_trans ?_ (by assumption))))).mono ?_); rintro e w2 ⟨rfl, xb2⟩; obtain ⟨xc2, xf2, xl2, xz2⟩ := ext_use xb2; (try simp at xz2))
        | (go_at_call 26; (with_reducible refine (kM1.out _).mono ?_); rintro e w3 ⟨rfl, xb3⟩; obtain ⟨xc3, xf3, xl3, xz3⟩ := ext_use xb3; (try simp at xz3))
        | (go_at_call 27; (with_reducible refine (kF2.out _ (by (repeat (first | exact ext_refl _ | assumption | refine ext_setCell ?_ (by simp; try omega) _ | refine ext_alloc ?_ _ | refine ext_drew ?_ | refine ext_drewN ?_ _ | refine ext_trans ?_ (Aft.use _) | refine ext_trans ?_ (by assumption))))).mono ?_); rintro e w4 ⟨rfl, xb4⟩; obtain ⟨xc4, xf4, xl4, xz4⟩ := ext_use xb4; (try simp at xz4); obtain ⟨l4_0, gc, gf⟩ := kp xb4 (w3.heap.size) (by first | omega | (simp; try omega)); have r4_0 := gc 0; have f4_0 := gf 0; have r4_0_1 := gc 1; have f4_0_1 := gf 1; have r4_0_2 := gc 2; have f4_0_2 := gf 2; clear gc gf)
        | (go_at_call 26; (with_reducible refine (kM2.out _).mono ?_); rintro e w5 ⟨rfl, xb5⟩; obtain ⟨xc5, xf5, xl5, xz5⟩ := ext_use xb5; (try simp at xz5); obtain ⟨l5_0, gc, gf⟩ := kp xb5 (w3.heap.size) (by first | omega | (simp; try omega)); have r5_0 := gc 0; have f5_0 := gf 0; have r5_0_1 := gc 1; have f5_0_1 := gf 1; have r5_0_2 := gc 2; have f5_0_2 := gf 2; clear gc gf)
       )
      refine bodyPost_ret (v := .bool true) ?h rfl ⟨rfl, ?_⟩
      case h => simp [results, Tryz.results5, go_sem]
      repeat (first | exact ext_refl _ | assumption | refine ext_setCell ?_ (by simp; try omega) _ | refine ext_alloc ?_ _ | refine ext_drew ?_ | refine ext_drewN ?_ _ | refine ext_trans ?_ (Aft.use _) | refine ext_trans ?_ (by assumption))
  · have g2 : ¬ 22 < y1 := fun h => g1 (.inl h)
    have g3 : ¬ 10 < y2 := fun h => g1 (.inr h)
    have D1 : decide (22 < y1) = false := decide_eq_false g2
    have D2 : decide (10 < y2) = false := decide_eq_false g3
    obtain ⟨N1, hN1⟩ : ∃ N, askN ⟨x2, l1, y1⟩ 22 = N := ⟨_, rfl⟩
    obtain ⟨X1, hX1⟩ : ∃ X, askX ⟨x2, l1, y1⟩ 22 = X := ⟨_, rfl⟩
    obtain ⟨N2, hN2⟩ : ∃ N, askN ⟨x2, l2, y2⟩ 10 = N := ⟨_, rfl⟩
    obtain ⟨X2, hX2⟩ : ∃ X, askX ⟨x2, l2, y2⟩ 10 = X := ⟨_, rfl⟩
    have a1 : ∀ n, askB ⟨n, l1, y1⟩ 9007199254740992 22 37 = true := fun n => sure_ask (okn x2 n ok1) (by omega) (fun h => by have := ex1 h; omega) (by omega) (by decide)
    have a2 : ∀ n, askB ⟨n, l2, y2⟩ 16777216 10 17 = true := fun n => sure_ask (okn x2 n ok2) (by omega) (fun h => by have := ex2 h; omega) (by omega) (by decide)
    have kD := fun n w' (he : Ext w w') => show Calls Tryz.prog 28 #[.agg #[.bool n, .string (bs l1), .int .i64 y1]] w' fun e w'' => e = .returned (.tuple #[.float .f64 (rdB 11 52 n N1 X1), .bool true]) ∧ Ext w' w'' by
      have := qk_Double ⟨n, l1, y1⟩ (show l1.length ≤ _ by omega) w' (hE.out w' he)
      unfold dbR at this
      rw [if_pos (a1 n)] at this
      rw [← hN1, ← hX1]
      exact this
    have kS := fun n w' (he : Ext w w') => show Calls Tryz.prog 29 #[.agg #[.bool n, .string (bs l2), .int .i64 y2]] w' fun e w'' => e = .returned (.tuple #[.float .f32 (rdB 8 23 n N2 X2), .bool true]) ∧ Ext w' w'' by
      have := qk_Single ⟨n, l2, y2⟩ (show l2.length ≤ _ by omega) w' (hE.out w' he)
      unfold sgR at this
      rw [if_pos (a2 n)] at this
      rw [← hN2, ← hX2]
      exact this
    have kT := Lib.hid (fun w' (he : Ext w w') => show Calls Tryz.prog 9 #[.agg #[.bool (!x2), .string (bs l1), .int .i64 y1]] w' fun e w'' => e = .returned (.bool true) ∧ Ext w' w'' by
      have := qk_Fits ⟨!x2, l1, y1⟩ (show l1.length ≤ _ by omega) w' (hE.out w' he)
      rwa [a1] at this)
    have f1 := flip64 x2 N1 X1
    have f2 := flip32 x2 N2 X2
    obtain ⟨R1, hR1⟩ : ∃ R, rdB 11 52 x2 N1 X1 = R := ⟨_, rfl⟩
    obtain ⟨Q1, hQ1⟩ : ∃ R, rdB 11 52 (!x2) N1 X1 = R := ⟨_, rfl⟩
    obtain ⟨R2, hR2⟩ : ∃ R, rdB 8 23 x2 N2 X2 = R := ⟨_, rfl⟩
    obtain ⟨Q2, hQ2⟩ : ∃ R, rdB 8 23 (!x2) N2 X2 = R := ⟨_, rfl⟩
    have kD1 := kD x2
    have kD2 := kD (!x2)
    have kS1 := kS x2
    have kS2 := kS (!x2)
    rw [hR1] at kD1 f1
    rw [hQ1] at kD2 f1
    rw [hR2] at kS1 f2
    rw [hQ2] at kS2 f2
    have KD1 := Lib.hid kD1
    have KD2 := Lib.hid kD2
    have KS1 := Lib.hid kS1
    have KS2 := Lib.hid kS2
    generalize dtext m = T1 at *
    generalize dtext k = T2 at *
    clear hL hQ hx0 hm hk e1 e2 d1 d2 ok1 ok2 v1 v2 ex1 ex2 hdl okn hx1 g1 kD kS kD1 kD2 kS1 kS2 hR1 hR2 hQ1 hQ2 hN1 hN2 hX1 hX2 a1 a2 hE
    go_enter Tryz.func5, Tryz.ntmps5
    go_wp2_with (first
      | (go_at_call 8; (with_reducible refine (kA.out _ (by (repeat (first | exact ext_refl _ | assumption | refine ext_setCell ?_ (by simp; try omega) _ | refine ext_alloc ?_ _ | refine ext_drew ?_ | refine ext_drewN ?_ _ | refine ext_trans ?_ (Aft.use _) | refine ext_trans ?_ (by assumption))))).mono ?_); rintro e w1 ⟨rfl, xb1⟩; obtain ⟨xc1, xf1, xl1, xz1⟩ := ext_use xb1; (try simp at xz1))
      | (go_at_call 27; (with_reducible refine (kF1.out _ (by (repeat (first | exact ext_refl _ | assumption | refine ext_setCell ?_ (by simp; try omega) _ | refine ext_alloc ?_ _ | refine ext_drew ?_ | refine ext_drewN ?_ _ | refine ext_trans ?_ (Aft.use _) | refine ext_trans ?_ (by assumption))))).mono ?_); rintro e w2 ⟨rfl, xb2⟩; obtain ⟨xc2, xf2, xl2, xz2⟩ := ext_use xb2; (try simp at xz2))
      | (go_at_call 26; (with_reducible refine (kM1.out _).mono ?_); rintro e w3 ⟨rfl, xb3⟩; obtain ⟨xc3, xf3, xl3, xz3⟩ := ext_use xb3; (try simp at xz3))
      | (go_at_call 27; (with_reducible refine (kF2.out _ (by (repeat (first | exact ext_refl _ | assumption | refine ext_setCell ?_ (by simp; try omega) _ | refine ext_alloc ?_ _ | refine ext_drew ?_ | refine ext_drewN ?_ _ | refine ext_trans ?_ (Aft.use _) | refine ext_trans ?_ (by assumption))))).mono ?_); rintro e w4 ⟨rfl, xb4⟩; obtain ⟨xc4, xf4, xl4, xz4⟩ := ext_use xb4; (try simp at xz4); obtain ⟨l4_0, gc, gf⟩ := kp xb4 (w3.heap.size) (by first | omega | (simp; try omega)); have r4_0 := gc 0; have f4_0 := gf 0; have r4_0_1 := gc 1; have f4_0_1 := gf 1; have r4_0_2 := gc 2; have f4_0_2 := gf 2; clear gc gf)
      | (go_at_call 26; (with_reducible refine (kM2.out _).mono ?_); rintro e w5 ⟨rfl, xb5⟩; obtain ⟨xc5, xf5, xl5, xz5⟩ := ext_use xb5; (try simp at xz5); obtain ⟨l5_0, gc, gf⟩ := kp xb5 (w3.heap.size) (by first | omega | (simp; try omega)); have r5_0 := gc 0; have f5_0 := gf 0; have r5_0_1 := gc 1; have f5_0_1 := gf 1; have r5_0_2 := gc 2; have f5_0_2 := gf 2; clear gc gf)
      | (go_at_call 28; (with_reducible refine (KD1.out _ (by (repeat (first | exact ext_refl _ | assumption | refine ext_setCell ?_ (by simp; try omega) _ | refine ext_alloc ?_ _ | refine ext_drew ?_ | refine ext_drewN ?_ _ | refine ext_trans ?_ (Aft.use _) | refine ext_trans ?_ (by assumption))))).mono ?_); rintro e w6 ⟨rfl, xb6⟩; obtain ⟨xc6, xf6, xl6, xz6⟩ := ext_use xb6; (try simp at xz6); obtain ⟨l6_0, gc, gf⟩ := kp xb6 (w3.heap.size) (by first | omega | (simp; try omega)); have r6_0 := gc 0; have f6_0 := gf 0; have r6_0_1 := gc 1; have f6_0_1 := gf 1; have r6_0_2 := gc 2; have f6_0_2 := gf 2; clear gc gf; obtain ⟨l6_1, gc, gf⟩ := kp xb6 (w5.heap.size) (by first | omega | (simp; try omega)); have r6_1 := gc 0; have f6_1 := gf 0; have r6_1_1 := gc 1; have f6_1_1 := gf 1; have r6_1_2 := gc 2; have f6_1_2 := gf 2; clear gc gf)
      | (go_at_call 29; (with_reducible refine (KS1.out _ (by (repeat (first | exact ext_refl _ | assumption | refine ext_setCell ?_ (by simp; try omega) _ | refine ext_alloc ?_ _ | refine ext_drew ?_ | refine ext_drewN ?_ _ | refine ext_trans ?_ (Aft.use _) | refine ext_trans ?_ (by assumption))))).mono ?_); rintro e w7 ⟨rfl, xb7⟩; obtain ⟨xc7, xf7, xl7, xz7⟩ := ext_use xb7; (try simp at xz7); obtain ⟨l7_0, gc, gf⟩ := kp xb7 (w3.heap.size) (by first | omega | (simp; try omega)); have r7_0 := gc 0; have f7_0 := gf 0; have r7_0_1 := gc 1; have f7_0_1 := gf 1; have r7_0_2 := gc 2; have f7_0_2 := gf 2; clear gc gf; obtain ⟨l7_1, gc, gf⟩ := kp xb7 (w5.heap.size) (by first | omega | (simp; try omega)); have r7_1 := gc 0; have f7_1 := gf 0; have r7_1_1 := gc 1; have f7_1_1 := gf 1; have r7_1_2 := gc 2; have f7_1_2 := gf 2; clear gc gf)
      | (go_at_call 28; (with_reducible refine (KD2.out _ (by (repeat (first | exact ext_refl _ | assumption | refine ext_setCell ?_ (by simp; try omega) _ | refine ext_alloc ?_ _ | refine ext_drew ?_ | refine ext_drewN ?_ _ | refine ext_trans ?_ (Aft.use _) | refine ext_trans ?_ (by assumption))))).mono ?_); rintro e w8 ⟨rfl, xb8⟩; obtain ⟨xc8, xf8, xl8, xz8⟩ := ext_use xb8; (try simp at xz8); obtain ⟨l8_0, gc, gf⟩ := kp xb8 (w3.heap.size) (by first | omega | (simp; try omega)); have r8_0 := gc 0; have f8_0 := gf 0; have r8_0_1 := gc 1; have f8_0_1 := gf 1; have r8_0_2 := gc 2; have f8_0_2 := gf 2; clear gc gf; obtain ⟨l8_1, gc, gf⟩ := kp xb8 (w5.heap.size) (by first | omega | (simp; try omega)); have r8_1 := gc 0; have f8_1 := gf 0; have r8_1_1 := gc 1; have f8_1_1 := gf 1; have r8_1_2 := gc 2; have f8_1_2 := gf 2; clear gc gf)
      | (go_at_call 29; (with_reducible refine (KS2.out _ (by (repeat (first | exact ext_refl _ | assumption | refine ext_setCell ?_ (by simp; try omega) _ | refine ext_alloc ?_ _ | refine ext_drew ?_ | refine ext_drewN ?_ _ | refine ext_trans ?_ (Aft.use _) | refine ext_trans ?_ (by assumption))))).mono ?_); rintro e w9 ⟨rfl, xb9⟩; obtain ⟨xc9, xf9, xl9, xz9⟩ := ext_use xb9; (try simp at xz9); obtain ⟨l9_0, gc, gf⟩ := kp xb9 (w3.heap.size) (by first | omega | (simp; try omega)); have r9_0 := gc 0; have f9_0 := gf 0; have r9_0_1 := gc 1; have f9_0_1 := gf 1; have r9_0_2 := gc 2; have f9_0_2 := gf 2; clear gc gf; obtain ⟨l9_1, gc, gf⟩ := kp xb9 (w5.heap.size) (by first | omega | (simp; try omega)); have r9_1 := gc 0; have f9_1 := gf 0; have r9_1_1 := gc 1; have f9_1_1 := gf 1; have r9_1_2 := gc 2; have f9_1_2 := gf 2; clear gc gf)
      | (go_at_call 9; (with_reducible refine (kT.out _ (by (repeat (first | exact ext_refl _ | assumption | refine ext_setCell ?_ (by simp; try omega) _ | refine ext_alloc ?_ _ | refine ext_drew ?_ | refine ext_drewN ?_ _ | refine ext_trans ?_ (Aft.use _) | refine ext_trans ?_ (by assumption))))).mono ?_); rintro e w10 ⟨rfl, xb10⟩; obtain ⟨xc10, xf10, xl10, xz10⟩ := ext_use xb10; (try simp at xz10); obtain ⟨l10_0, gc, gf⟩ := kp xb10 (w3.heap.size) (by first | omega | (simp; try omega)); have r10_0 := gc 0; have f10_0 := gf 0; have r10_0_1 := gc 1; have f10_0_1 := gf 1; have r10_0_2 := gc 2; have f10_0_2 := gf 2; clear gc gf; obtain ⟨l10_1, gc, gf⟩ := kp xb10 (w5.heap.size) (by first | omega | (simp; try omega)); have r10_1 := gc 0; have f10_1 := gf 0; have r10_1_1 := gc 1; have f10_1_1 := gf 1; have r10_1_2 := gc 2; have f10_1_2 := gf 2; clear gc gf)
     )
    refine bodyPost_ret (v := .bool true) ?h rfl ⟨rfl, ?_⟩
    case h => simp [results, Tryz.results5, go_sem]
    repeat (first | exact ext_refl _ | assumption | refine ext_setCell ?_ (by simp; try omega) _ | refine ext_alloc ?_ _ | refine ext_drew ?_ | refine ext_drewN ?_ _ | refine ext_trans ?_ (Aft.use _) | refine ext_trans ?_ (by assumption))
end Go.Proofs.YtkhkoeibpkglkaaGreatDoor
end
