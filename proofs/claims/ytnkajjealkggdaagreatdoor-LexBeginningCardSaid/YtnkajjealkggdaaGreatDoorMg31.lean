/- Lemmas of this proof, laid together: LxX, LxY. -/
import Derived.Test.YtnkajjealkggdaaGreatDoorMg29
import Derived.Test.YtnkajjealkggdaaGreatDoorMg30
set_option linter.unusedSimpArgs false
set_option linter.unusedVariables false
section
/- Lex, the program: Text. -/
namespace Go.Proofs.YtnkajjealkggdaaGreatDoor
open Go.RowKit
attribute [local go_sem] bs_size bs_extract bs_get bs_append bs_toList const_get
attribute [local go_sem] sz2 sz3 sz4 sz5 sz6 sz7 sz8 sz9 sz10
set_option maxHeartbeats 4000000
set_option maxRecDepth 100000
attribute [local irreducible] Calls
/-- A number's text without its sign. -/
def lxBody (x : Num) : List UInt8 :=
  if x.kind = 1 then (if x.digits = [] then [48] else x.digits) ++ (if x.dexp = 0 then [] else 101 :: itoaL x.dexp)
  else if x.kind = 2 then (if x.mant = [] then [48, 120, 48, 112, 48] else sixT (val x.mant) x.hexp)
  else if x.kind = 3 then [105, 110, 102]
  else [110, 97, 110] ++ (if x.payload = 0 then [] else [40] ++ dtext x.payload ++ [41])
def textN (x : Num) : List UInt8 := minusL x.neg ++ lxBody x
abbrev TexQ (w : World) (l : List UInt8) (c : Nat) : Ending → World → Prop := fun e w' => e = .returned (.tuple #[.string (bs l), .int .i64 (c : Int)]) ∧ Ext w w'
theorem lit1 (a : UInt8) (l : List UInt8) : (⟨#[a]⟩ : ByteArray) ++ bs l = bs (a :: l) := by show bs [a] ++ bs l = _; rw [bs_append]; rfl
theorem lit3 (a b c : UInt8) (l : List UInt8) : (⟨#[a, b, c]⟩ : ByteArray) ++ bs l = bs (a :: b :: c :: l) := by show bs [a, b, c] ++ bs l = _; rw [bs_append]; rfl
theorem lit5 (a b c d e : UInt8) : (⟨#[a, b, c, d, e]⟩ : ByteArray) = bs [a, b, c, d, e] := rfl
theorem litx (a b c : UInt8) : (⟨#[a, b, c]⟩ : ByteArray) = bs [a, b, c] := rfl
theorem lity (a : UInt8) : (⟨#[a]⟩ : ByteArray) = bs [a] := rfl
theorem lit0 : (⟨#[]⟩ : ByteArray) = bs [] := rfl
theorem bits_lim (a n : Nat) (h : (lim a).length = n) : bitsOf a ≤ 32 * n := by
  by_cases h0 : a = 0
  · subst h0; simp [bitsOf]
  · obtain ⟨hb0, hb1, hb2⟩ := bitsOf_spec h0
    rcases Nat.lt_or_ge (32 * n) (bitsOf a) with q | q
    · exfalso
      have h3 := lim_lt a
      rw [h] at h3
      have h4 : Bs ^ n = 2 ^ (32 * n) := by rw [Nat.pow_mul]
      rw [h4] at h3
      have h5 : 2 ^ (32 * n) ≤ 2 ^ (bitsOf a - 1) := Nat.pow_le_pow_right (by decide) (by omega)
      omega
    · exact q
theorem lim_shift4 (a n : Nat) (h : (lim a).length = n) (z : Nat) (hz : z < 4) : (lim (a * 2 ^ z)).length ≤ n + 1 := by
  refine lim_le (Nat.lt_of_lt_of_le (Nat.mul_lt_mul_of_lt_of_le (lim_lt a) (Nat.le_refl _) (Nat.pow_pos (by decide))) ?_)
  have h1 : 2 ^ z ≤ Bs := Nat.le_trans (Nat.pow_le_pow_right (by decide) (show z ≤ 4 by omega)) (by decide)
  refine Nat.le_trans (Nat.mul_le_mul_left _ h1) ?_
  rw [← Nat.pow_succ, h]
  exact Nat.le_refl _
theorem lx_Text_no (x : Num) (hk : x.kind < 256) (A : Option Addr) (n c : Nat) (w : World) (hA : Rd w A n c x.mant) (hl : x.digits.length ≤ 1000000000) (hno : okN x = false) : Calls Tryz.prog 16 #[numV x A n c] w (TexQ w [] 110) := by
  have kc := Lib.hid (fun w' (he : Ext w w') => lx_Check x hk A n c w' (hA.ext he) hl)
  have e : chkN x = 110 := by unfold chkN; rw [hno]; rfl
  rw [e] at kc
  have hv := Lib.hid (Nv.new w (.int .u8 (x.kind : Int)) (.bool x.neg) (.bool x.dneg) (.string (bs x.digits)) (.int .i64 x.dexp) (.bool x.hneg) (.slice A n c) (.int .i64 x.hexp) (.int .u64 (x.payload : Int)) 33)
  obtain ⟨n0, n1, n2, n3, n4, n5, n6, n7, n8, q0, q1, q2, q3, q4, q5, q6, q7, q8, hB5⟩ := hv.out
  clear hA e hno
  go_enter Tryz.func16, Tryz.ntmps16
  go_wp2_with (first
    | (go_at_call 25; (with_reducible refine (kc.out _ (ext_alloc (ext_refl _) _)).mono ?_); rintro e w1 ⟨rfl, xb1⟩))
  refine bodyPost_ret (v := .tuple #[.string (bs []), .int .i64 110]) ?h rfl ⟨rfl, ext_trans (ext_alloc (ext_refl _) _) xb1⟩
  case h => simp [results, Tryz.results16, go_sem]; rfl
theorem lx_Text_1a (neg dneg : Bool) (hneg : Bool) (mant : List Nat) (hexp : Int) (payload : Nat)  (A : Option Addr) (n c : Nat) (w : World) (hA : Rd w A n c mant) (hT : LxT w) (hok : okN ⟨1, neg, dneg, [], 0, hneg, mant, hexp, payload⟩ = true) : Calls Tryz.prog 16 #[numV ⟨1, neg, dneg, [], 0, hneg, mant, hexp, payload⟩ A n c] w (TexQ w (minusL neg ++ ([48])) 0) := by
  have HT := Lib.hid hT
  have HA := Lib.hid hA
  have e : chkN ⟨1, neg, dneg, [], 0, hneg, mant, hexp, payload⟩ = 0 := by unfold chkN; rw [hok]; rfl
  have kc : Hid (∀ w', Ext w w' → Calls Tryz.prog 25 #[.agg #[.int .u8 1, .bool neg, .bool dneg, .string (bs []), .int .i64 0, .bool hneg, .slice A n c, .int .i64 hexp, .int .u64 (payload : Int)]] w' fun e w'' => e = .returned (.int .i64 0) ∧ Ext w' w'') := fun w' he => by
    have h9 := lx_Check ⟨1, neg, dneg, [], 0, hneg, mant, hexp, payload⟩ (by show (1 : Nat) < 256; decide) A n c w' (HA.out.ext he) (by simp)
    rw [e] at h9
    exact h9
  have hv := Lib.hid (Nv.new w (.int .u8 1) (.bool neg) (.bool dneg) (.string (bs [])) (.int .i64 0) (.bool hneg) (.slice A n c) (.int .i64 hexp) (.int .u64 (payload : Int)) 33)
  obtain ⟨n0, n1, n2, n3, n4, n5, n6, n7, n8, q0, q1, q2, q3, q4, q5, q6, q7, q8, hB5⟩ := hv.out
  obtain ⟨S, hS9⟩ : ∃ S, minusL neg ++ ([48]) = S := ⟨_, rfl⟩
  have HS := Lib.hid hS9
  rw [hS9]
  clear hA e hok hS9 hT
  cases neg
  all_goals
   go_enter Tryz.func16, Tryz.ntmps16
   go_wp2_with (first
    | (go_at_call 25; (with_reducible refine (kc.out _ (ext_alloc (ext_refl _) _)).mono ?_); rintro e w1 ⟨rfl, xb1⟩; have hx1 := Lib.hid (ext_trans (ext_alloc (ext_refl w) _) xb1); (have hv1 := Lib.hid (hv.out.ext xb1)); obtain ⟨m0, m1, m2, m3, m4, m5, m6, m7, m8, p0, p1, p2, p3, p4, p5, p6, p7, p8, hB6⟩ := hv1.out)
    )
   refine bodyPost_ret (v := .tuple #[.string (bs S), .int .i64 0]) ?h rfl ⟨rfl, hx1.out⟩
   case h => rw [← HS.out]; simp [results, Tryz.results16, go_sem, lit1, lit3, lit5, litx, lity, lit0, minusL]
theorem lx_Text_1b (neg dneg : Bool) (digits : List UInt8) (hneg : Bool) (mant : List Nat) (hexp : Int) (payload : Nat) (hd0 : ¬ digits = []) (A : Option Addr) (n c : Nat) (w : World) (hA : Rd w A n c mant) (hl : digits.length ≤ 1000000) (hT : LxT w) (hok : okN ⟨1, neg, dneg, digits, 0, hneg, mant, hexp, payload⟩ = true) : Calls Tryz.prog 16 #[numV ⟨1, neg, dneg, digits, 0, hneg, mant, hexp, payload⟩ A n c] w (TexQ w (minusL neg ++ (digits)) 0) := by
  have HT := Lib.hid hT
  have HA := Lib.hid hA
  have e : chkN ⟨1, neg, dneg, digits, 0, hneg, mant, hexp, payload⟩ = 0 := by unfold chkN; rw [hok]; rfl
  have kc : Hid (∀ w', Ext w w' → Calls Tryz.prog 25 #[.agg #[.int .u8 1, .bool neg, .bool dneg, .string (bs digits), .int .i64 0, .bool hneg, .slice A n c, .int .i64 hexp, .int .u64 (payload : Int)]] w' fun e w'' => e = .returned (.int .i64 0) ∧ Ext w' w'') := fun w' he => by
    have h9 := lx_Check ⟨1, neg, dneg, digits, 0, hneg, mant, hexp, payload⟩ (by show (1 : Nat) < 256; decide) A n c w' (HA.out.ext he) (by dsimp only; omega)
    rw [e] at h9
    exact h9
  have hv := Lib.hid (Nv.new w (.int .u8 1) (.bool neg) (.bool dneg) (.string (bs digits)) (.int .i64 0) (.bool hneg) (.slice A n c) (.int .i64 hexp) (.int .u64 (payload : Int)) 33)
  obtain ⟨n0, n1, n2, n3, n4, n5, n6, n7, n8, q0, q1, q2, q3, q4, q5, q6, q7, q8, hB5⟩ := hv.out
  obtain ⟨S, hS9⟩ : ∃ S, minusL neg ++ (digits) = S := ⟨_, rfl⟩
  have HS := Lib.hid hS9
  rw [hS9]
  clear hA e hok hS9 hT
  have hem : digits.isEmpty = false := by
    cases digits with
    | nil => exact absurd rfl hd0
    | cons a t => rfl
  cases neg
  all_goals
   go_enter Tryz.func16, Tryz.ntmps16
   go_wp2_with (first
    | (go_at_call 25; (with_reducible refine (kc.out _ (ext_alloc (ext_refl _) _)).mono ?_); rintro e w1 ⟨rfl, xb1⟩; have hx1 := Lib.hid (ext_trans (ext_alloc (ext_refl w) _) xb1); (have hv1 := Lib.hid (hv.out.ext xb1)); obtain ⟨m0, m1, m2, m3, m4, m5, m6, m7, m8, p0, p1, p2, p3, p4, p5, p6, p7, p8, hB6⟩ := hv1.out)
    )
   refine bodyPost_ret (v := .tuple #[.string (bs S), .int .i64 0]) ?h rfl ⟨rfl, hx1.out⟩
   case h => rw [← HS.out]; simp [results, Tryz.results16, go_sem, lit1, lit3, lit5, litx, lity, lit0, minusL]
theorem lx_Text_1c (neg dneg : Bool) (digits : List UInt8) (dexp : Int) (hneg : Bool) (mant : List Nat) (hexp : Int) (payload : Nat) (hd0 : ¬ digits = []) (hx0 : ¬ dexp = 0) (hxb : -2000000000 ≤ dexp ∧ dexp ≤ 2000000000) (A : Option Addr) (n c : Nat) (w : World) (hA : Rd w A n c mant) (hl : digits.length ≤ 1000000) (hT : LxT w) (hok : okN ⟨1, neg, dneg, digits, dexp, hneg, mant, hexp, payload⟩ = true) : Calls Tryz.prog 16 #[numV ⟨1, neg, dneg, digits, dexp, hneg, mant, hexp, payload⟩ A n c] w (TexQ w (minusL neg ++ (digits ++ 101 :: itoaL dexp)) 0) := by
  have HT := Lib.hid hT
  have HA := Lib.hid hA
  have e : chkN ⟨1, neg, dneg, digits, dexp, hneg, mant, hexp, payload⟩ = 0 := by unfold chkN; rw [hok]; rfl
  have kc : Hid (∀ w', Ext w w' → Calls Tryz.prog 25 #[.agg #[.int .u8 1, .bool neg, .bool dneg, .string (bs digits), .int .i64 dexp, .bool hneg, .slice A n c, .int .i64 hexp, .int .u64 (payload : Int)]] w' fun e w'' => e = .returned (.int .i64 0) ∧ Ext w' w'') := fun w' he => by
    have h9 := lx_Check ⟨1, neg, dneg, digits, dexp, hneg, mant, hexp, payload⟩ (by show (1 : Nat) < 256; decide) A n c w' (HA.out.ext he) (by dsimp only; omega)
    rw [e] at h9
    exact h9
  have hv := Lib.hid (Nv.new w (.int .u8 1) (.bool neg) (.bool dneg) (.string (bs digits)) (.int .i64 dexp) (.bool hneg) (.slice A n c) (.int .i64 hexp) (.int .u64 (payload : Int)) 33)
  obtain ⟨n0, n1, n2, n3, n4, n5, n6, n7, n8, q0, q1, q2, q3, q4, q5, q6, q7, q8, hB5⟩ := hv.out
  obtain ⟨S, hS9⟩ : ∃ S, minusL neg ++ (digits ++ 101 :: itoaL dexp) = S := ⟨_, rfl⟩
  have HS := Lib.hid hS9
  rw [hS9]
  clear hA e hok hS9 hT
  have hem : digits.isEmpty = false := by
    cases digits with
    | nil => exact absurd rfl hd0
    | cons a t => rfl
  have kI : Hid (∀ w', LxT w' → Calls Tryz.prog 31 #[.int .i64 dexp] w' fun e w'' => e = .returned (.string (bs (itoaL dexp))) ∧ Ext w' w'') := fun w' h => itoa_any dexp (by omega) w' h.pw
  have hIl : (itoaL dexp).length ≤ 100 := lx_itoa_len _ (by omega)
  obtain ⟨I, hI9⟩ : ∃ I, itoaL dexp = I := ⟨_, rfl⟩
  rw [hI9] at kI hIl HS
  clear hI9
  have hx0b : (dexp != 0) = true := by simp [hx0]
  clear hd0
  cases neg
  all_goals
   go_enter Tryz.func16, Tryz.ntmps16
   go_wp2_with (first
    | (go_at_call 25; (with_reducible refine (kc.out _ (ext_alloc (ext_refl _) _)).mono ?_); rintro e w1 ⟨rfl, xb1⟩; have hx1 := Lib.hid (ext_trans (ext_alloc (ext_refl w) _) xb1); (have hv1 := Lib.hid (hv.out.ext xb1)); obtain ⟨m0, m1, m2, m3, m4, m5, m6, m7, m8, p0, p1, p2, p3, p4, p5, p6, p7, p8, hB6⟩ := hv1.out)
    | (go_at_call 31; (with_reducible refine (kI.out _ (HT.out.ext hx1.out)).mono ?_); rintro e w7 ⟨rfl, xb7⟩; (have hv7 := Lib.hid (hv1.out.ext xb7)); obtain ⟨u0, u1, u2, u3, u4, u5, u6, u7, u8, -, -, -, -, -, -, -, -, -, hB7⟩ := hv7.out)
    )
   refine bodyPost_ret (v := .tuple #[.string (bs S), .int .i64 0]) ?h rfl ⟨rfl, ext_trans hx1.out xb7⟩
   case h => rw [← HS.out]; simp [results, Tryz.results16, go_sem, lit1, lit3, lit5, litx, lity, lit0, minusL]
theorem lx_Text_3 (neg dneg : Bool) (digits : List UInt8) (dexp : Int) (hneg : Bool) (mant : List Nat) (hexp : Int) (payload : Nat) (A : Option Addr) (n c : Nat) (w : World) (hA : Rd w A n c mant) (hl : digits.length ≤ 1000000) (hT : LxT w) (hok : okN ⟨3, neg, dneg, digits, dexp, hneg, mant, hexp, payload⟩ = true) : Calls Tryz.prog 16 #[.agg #[.int .u8 3, .bool neg, .bool dneg, .string (bs digits), .int .i64 dexp, .bool hneg, .slice A n c, .int .i64 hexp, .int .u64 (payload : Int)]] w (TexQ w (minusL neg ++ ([105, 110, 102])) 0) := by
  have HT := Lib.hid hT
  have HA := Lib.hid hA
  have e : chkN ⟨3, neg, dneg, digits, dexp, hneg, mant, hexp, payload⟩ = 0 := by unfold chkN; rw [hok]; rfl
  have kc : Hid (∀ w', Ext w w' → Calls Tryz.prog 25 #[.agg #[.int .u8 3, .bool neg, .bool dneg, .string (bs digits), .int .i64 dexp, .bool hneg, .slice A n c, .int .i64 hexp, .int .u64 (payload : Int)]] w' fun e w'' => e = .returned (.int .i64 0) ∧ Ext w' w'') := fun w' he => by
    have h9 := lx_Check ⟨3, neg, dneg, digits, dexp, hneg, mant, hexp, payload⟩ (by show (3 : Nat) < 256; decide) A n c w' (HA.out.ext he) (by dsimp only; omega)
    rw [e] at h9
    exact h9
  have hv := Lib.hid (Nv.new w (.int .u8 3) (.bool neg) (.bool dneg) (.string (bs digits)) (.int .i64 dexp) (.bool hneg) (.slice A n c) (.int .i64 hexp) (.int .u64 (payload : Int)) 33)
  obtain ⟨n0, n1, n2, n3, n4, n5, n6, n7, n8, q0, q1, q2, q3, q4, q5, q6, q7, q8, hB5⟩ := hv.out
  obtain ⟨S, hS9⟩ : ∃ S, minusL neg ++ ([105, 110, 102]) = S := ⟨_, rfl⟩
  have HS := Lib.hid hS9
  rw [hS9]
  clear hA e hok hS9 hT
  cases neg
  all_goals
   go_enter Tryz.func16, Tryz.ntmps16
   go_wp2_with (first
    | (go_at_call 25; (with_reducible refine (kc.out _ (ext_alloc (ext_refl _) _)).mono ?_); rintro e w1 ⟨rfl, xb1⟩; have hx1 := Lib.hid (ext_trans (ext_alloc (ext_refl w) _) xb1); (have hv1 := Lib.hid (hv.out.ext xb1)); obtain ⟨m0, m1, m2, m3, m4, m5, m6, m7, m8, p0, p1, p2, p3, p4, p5, p6, p7, p8, hB6⟩ := hv1.out)
    )
   refine bodyPost_ret (v := .tuple #[.string (bs S), .int .i64 0]) ?h rfl ⟨rfl, hx1.out⟩
   case h => rw [← HS.out]; simp [results, Tryz.results16, go_sem, lit1, lit3, lit5, litx, lity, lit0, minusL]
theorem lx_Text_4a (neg dneg : Bool) (digits : List UInt8) (dexp : Int) (hneg : Bool) (mant : List Nat) (hexp : Int) (A : Option Addr) (n c : Nat) (w : World) (hA : Rd w A n c mant) (hl : digits.length ≤ 1000000) (hT : LxT w) (hok : okN ⟨4, neg, dneg, digits, dexp, hneg, mant, hexp, 0⟩ = true) : Calls Tryz.prog 16 #[.agg #[.int .u8 4, .bool neg, .bool dneg, .string (bs digits), .int .i64 dexp, .bool hneg, .slice A n c, .int .i64 hexp, .int .u64 0]] w (TexQ w (minusL neg ++ ([110, 97, 110])) 0) := by
  have HT := Lib.hid hT
  have HA := Lib.hid hA
  have e : chkN ⟨4, neg, dneg, digits, dexp, hneg, mant, hexp, 0⟩ = 0 := by unfold chkN; rw [hok]; rfl
  have kc : Hid (∀ w', Ext w w' → Calls Tryz.prog 25 #[.agg #[.int .u8 4, .bool neg, .bool dneg, .string (bs digits), .int .i64 dexp, .bool hneg, .slice A n c, .int .i64 hexp, .int .u64 0]] w' fun e w'' => e = .returned (.int .i64 0) ∧ Ext w' w'') := fun w' he => by
    have h9 := lx_Check ⟨4, neg, dneg, digits, dexp, hneg, mant, hexp, 0⟩ (by show (4 : Nat) < 256; decide) A n c w' (HA.out.ext he) (by dsimp only; omega)
    rw [e] at h9
    exact h9
  have hv := Lib.hid (Nv.new w (.int .u8 4) (.bool neg) (.bool dneg) (.string (bs digits)) (.int .i64 dexp) (.bool hneg) (.slice A n c) (.int .i64 hexp) (.int .u64 0) 33)
  obtain ⟨n0, n1, n2, n3, n4, n5, n6, n7, n8, q0, q1, q2, q3, q4, q5, q6, q7, q8, hB5⟩ := hv.out
  obtain ⟨S, hS9⟩ : ∃ S, minusL neg ++ ([110, 97, 110]) = S := ⟨_, rfl⟩
  have HS := Lib.hid hS9
  rw [hS9]
  clear hA e hok hS9 hT
  cases neg
  all_goals
   go_enter Tryz.func16, Tryz.ntmps16
   go_wp2_with (first
    | (go_at_call 25; (with_reducible refine (kc.out _ (ext_alloc (ext_refl _) _)).mono ?_); rintro e w1 ⟨rfl, xb1⟩; have hx1 := Lib.hid (ext_trans (ext_alloc (ext_refl w) _) xb1); (have hv1 := Lib.hid (hv.out.ext xb1)); obtain ⟨m0, m1, m2, m3, m4, m5, m6, m7, m8, p0, p1, p2, p3, p4, p5, p6, p7, p8, hB6⟩ := hv1.out)
    )
   refine bodyPost_ret (v := .tuple #[.string (bs S), .int .i64 0]) ?h rfl ⟨rfl, hx1.out⟩
   case h => rw [← HS.out]; simp [results, Tryz.results16, go_sem, lit1, lit3, lit5, litx, lity, lit0, minusL]
theorem lx_Text_4b (neg dneg : Bool) (digits : List UInt8) (dexp : Int) (hneg : Bool) (mant : List Nat) (hexp : Int) (payload : Nat) (hp : ¬ payload = 0) (hp2 : payload ≤ 2251799813685247) (A : Option Addr) (n c : Nat) (w : World) (hA : Rd w A n c mant) (hl : digits.length ≤ 1000000) (hT : LxT w) (hok : okN ⟨4, neg, dneg, digits, dexp, hneg, mant, hexp, payload⟩ = true) : Calls Tryz.prog 16 #[.agg #[.int .u8 4, .bool neg, .bool dneg, .string (bs digits), .int .i64 dexp, .bool hneg, .slice A n c, .int .i64 hexp, .int .u64 (payload : Int)]] w (TexQ w (minusL neg ++ ([110, 97, 110] ++ ([40] ++ dtext payload ++ [41]))) 0) := by
  have HT := Lib.hid hT
  have HA := Lib.hid hA
  have e : chkN ⟨4, neg, dneg, digits, dexp, hneg, mant, hexp, payload⟩ = 0 := by unfold chkN; rw [hok]; rfl
  have kc : Hid (∀ w', Ext w w' → Calls Tryz.prog 25 #[.agg #[.int .u8 4, .bool neg, .bool dneg, .string (bs digits), .int .i64 dexp, .bool hneg, .slice A n c, .int .i64 hexp, .int .u64 (payload : Int)]] w' fun e w'' => e = .returned (.int .i64 0) ∧ Ext w' w'') := fun w' he => by
    have h9 := lx_Check ⟨4, neg, dneg, digits, dexp, hneg, mant, hexp, payload⟩ (by show (4 : Nat) < 256; decide) A n c w' (HA.out.ext he) (by dsimp only; omega)
    rw [e] at h9
    exact h9
  have hv := Lib.hid (Nv.new w (.int .u8 4) (.bool neg) (.bool dneg) (.string (bs digits)) (.int .i64 dexp) (.bool hneg) (.slice A n c) (.int .i64 hexp) (.int .u64 (payload : Int)) 33)
  obtain ⟨n0, n1, n2, n3, n4, n5, n6, n7, n8, q0, q1, q2, q3, q4, q5, q6, q7, q8, hB5⟩ := hv.out
  obtain ⟨S, hS9⟩ : ∃ S, minusL neg ++ ([110, 97, 110] ++ ([40] ++ dtext payload ++ [41])) = S := ⟨_, rfl⟩
  have HS := Lib.hid hS9
  rw [hS9]
  clear hA e hok hS9 hT
  have hp3 : (0 : Int) < payload := by omega
  have kI : Hid (∀ w', LxT w' → Calls Tryz.prog 37 #[.int .u64 (payload : Int), .int .i64 10] w' fun e w'' => e = .returned (.string (bs (dtext payload))) ∧ Ext w' w'') := fun w' h => fu_any payload (by omega) w' h.pw
  have hIl : (dtext payload).length ≤ 100 := by
    unfold dtext
    rw [if_neg hp]
    have := digs_len (n := payload) (k := 20) (Nat.lt_of_le_of_lt hp2 (by decide))
    omega
  obtain ⟨I, hI9⟩ : ∃ I, dtext payload = I := ⟨_, rfl⟩
  rw [hI9] at kI hIl HS
  clear hI9 hp
  cases neg
  all_goals
   go_enter Tryz.func16, Tryz.ntmps16
   go_wp2_with (first
    | (go_at_call 25; (with_reducible refine (kc.out _ (ext_alloc (ext_refl _) _)).mono ?_); rintro e w1 ⟨rfl, xb1⟩; have hx1 := Lib.hid (ext_trans (ext_alloc (ext_refl w) _) xb1); (have hv1 := Lib.hid (hv.out.ext xb1)); obtain ⟨m0, m1, m2, m3, m4, m5, m6, m7, m8, p0, p1, p2, p3, p4, p5, p6, p7, p8, hB6⟩ := hv1.out)
    | (go_at_call 37; (with_reducible refine (kI.out _ (HT.out.ext hx1.out)).mono ?_); rintro e w7 ⟨rfl, xb7⟩; (have hv7 := Lib.hid (hv1.out.ext xb7)); obtain ⟨u0, u1, u2, u3, u4, u5, u6, u7, u8, -, -, -, -, -, -, -, -, -, hB7⟩ := hv7.out)
    )
   refine bodyPost_ret (v := .tuple #[.string (bs S), .int .i64 0]) ?h rfl ⟨rfl, ext_trans hx1.out xb7⟩
   case h => rw [← HS.out]; simp [results, Tryz.results16, go_sem, lit1, lit3, lit5, litx, lity, lit0, minusL]
theorem lx_Text_2a (neg dneg : Bool) (digits : List UInt8) (dexp : Int) (hneg : Bool) (mant : List Nat) (hexp : Int) (payload : Nat) (hm : mant = []) (A : Option Addr) (n c : Nat) (w : World) (hA : Rd w A n c mant) (hl : digits.length ≤ 1000000) (hT : LxT w) (hok : okN ⟨2, neg, dneg, digits, dexp, hneg, mant, hexp, payload⟩ = true) : Calls Tryz.prog 16 #[.agg #[.int .u8 2, .bool neg, .bool dneg, .string (bs digits), .int .i64 dexp, .bool hneg, .slice A n c, .int .i64 hexp, .int .u64 (payload : Int)]] w (TexQ w (minusL neg ++ ([48, 120, 48, 112, 48])) 0) := by
  have HT := Lib.hid hT
  have HA := Lib.hid hA
  have e : chkN ⟨2, neg, dneg, digits, dexp, hneg, mant, hexp, payload⟩ = 0 := by unfold chkN; rw [hok]; rfl
  have kc : Hid (∀ w', Ext w w' → Calls Tryz.prog 25 #[.agg #[.int .u8 2, .bool neg, .bool dneg, .string (bs digits), .int .i64 dexp, .bool hneg, .slice A n c, .int .i64 hexp, .int .u64 (payload : Int)]] w' fun e w'' => e = .returned (.int .i64 0) ∧ Ext w' w'') := fun w' he => by
    have h9 := lx_Check ⟨2, neg, dneg, digits, dexp, hneg, mant, hexp, payload⟩ (by show (2 : Nat) < 256; decide) A n c w' (HA.out.ext he) (by dsimp only; omega)
    rw [e] at h9
    exact h9
  have hv := Lib.hid (Nv.new w (.int .u8 2) (.bool neg) (.bool dneg) (.string (bs digits)) (.int .i64 dexp) (.bool hneg) (.slice A n c) (.int .i64 hexp) (.int .u64 (payload : Int)) 33)
  obtain ⟨n0, n1, n2, n3, n4, n5, n6, n7, n8, q0, q1, q2, q3, q4, q5, q6, q7, q8, hB5⟩ := hv.out
  obtain ⟨S, hS9⟩ : ∃ S, minusL neg ++ ([48, 120, 48, 112, 48]) = S := ⟨_, rfl⟩
  have HS := Lib.hid hS9
  rw [hS9]
  clear hA e hok hS9 hT
  obtain rfl : n = 0 := by have := HA.out.len; rw [hm] at this; exact this.symm
  clear hm
  cases neg
  all_goals
   go_enter Tryz.func16, Tryz.ntmps16
   go_wp2_with (first
    | (go_at_call 25; (with_reducible refine (kc.out _ (ext_alloc (ext_refl _) _)).mono ?_); rintro e w1 ⟨rfl, xb1⟩; have hx1 := Lib.hid (ext_trans (ext_alloc (ext_refl w) _) xb1); (have hv1 := Lib.hid (hv.out.ext xb1)); obtain ⟨m0, m1, m2, m3, m4, m5, m6, m7, m8, p0, p1, p2, p3, p4, p5, p6, p7, p8, hB6⟩ := hv1.out)
    )
   refine bodyPost_ret (v := .tuple #[.string (bs S), .int .i64 0]) ?h rfl ⟨rfl, hx1.out⟩
   case h => rw [← HS.out]; simp [results, Tryz.results16, go_sem, lit1, lit3, lit5, litx, lity, lit0, minusL]
theorem lx_Text_2b (neg dneg : Bool) (digits : List UInt8) (dexp : Int) (hneg : Bool) (mant : List Nat) (hexp : Int) (payload : Nat) (a : Nat) (ha : a ≠ 0) (hm : mant = lim a) (hxb : -1073741824 ≤ hexp ∧ hexp ≤ 1073741824) (A : Option Addr) (n c : Nat) (hn : n ≤ 16384) (w : World) (hA : Rd w A n c mant) (hl : digits.length ≤ 1000000) (hT : LxT w) (hok : okN ⟨2, neg, dneg, digits, dexp, hneg, mant, hexp, payload⟩ = true) : Calls Tryz.prog 16 #[.agg #[.int .u8 2, .bool neg, .bool dneg, .string (bs digits), .int .i64 dexp, .bool hneg, .slice A n c, .int .i64 hexp, .int .u64 (payload : Int)]] w (TexQ w (minusL neg ++ (sixT a hexp)) 0) := by
  have HT := Lib.hid hT
  have HA := Lib.hid hA
  have e : chkN ⟨2, neg, dneg, digits, dexp, hneg, mant, hexp, payload⟩ = 0 := by unfold chkN; rw [hok]; rfl
  have kc : Hid (∀ w', Ext w w' → Calls Tryz.prog 25 #[.agg #[.int .u8 2, .bool neg, .bool dneg, .string (bs digits), .int .i64 dexp, .bool hneg, .slice A n c, .int .i64 hexp, .int .u64 (payload : Int)]] w' fun e w'' => e = .returned (.int .i64 0) ∧ Ext w' w'') := fun w' he => by
    have h9 := lx_Check ⟨2, neg, dneg, digits, dexp, hneg, mant, hexp, payload⟩ (by show (2 : Nat) < 256; decide) A n c w' (HA.out.ext he) (by dsimp only; omega)
    rw [e] at h9
    exact h9
  have hv := Lib.hid (Nv.new w (.int .u8 2) (.bool neg) (.bool dneg) (.string (bs digits)) (.int .i64 dexp) (.bool hneg) (.slice A n c) (.int .i64 hexp) (.int .u64 (payload : Int)) 33)
  obtain ⟨n0, n1, n2, n3, n4, n5, n6, n7, n8, q0, q1, q2, q3, q4, q5, q6, q7, q8, hB5⟩ := hv.out
  obtain ⟨S, hS9⟩ : ∃ S, minusL neg ++ (sixT a hexp) = S := ⟨_, rfl⟩
  have HS := Lib.hid hS9
  rw [hS9]
  clear hA e hok hS9 hT
  have hn0 : (0 : Int) < n := by
    have := HA.out.len
    rw [hm] at this
    have := (lim_len ha).2
    omega
  have kI : Hid (∀ w', Ext w w' → Calls Tryz.prog 36 #[dyV hneg A n c hexp] w' fun e w'' => e = .returned (.string (bs (sixT a hexp))) ∧ Ext w' w'') := fun w' h => lx_sixteens hneg a ha hexp hxb A n c hn w' (by have := HA.out.ext h; rwa [hm] at this) (HT.out.ext h)
  have hIl : (sixT a hexp).length ≤ 1000000 := by
    have h1 := hxtext_len (a * 2 ^ ((4 - (bitsOf a - 1) % 4) % 4)) (n + 1) (lim_shift4 a n (by rw [← hm]; exact HA.out.len) _ (Nat.mod_lt _ (by decide)))
    have hb : bitsOf a ≤ 32 * n := bits_lim a n (by rw [← hm]; exact HA.out.len)
    have h2 := lx_itoa_len (hexp + ((bitsOf a - 1 : Nat) : Int)) (by omega)
    unfold sixT
    simp only
    split
    · simp only [List.length_append, List.length_cons, List.length_nil]; omega
    · simp only [List.length_append, List.length_cons, List.length_nil, List.length_tail]; omega
  obtain ⟨I, hI9⟩ : ∃ I, sixT a hexp = I := ⟨_, rfl⟩
  rw [hI9] at kI hIl HS
  clear hI9 hm ha
  cases neg
  all_goals
   go_enter Tryz.func16, Tryz.ntmps16
   go_wp2_with (first
    | (go_at_call 25; (with_reducible refine (kc.out _ (ext_alloc (ext_refl _) _)).mono ?_); rintro e w1 ⟨rfl, xb1⟩; have hx1 := Lib.hid (ext_trans (ext_alloc (ext_refl w) _) xb1); (have hv1 := Lib.hid (hv.out.ext xb1)); obtain ⟨m0, m1, m2, m3, m4, m5, m6, m7, m8, p0, p1, p2, p3, p4, p5, p6, p7, p8, hB6⟩ := hv1.out)
    | (go_at_call 36; (with_reducible refine (kI.out _ hx1.out).mono ?_); rintro e w7 ⟨rfl, xb7⟩; (have hv7 := Lib.hid (hv1.out.ext xb7)); obtain ⟨u0, u1, u2, u3, u4, u5, u6, u7, u8, -, -, -, -, -, -, -, -, -, hB7⟩ := hv7.out)
    )
   refine bodyPost_ret (v := .tuple #[.string (bs S), .int .i64 0]) ?h rfl ⟨rfl, ext_trans hx1.out xb7⟩
   case h => rw [← HS.out]; simp [results, Tryz.results16, go_sem, lit1, lit3, lit5, litx, lity, lit0, minusL]
end Go.Proofs.YtnkajjealkggdaaGreatDoor
end
section
/- Lex, the program: Text of every number. -/
namespace Go.Proofs.YtnkajjealkggdaaGreatDoor
open Go.RowKit
set_option maxHeartbeats 4000000
set_option maxRecDepth 100000
theorem noD_inv {d : Bool} {l : List UInt8} {x : Int} (h : noD d l x = true) : d = false ∧ l = [] ∧ x = 0 := of_decide_eq_true h
theorem ok_1 {x : Num} (hk : x.kind = 1) (h : okN x = true) : dcE ⟨x.dneg, x.digits, x.dexp⟩ = 0 ∧ x.dneg = x.neg ∧ noHexB x = true ∧ x.payload = 0 := by
  unfold okN at h
  rw [if_pos hk] at h
  simp only [Bool.and_eq_true, decide_eq_true_eq] at h
  exact h
theorem ok_2 {x : Num} (hk : x.kind = 2) (h : okN x = true) : exE x.hneg x.mant x.hexp = 0 ∧ (noHexB x = true ∨ x.hneg = x.neg) ∧ noDecB x = true ∧ x.payload = 0 := by
  unfold okN at h
  rw [if_neg (by omega), if_pos hk] at h
  simp only [Bool.and_eq_true, Bool.or_eq_true, decide_eq_true_eq] at h
  exact h
theorem ok_3 {x : Num} (hk : x.kind = 3) (h : okN x = true) : noDecB x = true ∧ noHexB x = true ∧ x.payload = 0 := by
  unfold okN at h
  rw [if_neg (by omega), if_neg (by omega), if_pos hk] at h
  simp only [Bool.and_eq_true, decide_eq_true_eq] at h
  exact h
theorem ok_4 {x : Num} (hk : x.kind = 4) (h : okN x = true) : noDecB x = true ∧ noHexB x = true ∧ x.payload ≤ maxPay := by
  unfold okN at h
  rw [if_neg (by omega), if_neg (by omega), if_neg (by omega), if_pos hk] at h
  simp only [Bool.and_eq_true, decide_eq_true_eq] at h
  exact h
theorem ok_k {x : Num} (h : okN x = true) : x.kind = 1 ∨ x.kind = 2 ∨ x.kind = 3 ∨ x.kind = 4 := by
  unfold okN at h
  split at h
  · exact .inl ‹_›
  · split at h
    · exact .inr (.inl ‹_›)
    · split at h
      · exact .inr (.inr (.inl ‹_›))
      · split at h
        · exact .inr (.inr (.inr ‹_›))
        · exact absurd h (by decide)
theorem dcE_inv {d : Dc} (h : dcE d = 0) : d.dig.length ≤ 65536 ∧ (d.dig = [] → d.exp = 0) ∧ -1073741824 ≤ d.exp ∧ d.exp ≤ 1073741824 ∧ (d.dig ≠ [] → digsB d.dig = true ∧ d.dig.head? ≠ some 48 ∧ d.dig.getLast? ≠ some 48) := by
  unfold dcE at h
  split at h
  · exact absurd h (by decide)
  · split at h
    · split at h
      · rename_i h1 h2 h3
        have h4 := List.eq_nil_of_length_eq_zero h2
        exact ⟨by omega, fun _ => h3, by omega, by omega, fun q => absurd h4 q⟩
      · exact absurd h (by decide)
    · split at h
      · exact absurd h (by decide)
      · split at h
        · exact absurd h (by decide)
        · rename_i h1 h2 h3 h4
          simp only [not_or] at h4
          have h5 : far d.exp = false := by simpa using h4.2.2
          unfold far at h5
          simp only [Bool.or_eq_false_iff, decide_eq_false_iff_not] at h5
          exact ⟨by omega, fun q => by rw [q] at h2; exact absurd rfl h2, by omega, by omega, fun _ => ⟨by simpa using h3, h4.1, h4.2.1⟩⟩
theorem exE_inv {neg : Bool} {xs : List Nat} {x : Int} (hb : Lb xs) (h : exE neg xs x = 0) : xs.length ≤ 16384 ∧ xs = lim (val xs) ∧ (xs = [] → neg = false ∧ x = 0) ∧ -1073741824 ≤ x ∧ x ≤ 1073741824 ∧ (xs ≠ [] → xs.getD 0 0 % 2 = 1) := by
  unfold exE at h
  split at h
  · exact absurd h ‹_›
  · rename_i h1
    have h1 := Decidable.not_not.mp h1
    obtain ⟨h2, h3⟩ := chk_zero hb h1
    split at h
    · rename_i h4
      split at h
      · exact absurd h (by decide)
      · rename_i h5
        simp only [not_or, Decidable.not_not] at h5
        exact ⟨h2, h3, fun _ => ⟨by simpa using h5.1, h5.2⟩, by omega, by omega, fun q => absurd h4 q⟩
    · rename_i h4
      split at h
      · exact absurd h (by decide)
      · rename_i h5
        simp only [not_or] at h5
        have h6 : far x = false := by simpa using h5.2
        unfold far at h6
        simp only [Bool.or_eq_false_iff, decide_eq_false_iff_not] at h6
        exact ⟨h2, h3, fun q => absurd q h4, by omega, by omega, fun _ => by have := h5.1; omega⟩
theorem lx_Text (x : Num) (hk : x.kind < 256) (A : Option Addr) (n c : Nat) (w : World) (hA : Rd w A n c x.mant) (hl : x.digits.length ≤ 1000000000) (hT : LxT w) : Calls Tryz.prog 16 #[numV x A n c] w (TexQ w (if okN x = true then textN x else []) (chkN x)) := by
  by_cases ho : okN x = true
  · rw [if_pos ho, show chkN x = 0 from by unfold chkN; rw [if_pos ho]]
    obtain ⟨kind, neg, dneg, digits, dexp, hneg, mant, hexp, payload⟩ := x
    rcases ok_k ho with h | h | h | h <;> (dsimp only at h; subst h)
    · obtain ⟨h1, h2, h3, h4⟩ := ok_1 rfl ho
      obtain ⟨a1, a2, a3, a4, a5⟩ := dcE_inv h1
      dsimp only at h1 h2 h3 h4 a1 a2 a3 a4 a5 hl hA
      by_cases hd : digits = []
      · subst hd
        obtain rfl := a2 rfl
        exact lx_Text_1a neg dneg hneg mant hexp payload A n c w hA hT ho
      · by_cases hx : dexp = 0
        · subst hx
          have := lx_Text_1b neg dneg digits hneg mant hexp payload hd A n c w hA (by omega) hT ho
          simp only [textN, lxBody, if_true, if_neg hd, List.append_nil]
          exact this
        · have := lx_Text_1c neg dneg digits dexp hneg mant hexp payload hd hx (by omega) A n c w hA (by omega) hT ho
          simp only [textN, lxBody, if_true, if_neg hd, if_neg hx]
          exact this
    · obtain ⟨h1, h2, h3, h4⟩ := ok_2 rfl ho
      have h5 := noD_inv h3
      dsimp only at h1 h2 h3 h4 h5 hl hA
      obtain ⟨a1, a2, a3, a4, a5, a6⟩ := exE_inv hA.lb h1
      have hl2 : digits.length ≤ 1000000 := by rw [h5.2.1]; simp
      by_cases hm : mant = []
      · have := lx_Text_2a neg dneg digits dexp hneg mant hexp payload hm A n c w hA hl2 hT ho
        simp only [textN, lxBody, if_true, if_pos hm, show ¬ (2 : Nat) = 1 from by decide, if_false]
        exact this
      · have := lx_Text_2b neg dneg digits dexp hneg mant hexp payload (val mant) (fun e => hm (by rw [a2, e, lim_zero])) a2 (by omega) A n c (by have := hA.len; omega) w hA hl2 hT ho
        simp only [textN, lxBody, if_true, if_neg hm, show ¬ (2 : Nat) = 1 from by decide, if_false]
        exact this
    · obtain ⟨h3, h2, h4⟩ := ok_3 rfl ho
      have h5 := noD_inv h3
      dsimp only at h5
      have hl2 : digits.length ≤ 1000000 := by rw [h5.2.1]; simp
      exact lx_Text_3 neg dneg digits dexp hneg mant hexp payload A n c w hA hl2 hT ho
    · obtain ⟨h3, h2, h4⟩ := ok_4 rfl ho
      have h5 := noD_inv h3
      dsimp only at h5 h4
      have hl2 : digits.length ≤ 1000000 := by rw [h5.2.1]; simp
      by_cases hp : payload = 0
      · subst hp
        exact lx_Text_4a neg dneg digits dexp hneg mant hexp A n c w hA hl2 hT ho
      · have := lx_Text_4b neg dneg digits dexp hneg mant hexp payload hp h4 A n c w hA hl2 hT ho
        simp only [textN, lxBody, if_neg hp, show ¬ (4 : Nat) = 1 from by decide, show ¬ (4 : Nat) = 2 from by decide, show ¬ (4 : Nat) = 3 from by decide, if_false]
        exact this
  · have ho' : okN x = false := by simpa using ho
    rw [if_neg ho, show chkN x = 110 from by unfold chkN; rw [if_neg ho]]
    exact lx_Text_no x hk A n c w hA hl ho'
end Go.Proofs.YtnkajjealkggdaaGreatDoor
end
