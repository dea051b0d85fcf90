/- Lemmas of this proof, laid together: R5M, R5N, R5O, R5Q. -/
import Derived.Test.YtchchnohmmncfaaGreatDoorMg37
import Derived.Test.YtchchnohmmncfaaGreatDoorMg29
import Derived.Deep.DeepCutAuto
import Derived.Deep.RegionWith
import Derived.Test.YtchchnohmmncfaaGreatDoorMg19
import Derived.Test.YtchchnohmmncfaaGreatDoorMg27
import Derived.Test.YtchchnohmmncfaaGreatDoorMg30
import Derived.Deep.LoopGhost
import Derived.Deep.RegionHeld3
set_option linter.unusedSimpArgs false
set_option linter.unusedVariables false
section
/- The document's answer for quick: a decimal's digits as a number. -/
namespace Go.Proofs.YtchchnohmmncfaaGreatDoor.NB
open Go.RowKit
attribute [local go_sem] bs_size bs_extract bs_get bs_append bs_toList const_get
attribute [local go_sem] sz2 sz3 sz4 sz5 sz6 sz7 sz8
set_option maxHeartbeats 8000000
set_option maxRecDepth 100000
attribute [local irreducible] Calls
theorem iat_new (u : World) (lo : Nat) : Iat (newInt u) u.heap.size 0 lo := by
  refine ⟨none, 0, 0, ⟨room_int u, by simp [go_sem], by simp [go_sem], ?_, fun x h => by cases h⟩, fun x h => by cases h⟩
  show Rd _ _ _ _ (lim 0)
  rw [lim_zero]
  exact Rd.nil _
theorem take_val {l : List UInt8} {k : Nat} (h : k < l.length) : dval (l.take (k + 1)) = 10 * dval (l.take k) + (l[k].toNat - 48) := by
  rw [List.take_succ_eq_append_getElem h, dval_snoc]
theorem r14_Number (neg : Bool) (l : List UInt8) (exp : Int) (hl : l.length ≤ 66000) (hd : digsB l = true) (w : World) : Calls Tryz.prog 17 #[dcV ⟨neg, l, exp⟩] w (IPs w ((dval l : Nat) : Int)) := by
  have hlen : Hid (∀ k, (lim (dval (l.take k))).length ≤ 66000) := Lib.hid fun k => by
    have h1 := dval_len (l.take k) (digs_take hd k)
    have h2 : (l.take k).length ≤ l.length := by rw [List.length_take]; omega
    omega
  have hval : Hid (∀ k (h : k < l.length), (dval (l.take (k + 1)) : Int) = (dval (l.take k) : Int) * 10 + ((l[k].toNat : Int) - 48) ∧ 48 ≤ l[k].toNat ∧ l[k].toNat ≤ 57) := Lib.hid fun k h => by
    have h1 := digs_at hd k h
    have h2 := take_val h
    obtain ⟨h3, h4⟩ := h1
    refine ⟨?_, by omega, by omega⟩
    omega
  have hll : Hid (dval (l.take l.length) = dval l) := Lib.hid (by rw [List.take_length])
  have lten : (lim 10).length = 1 := by kernel_rfl
  have kN := Lib.hid (fun w => o_NewInt 10 (by decide) (by decide) w)
  clear hd
  go_enter Tryz.func17, Tryz.ntmps17
  go_upto_region 2 with fail
  obtain ⟨b, hb⟩ : ∃ b, w.heap.size + 1 = b := ⟨_, rfl⟩
  obtain ⟨W, hW⟩ : ∃ W, W = (w.alloc (.cells #[.bool neg, .string (bs l), .int .i64 exp] 32)).alloc (.cells #[.bool false, .slice none 0 0] 52) := ⟨_, rfl⟩
  obtain ⟨B0, hB0⟩ : ∃ B0, w.heap.size = B0 := ⟨_, rfl⟩
  have xW : Hid (Ext w W) := by show Ext w W; rw [hW]; exact ext_alloc (ext_alloc (ext_refl _) _) _
  have hI0 : Hid (Iat W b 0 B0) := by
    rw [hW, ← hb]
    have := iat_new (w.alloc (.cells #[.bool neg, .string (bs l), .int .i64 exp] 32)) B0
    have es : (w.alloc (.cells #[.bool neg, .string (bs l), .int .i64 exp] 32)).heap.size = w.heap.size + 1 := by simp
    rw [es] at this
    exact this
  have c0 : W.cell? ⟨B0, 1, none⟩ = some (.string (bs l)) := by rw [hW, ← hB0]; simp [go_sem]
  have cl : B0 < W.heap.size := by rw [hW, ← hB0]; simp; try omega
  have hne : B0 ≠ b := by omega
  have hbW : b < W.heap.size := by rw [hW, ← hb]; simp; try omega
  rw [← hW, hb, hB0]
  have HW1 : Hid (w.heap.size ≤ b) := by show _ ≤ _; omega
  have HB0 := Lib.hid hB0
  clear hW hb hB0
  go_wp2_with (first
    | (go_at_call 25; (with_reducible refine (kN.out _).mono ?_); rintro e w1 ⟨g1, rfl, hI1, hg1, xb1⟩))
  obtain ⟨V, hV⟩ : ∃ V, V = w1 := ⟨_, rfl⟩
  have c0 : w1.cell? ⟨B0, 1, none⟩ = some (.string (bs l)) := (Below.cell (p := ⟨B0, 1, none⟩) xb1 cl).trans c0
  have hI2 : Hid (Iat w1 b 0 B0) := hI0.out.ext xb1
  have cl2 : B0 < w1.heap.size := Nat.lt_of_lt_of_le cl (ext_size xb1)
  have hgb : b < g1 := Nat.lt_of_lt_of_le hbW hg1
  have hWb : Hid (b < W.heap.size) := hbW
  have xV : Hid (Ext w w1) := ext_trans xW.out xb1
  have hWx : Hid (B0 ≤ b) := by have := HB0.out; have := HW1.out; show _ ≤ _; omega
  have hI10 : Hid (Iat w1 g1 10 (b + 1)) := hI1.out.weak hbW
  clear hI1 hI0 kN hg1 hbW hV V
  go_loopw [5] (fun vi wr => ∃ j : Nat, j ≤ l.length ∧ vi = .int .i64 (j : Int) ∧ Hid (Iat wr b ((dval (l.take j) : Nat) : Int) B0) ∧ Hid (Tch b w1 wr)) (fun vi _ => l.length - (intOf vi).toNat)
  case atStart => exact ⟨0, Nat.zero_le _, rfl, hI2, Tch.refl _ _⟩
  case round =>
    obtain ⟨j, hj, rfl, hI, ht⟩ := hrel
    have y0 := (ht.out.cell (p := ⟨B0, 1, none⟩) cl2 hne).trans c0
    have yl : B0 < wr.heap.size := Nat.lt_of_lt_of_le cl2 ht.out.size
    by_cases hlt : j < l.length
    · obtain ⟨v1, v2, v3⟩ := hval.out j hlt
      obtain ⟨v, hv⟩ : ∃ v, dval (l.take j) = v := ⟨_, rfl⟩
      have lv := hlen.out j
      have lv1 := hlen.out (j + 1)
      rw [hv] at v1 hI lv
      have lv10 : (lim (v * 10)).length ≤ 66002 := by
        have h1 := lim_mul_len v 10
        omega
      have kM := Lib.hid (show Calls Tryz.prog 32 #[.pointer (some ⟨b, 0, none⟩), .pointer (some ⟨b, 0, none⟩), .pointer (some ⟨g1, 0, none⟩)] wr (ITc wr b ((v * 10 : Nat) : Int)) by
        have := o_IMul b b g1 _ _ ((v : Nat) : Int) 10 (by rw [Int.natAbs_natCast]; omega) (show (lim 10).length ≤ _ by omega) wr hI.out.room hI.out (hI10.out.tch ht.out (by omega) (by omega))
        rwa [show ((v : Nat) : Int) * 10 = ((v * 10 : Nat) : Int) by omega] at this)
      obtain ⟨c, hc⟩ : ∃ c : Nat, l[j].toNat - 48 = c := ⟨_, rfl⟩
      have hcI : (l[j].toNat : Int) - 48 = (c : Int) := by omega
      have lc : (lim c).length ≤ 2 := lim_bits (by have := bits_lt (show c < 2 ^ 54 by omega); omega)
      have kC := Lib.hid (fun u => o_NewInt (c : Int) (by omega) (by omega) u)
      have kA := Lib.hid (fun u g lo lo' (h : Iat u b ((v * 10 : Nat) : Int) lo) (h' : Iat u g (c : Int) lo') => show Calls Tryz.prog 33 #[.pointer (some ⟨b, 0, none⟩), .pointer (some ⟨b, 0, none⟩), .pointer (some ⟨g, 0, none⟩)] u (ITc u b ((dval (l.take (j + 1)) : Nat) : Int)) by
        have := o_IAdd b b g _ _ ((v * 10 : Nat) : Int) (c : Int) (by rw [Int.natAbs_natCast]; omega) (by rw [Int.natAbs_natCast]; omega) u h.room h h'
        rwa [show ((v * 10 : Nat) : Int) + (c : Int) = ((dval (l.take (j + 1)) : Nat) : Int) by omega] at this)
      have w1x : IntKind.u8.wrap ((l[j].toNat : Int) - 48) = (c : Int) := by rw [hcI, IntKind.wrap_u8]; omega
      go_wp2_with (first
        | (go_at_call 32; (with_reducible refine kM.out.mono ?_); rintro e w2 ⟨rfl, hI2, xt2⟩; have y0 := (xt2.cell (p := ⟨B0, 1, none⟩) yl hne).trans y0; have yl := Nat.lt_of_lt_of_le yl xt2.size)
        | (go_at_call 25; (with_reducible refine (kC.out _).mono ?_); rintro e w3 ⟨g3, rfl, hI3, hg3, xb3⟩; have y0 := (Below.cell (p := ⟨B0, 1, none⟩) xb3 yl).trans y0; have yl := Nat.lt_of_lt_of_le yl (ext_size xb3))
        | (go_at_call 33; (with_reducible refine (kA.out _ _ _ _ (hI2.out.ext xb3) hI3.out).mono ?_); rintro e w4 ⟨rfl, hI4, xt4⟩))
      case roundEnd =>
        have hs2 : B0 ≤ w3.heap.size := Nat.le_of_lt yl
        exact ⟨⟨j + 1, by omega, by simp, hI4.out.weak hs2, ((ht.out.trans xt2).trans (Tch.of xb3)).trans xt4⟩, by simp [intOf]; omega⟩
    · have : j = l.length := by omega
      subst this
      rw [hll.out] at hI
      have hfin := Lib.hid (Tch.ext ht.out xV.out HW1.out)
      have hb1 := HB0.out
      subst hb1
      clear hval hlen hll
      go_wp2
      refine bodyPost_ret (v := .pointer (some ⟨b, 0, none⟩)) ?h rfl ⟨b, rfl, hI, HW1.out, hfin.out⟩
      case h => simp [results, Tryz.results17, go_sem]
end Go.Proofs.YtchchnohmmncfaaGreatDoor.NB
end
section
/- The document's answer for quick: its word. -/
namespace Go.Proofs.YtchchnohmmncfaaGreatDoor.NB
open Go.RowKit
attribute [local go_sem] bs_size bs_extract bs_get bs_append bs_toList const_get
attribute [local go_sem] sz2 sz3 sz4 sz5 sz6 sz7 sz8
set_option maxHeartbeats 8000000
set_option maxRecDepth 100000
attribute [local irreducible] Calls
theorem o_Exp (g b1 b2 lo lo2 B e : Nat) (hB : 1 ≤ B) (he : e < 4294967296) (hL : (lim (B ^ e)).length ≤ 20000) (hl : (lim B).length ≤ 1000000) (w : World) (hr : Room w g 0) (hx : Iat w b1 (B : Int) lo) (hy : Iat w b2 (e : Int) lo2) : Calls Tryz.prog 81 #[.pointer (some ⟨g, 0, none⟩), .pointer (some ⟨b1, 0, none⟩), .pointer (some ⟨b2, 0, none⟩), .pointer none] w (ITc w g ((B ^ e : Nat) : Int)) := by
  obtain ⟨A, n, c, hx, -⟩ := hx
  obtain ⟨D, m, d, hy, -⟩ := hy
  have l1 := hx.rd.len
  rw [Int.natAbs_natCast] at l1
  by_cases h0 : e = 0
  · subst h0
    rw [Nat.pow_zero]
    exact own_i (bi_Exp0 g b1 b2 B A n c D m d (by omega) w hr hx hy)
  · exact own_i (bi_Exp g b1 b2 B e hB (by omega) he A n c D m d hL (by omega) w hr hx hy)
theorem o_ICmp (b1 b2 lo lo2 : Nat) (x y : Int) (w : World) (hx : Iat w b1 x lo) (hy : Iat w b2 y lo2) : Calls Tryz.prog 49 #[.pointer (some ⟨b1, 0, none⟩), .pointer (some ⟨b2, 0, none⟩)] w fun e w' => e = .returned (.int .i64 (x - y).sign) ∧ Ext w w' := by
  obtain ⟨A, n, c, hx, -⟩ := hx
  obtain ⟨B, m, d, hy, -⟩ := hy
  exact bi_Cmp b1 0 b2 0 x y A n c B m d w hx hy
theorem r14_tens (n : Nat) (hn : n ≤ 16000) (w : World) : Calls Tryz.prog 48 #[.int .i64 (n : Int)] w (IPs w ((10 ^ n : Nat) : Int)) := by
  have lten : (lim 10).length = 1 := by kernel_rfl
  have hL := ten_len n hn
  have k1 := Lib.hid (fun w => o_NewInt 10 (by decide) (by decide) w)
  have k2 := Lib.hid (fun w => o_NewInt (n : Int) (by omega) (by omega) w)
  have k3 := Lib.hid (fun u g1 g2 lo lo2 (he : Ext (newInt w) u) (h1 : Iat u g1 10 lo) (h2 : Iat u g2 (n : Int) lo2) => show Calls Tryz.prog 81 #[.pointer (some ⟨w.heap.size, 0, none⟩), .pointer (some ⟨g1, 0, none⟩), .pointer (some ⟨g2, 0, none⟩), .pointer none] u (ITc u w.heap.size ((10 ^ n : Nat) : Int)) from
    o_Exp w.heap.size g1 g2 lo lo2 10 n (by decide) (by omega) (by omega) (by omega) u ((room_int w).ext he) h1 h2)
  have hs := hn
  generalize (10 ^ n : Nat) = P at *
  go_enter Tryz.func48, Tryz.ntmps48
  go_wp2_with (first
    | (go_at_call 25; (with_reducible refine (k1.out _).mono ?_); rintro e w1 ⟨g1, rfl, hI1, hg1, xb1⟩)
    | (go_at_call 25; (with_reducible refine (k2.out _).mono ?_); rintro e w2 ⟨g2, rfl, hI2, hg2, xb2⟩)
    | (go_at_call 81; (with_reducible refine (k3.out _ _ _ _ _ (ext_trans xb1 xb2) (hI1.out.ext xb2) hI2.out).mono ?_); rintro e w3 ⟨rfl, hI3, xt3⟩))
  have hx2 : Ext w w2 := ext_trans (ext_trans (ext_alloc (ext_refl w) _) xb1) xb2
  refine bodyPost_ret (v := .pointer (some ⟨w.heap.size, 0, none⟩)) ?h rfl ⟨w.heap.size, rfl, hI3.out.weak (ext_size hx2), Nat.le_refl _, Tch.ext xt3 hx2 (Nat.le_refl _)⟩
  case h => simp [results, Tryz.results48, go_sem]
theorem ask_no (d : Dc) (W P M : Nat) (h : dcE d ≠ 0) : askB d W P M = false := by
  unfold askB; rw [decide_eq_false h]; rfl
theorem ask_long {d : Dc} {W P M : Nat} (hW : W ≤ 9007199254740992) (h : dcE d = 0) (hl : 30 < d.dig.length) : askB d W P M = false := by
  have h0 : d.dig ≠ [] := by intro e; rw [e] at hl; simp at hl
  have h1 : 10 ^ (d.dig.length - 1) ≤ dval d.dig := by
    have := (mag_top h h0 (Int.le_refl d.exp)).1
    unfold mag at this
    rw [show (d.exp + (d.dig.length : Int) - 1 - d.exp).toNat = d.dig.length - 1 by omega, show (d.exp - d.exp).toNat = 0 by omega, Nat.pow_zero, Nat.mul_one] at this
    exact this
  unfold askB
  have h2 : 10 ^ 30 ≤ 10 ^ (d.dig.length - 1) := Nat.pow_le_pow_right (by decide) (by omega)
  have e30 : (10 : Nat) ^ 30 = 1000000000000000000000000000000 := by decide
  have h3 : dval d.dig ≤ dval d.dig * 10 ^ askK d P := Nat.le_mul_of_pos_right _ (Nat.pow_pos (by decide))
  rw [decide_eq_false h0, decide_eq_false (show ¬ dval d.dig * 10 ^ askK d P ≤ W by omega)]
  simp
theorem ask_far {d : Dc} {W P M : Nat} (h0 : d.dig ≠ []) (h : d.exp < -(P : Int) ∨ (M : Int) < d.exp) : askB d W P M = false := by
  unfold askB
  rw [decide_eq_false h0]
  rcases h with h | h
  · rw [decide_eq_false (show ¬ -(P : Int) ≤ d.exp by omega)]; simp
  · rw [decide_eq_false (show ¬ d.exp ≤ (M : Int) by omega)]; simp
theorem ask_yes {d : Dc} {W P M : Nat} (hc : dcE d = 0) (h0 : d.dig ≠ []) (h1 : -(P : Int) ≤ d.exp) (h2 : d.exp ≤ (M : Int)) : askB d W P M = decide (dval d.dig * 10 ^ askK d P ≤ W) := by
  unfold askB
  rw [decide_eq_true hc, decide_eq_false h0, decide_eq_true h1, decide_eq_true h2]
  simp
theorem r14_quick (neg : Bool) (l : List UInt8) (exp : Int) (whole power more : Nat) (hl : l.length ≤ 9223372036854775807) (hw : whole ≤ 9007199254740992) (hp : power ≤ 22) (hm : more ≤ 37) (g lo : Nat) (w : World) (hI : Iat w g (whole : Int) lo) : Calls Tryz.prog 24 #[dcV ⟨neg, l, exp⟩, .pointer (some ⟨g, 0, none⟩), .int .i64 (power : Int), .int .i64 (more : Int)] w fun e w' => e = .returned (.bool (askB ⟨neg, l, exp⟩ whole power more)) ∧ Ext w w' := by
  have kM := Lib.hid (fun w => r11_May neg l exp hl w)
  by_cases hc : dcE ⟨neg, l, exp⟩ = 0
  · rw [decide_eq_true hc] at kM
    by_cases h0 : l.length = 0
    · obtain rfl : l = [] := List.eq_nil_of_length_eq_zero h0
      have hX : askB ⟨neg, [], exp⟩ whole power more = true := by
        unfold askB
        rw [decide_eq_true hc]
        simp
      rw [hX]
      clear hX hc hl
      go_enter Tryz.func24, Tryz.ntmps24
      go_wp2_with (first
        | (go_at_call 47; (with_reducible refine (kM.out _).mono ?_); rintro e w1 ⟨rfl, xb1⟩; obtain ⟨xc1, xf1, xl1, xz1⟩ := ext_use xb1; (try simp at xz1); obtain ⟨l1_0, gc, gf⟩ := kp xb1 (w.heap.size) (by first | omega | (simp; try omega)); have r1_0 := gc 0; have f1_0 := gf 0; have r1_0_1 := gc 1; have f1_0_1 := gf 1; have r1_0_2 := gc 2; have f1_0_2 := gf 2; clear gc gf)
       )
      refine bodyPost_ret (v := .bool true) ?h rfl ⟨rfl, ?_⟩
      case h => simp [results, Tryz.results24, go_sem]
      repeat (first | exact ext_refl _ | assumption | refine ext_setCell ?_ (by simp; try omega) _ | refine ext_alloc ?_ _ | refine ext_drew ?_ | refine ext_drewN ?_ _ | refine ext_trans ?_ (Aft.use _) | refine ext_trans ?_ (by assumption))
    have hem : l.isEmpty = false := by
      cases l with
      | nil => simp at h0
      | cons a t => rfl
    have hne : l ≠ [] := by intro e; subst e; simp at h0
    by_cases h1 : 30 < l.length
    · rw [ask_long hw hc h1]
      clear hc hl
      go_enter Tryz.func24, Tryz.ntmps24
      go_wp2_with (first
        | (go_at_call 47; (with_reducible refine (kM.out _).mono ?_); rintro e w1 ⟨rfl, xb1⟩; obtain ⟨xc1, xf1, xl1, xz1⟩ := ext_use xb1; (try simp at xz1); obtain ⟨l1_0, gc, gf⟩ := kp xb1 (w.heap.size) (by first | omega | (simp; try omega)); have r1_0 := gc 0; have f1_0 := gf 0; have r1_0_1 := gc 1; have f1_0_1 := gf 1; have r1_0_2 := gc 2; have f1_0_2 := gf 2; clear gc gf)
       )
      refine bodyPost_ret (v := .bool false) ?h rfl ⟨rfl, ?_⟩
      case h => simp [results, Tryz.results24, go_sem]
      repeat (first | exact ext_refl _ | assumption | refine ext_setCell ?_ (by simp; try omega) _ | refine ext_alloc ?_ _ | refine ext_drew ?_ | refine ext_drewN ?_ _ | refine ext_trans ?_ (Aft.use _) | refine ext_trans ?_ (by assumption))
    by_cases h2 : exp < -(power : Int)
    · rw [ask_far hne (.inl h2)]
      clear hc hl
      go_enter Tryz.func24, Tryz.ntmps24
      go_wp2_with (first
        | (go_at_call 47; (with_reducible refine (kM.out _).mono ?_); rintro e w1 ⟨rfl, xb1⟩; obtain ⟨xc1, xf1, xl1, xz1⟩ := ext_use xb1; (try simp at xz1); obtain ⟨l1_0, gc, gf⟩ := kp xb1 (w.heap.size) (by first | omega | (simp; try omega)); have r1_0 := gc 0; have f1_0 := gf 0; have r1_0_1 := gc 1; have f1_0_1 := gf 1; have r1_0_2 := gc 2; have f1_0_2 := gf 2; clear gc gf)
       )
      refine bodyPost_ret (v := .bool false) ?h rfl ⟨rfl, ?_⟩
      case h => simp [results, Tryz.results24, go_sem]
      repeat (first | exact ext_refl _ | assumption | refine ext_setCell ?_ (by simp; try omega) _ | refine ext_alloc ?_ _ | refine ext_drew ?_ | refine ext_drewN ?_ _ | refine ext_trans ?_ (Aft.use _) | refine ext_trans ?_ (by assumption))
    by_cases h3 : (more : Int) < exp
    · rw [ask_far hne (.inr h3)]
      clear hc hl
      go_enter Tryz.func24, Tryz.ntmps24
      go_wp2_with (first
        | (go_at_call 47; (with_reducible refine (kM.out _).mono ?_); rintro e w1 ⟨rfl, xb1⟩; obtain ⟨xc1, xf1, xl1, xz1⟩ := ext_use xb1; (try simp at xz1); obtain ⟨l1_0, gc, gf⟩ := kp xb1 (w.heap.size) (by first | omega | (simp; try omega)); have r1_0 := gc 0; have f1_0 := gf 0; have r1_0_1 := gc 1; have f1_0_1 := gf 1; have r1_0_2 := gc 2; have f1_0_2 := gf 2; clear gc gf)
       )
      refine bodyPost_ret (v := .bool false) ?h rfl ⟨rfl, ?_⟩
      case h => simp [results, Tryz.results24, go_sem]
      repeat (first | exact ext_refl _ | assumption | refine ext_setCell ?_ (by simp; try omega) _ | refine ext_alloc ?_ _ | refine ext_drew ?_ | refine ext_drewN ?_ _ | refine ext_trans ?_ (Aft.use _) | refine ext_trans ?_ (by assumption))
    have hd : digsB l = true := (dc_ok hc (Nat.pos_of_ne_zero h0)).digs
    rw [ask_yes hc hne (Int.not_lt.1 h2) (Int.not_lt.1 h3)]
    have kN := Lib.hid (fun w => r14_Number neg l exp (by omega) hd w)
    have ln : (lim (dval l)).length ≤ 31 := Nat.le_trans (dval_len l hd) (by omega)
    obtain ⟨k, hk⟩ : ∃ k, askK ⟨neg, l, exp⟩ power = k := ⟨_, rfl⟩
    have hkI : k = (exp - (power : Int)).toNat := hk.symm
    rw [hk]
    obtain ⟨X, hX⟩ : ∃ X, decide (dval l * 10 ^ k ≤ whole) = X := ⟨_, rfl⟩
    rw [hX]
    obtain ⟨S, hS⟩ : ∃ S, (((dval l * 10 ^ k : Nat) : Int) - (whole : Int)).sign = S := ⟨_, rfl⟩
    have hXd : decide (S ≤ 0) = X := by
      rw [← hX, ← hS, decide_eq_decide]
      constructor
      · intro q
        have : ¬ 0 < ((dval l * 10 ^ k : Nat) : Int) - (whole : Int) := fun r => by rw [Int.sign_eq_one_of_pos r] at q; omega
        omega
      · intro q
        have : ((dval l * 10 ^ k : Nat) : Int) - (whole : Int) ≤ 0 := by omega
        exact Int.sign_nonpos_iff.2 this
    have kC := Lib.hid (fun u g1 lo1 (he : Ext w u) (h : Iat u g1 ((dval l * 10 ^ k : Nat) : Int) lo1) => show Calls Tryz.prog 49 #[.pointer (some ⟨g1, 0, none⟩), .pointer (some ⟨g, 0, none⟩)] u fun e w' => e = .returned (.int .i64 S) ∧ Ext u w' by
      have := o_ICmp g1 g lo1 lo _ _ u h (hI.ext he); rwa [hS] at this)
    clear hS
    by_cases h4 : (power : Int) < exp
    · have hke : exp - (power : Int) = (k : Int) := by omega
      have lt10 := ten_len k (by omega)
      have kT := Lib.hid (fun w => r14_tens k (by omega) w)
      have kX := Lib.hid (fun u g1 g2 lo1 lo2 (h : Iat u g1 ((dval l : Nat) : Int) lo1) (h' : Iat u g2 ((10 ^ k : Nat) : Int) lo2) => show Calls Tryz.prog 32 #[.pointer (some ⟨g1, 0, none⟩), .pointer (some ⟨g1, 0, none⟩), .pointer (some ⟨g2, 0, none⟩)] u (ITc u g1 ((dval l * 10 ^ k : Nat) : Int)) by
        have := o_IMul g1 g1 g2 lo1 lo2 _ _ (by rw [Int.natAbs_natCast]; omega) (by rw [Int.natAbs_natCast]; omega) u h.room h h'
        rwa [← Int.natCast_mul] at this)
      have hkw : IntKind.i64.wrap (exp - (power : Int)) = (k : Int) := by rw [hke, IntKind.wrap_i64]; omega
      clear hke hkI hX hk hc hl hd ln lt10 hI
      generalize (dval l * 10 ^ k : Nat) = Y at *
      generalize (10 ^ k : Nat) = P at *
      generalize dval l = N at *
      go_enter Tryz.func24, Tryz.ntmps24
      go_upto_region 1 with fail
      obtain ⟨W, hW⟩ : ∃ W, W = w.alloc (.cells #[.bool neg, .string (bs l), .int .i64 exp] 32) := ⟨_, rfl⟩
      obtain ⟨B0, hB0⟩ : ∃ B0, w.heap.size = B0 := ⟨_, rfl⟩
      have xW : Ext w W := by rw [hW]; exact ext_alloc (ext_refl _) _
      have bx : Hid (∀ u, Ext W u → u.cell? ⟨B0, 0, none⟩ = some (.bool neg) ∧ u.cell? ⟨B0, 1, none⟩ = some (.string (bs l)) ∧ u.cell? ⟨B0, 2, none⟩ = some (.int .i64 exp) ∧ B0 < u.heap.size) := Lib.hid fun u hu => by
        have l0 : B0 < W.heap.size := by rw [hW, ← hB0]; simp
        refine ⟨(Below.cell (p := ⟨B0, 0, none⟩) hu l0).trans ?_, (Below.cell (p := ⟨B0, 1, none⟩) hu l0).trans ?_, (Below.cell (p := ⟨B0, 2, none⟩) hu l0).trans ?_, Nat.lt_of_lt_of_le l0 (ext_size hu)⟩
        all_goals (rw [hW, ← hB0]; simp [go_sem])
      obtain ⟨c0, c1, c2, cl⟩ := bx.out W (ext_refl _)
      rw [← hW, hB0]
      clear hW
      go_wp2_with (first
        | (go_at_call 47; (with_reducible refine (kM.out _).mono ?_); rintro e w1 ⟨rfl, xb1⟩; have hX1 : Ext W w1 := xb1; obtain ⟨c0, c1, c2, cl⟩ := bx.out w1 hX1)
        | (go_at_call 17; (with_reducible refine (kN.out _).mono ?_); rintro e w2 ⟨g2, rfl, hI2, hg2, xb2⟩; have hX2 : Ext W w2 := ext_trans hX1 xb2; have hX3 := hX2; have hI3 := hI2; obtain ⟨c0, c1, c2, cl⟩ := bx.out w2 hX2)
        | (go_at_call 48; (with_reducible refine (kT.out _).mono ?_); rintro e w3 ⟨g3, rfl, hI3, hg3, xb3⟩; have hX3 : Ext W w3 := ext_trans hX2 xb3; obtain ⟨c0, c1, c2, cl⟩ := bx.out w3 hX3)
        | (go_at_call 32; (with_reducible refine (kX.out _ _ _ _ _ (hI2.out.ext xb3) hI3.out).mono ?_); rintro e w4 ⟨rfl, hI3, xt4⟩; have hX3 : Ext W w4 := Tch.ext xt4 hX3 (Nat.le_trans (ext_size hX1) hg2); obtain ⟨c0, c1, c2, cl⟩ := bx.out w4 hX3)
        | (go_at_call 49; (with_reducible refine (kC.out _ _ _ (ext_trans xW hX3) hI3.out).mono ?_); rintro e w5 ⟨rfl, xb5⟩; have hX5 : Ext W w5 := ext_trans hX3 xb5))
      refine bodyPost_ret (v := .bool X) ?h rfl ⟨rfl, ext_trans xW hX5⟩
      case h => simp [results, Tryz.results24, go_sem, hXd]
    · have hk0 : k = 0 := by omega
      subst hk0
      rw [Nat.pow_zero, Nat.mul_one] at kC
      clear hkI hX hk hc hl hd ln hI
      generalize dval l = N at *
      go_enter Tryz.func24, Tryz.ntmps24
      go_upto_region 1 with fail
      obtain ⟨W, hW⟩ : ∃ W, W = w.alloc (.cells #[.bool neg, .string (bs l), .int .i64 exp] 32) := ⟨_, rfl⟩
      obtain ⟨B0, hB0⟩ : ∃ B0, w.heap.size = B0 := ⟨_, rfl⟩
      have xW : Ext w W := by rw [hW]; exact ext_alloc (ext_refl _) _
      have bx : Hid (∀ u, Ext W u → u.cell? ⟨B0, 0, none⟩ = some (.bool neg) ∧ u.cell? ⟨B0, 1, none⟩ = some (.string (bs l)) ∧ u.cell? ⟨B0, 2, none⟩ = some (.int .i64 exp) ∧ B0 < u.heap.size) := Lib.hid fun u hu => by
        have l0 : B0 < W.heap.size := by rw [hW, ← hB0]; simp
        refine ⟨(Below.cell (p := ⟨B0, 0, none⟩) hu l0).trans ?_, (Below.cell (p := ⟨B0, 1, none⟩) hu l0).trans ?_, (Below.cell (p := ⟨B0, 2, none⟩) hu l0).trans ?_, Nat.lt_of_lt_of_le l0 (ext_size hu)⟩
        all_goals (rw [hW, ← hB0]; simp [go_sem])
      obtain ⟨c0, c1, c2, cl⟩ := bx.out W (ext_refl _)
      rw [← hW, hB0]
      clear hW
      go_wp2_with (first
        | (go_at_call 47; (with_reducible refine (kM.out _).mono ?_); rintro e w1 ⟨rfl, xb1⟩; have hX1 : Ext W w1 := xb1; obtain ⟨c0, c1, c2, cl⟩ := bx.out w1 hX1)
        | (go_at_call 17; (with_reducible refine (kN.out _).mono ?_); rintro e w2 ⟨g2, rfl, hI2, hg2, xb2⟩; have hX2 : Ext W w2 := ext_trans hX1 xb2; have hX3 := hX2; have hI3 := hI2; obtain ⟨c0, c1, c2, cl⟩ := bx.out w2 hX2)
        | (go_at_call 49; (with_reducible refine (kC.out _ _ _ (ext_trans xW hX3) hI3.out).mono ?_); rintro e w5 ⟨rfl, xb5⟩; have hX5 : Ext W w5 := ext_trans hX3 xb5))
      refine bodyPost_ret (v := .bool X) ?h rfl ⟨rfl, ext_trans xW hX5⟩
      case h => simp [results, Tryz.results24, go_sem, hXd]
  · rw [decide_eq_false hc] at kM
    rw [ask_no _ _ _ _ hc]
    clear hc hl
    go_enter Tryz.func24, Tryz.ntmps24
    go_wp2_with (first
      | (go_at_call 47; (with_reducible refine (kM.out _).mono ?_); rintro e w1 ⟨rfl, xb1⟩; obtain ⟨xc1, xf1, xl1, xz1⟩ := ext_use xb1; (try simp at xz1); obtain ⟨l1_0, gc, gf⟩ := kp xb1 (w.heap.size) (by first | omega | (simp; try omega)); have r1_0 := gc 0; have f1_0 := gf 0; have r1_0_1 := gc 1; have f1_0_1 := gf 1; have r1_0_2 := gc 2; have f1_0_2 := gf 2; clear gc gf)
     )
    refine bodyPost_ret (v := .bool false) ?h rfl ⟨rfl, ?_⟩
    case h => simp [results, Tryz.results24, go_sem]
    repeat (first | exact ext_refl _ | assumption | refine ext_setCell ?_ (by simp; try omega) _ | refine ext_alloc ?_ _ | refine ext_drew ?_ | refine ext_drewN ?_ _ | refine ext_trans ?_ (Aft.use _) | refine ext_trans ?_ (by assumption))
end Go.Proofs.YtchchnohmmncfaaGreatDoor.NB
end
section
/- The document's worth of a decimal. -/
namespace Go.Proofs.YtchchnohmmncfaaGreatDoor.NB
open Go.RowKit
attribute [local go_sem] bs_size bs_extract bs_get bs_append bs_toList const_get
attribute [local go_sem] sz2 sz3 sz4 sz5 sz6 sz7 sz8
set_option maxHeartbeats 8000000
set_option maxRecDepth 100000
attribute [local irreducible] Calls
theorem r5_Near (n m : Int) (hn : -1500 ≤ n ∧ n ≤ 1500) (hm : 0 ≤ m ∧ m ≤ 100000000) (w : World) : Calls Tryz.prog 83 #[.int .i64 n, .int .i64 m] w fun e w' => e = .returned (.int .i64 n) ∧ Ext w w' := by
  obtain ⟨n1, n2⟩ := hn
  obtain ⟨m1, m2⟩ := hm
  have h1 : IntKind.i64.wrap (m + 1500) = m + 1500 := by rw [IntKind.wrap_i64]; omega
  have h2 : IntKind.i64.wrap (-(m + 1500)) = -(m + 1500) := by rw [IntKind.wrap_i64]; omega
  have h3 : min n (m + 1500) = n := by omega
  have h4 : max (-(m + 1500)) n = n := by omega
  go_enter Tryz.func83, Tryz.ntmps83
  go_wp2
  refine bodyPost_ret (v := .int .i64 n) ?h rfl ⟨rfl, ext_refl _⟩
  case h => simp [results, Tryz.results83, go_sem, h1]
theorem r5_Tens (b lo : Nat) (z n : Int) (hn : -1500 ≤ n ∧ n ≤ 1500) (lz : (lim z.natAbs).length ≤ 20000) (w : World) (hT : Tz w) (hx : Qat w b z 1 lo) : Calls Tryz.prog 52 #[.pointer (some ⟨b, 0, none⟩), .int .i64 n] w (QPs w (canN (z * ((10 ^ n.toNat : Nat) : Int)) (10 ^ (-n).toNat)) (canD (z * ((10 ^ n.toNat : Nat) : Int)) (10 ^ (-n).toNat))) := by
  have lten : (lim 10).length = 1 := by kernel_rfl
  have lone : (lim 1).length = 1 := by kernel_rfl
  obtain ⟨K, hK⟩ : ∃ K : Nat, n.natAbs = K := ⟨_, rfl⟩
  have hmx : max n (-n) = (K : Int) := by omega
  have lP := ten_len K (by omega)
  have hp0 := Nat.pow_pos (n := K) (show 0 < 10 by decide)
  obtain ⟨zb, hzb⟩ : ∃ zb, bitsOf z.natAbs = zb := ⟨_, rfl⟩
  obtain ⟨ob, hob⟩ : ∃ ob, bitsOf 1 = ob := ⟨_, rfl⟩
  have hzb2 : zb ≤ 20000 * 32 := by have := (lim_bytes z.natAbs).1; omega
  have hob2 : ob ≤ 32 := by have := (lim_bytes 1).1; omega
  have hzI : (zb : Int) ≤ 640000 := by omega
  have hoI : (ob : Int) ≤ 32 := by omega
  have kN := Lib.hid (fun u (he : Ext w u) => o_Num b lo z 1 (by omega) u (hx.ext he))
  have kD := Lib.hid (fun u (he : Ext w u) => o_Denom b lo z 1 (by omega) u (hx.ext he))
  have kB1 := Lib.hid (fun u g l (h : Iat u g z l) => show Calls Tryz.prog 69 #[.pointer (some ⟨g, 0, none⟩)] u fun e w' => e = .returned (.int .i64 (zb : Int)) ∧ Ext u w' by
    have := o_BitLen g l z (by omega) u h; rwa [hzb] at this)
  have kB2 := Lib.hid (fun u g l (h : Iat u g ((1 : Nat) : Int) l) => show Calls Tryz.prog 69 #[.pointer (some ⟨g, 0, none⟩)] u fun e w' => e = .returned (.int .i64 (ob : Int)) ∧ Ext u w' by
    have := o_BitLen g l ((1 : Nat) : Int) (by rw [Int.natAbs_natCast]; omega) u h; rwa [Int.natAbs_natCast, hob] at this)
  have kR := Lib.hid (fun u => r5_Near n ((zb : Int) + (ob : Int)) hn (by omega) u)
  have k10 := Lib.hid (fun w => o_NewInt 10 (by decide) (by decide) w)
  have kK := Lib.hid (fun w => o_NewInt (K : Int) (by omega) (by omega) w)
  have kE := Lib.hid (fun v u g1 g2 lo lo2 (he : Ext (newInt (newRat v)) u) (h1 : Iat u g1 10 lo) (h2 : Iat u g2 (K : Int) lo2) => show Calls Tryz.prog 81 #[.pointer (some ⟨v.heap.size + 1, 0, none⟩), .pointer (some ⟨g1, 0, none⟩), .pointer (some ⟨g2, 0, none⟩), .pointer none] u (ITc u (v.heap.size + 1) ((10 ^ K : Nat) : Int)) by
    have hr := room_int (newRat v)
    rw [show (newRat v).heap.size = v.heap.size + 1 by simp] at hr
    exact o_Exp (v.heap.size + 1) g1 g2 lo lo2 10 K (by decide) (by omega) (by omega) (by omega) u (hr.ext he) h1 h2)
  have kS := Lib.hid (fun v u u2 lo (he : Ext (newInt (newRat v)) u) (ht : Tch (v.heap.size + 1) u u2) (h : Iat u2 (v.heap.size + 1) ((10 ^ K : Nat) : Int) lo) => show Calls Tryz.prog 20 #[.pointer (some ⟨v.heap.size, 0, none⟩), .pointer (some ⟨v.heap.size + 1, 0, none⟩)] u2 (QTc u2 v.heap.size ((10 ^ K : Nat) : Int) 1) from
    o_SetInt v.heap.size (v.heap.size + 1) lo _ (by rw [Int.natAbs_natCast]; omega) u2 (room_tch ((room_rat v).ext (ext_trans (ext_alloc (ext_refl _) _) he)) ht (by omega)) h)
  have kQ := Lib.hid (fun u g l (he : Ext w u) (h : Qat u g ((10 ^ K : Nat) : Int) 1 l) => show Calls Tryz.prog 84 #[.pointer (some ⟨u.heap.size, 0, none⟩), .pointer (some ⟨b, 0, none⟩), .pointer (some ⟨g, 0, none⟩)] (newRat u) (QTc (newRat u) u.heap.size (canN z (10 ^ K)) (canD z (10 ^ K))) by
    have hE := ext_alloc (ext_refl u) (Obj.cells #[.bool false, .slice none 0 0, .slice none 0 0] 54)
    have := o_Quo u.heap.size b g lo l z ((10 ^ K : Nat) : Int) 1 1 (by omega) (by omega) (by omega) (by rw [Int.natAbs_natCast]; omega) (by omega) (newRat u) (hT.ext (ext_trans he hE)) (room_rat u) (hx.ext (ext_trans he hE)) (h.ext hE)
    rwa [show ((1 : Nat) : Int) = 1 from rfl, Int.mul_one, Nat.one_mul, Int.natAbs_natCast] at this)
  have kX := Lib.hid (fun u g l (he : Ext w u) (h : Qat u g ((10 ^ K : Nat) : Int) 1 l) => show Calls Tryz.prog 73 #[.pointer (some ⟨u.heap.size, 0, none⟩), .pointer (some ⟨b, 0, none⟩), .pointer (some ⟨g, 0, none⟩)] (newRat u) (QTc (newRat u) u.heap.size (canN (z * ((10 ^ K : Nat) : Int)) 1) (canD (z * ((10 ^ K : Nat) : Int)) 1)) by
    have hE := ext_alloc (ext_refl u) (Obj.cells #[.bool false, .slice none 0 0, .slice none 0 0] 54)
    have := o_Mul u.heap.size b g lo l z ((10 ^ K : Nat) : Int) 1 1 (by omega) (by omega) (by rw [Int.natAbs_natCast]; omega) (by omega) (newRat u) (hT.ext (ext_trans he hE)) (room_rat u) (hx.ext (ext_trans he hE)) (h.ext hE)
    rwa [Nat.one_mul] at this)
  have hw1 : IntKind.i64.wrap (-n) = -n := by rw [IntKind.wrap_i64]; omega
  have hw2 : IntKind.i64.wrap ((zb : Int) + (ob : Int)) = (zb : Int) + (ob : Int) := by rw [IntKind.wrap_i64]; omega
  obtain ⟨n1, n2⟩ := hn
  obtain ⟨A, hA⟩ : ∃ A, canN (z * ((10 ^ n.toNat : Nat) : Int)) (10 ^ (-n).toNat) = A := ⟨_, rfl⟩
  obtain ⟨D, hD⟩ : ∃ D, canD (z * ((10 ^ n.toNat : Nat) : Int)) (10 ^ (-n).toNat) = D := ⟨_, rfl⟩
  rw [hA, hD]
  clear lz hx hT hzb hob lten lone hzb2 hob2 lP
  by_cases hneg : n < 0
  · rw [show n.toNat = 0 by omega, show (-n).toNat = K by omega, Nat.pow_zero, show ((1 : Nat) : Int) = 1 from rfl, Int.mul_one] at hA hD
    rw [hA, hD] at kQ
    clear kX hA hD hK hp0
    generalize (10 ^ K : Nat) = P at *
    go_enter Tryz.func52, Tryz.ntmps52
    go_wp2_with (first
      | (go_at_call 68; (with_reducible refine (kN.out _ (ext_refl _)).mono ?_); rintro e w1 ⟨g1, rfl, hI1, hg1, xb1⟩)
      | (go_at_call 69; (with_reducible refine (kB1.out _ _ _ hI1.out).mono ?_); rintro e w2 ⟨rfl, xb2⟩; have hX2 := ext_trans xb1 xb2)
      | (go_at_call 70; (with_reducible refine (kD.out _ hX2).mono ?_); rintro e w3 ⟨g3, rfl, hI3, hg3, xb3⟩; have hX3 := ext_trans hX2 xb3)
      | (go_at_call 69; (with_reducible refine (kB2.out _ _ _ hI3.out).mono ?_); rintro e w4 ⟨rfl, xb4⟩; have hX4 := ext_trans hX3 xb4)
      | (go_at_call 83; (with_reducible refine (kR.out _).mono ?_); rintro e w5 ⟨rfl, xb5⟩; have hX5 := ext_trans hX4 xb5)
      | (go_at_call 25; (with_reducible refine (k10.out _).mono ?_); rintro e w6 ⟨g6, rfl, hI6, hg6, xb6⟩)
      | (go_at_call 25; (with_reducible refine (kK.out _).mono ?_); rintro e w7 ⟨g7, rfl, hI7, hg7, xb7⟩)
      | (go_at_call 81; (with_reducible refine (kE.out _ _ _ _ _ _ (ext_trans xb6 xb7) (hI6.out.ext xb7) hI7.out).mono ?_); rintro e w8 ⟨rfl, hI8, xt8⟩)
      | (go_at_call 20; (with_reducible refine (kS.out _ _ _ _ (ext_trans xb6 xb7) xt8 hI8.out).mono ?_); rintro e w9 ⟨rfl, hQ9, xt9⟩; have h57 : Ext w5 w7 := ext_trans (ext_trans (ext_alloc (ext_alloc (ext_refl _) _) _) xb6) xb7; have hX9 : Ext w w9 := Tch.ext xt9 (Tch.ext xt8 (ext_trans hX5 h57) (Nat.le_trans (ext_size hX5) (Nat.le_succ _))) (ext_size hX5))
      | (go_at_call 84; (with_reducible refine (kQ.out _ _ _ hX9 hQ9.out).mono ?_); rintro e w10 ⟨rfl, hQ10, xt10⟩))
    have hX10 : Ext w w10 := Tch.ext xt10 (ext_trans hX9 (ext_alloc (ext_refl _) _)) (ext_size hX9)
    have hs9 := ext_size hX9
    refine bodyPost_ret (v := .pointer (some ⟨w9.heap.size, 0, none⟩)) ?h rfl ⟨w9.heap.size, rfl, hQ10.out.weak (Nat.le_trans hs9 (by simp)), hs9, hX10⟩
    case h => simp [results, Tryz.results52, go_sem]
  · rw [show n.toNat = K by omega, show (-n).toNat = 0 by omega, Nat.pow_zero] at hA hD
    rw [hA, hD] at kX
    clear kQ hA hD hK hp0
    generalize (10 ^ K : Nat) = P at *
    go_enter Tryz.func52, Tryz.ntmps52
    go_wp2_with (first
      | (go_at_call 68; (with_reducible refine (kN.out _ (ext_refl _)).mono ?_); rintro e w1 ⟨g1, rfl, hI1, hg1, xb1⟩)
      | (go_at_call 69; (with_reducible refine (kB1.out _ _ _ hI1.out).mono ?_); rintro e w2 ⟨rfl, xb2⟩; have hX2 := ext_trans xb1 xb2)
      | (go_at_call 70; (with_reducible refine (kD.out _ hX2).mono ?_); rintro e w3 ⟨g3, rfl, hI3, hg3, xb3⟩; have hX3 := ext_trans hX2 xb3)
      | (go_at_call 69; (with_reducible refine (kB2.out _ _ _ hI3.out).mono ?_); rintro e w4 ⟨rfl, xb4⟩; have hX4 := ext_trans hX3 xb4)
      | (go_at_call 83; (with_reducible refine (kR.out _).mono ?_); rintro e w5 ⟨rfl, xb5⟩; have hX5 := ext_trans hX4 xb5)
      | (go_at_call 25; (with_reducible refine (k10.out _).mono ?_); rintro e w6 ⟨g6, rfl, hI6, hg6, xb6⟩)
      | (go_at_call 25; (with_reducible refine (kK.out _).mono ?_); rintro e w7 ⟨g7, rfl, hI7, hg7, xb7⟩)
      | (go_at_call 81; (with_reducible refine (kE.out _ _ _ _ _ _ (ext_trans xb6 xb7) (hI6.out.ext xb7) hI7.out).mono ?_); rintro e w8 ⟨rfl, hI8, xt8⟩)
      | (go_at_call 20; (with_reducible refine (kS.out _ _ _ _ (ext_trans xb6 xb7) xt8 hI8.out).mono ?_); rintro e w9 ⟨rfl, hQ9, xt9⟩; have h57 : Ext w5 w7 := ext_trans (ext_trans (ext_alloc (ext_alloc (ext_refl _) _) _) xb6) xb7; have hX9 : Ext w w9 := Tch.ext xt9 (Tch.ext xt8 (ext_trans hX5 h57) (Nat.le_trans (ext_size hX5) (Nat.le_succ _))) (ext_size hX5))
      | (go_at_call 73; (with_reducible refine (kX.out _ _ _ hX9 hQ9.out).mono ?_); rintro e w10 ⟨rfl, hQ10, xt10⟩))
    have hX10 : Ext w w10 := Tch.ext xt10 (ext_trans hX9 (ext_alloc (ext_refl _) _)) (ext_size hX9)
    have hs9 := ext_size hX9
    refine bodyPost_ret (v := .pointer (some ⟨w9.heap.size, 0, none⟩)) ?h rfl ⟨w9.heap.size, rfl, hQ10.out.weak (Nat.le_trans hs9 (by simp)), hs9, hX10⟩
    case h => simp [results, Tryz.results52, go_sem]
theorem sgn_times (neg : Bool) (a b : Nat) : sgn neg a * (b : Int) = sgn neg (a * b : Nat) := by
  cases neg <;> simp [sgn, Int.neg_mul]
theorem r14_Worth (neg : Bool) (l : List UInt8) (exp : Int) (hl : l.length ≤ 20000) (hd : digsB l = true) (he : -1500 ≤ exp ∧ exp ≤ 1500) (w : World) (hT : Tz w) : Calls Tryz.prog 26 #[dcV ⟨neg, l, exp⟩] w (QPs w (canN (dz ⟨neg, l, exp⟩) (dp ⟨neg, l, exp⟩)) (canD (dz ⟨neg, l, exp⟩) (dp ⟨neg, l, exp⟩))) := by
  have lone : (lim 1).length = 1 := by kernel_rfl
  have ln : (lim (dval l)).length ≤ 20000 := Nat.le_trans (dval_len l hd) hl
  have ez : dz ⟨neg, l, exp⟩ = sgn neg (dval l) * ((10 ^ exp.toNat : Nat) : Int) := by rw [sgn_times]; rfl
  have ep : dp ⟨neg, l, exp⟩ = 10 ^ (-exp).toNat := rfl
  have kT := Lib.hid (fun u g lo (hE : Ext w u) (h : Qat u g (sgn neg (dval l)) 1 lo) => show Calls Tryz.prog 52 #[.pointer (some ⟨g, 0, none⟩), .int .i64 exp] u (QPs u (canN (dz ⟨neg, l, exp⟩) (dp ⟨neg, l, exp⟩)) (canD (dz ⟨neg, l, exp⟩) (dp ⟨neg, l, exp⟩))) by
    have := r5_Tens g lo (sgn neg (dval l)) exp he (by rw [sgn_abs]; omega) u (hT.ext hE) h
    rwa [← ez, ← ep] at this)
  have kN := Lib.hid (fun w => r14_Number neg l exp (by omega) hd w)
  have kS := Lib.hid (fun u g b lo (hr : RatRoom u g) (h : Iat u b ((dval l : Nat) : Int) lo) => o_SetInt g b lo ((dval l : Nat) : Int) (by rw [Int.natAbs_natCast]; omega) u hr h)
  have kG := Lib.hid (fun u b lo (h : Qat u b ((dval l : Nat) : Int) 1 lo) => o_Neg b lo ((dval l : Nat) : Int) 1 (by rw [Int.natAbs_natCast]; omega) (by omega) u h)
  obtain ⟨A, hA⟩ : ∃ A, canN (dz ⟨neg, l, exp⟩) (dp ⟨neg, l, exp⟩) = A := ⟨_, rfl⟩
  obtain ⟨D, hD⟩ : ∃ D, canD (dz ⟨neg, l, exp⟩) (dp ⟨neg, l, exp⟩) = D := ⟨_, rfl⟩
  rw [hA, hD] at kT ⊢
  clear hA hD ez ep lone ln hd hT hl
  cases neg with
  | true =>
    have kT : Hid (∀ u g lo, Ext w u → Qat u g (-((dval l : Nat) : Int)) 1 lo → Calls Tryz.prog 52 #[.pointer (some ⟨g, 0, none⟩), .int .i64 exp] u (QPs u A D)) := kT
    generalize dval l = N at *
    go_enter Tryz.func26, Tryz.ntmps26
    go_upto_region 1 with fail
    obtain ⟨W, hW⟩ : ∃ W, W = w.alloc (.cells #[.bool true, .string (bs l), .int .i64 exp] 32) := ⟨_, rfl⟩
    obtain ⟨B0, hB0⟩ : ∃ B0, w.heap.size = B0 := ⟨_, rfl⟩
    have xW : Ext w W := by rw [hW]; exact ext_alloc (ext_refl _) _
    have bx : Hid (∀ u, Ext W u → u.cell? ⟨B0, 0, none⟩ = some (.bool true) ∧ u.cell? ⟨B0, 1, none⟩ = some (.string (bs l)) ∧ u.cell? ⟨B0, 2, none⟩ = some (.int .i64 exp) ∧ B0 < u.heap.size) := Lib.hid fun u hu => by
      have l0 : B0 < W.heap.size := by rw [hW, ← hB0]; simp
      refine ⟨(Below.cell (p := ⟨B0, 0, none⟩) hu l0).trans ?_, (Below.cell (p := ⟨B0, 1, none⟩) hu l0).trans ?_, (Below.cell (p := ⟨B0, 2, none⟩) hu l0).trans ?_, Nat.lt_of_lt_of_le l0 (ext_size hu)⟩
      all_goals (rw [hW, ← hB0]; simp [go_sem])
    obtain ⟨c0, c1, c2, cl⟩ := bx.out W (ext_refl _)
    have hs0 : B0 ≤ W.heap.size := Nat.le_of_lt cl
    rw [← hW, hB0]
    clear hW
    have eN : Ext W (newRat W) := ext_alloc (ext_refl _) _
    obtain ⟨d0, d1, d2, dl⟩ := bx.out (newRat W) eN
    go_wp2_with (first
      | (go_at_call 17; (with_reducible refine (kN.out _).mono ?_); rintro e w2 ⟨g2, rfl, hI2, hg2, xb2⟩; have hX2 : Ext W w2 := ext_trans eN xb2; obtain ⟨c0, c1, c2, cl⟩ := bx.out w2 hX2)
      | (go_at_call 20; (with_reducible refine (kS.out _ _ _ _ ((room_rat W).ext xb2) hI2.out).mono ?_); rintro e w3 ⟨rfl, hQ3, xt3⟩; have hX3 : Ext W w3 := Tch.ext xt3 hX2 (Nat.le_refl _); obtain ⟨c0, c1, c2, cl⟩ := bx.out w3 hX3)
      | (go_at_call 51; (with_reducible refine (kG.out _ _ _ hQ3.out).mono ?_); rintro e w4 ⟨rfl, hQ3, xt4⟩; have hX3 : Ext W w4 := Tch.ext xt4 hX3 (Nat.le_refl _); obtain ⟨c0, c1, c2, cl⟩ := bx.out w4 hX3)
      | (go_at_call 52; (with_reducible refine (kT.out _ _ _ (ext_trans xW hX3) hQ3.out).mono ?_); rintro e w5 ⟨g5, rfl, hQ5, hg5, xb5⟩; have hX5 : Ext W w5 := ext_trans hX3 xb5; have hs3 := ext_size hX3))
    have hs4 := ext_size xW
    subst hB0
    refine bodyPost_ret (v := .pointer (some ⟨g5, 0, none⟩)) ?h rfl ⟨g5, rfl, hQ5.out.weak (Nat.le_trans hs4 hs3), Nat.le_trans hs4 (Nat.le_trans hs3 hg5), ext_trans xW hX5⟩
    case h => simp [results, Tryz.results26, go_sem]
  | false =>
    have kT : Hid (∀ u g lo, Ext w u → Qat u g ((dval l : Nat) : Int) 1 lo → Calls Tryz.prog 52 #[.pointer (some ⟨g, 0, none⟩), .int .i64 exp] u (QPs u A D)) := kT
    clear kG
    generalize dval l = N at *
    go_enter Tryz.func26, Tryz.ntmps26
    go_upto_region 1 with fail
    obtain ⟨W, hW⟩ : ∃ W, W = w.alloc (.cells #[.bool false, .string (bs l), .int .i64 exp] 32) := ⟨_, rfl⟩
    obtain ⟨B0, hB0⟩ : ∃ B0, w.heap.size = B0 := ⟨_, rfl⟩
    have xW : Ext w W := by rw [hW]; exact ext_alloc (ext_refl _) _
    have bx : Hid (∀ u, Ext W u → u.cell? ⟨B0, 0, none⟩ = some (.bool false) ∧ u.cell? ⟨B0, 1, none⟩ = some (.string (bs l)) ∧ u.cell? ⟨B0, 2, none⟩ = some (.int .i64 exp) ∧ B0 < u.heap.size) := Lib.hid fun u hu => by
      have l0 : B0 < W.heap.size := by rw [hW, ← hB0]; simp
      refine ⟨(Below.cell (p := ⟨B0, 0, none⟩) hu l0).trans ?_, (Below.cell (p := ⟨B0, 1, none⟩) hu l0).trans ?_, (Below.cell (p := ⟨B0, 2, none⟩) hu l0).trans ?_, Nat.lt_of_lt_of_le l0 (ext_size hu)⟩
      all_goals (rw [hW, ← hB0]; simp [go_sem])
    obtain ⟨c0, c1, c2, cl⟩ := bx.out W (ext_refl _)
    have hs0 : B0 ≤ W.heap.size := Nat.le_of_lt cl
    rw [← hW, hB0]
    clear hW
    have eN : Ext W (newRat W) := ext_alloc (ext_refl _) _
    obtain ⟨d0, d1, d2, dl⟩ := bx.out (newRat W) eN
    go_wp2_with (first
      | (go_at_call 17; (with_reducible refine (kN.out _).mono ?_); rintro e w2 ⟨g2, rfl, hI2, hg2, xb2⟩; have hX2 : Ext W w2 := ext_trans eN xb2; obtain ⟨c0, c1, c2, cl⟩ := bx.out w2 hX2)
      | (go_at_call 20; (with_reducible refine (kS.out _ _ _ _ ((room_rat W).ext xb2) hI2.out).mono ?_); rintro e w3 ⟨rfl, hQ3, xt3⟩; have hX3 : Ext W w3 := Tch.ext xt3 hX2 (Nat.le_refl _); obtain ⟨c0, c1, c2, cl⟩ := bx.out w3 hX3)
      | (go_at_call 52; (with_reducible refine (kT.out _ _ _ (ext_trans xW hX3) hQ3.out).mono ?_); rintro e w5 ⟨g5, rfl, hQ5, hg5, xb5⟩; have hX5 : Ext W w5 := ext_trans hX3 xb5; have hs3 := ext_size hX3))
    have hs4 := ext_size xW
    subst hB0
    refine bodyPost_ret (v := .pointer (some ⟨g5, 0, none⟩)) ?h rfl ⟨g5, rfl, hQ5.out.weak (Nat.le_trans hs4 hs3), Nat.le_trans hs4 (Nat.le_trans hs3 hg5), ext_trans xW hX5⟩
    case h => simp [results, Tryz.results26, go_sem]
end Go.Proofs.YtchchnohmmncfaaGreatDoor.NB
end
section
/- The document's answer for quick: a decimal's float. -/
namespace Go.Proofs.YtchchnohmmncfaaGreatDoor.NB
open Go.RowKit
attribute [local go_sem] bs_size bs_extract bs_get bs_append bs_toList const_get
attribute [local go_sem] sz2 sz3 sz4 sz5 sz6 sz7 sz8
set_option maxHeartbeats 8000000
set_option maxRecDepth 100000
attribute [local irreducible] Calls
theorem ask_room {neg : Bool} {l : List UInt8} {exp : Int} {W P M : Nat} (hW : W ≤ 9007199254740992) (hP : P ≤ 22) (hM : M ≤ 37) (h : askB ⟨neg, l, exp⟩ W P M = true) : digsB l = true ∧ l.length ≤ 30 ∧ (-22 ≤ exp ∧ exp ≤ 37) ∧ (l ≠ [] → 0 < dval l) := by
  have hc : dcE ⟨neg, l, exp⟩ = 0 := Decidable.byContradiction fun q => by rw [ask_no _ _ _ _ q] at h; cases h
  have hl : l.length ≤ 30 := Nat.not_lt.1 fun q => by rw [ask_long hW hc q] at h; cases h
  by_cases h0 : l = []
  · subst h0
    have := may_nil neg exp
    rw [decide_eq_true hc] at this
    have e := of_decide_eq_true this.symm
    subst e
    exact ⟨rfl, hl, by decide, fun q => absurd rfl q⟩
  · have k := dc_ok hc (List.length_pos_iff.2 h0)
    have h1 : ¬ exp < -(P : Int) := fun q => by rw [ask_far h0 (.inl q)] at h; cases h
    have h2 : ¬ (M : Int) < exp := fun q => by rw [ask_far h0 (.inr q)] at h; cases h
    exact ⟨k.digs, hl, by omega, fun _ => dval_pos k.digs k.lead h0⟩
theorem worth_room (neg : Bool) {l : List UInt8} {exp : Int} (hd : digsB l = true) (hl : l.length ≤ 30) (he : -22 ≤ exp ∧ exp ≤ 37) : (lim (canN (dz ⟨neg, l, exp⟩) (dp ⟨neg, l, exp⟩)).natAbs).length ≤ 17 ∧ (lim (canD (dz ⟨neg, l, exp⟩) (dp ⟨neg, l, exp⟩))).length ≤ 17 := by
  have h1 : (dz ⟨neg, l, exp⟩).natAbs ≤ 10 ^ 67 := by
    have e : (dz ⟨neg, l, exp⟩).natAbs = dval l * 10 ^ exp.toNat := sgn_abs _ _
    rw [e]
    have g1 : dval l ≤ 10 ^ 30 := Nat.le_trans (Nat.le_of_lt (dval_lt l hd)) (Nat.pow_le_pow_right (by decide) hl)
    have g2 : 10 ^ exp.toNat ≤ 10 ^ 37 := Nat.pow_le_pow_right (by decide) (by omega)
    exact Nat.le_trans (Nat.mul_le_mul g1 g2) (by rw [← Nat.pow_add]; exact Nat.le_refl _)
  have h2 : dp ⟨neg, l, exp⟩ ≤ 10 ^ 22 := Nat.pow_le_pow_right (by decide) (by show (-exp).toNat ≤ 22; omega)
  have l1 := lim_fits (k := 17) (Nat.le_trans (canN_le (dz ⟨neg, l, exp⟩) (dp ⟨neg, l, exp⟩)) h1) (by omega) (by decide)
  have l2 := lim_fits (k := 17) (Nat.le_trans (canD_le (dz ⟨neg, l, exp⟩) (dp ⟨neg, l, exp⟩)) h2) (by omega) (by decide)
  exact ⟨l1, l2⟩
/-- What is answered: the float's bits, or no. -/
abbrev askA (E F : Nat) (d : Dc) (W P M : Nat) : Value := if askB d W P M = true then .tuple #[.int .u64 ((rdB E F d.neg (askN d P) (askX d P) : Nat) : Int), .bool true] else .tuple #[.int .u64 0, .bool false]
theorem r14_Double (neg : Bool) (l : List UInt8) (exp : Int) (hl : l.length ≤ 9223372036854775807) (w : World) (hT : Tz w) : Calls Tryz.prog 11 #[dcV ⟨neg, l, exp⟩] w fun e w' => e = .returned (askA 11 52 ⟨neg, l, exp⟩ 9007199254740992 22 37) ∧ Ext w w' := by
  have kN := Lib.hid (fun w => o_NewInt 9007199254740992 (by decide) (by decide) w)
  have kQ := Lib.hid (fun u g lo (h : Iat u g 9007199254740992 lo) => show Calls Tryz.prog 24 #[dcV ⟨neg, l, exp⟩, .pointer (some ⟨g, 0, none⟩), .int .i64 22, .int .i64 37] u fun e w' => e = .returned (.bool (askB ⟨neg, l, exp⟩ 9007199254740992 22 37)) ∧ Ext u w' from
    r14_quick neg l exp 9007199254740992 22 37 hl (by decide) (by decide) (by decide) g lo u h)
  unfold askA
  by_cases hb : askB ⟨neg, l, exp⟩ 9007199254740992 22 37 = true
  · obtain ⟨hd, h30, he, hV⟩ := ask_room (by decide) (by decide) (by decide) hb
    obtain ⟨l1, l2⟩ := worth_room neg hd h30 he
    rw [if_pos hb]
    rw [hb] at kQ
    have kF := Lib.hid (fun w => r8_Double w)
    have kW := Lib.hid (fun u (hE : Ext w u) => r14_Worth neg l exp (by omega) hd (by omega) u (hT.ext hE))
    have hd0 : canD (dz ⟨neg, l, exp⟩) (dp ⟨neg, l, exp⟩) ≠ 0 := canD_pos (dp_ne _)
    have hlaw := right_law 11 52 22 (by decide) neg l exp hV
    obtain ⟨X, hX⟩ : ∃ X, rdB 11 52 neg (askN ⟨neg, l, exp⟩ 22) (askX ⟨neg, l, exp⟩ 22) = X := ⟨_, rfl⟩
    rw [hX] at hlaw
    show Calls Tryz.prog _ _ w fun e w' => e = .returned (.tuple #[.int .u64 ((rdB 11 52 neg (askN ⟨neg, l, exp⟩ 22) (askX ⟨neg, l, exp⟩ 22) : Nat) : Int), .bool true]) ∧ Ext w w'
    rw [hX]
    have kR := Lib.hid (fun u g lo (hE : Ext w u) (h : Qat u g (canN (dz ⟨neg, l, exp⟩) (dp ⟨neg, l, exp⟩)) (canD (dz ⟨neg, l, exp⟩) (dp ⟨neg, l, exp⟩)) lo) => show Calls Tryz.prog 18 #[fmV 11 52, .pointer (some ⟨g, 0, none⟩), .bool neg, .int .u8 0] u (RatP5 u X) by
      have := r5_Rat 11 52 neg (by decide) (by decide) g lo _ _ (Nat.pos_of_ne_zero hd0) (by omega) (by omega) u (hT.ext hE) h
      rwa [← hlaw] at this)
    generalize canN (dz ⟨neg, l, exp⟩) (dp ⟨neg, l, exp⟩) = A at *
    generalize canD (dz ⟨neg, l, exp⟩) (dp ⟨neg, l, exp⟩) = D at *
    clear hX hlaw hd hV he hT hb hd0 l1 l2
    go_enter Tryz.func11, Tryz.ntmps11
    go_upto_region 1 with fail
    obtain ⟨W, hW⟩ : ∃ W, W = w.alloc (.cells #[.bool neg, .string (bs l), .int .i64 exp] 32) := ⟨_, rfl⟩
    obtain ⟨B0, hB0⟩ : ∃ B0, w.heap.size = B0 := ⟨_, rfl⟩
    have xW : Ext w W := by rw [hW]; exact ext_alloc (ext_refl _) _
    have bx : Hid (∀ u, Ext W u → u.cell? ⟨B0, 0, none⟩ = some (.bool neg) ∧ u.cell? ⟨B0, 1, none⟩ = some (.string (bs l)) ∧ u.cell? ⟨B0, 2, none⟩ = some (.int .i64 exp) ∧ B0 < u.heap.size) := Lib.hid fun u hu => by
      have l0 : B0 < W.heap.size := by rw [hW, ← hB0]; simp
      refine ⟨(Below.cell (p := ⟨B0, 0, none⟩) hu l0).trans ?_, (Below.cell (p := ⟨B0, 1, none⟩) hu l0).trans ?_, (Below.cell (p := ⟨B0, 2, none⟩) hu l0).trans ?_, Nat.lt_of_lt_of_le l0 (ext_size hu)⟩
      all_goals (rw [hW, ← hB0]; simp [go_sem])
    obtain ⟨c0, c1, c2, cl⟩ := bx.out W (ext_refl _)
    rw [← hW, hB0]
    clear hW
    go_region_held3 (fun w' => w'.cell? ⟨B0, 0, none⟩ = some (.bool neg) ∧ w'.cell? ⟨B0, 1, none⟩ = some (.string (bs l)) ∧ w'.cell? ⟨B0, 2, none⟩ = some (.int .i64 exp)) (exact ⟨(bx.out _ (by (repeat (first | exact ext_refl _ | assumption | refine ext_setCell ?_ (by simp; try omega) _ | refine ext_alloc ?_ _ | refine ext_drew ?_ | refine ext_drewN ?_ _ | refine ext_trans ?_ (Aft.use _) | refine ext_trans ?_ (by assumption))))).1, (bx.out _ (by (repeat (first | exact ext_refl _ | assumption | refine ext_setCell ?_ (by simp; try omega) _ | refine ext_alloc ?_ _ | refine ext_drew ?_ | refine ext_drewN ?_ _ | refine ext_trans ?_ (Aft.use _) | refine ext_trans ?_ (by assumption))))).2.1, (bx.out _ (by (repeat (first | exact ext_refl _ | assumption | refine ext_setCell ?_ (by simp; try omega) _ | refine ext_alloc ?_ _ | refine ext_drew ?_ | refine ext_drewN ?_ _ | refine ext_trans ?_ (Aft.use _) | refine ext_trans ?_ (by assumption))))).2.2.1⟩)
      (first
      | (go_at_call 25; (with_reducible refine (kN.out _).mono ?_); rintro e w1 ⟨g1, rfl, hI1, hg1, xb1⟩; have hX1 : Ext W w1 := (by (repeat (first | exact ext_refl _ | assumption | refine ext_setCell ?_ (by simp; try omega) _ | refine ext_alloc ?_ _ | refine ext_drew ?_ | refine ext_drewN ?_ _ | refine ext_trans ?_ (Aft.use _) | refine ext_trans ?_ (by assumption)))))
      | (go_at_call 24; (with_reducible refine (kQ.out _ _ _ (hI1.out.ext (by (repeat (first | exact ext_refl _ | assumption | refine ext_setCell ?_ (by simp; try omega) _ | refine ext_alloc ?_ _ | refine ext_drew ?_ | refine ext_drewN ?_ _ | refine ext_trans ?_ (Aft.use _) | refine ext_trans ?_ (by assumption)))))).mono ?_); rintro e w2 ⟨rfl, xb2⟩; have hX2 : Ext W w2 := (by (repeat (first | exact ext_refl _ | assumption | refine ext_setCell ?_ (by simp; try omega) _ | refine ext_alloc ?_ _ | refine ext_drew ?_ | refine ext_drewN ?_ _ | refine ext_trans ?_ (Aft.use _) | refine ext_trans ?_ (by assumption))))))
    obtain ⟨c0, c1, c2, cl⟩ := bx.out w2 hX2
    clear hI1 kQ kN
    go_wp2_with fail
    go_region_held3 (fun w' => w'.cell? ⟨B0, 0, none⟩ = some (.bool neg) ∧ w'.cell? ⟨B0, 1, none⟩ = some (.string (bs l)) ∧ w'.cell? ⟨B0, 2, none⟩ = some (.int .i64 exp)) (exact ⟨(bx.out _ (by (repeat (first | exact ext_refl _ | assumption | refine ext_setCell ?_ (by simp; try omega) _ | refine ext_alloc ?_ _ | refine ext_drew ?_ | refine ext_drewN ?_ _ | refine ext_trans ?_ (Aft.use _) | refine ext_trans ?_ (by assumption))))).1, (bx.out _ (by (repeat (first | exact ext_refl _ | assumption | refine ext_setCell ?_ (by simp; try omega) _ | refine ext_alloc ?_ _ | refine ext_drew ?_ | refine ext_drewN ?_ _ | refine ext_trans ?_ (Aft.use _) | refine ext_trans ?_ (by assumption))))).2.1, (bx.out _ (by (repeat (first | exact ext_refl _ | assumption | refine ext_setCell ?_ (by simp; try omega) _ | refine ext_alloc ?_ _ | refine ext_drew ?_ | refine ext_drewN ?_ _ | refine ext_trans ?_ (Aft.use _) | refine ext_trans ?_ (by assumption))))).2.2.1⟩)
      (first
      | (go_at_call 19; (with_reducible refine (kF.out _).mono ?_); rintro e w3 ⟨rfl, xb3⟩; have hX3 : Ext W w3 := (by (repeat (first | exact ext_refl _ | assumption | refine ext_setCell ?_ (by simp; try omega) _ | refine ext_alloc ?_ _ | refine ext_drew ?_ | refine ext_drewN ?_ _ | refine ext_trans ?_ (Aft.use _) | refine ext_trans ?_ (by assumption)))))
      | (go_at_call 26; (with_reducible refine (kW.out _ (ext_trans xW (by (repeat (first | exact ext_refl _ | assumption | refine ext_setCell ?_ (by simp; try omega) _ | refine ext_alloc ?_ _ | refine ext_drew ?_ | refine ext_drewN ?_ _ | refine ext_trans ?_ (Aft.use _) | refine ext_trans ?_ (by assumption)))))).mono ?_); rintro e w4 ⟨g4, rfl, hQ4, hg4, xb4⟩; have hX4 : Ext W w4 := (by (repeat (first | exact ext_refl _ | assumption | refine ext_setCell ?_ (by simp; try omega) _ | refine ext_alloc ?_ _ | refine ext_drew ?_ | refine ext_drewN ?_ _ | refine ext_trans ?_ (Aft.use _) | refine ext_trans ?_ (by assumption)))))
      | (go_at_call 18; (with_reducible refine (kR.out _ _ _ (ext_trans xW (by (repeat (first | exact ext_refl _ | assumption | refine ext_setCell ?_ (by simp; try omega) _ | refine ext_alloc ?_ _ | refine ext_drew ?_ | refine ext_drewN ?_ _ | refine ext_trans ?_ (Aft.use _) | refine ext_trans ?_ (by assumption))))) (hQ4.out.ext (by (repeat (first | exact ext_refl _ | assumption | refine ext_setCell ?_ (by simp; try omega) _ | refine ext_alloc ?_ _ | refine ext_drew ?_ | refine ext_drewN ?_ _ | refine ext_trans ?_ (Aft.use _) | refine ext_trans ?_ (by assumption)))))).mono ?_); rintro e w5 ⟨fl, rfl, xb5⟩; have hX5 : Ext W w5 := (by (repeat (first | exact ext_refl _ | assumption | refine ext_setCell ?_ (by simp; try omega) _ | refine ext_alloc ?_ _ | refine ext_drew ?_ | refine ext_drewN ?_ _ | refine ext_trans ?_ (Aft.use _) | refine ext_trans ?_ (by assumption))))))
    all_goals
      go_wp2_with fail
      refine bodyPost_ret (v := .tuple #[.int .u64 ↑X, .bool true]) ?h rfl ⟨rfl, ext_trans xW hX5⟩
      case h => simp [results, Tryz.results11, go_sem]
  · rw [if_neg hb]
    rw [Bool.not_eq_true] at hb
    rw [hb] at kQ
    clear hb hT
    go_enter Tryz.func11, Tryz.ntmps11
    go_upto_region 1 with fail
    obtain ⟨W, hW⟩ : ∃ W, W = w.alloc (.cells #[.bool neg, .string (bs l), .int .i64 exp] 32) := ⟨_, rfl⟩
    obtain ⟨B0, hB0⟩ : ∃ B0, w.heap.size = B0 := ⟨_, rfl⟩
    have xW : Ext w W := by rw [hW]; exact ext_alloc (ext_refl _) _
    have bx : Hid (∀ u, Ext W u → u.cell? ⟨B0, 0, none⟩ = some (.bool neg) ∧ u.cell? ⟨B0, 1, none⟩ = some (.string (bs l)) ∧ u.cell? ⟨B0, 2, none⟩ = some (.int .i64 exp) ∧ B0 < u.heap.size) := Lib.hid fun u hu => by
      have l0 : B0 < W.heap.size := by rw [hW, ← hB0]; simp
      refine ⟨(Below.cell (p := ⟨B0, 0, none⟩) hu l0).trans ?_, (Below.cell (p := ⟨B0, 1, none⟩) hu l0).trans ?_, (Below.cell (p := ⟨B0, 2, none⟩) hu l0).trans ?_, Nat.lt_of_lt_of_le l0 (ext_size hu)⟩
      all_goals (rw [hW, ← hB0]; simp [go_sem])
    obtain ⟨c0, c1, c2, cl⟩ := bx.out W (ext_refl _)
    rw [← hW, hB0]
    clear hW
    go_region_held3 (fun w' => w'.cell? ⟨B0, 0, none⟩ = some (.bool neg) ∧ w'.cell? ⟨B0, 1, none⟩ = some (.string (bs l)) ∧ w'.cell? ⟨B0, 2, none⟩ = some (.int .i64 exp)) (exact ⟨(bx.out _ (by (repeat (first | exact ext_refl _ | assumption | refine ext_setCell ?_ (by simp; try omega) _ | refine ext_alloc ?_ _ | refine ext_drew ?_ | refine ext_drewN ?_ _ | refine ext_trans ?_ (Aft.use _) | refine ext_trans ?_ (by assumption))))).1, (bx.out _ (by (repeat (first | exact ext_refl _ | assumption | refine ext_setCell ?_ (by simp; try omega) _ | refine ext_alloc ?_ _ | refine ext_drew ?_ | refine ext_drewN ?_ _ | refine ext_trans ?_ (Aft.use _) | refine ext_trans ?_ (by assumption))))).2.1, (bx.out _ (by (repeat (first | exact ext_refl _ | assumption | refine ext_setCell ?_ (by simp; try omega) _ | refine ext_alloc ?_ _ | refine ext_drew ?_ | refine ext_drewN ?_ _ | refine ext_trans ?_ (Aft.use _) | refine ext_trans ?_ (by assumption))))).2.2.1⟩)
      (first
      | (go_at_call 25; (with_reducible refine (kN.out _).mono ?_); rintro e w1 ⟨g1, rfl, hI1, hg1, xb1⟩; have hX1 : Ext W w1 := (by (repeat (first | exact ext_refl _ | assumption | refine ext_setCell ?_ (by simp; try omega) _ | refine ext_alloc ?_ _ | refine ext_drew ?_ | refine ext_drewN ?_ _ | refine ext_trans ?_ (Aft.use _) | refine ext_trans ?_ (by assumption)))))
      | (go_at_call 24; (with_reducible refine (kQ.out _ _ _ (hI1.out.ext (by (repeat (first | exact ext_refl _ | assumption | refine ext_setCell ?_ (by simp; try omega) _ | refine ext_alloc ?_ _ | refine ext_drew ?_ | refine ext_drewN ?_ _ | refine ext_trans ?_ (Aft.use _) | refine ext_trans ?_ (by assumption)))))).mono ?_); rintro e w2 ⟨rfl, xb2⟩; have hX2 : Ext W w2 := (by (repeat (first | exact ext_refl _ | assumption | refine ext_setCell ?_ (by simp; try omega) _ | refine ext_alloc ?_ _ | refine ext_drew ?_ | refine ext_drewN ?_ _ | refine ext_trans ?_ (Aft.use _) | refine ext_trans ?_ (by assumption))))))
    all_goals
      go_wp2_with fail
      refine bodyPost_ret (v := .tuple #[.int .u64 0, .bool false]) ?h rfl ⟨rfl, ext_trans xW hX2⟩
      case h => simp [results, Tryz.results11, go_sem]
theorem r14_Single (neg : Bool) (l : List UInt8) (exp : Int) (hl : l.length ≤ 9223372036854775807) (w : World) (hT : Tz w) : Calls Tryz.prog 12 #[dcV ⟨neg, l, exp⟩] w fun e w' => e = .returned (askA 8 23 ⟨neg, l, exp⟩ 16777216 10 17) ∧ Ext w w' := by
  have kN := Lib.hid (fun w => o_NewInt 16777216 (by decide) (by decide) w)
  have kQ := Lib.hid (fun u g lo (h : Iat u g 16777216 lo) => show Calls Tryz.prog 24 #[dcV ⟨neg, l, exp⟩, .pointer (some ⟨g, 0, none⟩), .int .i64 10, .int .i64 17] u fun e w' => e = .returned (.bool (askB ⟨neg, l, exp⟩ 16777216 10 17)) ∧ Ext u w' from
    r14_quick neg l exp 16777216 10 17 hl (by decide) (by decide) (by decide) g lo u h)
  unfold askA
  by_cases hb : askB ⟨neg, l, exp⟩ 16777216 10 17 = true
  · obtain ⟨hd, h30, he, hV⟩ := ask_room (by decide) (by decide) (by decide) hb
    obtain ⟨l1, l2⟩ := worth_room neg hd h30 he
    rw [if_pos hb]
    rw [hb] at kQ
    have kF := Lib.hid (fun w => r8_Single w)
    have kW := Lib.hid (fun u (hE : Ext w u) => r14_Worth neg l exp (by omega) hd (by omega) u (hT.ext hE))
    have hd0 : canD (dz ⟨neg, l, exp⟩) (dp ⟨neg, l, exp⟩) ≠ 0 := canD_pos (dp_ne _)
    have hlaw := right_law 8 23 10 (by decide) neg l exp hV
    obtain ⟨X, hX⟩ : ∃ X, rdB 8 23 neg (askN ⟨neg, l, exp⟩ 10) (askX ⟨neg, l, exp⟩ 10) = X := ⟨_, rfl⟩
    rw [hX] at hlaw
    show Calls Tryz.prog _ _ w fun e w' => e = .returned (.tuple #[.int .u64 ((rdB 8 23 neg (askN ⟨neg, l, exp⟩ 10) (askX ⟨neg, l, exp⟩ 10) : Nat) : Int), .bool true]) ∧ Ext w w'
    rw [hX]
    have kR := Lib.hid (fun u g lo (hE : Ext w u) (h : Qat u g (canN (dz ⟨neg, l, exp⟩) (dp ⟨neg, l, exp⟩)) (canD (dz ⟨neg, l, exp⟩) (dp ⟨neg, l, exp⟩)) lo) => show Calls Tryz.prog 18 #[fmV 8 23, .pointer (some ⟨g, 0, none⟩), .bool neg, .int .u8 0] u (RatP5 u X) by
      have := r5_Rat 8 23 neg (by decide) (by decide) g lo _ _ (Nat.pos_of_ne_zero hd0) (by omega) (by omega) u (hT.ext hE) h
      rwa [← hlaw] at this)
    generalize canN (dz ⟨neg, l, exp⟩) (dp ⟨neg, l, exp⟩) = A at *
    generalize canD (dz ⟨neg, l, exp⟩) (dp ⟨neg, l, exp⟩) = D at *
    clear hX hlaw hd hV he hT hb hd0 l1 l2
    go_enter Tryz.func12, Tryz.ntmps12
    go_upto_region 1 with fail
    obtain ⟨W, hW⟩ : ∃ W, W = w.alloc (.cells #[.bool neg, .string (bs l), .int .i64 exp] 32) := ⟨_, rfl⟩
    obtain ⟨B0, hB0⟩ : ∃ B0, w.heap.size = B0 := ⟨_, rfl⟩
    have xW : Ext w W := by rw [hW]; exact ext_alloc (ext_refl _) _
    have bx : Hid (∀ u, Ext W u → u.cell? ⟨B0, 0, none⟩ = some (.bool neg) ∧ u.cell? ⟨B0, 1, none⟩ = some (.string (bs l)) ∧ u.cell? ⟨B0, 2, none⟩ = some (.int .i64 exp) ∧ B0 < u.heap.size) := Lib.hid fun u hu => by
      have l0 : B0 < W.heap.size := by rw [hW, ← hB0]; simp
      refine ⟨(Below.cell (p := ⟨B0, 0, none⟩) hu l0).trans ?_, (Below.cell (p := ⟨B0, 1, none⟩) hu l0).trans ?_, (Below.cell (p := ⟨B0, 2, none⟩) hu l0).trans ?_, Nat.lt_of_lt_of_le l0 (ext_size hu)⟩
      all_goals (rw [hW, ← hB0]; simp [go_sem])
    obtain ⟨c0, c1, c2, cl⟩ := bx.out W (ext_refl _)
    rw [← hW, hB0]
    clear hW
    go_region_held3 (fun w' => w'.cell? ⟨B0, 0, none⟩ = some (.bool neg) ∧ w'.cell? ⟨B0, 1, none⟩ = some (.string (bs l)) ∧ w'.cell? ⟨B0, 2, none⟩ = some (.int .i64 exp)) (exact ⟨(bx.out _ (by (repeat (first | exact ext_refl _ | assumption | refine ext_setCell ?_ (by simp; try omega) _ | refine ext_alloc ?_ _ | refine ext_drew ?_ | refine ext_drewN ?_ _ | refine ext_trans ?_ (Aft.use _) | refine ext_trans ?_ (by assumption))))).1, (bx.out _ (by (repeat (first | exact ext_refl _ | assumption | refine ext_setCell ?_ (by simp; try omega) _ | refine ext_alloc ?_ _ | refine ext_drew ?_ | refine ext_drewN ?_ _ | refine ext_trans ?_ (Aft.use _) | refine ext_trans ?_ (by assumption))))).2.1, (bx.out _ (by (repeat (first | exact ext_refl _ | assumption | refine ext_setCell ?_ (by simp; try omega) _ | refine ext_alloc ?_ _ | refine ext_drew ?_ | refine ext_drewN ?_ _ | refine ext_trans ?_ (Aft.use _) | refine ext_trans ?_ (by assumption))))).2.2.1⟩)
      (first
      | (go_at_call 25; (with_reducible refine (kN.out _).mono ?_); rintro e w1 ⟨g1, rfl, hI1, hg1, xb1⟩; have hX1 : Ext W w1 := (by (repeat (first | exact ext_refl _ | assumption | refine ext_setCell ?_ (by simp; try omega) _ | refine ext_alloc ?_ _ | refine ext_drew ?_ | refine ext_drewN ?_ _ | refine ext_trans ?_ (Aft.use _) | refine ext_trans ?_ (by assumption)))))
      | (go_at_call 24; (with_reducible refine (kQ.out _ _ _ (hI1.out.ext (by (repeat (first | exact ext_refl _ | assumption | refine ext_setCell ?_ (by simp; try omega) _ | refine ext_alloc ?_ _ | refine ext_drew ?_ | refine ext_drewN ?_ _ | refine ext_trans ?_ (Aft.use _) | refine ext_trans ?_ (by assumption)))))).mono ?_); rintro e w2 ⟨rfl, xb2⟩; have hX2 : Ext W w2 := (by (repeat (first | exact ext_refl _ | assumption | refine ext_setCell ?_ (by simp; try omega) _ | refine ext_alloc ?_ _ | refine ext_drew ?_ | refine ext_drewN ?_ _ | refine ext_trans ?_ (Aft.use _) | refine ext_trans ?_ (by assumption))))))
    obtain ⟨c0, c1, c2, cl⟩ := bx.out w2 hX2
    clear hI1 kQ kN
    go_wp2_with fail
    go_region_held3 (fun w' => w'.cell? ⟨B0, 0, none⟩ = some (.bool neg) ∧ w'.cell? ⟨B0, 1, none⟩ = some (.string (bs l)) ∧ w'.cell? ⟨B0, 2, none⟩ = some (.int .i64 exp)) (exact ⟨(bx.out _ (by (repeat (first | exact ext_refl _ | assumption | refine ext_setCell ?_ (by simp; try omega) _ | refine ext_alloc ?_ _ | refine ext_drew ?_ | refine ext_drewN ?_ _ | refine ext_trans ?_ (Aft.use _) | refine ext_trans ?_ (by assumption))))).1, (bx.out _ (by (repeat (first | exact ext_refl _ | assumption | refine ext_setCell ?_ (by simp; try omega) _ | refine ext_alloc ?_ _ | refine ext_drew ?_ | refine ext_drewN ?_ _ | refine ext_trans ?_ (Aft.use _) | refine ext_trans ?_ (by assumption))))).2.1, (bx.out _ (by (repeat (first | exact ext_refl _ | assumption | refine ext_setCell ?_ (by simp; try omega) _ | refine ext_alloc ?_ _ | refine ext_drew ?_ | refine ext_drewN ?_ _ | refine ext_trans ?_ (Aft.use _) | refine ext_trans ?_ (by assumption))))).2.2.1⟩)
      (first
      | (go_at_call 27; (with_reducible refine (kF.out _).mono ?_); rintro e w3 ⟨rfl, xb3⟩; have hX3 : Ext W w3 := (by (repeat (first | exact ext_refl _ | assumption | refine ext_setCell ?_ (by simp; try omega) _ | refine ext_alloc ?_ _ | refine ext_drew ?_ | refine ext_drewN ?_ _ | refine ext_trans ?_ (Aft.use _) | refine ext_trans ?_ (by assumption)))))
      | (go_at_call 26; (with_reducible refine (kW.out _ (ext_trans xW (by (repeat (first | exact ext_refl _ | assumption | refine ext_setCell ?_ (by simp; try omega) _ | refine ext_alloc ?_ _ | refine ext_drew ?_ | refine ext_drewN ?_ _ | refine ext_trans ?_ (Aft.use _) | refine ext_trans ?_ (by assumption)))))).mono ?_); rintro e w4 ⟨g4, rfl, hQ4, hg4, xb4⟩; have hX4 : Ext W w4 := (by (repeat (first | exact ext_refl _ | assumption | refine ext_setCell ?_ (by simp; try omega) _ | refine ext_alloc ?_ _ | refine ext_drew ?_ | refine ext_drewN ?_ _ | refine ext_trans ?_ (Aft.use _) | refine ext_trans ?_ (by assumption)))))
      | (go_at_call 18; (with_reducible refine (kR.out _ _ _ (ext_trans xW (by (repeat (first | exact ext_refl _ | assumption | refine ext_setCell ?_ (by simp; try omega) _ | refine ext_alloc ?_ _ | refine ext_drew ?_ | refine ext_drewN ?_ _ | refine ext_trans ?_ (Aft.use _) | refine ext_trans ?_ (by assumption))))) (hQ4.out.ext (by (repeat (first | exact ext_refl _ | assumption | refine ext_setCell ?_ (by simp; try omega) _ | refine ext_alloc ?_ _ | refine ext_drew ?_ | refine ext_drewN ?_ _ | refine ext_trans ?_ (Aft.use _) | refine ext_trans ?_ (by assumption)))))).mono ?_); rintro e w5 ⟨fl, rfl, xb5⟩; have hX5 : Ext W w5 := (by (repeat (first | exact ext_refl _ | assumption | refine ext_setCell ?_ (by simp; try omega) _ | refine ext_alloc ?_ _ | refine ext_drew ?_ | refine ext_drewN ?_ _ | refine ext_trans ?_ (Aft.use _) | refine ext_trans ?_ (by assumption))))))
    all_goals
      go_wp2_with fail
      refine bodyPost_ret (v := .tuple #[.int .u64 ↑X, .bool true]) ?h rfl ⟨rfl, ext_trans xW hX5⟩
      case h => simp [results, Tryz.results12, go_sem]
  · rw [if_neg hb]
    rw [Bool.not_eq_true] at hb
    rw [hb] at kQ
    clear hb hT
    go_enter Tryz.func12, Tryz.ntmps12
    go_upto_region 1 with fail
    obtain ⟨W, hW⟩ : ∃ W, W = w.alloc (.cells #[.bool neg, .string (bs l), .int .i64 exp] 32) := ⟨_, rfl⟩
    obtain ⟨B0, hB0⟩ : ∃ B0, w.heap.size = B0 := ⟨_, rfl⟩
    have xW : Ext w W := by rw [hW]; exact ext_alloc (ext_refl _) _
    have bx : Hid (∀ u, Ext W u → u.cell? ⟨B0, 0, none⟩ = some (.bool neg) ∧ u.cell? ⟨B0, 1, none⟩ = some (.string (bs l)) ∧ u.cell? ⟨B0, 2, none⟩ = some (.int .i64 exp) ∧ B0 < u.heap.size) := Lib.hid fun u hu => by
      have l0 : B0 < W.heap.size := by rw [hW, ← hB0]; simp
      refine ⟨(Below.cell (p := ⟨B0, 0, none⟩) hu l0).trans ?_, (Below.cell (p := ⟨B0, 1, none⟩) hu l0).trans ?_, (Below.cell (p := ⟨B0, 2, none⟩) hu l0).trans ?_, Nat.lt_of_lt_of_le l0 (ext_size hu)⟩
      all_goals (rw [hW, ← hB0]; simp [go_sem])
    obtain ⟨c0, c1, c2, cl⟩ := bx.out W (ext_refl _)
    rw [← hW, hB0]
    clear hW
    go_region_held3 (fun w' => w'.cell? ⟨B0, 0, none⟩ = some (.bool neg) ∧ w'.cell? ⟨B0, 1, none⟩ = some (.string (bs l)) ∧ w'.cell? ⟨B0, 2, none⟩ = some (.int .i64 exp)) (exact ⟨(bx.out _ (by (repeat (first | exact ext_refl _ | assumption | refine ext_setCell ?_ (by simp; try omega) _ | refine ext_alloc ?_ _ | refine ext_drew ?_ | refine ext_drewN ?_ _ | refine ext_trans ?_ (Aft.use _) | refine ext_trans ?_ (by assumption))))).1, (bx.out _ (by (repeat (first | exact ext_refl _ | assumption | refine ext_setCell ?_ (by simp; try omega) _ | refine ext_alloc ?_ _ | refine ext_drew ?_ | refine ext_drewN ?_ _ | refine ext_trans ?_ (Aft.use _) | refine ext_trans ?_ (by assumption))))).2.1, (bx.out _ (by (repeat (first | exact ext_refl _ | assumption | refine ext_setCell ?_ (by simp; try omega) _ | refine ext_alloc ?_ _ | refine ext_drew ?_ | refine ext_drewN ?_ _ | refine ext_trans ?_ (Aft.use _) | refine ext_trans ?_ (by assumption))))).2.2.1⟩)
      (first
      | (go_at_call 25; (with_reducible refine (kN.out _).mono ?_); rintro e w1 ⟨g1, rfl, hI1, hg1, xb1⟩; have hX1 : Ext W w1 := (by (repeat (first | exact ext_refl _ | assumption | refine ext_setCell ?_ (by simp; try omega) _ | refine ext_alloc ?_ _ | refine ext_drew ?_ | refine ext_drewN ?_ _ | refine ext_trans ?_ (Aft.use _) | refine ext_trans ?_ (by assumption)))))
      | (go_at_call 24; (with_reducible refine (kQ.out _ _ _ (hI1.out.ext (by (repeat (first | exact ext_refl _ | assumption | refine ext_setCell ?_ (by simp; try omega) _ | refine ext_alloc ?_ _ | refine ext_drew ?_ | refine ext_drewN ?_ _ | refine ext_trans ?_ (Aft.use _) | refine ext_trans ?_ (by assumption)))))).mono ?_); rintro e w2 ⟨rfl, xb2⟩; have hX2 : Ext W w2 := (by (repeat (first | exact ext_refl _ | assumption | refine ext_setCell ?_ (by simp; try omega) _ | refine ext_alloc ?_ _ | refine ext_drew ?_ | refine ext_drewN ?_ _ | refine ext_trans ?_ (Aft.use _) | refine ext_trans ?_ (by assumption))))))
    all_goals
      go_wp2_with fail
      refine bodyPost_ret (v := .tuple #[.int .u64 0, .bool false]) ?h rfl ⟨rfl, ext_trans xW hX2⟩
      case h => simp [results, Tryz.results12, go_sem]
end Go.Proofs.YtchchnohmmncfaaGreatDoor.NB
end
