/- Lemmas of this proof, laid together: WdA, MarksWidthsW. -/
import Derived.Test.YtgedpfbokkambaaGreatDoorMg18
import Derived.Test.YtgedpfbokkambaaGreatDoorMg22
import Derived.Test.YtgedpfbokkambaaGreatDoorMg21
import Derived.Test.YtgedpfbokkambaaGreatDoorShelf
import Derived.Lib.RuneCountTail
import Derived.Lib.TrimUEq
set_option linter.unusedSimpArgs false
set_option linter.unusedVariables false
section
/- Marks: how wide a text is; blanks ahead. -/
namespace Go.Proofs.YtgedpfbokkambaaGreatDoor
open Go.RowKit
attribute [local go_sem] bs_size bs_extract bs_get bs_append bs_toList const_get
attribute [local irreducible] Calls
set_option maxHeartbeats 4000000
set_option maxRecDepth 100000
theorem rc_from (l : List UInt8) : ∀ (f pos : Nat), l.length ≤ pos + f → Lib.runeCountFrom (bs l) f pos = (rns (l.drop pos)).length
  | 0, pos, h => by
    rw [List.drop_of_length_le (by omega), rns_nil]; rfl
  | f + 1, pos, h => by
    unfold Lib.runeCountFrom
    rw [bs_size]
    by_cases hp : pos < l.length
    · have hne : l.drop pos ≠ [] := fun e => by
        have := congrArg List.length e
        rw [List.length_drop] at this; simp at this; omega
      have hd := Lib.decodeL_drop (bs l) pos
      rw [bs_data] at hd
      have hw := Lib.decodeL_width (l.drop pos)
      rw [if_pos hp, ← hd, rc_from l f _ (by omega), rns_cons _ hne, List.drop_drop, List.length_cons]
      omega
    · rw [if_neg hp, List.drop_of_length_le (by omega), rns_nil]; rfl
theorem rc_rns (l : List UInt8) : Lib.runeCount (bs l) = (rns l).length := by
  have := rc_from l l.length 0 (by omega)
  unfold Lib.runeCount
  rw [bs_size, this, List.drop_zero]
theorem rns_blank (l : List UInt8) : ∀ k, (rns (List.replicate k 32 ++ l)).length = k + (rns l).length
  | 0 => by simp
  | k + 1 => by
    have hd := dec_enc 32 (by unfold stdR; omega) (List.replicate k 32 ++ l)
    have he : encL 32 = [32] := by decide
    rw [he] at hd
    rw [List.replicate_succ, List.cons_append, rns_cons _ (by simp)]
    have hd2 : Lib.decodeL (32 :: (List.replicate k 32 ++ l)) = (32, 1) := hd
    rw [hd2, List.length_cons]
    show (rns (List.replicate k 32 ++ l)).length + 1 = _
    rw [rns_blank l k]
    omega
theorem blank_app (b : List UInt8) : (⟨#[32]⟩ : ByteArray) ++ bs b = bs (32 :: b) := by
  have : (⟨#[32]⟩ : ByteArray) = bs [32] := rfl
  rw [this, bs_append]; rfl
/-- What Pad answers. -/
def padV (l : List UInt8) (W : Int) : List UInt8 × Int :=
  if 65536 < l.length then ([], 3) else if W < 0 ∨ 256 < W then ([], 2) else (List.replicate (W - ((rns l).length : Int)).toNat 32 ++ l, 0)
theorem repeat_blank (c : Nat) (hc : c ≤ 1000000) (w : World) : Calls Tryz.prog 35 #[.string ⟨#[32]⟩, .int .i64 (c : Int)] w fun e w' => e = .returned (.string (bs (List.replicate c 32))) ∧ Ext w w' := by
  refine (Tryz.strings_Repeat ⟨#[32]⟩ c w (by omega) (by show 1 * c ≤ _; omega)).mono ?_
  rintro e w' ⟨he, hx⟩
  refine ⟨?_, hx⟩
  rw [he]
  have : Lib.repeatL [32] c = List.replicate c 32 := by
    have := Lib.repeatL_replicate 32 1 c
    rw [Nat.mul_one] at this
    exact this
  show Ending.returned (.string (bs (Lib.repeatL [32] c))) = _
  rw [this]
theorem mk_Width2 (l : List UInt8) (hl : l.length ≤ 100000000) (w : World) : Calls Tryz.prog 16 #[.string (bs l)] w fun e w' => e = .returned (.int .i64 ((rns l).length : Nat)) ∧ Ext w w' := by
  have := mk_Width (bs l) w (by rw [bs_size]; omega)
  rwa [rc_rns] at this
theorem mk_Pad (l : List UInt8) (W : Int) (hl : l.length ≤ 100000000) (w : World) :
    Calls Tryz.prog 13 #[.string (bs l), .int .i64 W] w fun e w' => e = .returned (.tuple #[.string (bs (padV l W).1), .int .i64 (padV l W).2]) ∧ Ext w w' := by
  unfold padV
  by_cases h1 : 65536 < l.length
  · have h1' : (65536 : Int) < (l.length : Int) := by omega
    rw [if_pos h1]
    go_enter Tryz.func13, Tryz.ntmps13
    go_wp2
    refine bodyPost_ret (v := .tuple #[.string ⟨#[]⟩, .int .i64 3]) ?h rfl ⟨rfl, ?_⟩
    case h => simp [results, Tryz.results13, go_sem]
    repeat (first | exact ext_refl _ | assumption | refine ext_setCell ?_ (by simp; try omega) _ | refine ext_alloc ?_ _ | refine ext_drew ?_ | refine ext_drewN ?_ _ | refine ext_trans ?_ (Aft.use _) | refine ext_trans ?_ (by assumption))
  rw [if_neg h1]
  have h1' : ¬ (65536 : Int) < (l.length : Int) := by omega
  by_cases h2 : W < 0
  · have d2 : decide (W < 0) = true := decide_eq_true h2
    rw [if_pos (Or.inl h2)]
    go_enter Tryz.func13, Tryz.ntmps13
    go_wp2
    refine bodyPost_ret (v := .tuple #[.string ⟨#[]⟩, .int .i64 2]) ?h rfl ⟨rfl, ?_⟩
    case h => simp [results, Tryz.results13, go_sem]
    repeat (first | exact ext_refl _ | assumption | refine ext_setCell ?_ (by simp; try omega) _ | refine ext_alloc ?_ _ | refine ext_drew ?_ | refine ext_drewN ?_ _ | refine ext_trans ?_ (Aft.use _) | refine ext_trans ?_ (by assumption))
  have d2 : decide (W < 0) = false := decide_eq_false h2
  by_cases h3 : 256 < W
  · have d3 : decide (256 < W) = true := decide_eq_true h3
    rw [if_pos (Or.inr h3)]
    go_enter Tryz.func13, Tryz.ntmps13
    go_wp2
    refine bodyPost_ret (v := .tuple #[.string ⟨#[]⟩, .int .i64 2]) ?h rfl ⟨rfl, ?_⟩
    case h => simp [results, Tryz.results13, go_sem]
    repeat (first | exact ext_refl _ | assumption | refine ext_setCell ?_ (by simp; try omega) _ | refine ext_alloc ?_ _ | refine ext_drew ?_ | refine ext_drewN ?_ _ | refine ext_trans ?_ (Aft.use _) | refine ext_trans ?_ (by assumption))
  have d3 : decide (256 < W) = false := decide_eq_false h3
  rw [if_neg (by omega)]
  have hrl := rns_le l
  obtain ⟨n, hn⟩ : ∃ n, (rns l).length = n := ⟨_, rfl⟩
  have kw := Lib.hid (fun w' => mk_Width2 l hl w')
  rw [hn] at kw hrl ⊢
  obtain ⟨c, hc⟩ : ∃ c : Nat, (W - (n : Int)).toNat = c := ⟨_, rfl⟩
  have hmax : max 0 (W - (n : Int)) = (c : Int) := by omega
  have kr := Lib.hid (fun w' => repeat_blank c (by omega) w')
  rw [hc]
  clear hn hc
  go_enter Tryz.func13, Tryz.ntmps13
  go_wp2_with (first
    | (go_at_call 16; (with_reducible refine (kw.out _).mono ?_); rintro e w1 ⟨rfl, hE1⟩; have hX1 := hE1)
    | (go_at_call 35; (with_reducible refine (kr.out _).mono ?_); rintro e w2 ⟨rfl, hE2⟩; have hX2 := ext_trans hX1 hE2))
  refine bodyPost_ret (v := .tuple #[.string (bs (List.replicate c 32 ++ l)), .int .i64 0]) ?h rfl ⟨rfl, ?_⟩
  case h => simp [results, Tryz.results13, go_sem]
  repeat (first | exact ext_refl _ | assumption | refine ext_setCell ?_ (by simp; try omega) _ | refine ext_alloc ?_ _ | refine ext_drew ?_ | refine ext_drewN ?_ _ | refine ext_trans ?_ (Aft.use _) | refine ext_trans ?_ (by assumption))
theorem md_Width (l : List UInt8) (hl : l.length ≤ 100000000) (w : World) (hT : LwT w) : Calls Tryz.prog 15 #[.string (bs l)] w fun e w' => e = .returned (.int .i64 ((rns l).length : Nat)) ∧ Ext w w' := by
  have kr := Lib.hid (fun w' (h : Ext w w') => md_runes l hl w' (hT.ext h))
  obtain ⟨n, hn⟩ : ∃ n, (rns l).length = n := ⟨_, rfl⟩
  have hrl := rns_le l
  rw [hn] at kr hrl ⊢
  clear hn hT
  go_enter Tryz.func15, Tryz.ntmps15
  go_wp2_with (first
    | (go_at_call 31; (with_reducible refine (kr.out _ (by (repeat (first | exact ext_refl _ | assumption | refine ext_setCell ?_ (by simp; try omega) _ | refine ext_alloc ?_ _ | refine ext_drew ?_ | refine ext_drewN ?_ _ | refine ext_trans ?_ (Aft.use _) | refine ext_trans ?_ (by assumption))))).mono ?_); rintro e w2 ⟨v1, v2, rfl, hE2, hO2, hC2⟩; obtain ⟨A1, c1, rfl⟩ := own_shape hO2.out; obtain ⟨A2, c2, rfl⟩ := own_shape hC2.out; have hX2 := hE2))
  refine bodyPost_ret (v := .int .i64 ↑n) ?h rfl ⟨rfl, hX2⟩
  case h => simp [results, Tryz.results15, go_sem]
theorem md_Pad (l : List UInt8) (W : Int) (hl : l.length ≤ 100000000) (w : World) (hT : LwT w) :
    Calls Tryz.prog 14 #[.string (bs l), .int .i64 W] w fun e w' => e = .returned (.tuple #[.string (bs (padV l W).1), .int .i64 (padV l W).2]) ∧ Ext w w' := by
  unfold padV
  by_cases h1 : 65536 < l.length
  · have h1' : (65536 : Int) < (l.length : Int) := by omega
    rw [if_pos h1]
    go_enter Tryz.func14, Tryz.ntmps14
    go_wp2
    refine bodyPost_ret (v := .tuple #[.string ⟨#[]⟩, .int .i64 3]) ?h rfl ⟨rfl, ?_⟩
    case h => simp [results, Tryz.results14, go_sem]
    repeat (first | exact ext_refl _ | assumption | refine ext_setCell ?_ (by simp; try omega) _ | refine ext_alloc ?_ _ | refine ext_drew ?_ | refine ext_drewN ?_ _ | refine ext_trans ?_ (Aft.use _) | refine ext_trans ?_ (by assumption))
  rw [if_neg h1]
  have h1' : ¬ (65536 : Int) < (l.length : Int) := by omega
  by_cases h2 : W < 0
  · have d2 : decide (W < 0) = true := decide_eq_true h2
    rw [if_pos (Or.inl h2)]
    go_enter Tryz.func14, Tryz.ntmps14
    go_wp2
    refine bodyPost_ret (v := .tuple #[.string ⟨#[]⟩, .int .i64 2]) ?h rfl ⟨rfl, ?_⟩
    case h => simp [results, Tryz.results14, go_sem]
    repeat (first | exact ext_refl _ | assumption | refine ext_setCell ?_ (by simp; try omega) _ | refine ext_alloc ?_ _ | refine ext_drew ?_ | refine ext_drewN ?_ _ | refine ext_trans ?_ (Aft.use _) | refine ext_trans ?_ (by assumption))
  have d2 : decide (W < 0) = false := decide_eq_false h2
  by_cases h3 : 256 < W
  · have d3 : decide (256 < W) = true := decide_eq_true h3
    rw [if_pos (Or.inr h3)]
    go_enter Tryz.func14, Tryz.ntmps14
    go_wp2
    refine bodyPost_ret (v := .tuple #[.string ⟨#[]⟩, .int .i64 2]) ?h rfl ⟨rfl, ?_⟩
    case h => simp [results, Tryz.results14, go_sem]
    repeat (first | exact ext_refl _ | assumption | refine ext_setCell ?_ (by simp; try omega) _ | refine ext_alloc ?_ _ | refine ext_drew ?_ | refine ext_drewN ?_ _ | refine ext_trans ?_ (Aft.use _) | refine ext_trans ?_ (by assumption))
  have d3 : decide (256 < W) = false := decide_eq_false h3
  rw [if_neg (by omega)]
  have hrl := rns_le l
  obtain ⟨n, hn⟩ : ∃ n, (rns l).length = n := ⟨_, rfl⟩
  have kw := Lib.hid (fun w' (h : Ext w w') => md_Width l hl w' (hT.ext h))
  rw [hn] at kw hrl ⊢
  obtain ⟨c, hc⟩ : ∃ c : Nat, (W - (n : Int)).toNat = c := ⟨_, rfl⟩
  rw [hc]
  have hcl := Lib.hid hc
  clear hn hc hT
  go_enter Tryz.func14, Tryz.ntmps14
  go_wp2_with (first
    | (go_at_call 15; (with_reducible refine (kw.out _ (by (repeat (first | exact ext_refl _ | assumption | refine ext_setCell ?_ (by simp; try omega) _ | refine ext_alloc ?_ _ | refine ext_drew ?_ | refine ext_drewN ?_ _ | refine ext_trans ?_ (Aft.use _) | refine ext_trans ?_ (by assumption))))).mono ?_); rintro e w1 ⟨rfl, hE1⟩; have hX1 := hE1))
  clear kw
  go_loopw [0, 6] (fun vs vn wr => ∃ i : Nat, i ≤ c ∧ vs = .string (bs (List.replicate i 32 ++ l)) ∧ vn = .int .i64 ((n + i : Nat) : Int) ∧ Hid (Ext w wr)) (fun _ vn _ => n + c - (intOf vn).toNat)
  case atStart => exact ⟨0, Nat.zero_le _, rfl, rfl, hX1⟩
  case round =>
    obtain ⟨i, hi, rfl, rfl, hE⟩ := hrel
    have hcc := hcl.out
    by_cases hlt : i < c
    · have q1 : ((n : Int) + (i : Int)) < W := by omega
      have q2 : decide (((n : Int) + (i : Int)) < W) = true := decide_eq_true q1
      clear hcc
      go_wp2
      exact ⟨⟨i + 1, by omega, by rw [blank_app]; rfl, by go_num, hE⟩, by simp [intOf]; omega⟩
    · obtain rfl : i = c := by omega
      have q1 : ¬ ((n : Int) + (i : Int)) < W := by omega
      have q2 : decide (((n : Int) + (i : Int)) < W) = false := decide_eq_false q1
      clear hcc hcl
      go_wp2
      refine bodyPost_ret (v := .tuple #[.string (bs (List.replicate i 32 ++ l)), .int .i64 0]) ?h rfl ⟨rfl, hE.out⟩
      case h => simp [results, Tryz.results14, go_sem]
end Go.Proofs.YtgedpfbokkambaaGreatDoor
end
section
/- Marks: Width and Pad answer as the document says: the walk. -/
namespace Go.Proofs.YtgedpfbokkambaaGreatDoor
open Go.RowKit
attribute [local go_sem] bs_size bs_extract bs_get bs_append bs_toList const_get
attribute [local irreducible] Calls
set_option maxHeartbeats 4000000
set_option maxRecDepth 100000
theorem pad_le (l : List UInt8) (W : Int) : (padV l W).1.length ≤ l.length + 256 := by
  unfold padV
  split
  · simp
  · split
    · simp
    · rw [List.length_append, List.length_replicate]; omega
theorem pad_max (l : List UInt8) (W : Int) (h : (padV l W).2 = 0) : max W ((rns l).length : Int) = ((rns (padV l W).1).length : Int) := by
  unfold padV at h ⊢
  split at h
  · simp at h
  · rename_i h1
    split at h
    · simp at h
    · rename_i h2
      rw [if_neg h1, if_neg h2, rns_blank]
      omega
theorem wd_few (l : List UInt8) (W : Int) (w : World) (hl : l.length ≤ 1048576) (hL : LwT w) (hf : decide (l.length ≤ 3000 ∨ 65536 < l.length) = true) :
    Calls Tryz.prog 4 #[.string (bs l), .int .i64 W] w fun e w' => e = .returned (.bool true) ∧ Ext w w' := by
  have ka := Lib.hid (fun w' (h : Ext w w') => av_alive w' (hL.ext h))
  have ks := Lib.hid (fun w' => lw_short l w')
  rw [hf] at ks
  have kp := Lib.hid (fun w' => mk_Pad l W (by omega) w')
  have kd := Lib.hid (fun w' (h : Ext w w') => md_Pad l W (by omega) w' (hL.ext h))
  have kw := Lib.hid (fun w' (h : Ext w w') => md_Width l (by omega) w' (hL.ext h))
  have km := Lib.hid (fun w' => mk_Width2 l (by omega) w')
  have hpl := pad_le l W
  have hpm := pad_max l W
  have kt := Lib.hid (fun w' => mk_Width2 (padV l W).1 (by omega) w')
  obtain ⟨tt, cc, hp⟩ : ∃ tt cc, padV l W = (tt, cc) := ⟨_, _, rfl⟩
  rw [hp] at kp kd hpm kt
  simp only at kp kd hpm kt
  obtain ⟨n, hn⟩ : ∃ n, (rns l).length = n := ⟨_, rfl⟩
  rw [hn] at kw km hpm
  obtain ⟨m, hm⟩ : ∃ m, (rns tt).length = m := ⟨_, rfl⟩
  rw [hm] at kt hpm
  clear hp hf hL hpl hn hm
  by_cases hc : cc = 0
  · subst hc
    have hmx := hpm rfl
    clear hpm
    go_enter Tryz.func4, Tryz.ntmps4
    go_wp2_with (first
      | (go_at_call 6; (with_reducible refine (ka.out _ (by (repeat (first | exact ext_refl _ | assumption | refine ext_setCell ?_ (by simp; try omega) _ | refine ext_alloc ?_ _ | refine ext_drew ?_ | refine ext_drewN ?_ _ | refine ext_trans ?_ (Aft.use _) | refine ext_trans ?_ (by assumption))))).mono ?_); rintro e w1 ⟨rfl, hE1⟩; have hX1 := hE1)
      | (go_at_call 7; (with_reducible refine (ks.out _).mono ?_); rintro e w2 ⟨rfl, hE2⟩; have hX2 := ext_trans hX1 hE2)
      | (go_at_call 13; (with_reducible refine (kp.out _).mono ?_); rintro e w3 ⟨rfl, hE3⟩; have hX3 := ext_trans hX2 hE3)
      | (go_at_call 14; (with_reducible refine (kd.out _ hX3).mono ?_); rintro e w4 ⟨rfl, hE4⟩; have hX4 := ext_trans hX3 hE4)
      | (go_at_call 15; (with_reducible refine (kw.out _ hX4).mono ?_); rintro e w5 ⟨rfl, hE5⟩; have hX5 := ext_trans hX4 hE5)
      | (go_at_call 16; (with_reducible refine (km.out _).mono ?_); rintro e w6 ⟨rfl, hE6⟩; have hX6 := ext_trans hX5 hE6)
      | (go_at_call 16; (with_reducible refine (kt.out _).mono ?_); rintro e w7 ⟨rfl, hE7⟩; have hX7 := ext_trans hX6 hE7))
    refine bodyPost_ret (v := .bool true) ?h rfl ⟨rfl, hX7⟩
    case h => simp [results, Tryz.results4, go_sem]
  · have hcb : (cc != 0) = true := by simpa using hc
    clear hpm kt
    go_enter Tryz.func4, Tryz.ntmps4
    go_wp2_with (first
      | (go_at_call 6; (with_reducible refine (ka.out _ (by (repeat (first | exact ext_refl _ | assumption | refine ext_setCell ?_ (by simp; try omega) _ | refine ext_alloc ?_ _ | refine ext_drew ?_ | refine ext_drewN ?_ _ | refine ext_trans ?_ (Aft.use _) | refine ext_trans ?_ (by assumption))))).mono ?_); rintro e w1 ⟨rfl, hE1⟩; have hX1 := hE1)
      | (go_at_call 7; (with_reducible refine (ks.out _).mono ?_); rintro e w2 ⟨rfl, hE2⟩; have hX2 := ext_trans hX1 hE2)
      | (go_at_call 13; (with_reducible refine (kp.out _).mono ?_); rintro e w3 ⟨rfl, hE3⟩; have hX3 := ext_trans hX2 hE3)
      | (go_at_call 14; (with_reducible refine (kd.out _ hX3).mono ?_); rintro e w4 ⟨rfl, hE4⟩; have hX4 := ext_trans hX3 hE4)
      | (go_at_call 15; (with_reducible refine (kw.out _ hX4).mono ?_); rintro e w5 ⟨rfl, hE5⟩; have hX5 := ext_trans hX4 hE5)
      | (go_at_call 16; (with_reducible refine (km.out _).mono ?_); rintro e w6 ⟨rfl, hE6⟩; have hX6 := ext_trans hX5 hE6))
    refine bodyPost_ret (v := .bool true) ?h rfl ⟨rfl, hX6⟩
    case h => simp [results, Tryz.results4, go_sem]
theorem walk_MarksWidths (x0 : ByteArray) (x1 : Int) (w : World) (_hx0 : x0.size ≤ maxLen) (hb : x0.size ≤ 1048576) (_hx1 : -9223372036854775808 ≤ x1 ∧ x1 ≤ 9223372036854775807) (hL : LwT w) :
    Calls Tryz.prog 4 #[.string x0, .int .i64 x1] w fun e w' => e = .returned (.bool true) ∧ Ext w w' := by
  obtain ⟨l, rfl⟩ := bs_of x0
  rw [bs_size] at hb
  by_cases hf : l.length ≤ 3000 ∨ 65536 < l.length
  · exact wd_few l x1 w hb hL (decide_eq_true hf)
  · have ka := Lib.hid (fun w' (h : Ext w w') => av_alive w' (hL.ext h))
    have ks := Lib.hid (fun w' => lw_short l w')
    rw [decide_eq_false hf] at ks
    clear hf hL
    go_enter Tryz.func4, Tryz.ntmps4
    go_wp2_with (first
      | (go_at_call 6; (with_reducible refine (ka.out _ (by (repeat (first | exact ext_refl _ | assumption | refine ext_setCell ?_ (by simp; try omega) _ | refine ext_alloc ?_ _ | refine ext_drew ?_ | refine ext_drewN ?_ _ | refine ext_trans ?_ (Aft.use _) | refine ext_trans ?_ (by assumption))))).mono ?_); rintro e w1 ⟨rfl, hE1⟩)
      | (go_at_call 7; (with_reducible refine (ks.out _).mono ?_); rintro e w2 ⟨rfl, hE2⟩))
    refine bodyPost_ret (v := .bool true) ?h rfl ⟨rfl, ?_⟩
    case h => simp [results, Tryz.results4, go_sem]
    repeat (first | exact ext_refl _ | assumption | refine ext_setCell ?_ (by simp; try omega) _ | refine ext_alloc ?_ _ | refine ext_drew ?_ | refine ext_drewN ?_ _ | refine ext_trans ?_ (Aft.use _) | refine ext_trans ?_ (by assumption))
end Go.Proofs.YtgedpfbokkambaaGreatDoor
end
