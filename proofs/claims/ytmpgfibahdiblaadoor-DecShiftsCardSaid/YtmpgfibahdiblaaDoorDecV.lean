/- Scientific texts, shifts. -/
import Derived.Test.YtmpgfibahdiblaaDoorDecU
namespace Go.Proofs.YtmpgfibahdiblaaDoor
open Go.RowKit
attribute [local go_sem] bs_size bs_extract bs_get bs_append bs_toList const_get
attribute [local go_sem] sz2 sz3 sz4 sz5 sz6 sz7 sz8
set_option maxHeartbeats 4000000
set_option maxRecDepth 100000
attribute [local irreducible] Calls
attribute [local go_sem] bs_app_lit lit_app_bs
def sciL (neg : Bool) (l : List UInt8) (exp : Int) : List UInt8 := (minusL neg ++ l.take 1 ++ (if 1 < l.length then 46 :: l.drop 1 else [])) ++ [101] ++ itoaL (exp + l.length - 1)
def sciR (d : Dc) : Tt :=
  if dcE d ≠ 0 then ⟨[], dcE d⟩ else if d.dig.length = 0 then ⟨minusL d.neg ++ [48, 101, 48], 0⟩ else ⟨sciL d.neg d.dig d.exp, 0⟩
structure Dt where
  d : Dc
  e : Int
abbrev dtV (t : Dt) : Value := .tuple #[dcV t.d, .int .i64 t.e]
def shfR (d : Dc) (n : Int) : Dt :=
  if dcE d ≠ 0 then ⟨Dc.zero, dcE d⟩ else if d.dig.length = 0 then ⟨d, 0⟩ else if 2147483648 < n ∨ n < -2147483648 ∨ far (d.exp + n) = true then ⟨Dc.zero, 4⟩ else ⟨⟨d.neg, d.dig, d.exp + n⟩, 0⟩
/-- The library's table of powers stands in memory. -/
abbrev Pw (w : World) : Prop := Lib.TabIs Tryd.prog w "internal/strconv.uint64pow10" .u64 Lib.pow10Tab
theorem pw_ext {w w' : World} (h : Pw w) (he : Ext w w') : Pw w' := by
  unfold Pw Lib.TabIs World.var? at *
  cases hg : Program.globalNamed Tryd.prog "internal/strconv.uint64pow10" with
  | none => rw [hg] at h; cases h
  | some g =>
    rw [hg] at h
    simp only [Option.bind_some] at h ⊢
    have hlt : g < w.heap.size := by
      rcases Nat.lt_or_ge g w.heap.size with h1 | h1
      · exact h1
      · rw [Array.getElem?_eq_none h1] at h; cases h
    rw [he.block g hlt]
    exact h
theorem ext_grow (w : World) (k : Nat) (os : Array Obj) : Ext w (Go.Sort.grow (w.drewN k) os) := by
  refine ⟨rfl, rfl, rfl, by simp [Go.Sort.grow], fun i hi => ?_⟩
  show (w.heap ++ os)[i]? = w.heap[i]?
  rw [Array.getElem?_append_left hi]
theorem itoa_any (n : Int) (hn : -9223372036854775807 ≤ n ∧ n ≤ 9223372036854775807) (w : World) (hp : Hid (Pw w)) : Calls Tryd.prog 37 #[.int .i64 n] w fun e w' => e = .returned (.string (bs (itoaL n))) ∧ Ext w w' := by
  refine (Tryd.strconv_Itoa n (by omega) (by omega) w hp.out).mono ?_
  rintro e w' ⟨he, k, os, rfl⟩
  refine ⟨?_, ext_grow w k os⟩
  rw [he, itoa_eq]
  rfl
theorem itoa_len (n : Int) (hn : -9223372036854775807 ≤ n ∧ n ≤ 9223372036854775807) : (itoaL n).length ≤ 21 := by
  have h1 : (dtext n.natAbs).length ≤ 20 := by
    unfold dtext
    split
    · simp
    · exact digs_len (by omega)
  have h2 := minus_len (decide (n < 0))
  unfold itoaL
  rw [List.length_append]
  omega
theorem sci_some (neg : Bool) (l : List UInt8) (exp : Int) (hok : Ok ⟨neg, l, exp⟩) (hc : ∀ w, Calls Tryd.prog 26 #[dcV ⟨neg, l, exp⟩] w fun e w' => e = .returned (.int .i64 0) ∧ Ext w w') (w : World) (hp : Pw w) :
    Calls Tryd.prog 16 #[dcV ⟨neg, l, exp⟩] w fun e w' => e = .returned (ttV ⟨sciL neg l exp, 0⟩) ∧ Ext w w' := by
  obtain ⟨hl, hpos, hd, hld, he1, he2⟩ := hok
  simp only at hl hpos hd hld he1 he2
  clear hd hld
  obtain ⟨M, hM⟩ : ∃ M, minusL neg = M := ⟨_, rfl⟩
  have hml : M.length ≤ 1 := by rw [← hM]; exact minus_len neg
  have hmin : ∀ w, Calls Tryd.prog 32 #[.bool neg] w fun e w' => e = .returned (.string (bs M)) ∧ w = w' := fun w => by rw [← hM]; exact minus_any neg w
  have hne : l.isEmpty = false := by simp [List.length_pos_iff.1 hpos]
  have hIl := itoa_len (exp + l.length - 1) (by omega)
  have hI : ∀ w', Hid (Ext w w') → Calls Tryd.prog 37 #[.int .i64 (exp + l.length - 1)] w' fun e w'' => e = .returned (.string (bs (itoaL (exp + l.length - 1)))) ∧ Ext w' w'' := fun w' he => itoa_any _ (by omega) w' (Lib.hid (pw_ext hp he.out))
  unfold sciL
  rw [hM]
  generalize itoaL (exp + l.length - 1) = I at hI hIl
  clear hM hp
  rcases Nat.lt_or_ge 1 l.length with h1 | h1
  · rw [if_pos h1]
    go_enter Tryd.func16, Tryd.ntmps16
    go_wp2_with (first
      | (go_at_call 26; (with_reducible refine (hc _).mono ?_); rintro e w1 ⟨rfl, xb1⟩; obtain ⟨xc1, xf1, xl1, xz1⟩ := ext_use xb1; (try simp at xz1); have l1_0 := xl1 (w.heap.size) (by first | omega | (simp; try omega)); have r1_0 := xc1 (w.heap.size) 0 (by first | omega | (simp; try omega)); have f1_0 := xf1 (w.heap.size) 0 (by first | omega | (simp; try omega)); have r1_0_1 := xc1 (w.heap.size) 1 (by first | omega | (simp; try omega)); have f1_0_1 := xf1 (w.heap.size) 1 (by first | omega | (simp; try omega)); have r1_0_2 := xc1 (w.heap.size) 2 (by first | omega | (simp; try omega)); have f1_0_2 := xf1 (w.heap.size) 2 (by first | omega | (simp; try omega)))
      | (go_at_call 30; (with_reducible refine (none_any _ _ _ _).mono ?_); rintro e w2 ⟨rfl, xb2⟩; obtain ⟨xc2, xf2, xl2, xz2⟩ := ext_use xb2; (try simp at xz2); have l2_0 := xl2 (w.heap.size) (by first | omega | (simp; try omega)); have r2_0 := xc2 (w.heap.size) 0 (by first | omega | (simp; try omega)); have f2_0 := xf2 (w.heap.size) 0 (by first | omega | (simp; try omega)); have r2_0_1 := xc2 (w.heap.size) 1 (by first | omega | (simp; try omega)); have f2_0_1 := xf2 (w.heap.size) 1 (by first | omega | (simp; try omega)); have r2_0_2 := xc2 (w.heap.size) 2 (by first | omega | (simp; try omega)); have f2_0_2 := xf2 (w.heap.size) 2 (by first | omega | (simp; try omega)))
     )
    refine wp_aft (by kernel_rfl) (by kernel_rfl) (fun hq hqf => ?_)
    repeat (go_big_quiet_step (first
      | (go_at_call 32; exact aft_same (hmin _))
      ))
    refine wpQuiet_nil ?_
    rintro _ ⟨nq, rfl⟩
    have xl := ext_lt nq.use
    have xz := ext_size nq.use
    try simp at xz
    go_wp2_with (first
      | (go_at_call 37; (with_reducible refine (hI _ (Lib.hid (by (repeat (first | exact ext_refl _ | assumption | refine ext_setCell ?_ (by simp; try omega) _ | refine ext_alloc ?_ _ | refine ext_drew ?_ | refine ext_drewN ?_ _ | refine ext_trans ?_ (Aft.use _) | refine ext_trans ?_ (by assumption)))))).mono ?_); rintro e w4 ⟨rfl, xb4⟩; obtain ⟨xc4, xf4, xl4, xz4⟩ := ext_use xb4; (try simp at xz4); have l4_0 := xl4 (w.heap.size) (by first | omega | (simp; try omega)); have r4_0 := xc4 (w.heap.size) 0 (by first | omega | (simp; try omega)); have f4_0 := xf4 (w.heap.size) 0 (by first | omega | (simp; try omega)); have r4_0_1 := xc4 (w.heap.size) 1 (by first | omega | (simp; try omega)); have f4_0_1 := xf4 (w.heap.size) 1 (by first | omega | (simp; try omega)); have r4_0_2 := xc4 (w.heap.size) 2 (by first | omega | (simp; try omega)); have f4_0_2 := xf4 (w.heap.size) 2 (by first | omega | (simp; try omega)))
     )
    refine bodyPost_ret (v := ttV ⟨M ++ (l.take 1 ++ 46 :: (l.tail ++ 101 :: I)), 0⟩) ?h rfl ⟨by simp, ?_⟩
    case h => simp [results, Tryd.results16, go_sem]
    repeat (first | exact ext_refl _ | assumption | refine ext_setCell ?_ (by simp; try omega) _ | refine ext_alloc ?_ _ | refine ext_drew ?_ | refine ext_drewN ?_ _ | refine ext_trans ?_ (Aft.use _) | refine ext_trans ?_ (by assumption))
  · rw [if_neg (by omega)]
    have h2 : l.length = 1 := by omega
    have e2 : exp + (l.length : Int) - 1 = exp := by omega
    rw [e2] at hI
    clear h1 e2
    go_enter Tryd.func16, Tryd.ntmps16
    go_wp2_with (first
      | (go_at_call 26; (with_reducible refine (hc _).mono ?_); rintro e w1 ⟨rfl, xb1⟩; obtain ⟨xc1, xf1, xl1, xz1⟩ := ext_use xb1; (try simp at xz1); have l1_0 := xl1 (w.heap.size) (by first | omega | (simp; try omega)); have r1_0 := xc1 (w.heap.size) 0 (by first | omega | (simp; try omega)); have f1_0 := xf1 (w.heap.size) 0 (by first | omega | (simp; try omega)); have r1_0_1 := xc1 (w.heap.size) 1 (by first | omega | (simp; try omega)); have f1_0_1 := xf1 (w.heap.size) 1 (by first | omega | (simp; try omega)); have r1_0_2 := xc1 (w.heap.size) 2 (by first | omega | (simp; try omega)); have f1_0_2 := xf1 (w.heap.size) 2 (by first | omega | (simp; try omega)))
      | (go_at_call 30; (with_reducible refine (none_any _ _ _ _).mono ?_); rintro e w2 ⟨rfl, xb2⟩; obtain ⟨xc2, xf2, xl2, xz2⟩ := ext_use xb2; (try simp at xz2); have l2_0 := xl2 (w.heap.size) (by first | omega | (simp; try omega)); have r2_0 := xc2 (w.heap.size) 0 (by first | omega | (simp; try omega)); have f2_0 := xf2 (w.heap.size) 0 (by first | omega | (simp; try omega)); have r2_0_1 := xc2 (w.heap.size) 1 (by first | omega | (simp; try omega)); have f2_0_1 := xf2 (w.heap.size) 1 (by first | omega | (simp; try omega)); have r2_0_2 := xc2 (w.heap.size) 2 (by first | omega | (simp; try omega)); have f2_0_2 := xf2 (w.heap.size) 2 (by first | omega | (simp; try omega)))
     )
    refine wp_aft (by kernel_rfl) (by kernel_rfl) (fun hq hqf => ?_)
    repeat (go_big_quiet_step (first
      | (go_at_call 32; exact aft_same (hmin _))
      ))
    refine wpQuiet_nil ?_
    rintro _ ⟨nq, rfl⟩
    have xl := ext_lt nq.use
    have xz := ext_size nq.use
    try simp at xz
    go_wp2_with (first
      | (go_at_call 37; (with_reducible refine (hI _ (Lib.hid (by (repeat (first | exact ext_refl _ | assumption | refine ext_setCell ?_ (by simp; try omega) _ | refine ext_alloc ?_ _ | refine ext_drew ?_ | refine ext_drewN ?_ _ | refine ext_trans ?_ (Aft.use _) | refine ext_trans ?_ (by assumption)))))).mono ?_); rintro e w4 ⟨rfl, xb4⟩; obtain ⟨xc4, xf4, xl4, xz4⟩ := ext_use xb4; (try simp at xz4); have l4_0 := xl4 (w.heap.size) (by first | omega | (simp; try omega)); have r4_0 := xc4 (w.heap.size) 0 (by first | omega | (simp; try omega)); have f4_0 := xf4 (w.heap.size) 0 (by first | omega | (simp; try omega)); have r4_0_1 := xc4 (w.heap.size) 1 (by first | omega | (simp; try omega)); have f4_0_1 := xf4 (w.heap.size) 1 (by first | omega | (simp; try omega)); have r4_0_2 := xc4 (w.heap.size) 2 (by first | omega | (simp; try omega)); have f4_0_2 := xf4 (w.heap.size) 2 (by first | omega | (simp; try omega)))
     )
    refine bodyPost_ret (v := ttV ⟨M ++ (l.take 1 ++ 101 :: I), 0⟩) ?h rfl ⟨by simp, ?_⟩
    case h => simp [results, Tryd.results16, go_sem]
    repeat (first | exact ext_refl _ | assumption | refine ext_setCell ?_ (by simp; try omega) _ | refine ext_alloc ?_ _ | refine ext_drew ?_ | refine ext_drewN ?_ _ | refine ext_trans ?_ (Aft.use _) | refine ext_trans ?_ (by assumption))
theorem rsci_some (neg : Bool) (l : List UInt8) (exp : Int) (hok : Ok ⟨neg, l, exp⟩) (hc : ∀ w, Calls Tryd.prog 28 #[dcV ⟨neg, l, exp⟩] w fun e w' => e = .returned (.int .i64 0) ∧ Ext w w') (w : World) :
    Calls Tryd.prog 17 #[dcV ⟨neg, l, exp⟩] w fun e w' => e = .returned (ttV ⟨sciL neg l exp, 0⟩) ∧ Ext w w' := by
  obtain ⟨hl, hpos, hd, hld, he1, he2⟩ := hok
  simp only at hl hpos hd hld he1 he2
  clear hd hld
  obtain ⟨M, hM⟩ : ∃ M, minusL neg = M := ⟨_, rfl⟩
  have hml : M.length ≤ 1 := by rw [← hM]; exact minus_len neg
  have hmin : ∀ w, Calls Tryd.prog 35 #[.bool neg] w fun e w' => e = .returned (.string (bs M)) ∧ w = w' := fun w => by rw [← hM]; exact rminus_any neg w
  have hne : ¬ l = [] := List.length_pos_iff.1 hpos
  have hIl := itoa_len (exp + l.length - 1) (by omega)
  have hI : ∀ w', Hid (Ext w w') → Calls Tryd.prog 38 #[.int .i64 (exp + l.length - 1)] w' fun e w'' => e = .returned (.string (bs (itoaL (exp + l.length - 1)))) ∧ Ext w' w'' := fun w' he => whole_any _ (by omega) w'
  unfold sciL
  rw [hM]
  generalize itoaL (exp + l.length - 1) = I at hI hIl
  clear hM
  rcases Nat.lt_or_ge 1 l.length with h1 | h1
  · rw [if_pos h1]
    go_enter Tryd.func17, Tryd.ntmps17
    go_wp2_with (first
      | (go_at_call 28; (with_reducible refine (hc _).mono ?_); rintro e w1 ⟨rfl, xb1⟩; obtain ⟨xc1, xf1, xl1, xz1⟩ := ext_use xb1; (try simp at xz1); have l1_0 := xl1 (w.heap.size) (by first | omega | (simp; try omega)); have r1_0 := xc1 (w.heap.size) 0 (by first | omega | (simp; try omega)); have f1_0 := xf1 (w.heap.size) 0 (by first | omega | (simp; try omega)); have r1_0_1 := xc1 (w.heap.size) 1 (by first | omega | (simp; try omega)); have f1_0_1 := xf1 (w.heap.size) 1 (by first | omega | (simp; try omega)); have r1_0_2 := xc1 (w.heap.size) 2 (by first | omega | (simp; try omega)); have f1_0_2 := xf1 (w.heap.size) 2 (by first | omega | (simp; try omega)))
      | (go_at_call 31; (with_reducible refine (rnone_any _ _ _ _).mono ?_); rintro e w2 ⟨rfl, xb2⟩; obtain ⟨xc2, xf2, xl2, xz2⟩ := ext_use xb2; (try simp at xz2); have l2_0 := xl2 (w.heap.size) (by first | omega | (simp; try omega)); have r2_0 := xc2 (w.heap.size) 0 (by first | omega | (simp; try omega)); have f2_0 := xf2 (w.heap.size) 0 (by first | omega | (simp; try omega)); have r2_0_1 := xc2 (w.heap.size) 1 (by first | omega | (simp; try omega)); have f2_0_1 := xf2 (w.heap.size) 1 (by first | omega | (simp; try omega)); have r2_0_2 := xc2 (w.heap.size) 2 (by first | omega | (simp; try omega)); have f2_0_2 := xf2 (w.heap.size) 2 (by first | omega | (simp; try omega)))
     )
    refine wp_aft (by kernel_rfl) (by kernel_rfl) (fun hq hqf => ?_)
    repeat (go_big_quiet_step (first
      | (go_at_call 35; exact aft_same (hmin _))
      ))
    refine wpQuiet_nil ?_
    rintro _ ⟨nq, rfl⟩
    have xl := ext_lt nq.use
    have xz := ext_size nq.use
    try simp at xz
    go_wp2_with (first
      | (go_at_call 38; (with_reducible refine (hI _ (Lib.hid (by (repeat (first | exact ext_refl _ | assumption | refine ext_setCell ?_ (by simp; try omega) _ | refine ext_alloc ?_ _ | refine ext_drew ?_ | refine ext_drewN ?_ _ | refine ext_trans ?_ (Aft.use _) | refine ext_trans ?_ (by assumption)))))).mono ?_); rintro e w4 ⟨rfl, xb4⟩; obtain ⟨xc4, xf4, xl4, xz4⟩ := ext_use xb4; (try simp at xz4); have l4_0 := xl4 (w.heap.size) (by first | omega | (simp; try omega)); have r4_0 := xc4 (w.heap.size) 0 (by first | omega | (simp; try omega)); have f4_0 := xf4 (w.heap.size) 0 (by first | omega | (simp; try omega)); have r4_0_1 := xc4 (w.heap.size) 1 (by first | omega | (simp; try omega)); have f4_0_1 := xf4 (w.heap.size) 1 (by first | omega | (simp; try omega)); have r4_0_2 := xc4 (w.heap.size) 2 (by first | omega | (simp; try omega)); have f4_0_2 := xf4 (w.heap.size) 2 (by first | omega | (simp; try omega)))
     )
    refine bodyPost_ret (v := ttV ⟨M ++ (l.take 1 ++ 46 :: (l.tail ++ 101 :: I)), 0⟩) ?h rfl ⟨by simp, ?_⟩
    case h => simp [results, Tryd.results17, go_sem]
    repeat (first | exact ext_refl _ | assumption | refine ext_setCell ?_ (by simp; try omega) _ | refine ext_alloc ?_ _ | refine ext_drew ?_ | refine ext_drewN ?_ _ | refine ext_trans ?_ (Aft.use _) | refine ext_trans ?_ (by assumption))
  · rw [if_neg (by omega)]
    have h2 : l.length = 1 := by omega
    have e2 : exp + (l.length : Int) - 1 = exp := by omega
    rw [e2] at hI
    clear h1 e2
    go_enter Tryd.func17, Tryd.ntmps17
    go_wp2_with (first
      | (go_at_call 28; (with_reducible refine (hc _).mono ?_); rintro e w1 ⟨rfl, xb1⟩; obtain ⟨xc1, xf1, xl1, xz1⟩ := ext_use xb1; (try simp at xz1); have l1_0 := xl1 (w.heap.size) (by first | omega | (simp; try omega)); have r1_0 := xc1 (w.heap.size) 0 (by first | omega | (simp; try omega)); have f1_0 := xf1 (w.heap.size) 0 (by first | omega | (simp; try omega)); have r1_0_1 := xc1 (w.heap.size) 1 (by first | omega | (simp; try omega)); have f1_0_1 := xf1 (w.heap.size) 1 (by first | omega | (simp; try omega)); have r1_0_2 := xc1 (w.heap.size) 2 (by first | omega | (simp; try omega)); have f1_0_2 := xf1 (w.heap.size) 2 (by first | omega | (simp; try omega)))
      | (go_at_call 31; (with_reducible refine (rnone_any _ _ _ _).mono ?_); rintro e w2 ⟨rfl, xb2⟩; obtain ⟨xc2, xf2, xl2, xz2⟩ := ext_use xb2; (try simp at xz2); have l2_0 := xl2 (w.heap.size) (by first | omega | (simp; try omega)); have r2_0 := xc2 (w.heap.size) 0 (by first | omega | (simp; try omega)); have f2_0 := xf2 (w.heap.size) 0 (by first | omega | (simp; try omega)); have r2_0_1 := xc2 (w.heap.size) 1 (by first | omega | (simp; try omega)); have f2_0_1 := xf2 (w.heap.size) 1 (by first | omega | (simp; try omega)); have r2_0_2 := xc2 (w.heap.size) 2 (by first | omega | (simp; try omega)); have f2_0_2 := xf2 (w.heap.size) 2 (by first | omega | (simp; try omega)))
     )
    refine wp_aft (by kernel_rfl) (by kernel_rfl) (fun hq hqf => ?_)
    repeat (go_big_quiet_step (first
      | (go_at_call 35; exact aft_same (hmin _))
      ))
    refine wpQuiet_nil ?_
    rintro _ ⟨nq, rfl⟩
    have xl := ext_lt nq.use
    have xz := ext_size nq.use
    try simp at xz
    go_wp2_with (first
      | (go_at_call 38; (with_reducible refine (hI _ (Lib.hid (by (repeat (first | exact ext_refl _ | assumption | refine ext_setCell ?_ (by simp; try omega) _ | refine ext_alloc ?_ _ | refine ext_drew ?_ | refine ext_drewN ?_ _ | refine ext_trans ?_ (Aft.use _) | refine ext_trans ?_ (by assumption)))))).mono ?_); rintro e w4 ⟨rfl, xb4⟩; obtain ⟨xc4, xf4, xl4, xz4⟩ := ext_use xb4; (try simp at xz4); have l4_0 := xl4 (w.heap.size) (by first | omega | (simp; try omega)); have r4_0 := xc4 (w.heap.size) 0 (by first | omega | (simp; try omega)); have f4_0 := xf4 (w.heap.size) 0 (by first | omega | (simp; try omega)); have r4_0_1 := xc4 (w.heap.size) 1 (by first | omega | (simp; try omega)); have f4_0_1 := xf4 (w.heap.size) 1 (by first | omega | (simp; try omega)); have r4_0_2 := xc4 (w.heap.size) 2 (by first | omega | (simp; try omega)); have f4_0_2 := xf4 (w.heap.size) 2 (by first | omega | (simp; try omega)))
     )
    refine bodyPost_ret (v := ttV ⟨M ++ (l.take 1 ++ 101 :: I), 0⟩) ?h rfl ⟨by simp, ?_⟩
    case h => simp [results, Tryd.results17, go_sem]
    repeat (first | exact ext_refl _ | assumption | refine ext_setCell ?_ (by simp; try omega) _ | refine ext_alloc ?_ _ | refine ext_drew ?_ | refine ext_drewN ?_ _ | refine ext_trans ?_ (Aft.use _) | refine ext_trans ?_ (by assumption))
theorem sci_any (d : Dc) (hl : d.dig.length ≤ 9223372036854775807) (he : -9223372036854775808 ≤ d.exp ∧ d.exp ≤ 9223372036854775807) (w : World) (hp : Pw w) :
    Calls Tryd.prog 16 #[dcV d] w fun e w' => e = .returned (ttV (sciR d)) ∧ Ext w w' := by
  have hc := check_any' d hl
  by_cases h1 : dcE d = 0
  · rw [h1] at hc
    by_cases h2 : d.dig.length = 0
    · have R : sciR d = ⟨minusL d.neg ++ [48, 101, 48], 0⟩ := by unfold sciR; rw [if_neg (by simpa using h1), if_pos h2]
      rw [R]
      clear R h1
      obtain ⟨neg, l, exp⟩ := d
      obtain rfl : l = [] := List.eq_nil_of_length_eq_zero h2
      have hml := minus_len neg
      clear h2
      go_enter Tryd.func16, Tryd.ntmps16
      go_wp2_with (first
        | (go_at_call 26; (with_reducible refine (hc _).mono ?_); rintro e w1 ⟨rfl, xb1⟩; obtain ⟨xc1, xf1, xl1, xz1⟩ := ext_use xb1; (try simp at xz1); have l1_0 := xl1 (w.heap.size) (by first | omega | (simp; try omega)); have r1_0 := xc1 (w.heap.size) 0 (by first | omega | (simp; try omega)); have f1_0 := xf1 (w.heap.size) 0 (by first | omega | (simp; try omega)); have r1_0_1 := xc1 (w.heap.size) 1 (by first | omega | (simp; try omega)); have f1_0_1 := xf1 (w.heap.size) 1 (by first | omega | (simp; try omega)); have r1_0_2 := xc1 (w.heap.size) 2 (by first | omega | (simp; try omega)); have f1_0_2 := xf1 (w.heap.size) 2 (by first | omega | (simp; try omega)))
        | (go_at_call 30; (with_reducible refine (none_any _ _ _ _).mono ?_); rintro e w2 ⟨rfl, xb2⟩; obtain ⟨xc2, xf2, xl2, xz2⟩ := ext_use xb2; (try simp at xz2); have l2_0 := xl2 (w.heap.size) (by first | omega | (simp; try omega)); have r2_0 := xc2 (w.heap.size) 0 (by first | omega | (simp; try omega)); have f2_0 := xf2 (w.heap.size) 0 (by first | omega | (simp; try omega)); have r2_0_1 := xc2 (w.heap.size) 1 (by first | omega | (simp; try omega)); have f2_0_1 := xf2 (w.heap.size) 1 (by first | omega | (simp; try omega)); have r2_0_2 := xc2 (w.heap.size) 2 (by first | omega | (simp; try omega)); have f2_0_2 := xf2 (w.heap.size) 2 (by first | omega | (simp; try omega)))
        | (go_at_call 32; (with_reducible refine (minus_any _ _).mono ?_); rintro e w' ⟨rfl, rfl⟩)
       )
      refine bodyPost_ret (v := ttV ⟨minusL neg ++ [48, 101, 48], 0⟩) ?h rfl ⟨rfl, ?_⟩
      case h => simp [results, Tryd.results16, go_sem]
      repeat (first | exact ext_refl _ | assumption | refine ext_setCell ?_ (by simp; try omega) _ | refine ext_alloc ?_ _ | refine ext_drew ?_ | refine ext_drewN ?_ _ | refine ext_trans ?_ (Aft.use _) | refine ext_trans ?_ (by assumption))
    · have R : sciR d = ⟨sciL d.neg d.dig d.exp, 0⟩ := by unfold sciR; rw [if_neg (by simpa using h1), if_neg h2]
      rw [R]
      have hok := dc_ok h1 (by omega)
      obtain ⟨neg, l, exp⟩ := d
      exact sci_some neg l exp hok hc w hp
  · have R : sciR d = ⟨[], dcE d⟩ := by unfold sciR; rw [if_pos (by simpa using h1)]
    rw [R]
    have hne : (dcE d == 0) = false := by rw [beq_eq_false_iff_ne]; exact h1
    clear R h1
    generalize dcE d = E at hc hne
    obtain ⟨neg, l, exp⟩ := d
    go_enter Tryd.func16, Tryd.ntmps16
    go_wp2_with (first
      | (go_at_call 26; (with_reducible refine (hc _).mono ?_); rintro e w1 ⟨rfl, xb1⟩; obtain ⟨xc1, xf1, xl1, xz1⟩ := ext_use xb1; (try simp at xz1); have l1_0 := xl1 (w.heap.size) (by first | omega | (simp; try omega)); have r1_0 := xc1 (w.heap.size) 0 (by first | omega | (simp; try omega)); have f1_0 := xf1 (w.heap.size) 0 (by first | omega | (simp; try omega)); have r1_0_1 := xc1 (w.heap.size) 1 (by first | omega | (simp; try omega)); have f1_0_1 := xf1 (w.heap.size) 1 (by first | omega | (simp; try omega)); have r1_0_2 := xc1 (w.heap.size) 2 (by first | omega | (simp; try omega)); have f1_0_2 := xf1 (w.heap.size) 2 (by first | omega | (simp; try omega)))
     )
    refine bodyPost_ret (v := ttV ⟨[], E⟩) ?h rfl ⟨rfl, ?_⟩
    case h => simp [results, Tryd.results16, go_sem, bs_nil]
    repeat (first | exact ext_refl _ | assumption | refine ext_setCell ?_ (by simp; try omega) _ | refine ext_alloc ?_ _ | refine ext_drew ?_ | refine ext_drewN ?_ _ | refine ext_trans ?_ (Aft.use _) | refine ext_trans ?_ (by assumption))
theorem rsci_any (d : Dc) (hl : d.dig.length ≤ 9223372036854775807) (he : -9223372036854775808 ≤ d.exp ∧ d.exp ≤ 9223372036854775807) (w : World) :
    Calls Tryd.prog 17 #[dcV d] w fun e w' => e = .returned (ttV (sciR d)) ∧ Ext w w' := by
  have hc := rcheck_any d hl
  by_cases h1 : dcE d = 0
  · rw [h1] at hc
    by_cases h2 : d.dig.length = 0
    · have R : sciR d = ⟨minusL d.neg ++ [48, 101, 48], 0⟩ := by unfold sciR; rw [if_neg (by simpa using h1), if_pos h2]
      rw [R]
      clear R h1
      obtain ⟨neg, l, exp⟩ := d
      obtain rfl : l = [] := List.eq_nil_of_length_eq_zero h2
      have hml := minus_len neg
      clear h2
      go_enter Tryd.func17, Tryd.ntmps17
      go_wp2_with (first
        | (go_at_call 28; (with_reducible refine (hc _).mono ?_); rintro e w1 ⟨rfl, xb1⟩; obtain ⟨xc1, xf1, xl1, xz1⟩ := ext_use xb1; (try simp at xz1); have l1_0 := xl1 (w.heap.size) (by first | omega | (simp; try omega)); have r1_0 := xc1 (w.heap.size) 0 (by first | omega | (simp; try omega)); have f1_0 := xf1 (w.heap.size) 0 (by first | omega | (simp; try omega)); have r1_0_1 := xc1 (w.heap.size) 1 (by first | omega | (simp; try omega)); have f1_0_1 := xf1 (w.heap.size) 1 (by first | omega | (simp; try omega)); have r1_0_2 := xc1 (w.heap.size) 2 (by first | omega | (simp; try omega)); have f1_0_2 := xf1 (w.heap.size) 2 (by first | omega | (simp; try omega)))
        | (go_at_call 31; (with_reducible refine (rnone_any _ _ _ _).mono ?_); rintro e w2 ⟨rfl, xb2⟩; obtain ⟨xc2, xf2, xl2, xz2⟩ := ext_use xb2; (try simp at xz2); have l2_0 := xl2 (w.heap.size) (by first | omega | (simp; try omega)); have r2_0 := xc2 (w.heap.size) 0 (by first | omega | (simp; try omega)); have f2_0 := xf2 (w.heap.size) 0 (by first | omega | (simp; try omega)); have r2_0_1 := xc2 (w.heap.size) 1 (by first | omega | (simp; try omega)); have f2_0_1 := xf2 (w.heap.size) 1 (by first | omega | (simp; try omega)); have r2_0_2 := xc2 (w.heap.size) 2 (by first | omega | (simp; try omega)); have f2_0_2 := xf2 (w.heap.size) 2 (by first | omega | (simp; try omega)))
        | (go_at_call 35; (with_reducible refine (rminus_any _ _).mono ?_); rintro e w' ⟨rfl, rfl⟩)
       )
      refine bodyPost_ret (v := ttV ⟨minusL neg ++ [48, 101, 48], 0⟩) ?h rfl ⟨rfl, ?_⟩
      case h => simp [results, Tryd.results17, go_sem]
      repeat (first | exact ext_refl _ | assumption | refine ext_setCell ?_ (by simp; try omega) _ | refine ext_alloc ?_ _ | refine ext_drew ?_ | refine ext_drewN ?_ _ | refine ext_trans ?_ (Aft.use _) | refine ext_trans ?_ (by assumption))
    · have R : sciR d = ⟨sciL d.neg d.dig d.exp, 0⟩ := by unfold sciR; rw [if_neg (by simpa using h1), if_neg h2]
      rw [R]
      have hok := dc_ok h1 (by omega)
      obtain ⟨neg, l, exp⟩ := d
      exact rsci_some neg l exp hok hc w
  · have R : sciR d = ⟨[], dcE d⟩ := by unfold sciR; rw [if_pos (by simpa using h1)]
    rw [R]
    have hne : (dcE d == 0) = false := by rw [beq_eq_false_iff_ne]; exact h1
    clear R h1
    generalize dcE d = E at hc hne
    obtain ⟨neg, l, exp⟩ := d
    go_enter Tryd.func17, Tryd.ntmps17
    go_wp2_with (first
      | (go_at_call 28; (with_reducible refine (hc _).mono ?_); rintro e w1 ⟨rfl, xb1⟩; obtain ⟨xc1, xf1, xl1, xz1⟩ := ext_use xb1; (try simp at xz1); have l1_0 := xl1 (w.heap.size) (by first | omega | (simp; try omega)); have r1_0 := xc1 (w.heap.size) 0 (by first | omega | (simp; try omega)); have f1_0 := xf1 (w.heap.size) 0 (by first | omega | (simp; try omega)); have r1_0_1 := xc1 (w.heap.size) 1 (by first | omega | (simp; try omega)); have f1_0_1 := xf1 (w.heap.size) 1 (by first | omega | (simp; try omega)); have r1_0_2 := xc1 (w.heap.size) 2 (by first | omega | (simp; try omega)); have f1_0_2 := xf1 (w.heap.size) 2 (by first | omega | (simp; try omega)))
     )
    refine bodyPost_ret (v := ttV ⟨[], E⟩) ?h rfl ⟨rfl, ?_⟩
    case h => simp [results, Tryd.results17, go_sem, bs_nil]
    repeat (first | exact ext_refl _ | assumption | refine ext_setCell ?_ (by simp; try omega) _ | refine ext_alloc ?_ _ | refine ext_drew ?_ | refine ext_drewN ?_ _ | refine ext_trans ?_ (Aft.use _) | refine ext_trans ?_ (by assumption))
end Go.Proofs.YtmpgfibahdiblaaDoor
