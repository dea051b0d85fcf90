/- Lemmas of this proof, laid together: LxN, LxO, LxQ, LxR, DxB. -/
import Derived.Test.YtnkajjealkggdaaGreatDoorMg27
import Derived.Shelf.Strings.SlTrimAscii
import Derived.Lib.ParseIntBCases
import Derived.Deep.RegionWith
import Derived.Test.YtnkajjealkggdaaGreatDoorMg26
import Derived.Test.YtnkajjealkggdaaGreatDoorMg22
set_option linter.unusedSimpArgs false
set_option linter.unusedVariables false
section
/- Lex, the program: what stands in brackets behind nan. -/
namespace Go.Proofs.YtnkajjealkggdaaGreatDoor
open Go.RowKit
attribute [local go_sem] bs_size bs_extract bs_get bs_append bs_toList const_get
attribute [local go_sem] sz2 sz3 sz4 sz5 sz6 sz7 sz8
set_option maxHeartbeats 4000000
set_option maxRecDepth 100000
attribute [local irreducible] Calls
theorem lx_cons (c : UInt8) (r : List UInt8) : dval (c :: r) = (c.toNat - 48) * 10 ^ r.length + dval r := by
  have h := dval_append [c] r
  have e : dval [c] = c.toNat - 48 := by simp [dval]
  rw [e] at h
  exact h
theorem lx_pu_go (l : List UInt8) (h : digsB l = true) : ∀ acc, acc < 18446744073709551616 → Lib.parseUint10 acc l = if acc * 10 ^ l.length + dval l < 18446744073709551616 then Lib.NumEnd.ok (acc * 10 ^ l.length + dval l) else Lib.NumEnd.range := by
  induction l with
  | nil =>
    intro acc ha
    have e : acc * 10 ^ ([] : List UInt8).length + dval [] = acc := by simp [dval]
    rw [e, if_pos ha]
    rfl
  | cons c r ih =>
    intro acc ha
    have h2 : isD c = true ∧ digsB r = true := by simpa [digsB] using h
    have h3 := isD_yes c h2.1
    have hp : 1 ≤ 10 ^ r.length := Nat.pow_pos (by decide)
    have e : acc * 10 ^ (c :: r).length + dval (c :: r) = (acc * 10 + (c.toNat - 48)) * 10 ^ r.length + dval r := by
      rw [lx_cons, List.length_cons, Nat.pow_succ, Nat.add_mul, ← Nat.mul_assoc, Nat.mul_right_comm, Nat.add_assoc]
    have big : ∀ n, 18446744073709551616 ≤ n → ¬ n * 10 ^ r.length + dval r < 18446744073709551616 := fun n hn => by
      have := Nat.mul_le_mul hn hp
      omega
    rw [e]
    simp only [Lib.parseUint10]
    rw [if_pos ⟨h3.1, h3.2⟩]
    by_cases g1 : 1844674407370955162 ≤ acc
    · rw [if_pos g1, if_neg (big _ (by omega))]
    · rw [if_neg g1]
      by_cases g2 : 18446744073709551616 ≤ acc * 10 + (c.toNat - 48)
      · rw [if_pos g2, if_neg (big _ g2)]
      · rw [if_neg g2, ih h2.2 _ (by omega)]
theorem lx_pu_digs (l : List UInt8) (h : digsB l = true) (h0 : 0 < l.length) : Lib.parseUintB 64 l = if dval l < 18446744073709551616 then Lib.NumEnd.ok (dval l) else Lib.NumEnd.range := by
  rw [Lib.parseUintB_64]
  unfold Lib.parseMag
  rw [if_neg (by intro e; subst e; simp at h0), lx_pu_go l h 0 (by decide), Nat.zero_mul, Nat.zero_add]
theorem lx_ten_digits (b : UInt8) : [48, 49, 50, 51, 52, 53, 54, 55, 56, 57].contains b = isD b := by
  rw [Bool.eq_iff_iff, List.contains_iff_mem]
  simp only [isD]
  simp only [List.mem_cons, List.not_mem_nil, or_false, ← UInt8.toNat_inj]
  simp
  constructor
  · intro h; omega
  · intro h; omega
theorem lx_trim_digits (l : List UInt8) : Lib.trimLeftS (bs l).data.toList (⟨#[48, 49, 50, 51, 52, 53, 54, 55, 56, 57]⟩ : ByteArray).data.toList = l.dropWhile isD := by
  rw [bs_data]
  show l.dropWhile (fun b => [48, 49, 50, 51, 52, 53, 54, 55, 56, 57].contains b) = _
  congr 1
  funext b
  exact lx_ten_digits b
theorem lx_TrimLeft (l : List UInt8) (w : World) :
    Calls Tryz.prog 102 #[.string (bs l), .string ⟨#[48, 49, 50, 51, 52, 53, 54, 55, 56, 57]⟩] w fun e w' => e = .returned (.string (bs (l.dropWhile isD))) ∧ Ext w w' := by
  refine (Any.strings_TrimLeft_laid Tryz.lays161 (by kernel_rfl) (bs l) ⟨#[48, 49, 50, 51, 52, 53, 54, 55, 56, 57]⟩ w (by decide) (ascii_of_all (by decide))).mono ?_
  rintro e w' ⟨rfl, h⟩
  exact ⟨by rw [lx_trim_digits]; rfl, h⟩
theorem lx_dw_len (l : List UInt8) : (l.dropWhile isD).length + (l.takeWhile isD).length = l.length := by
  have := congrArg List.length (List.takeWhile_append_dropWhile (p := isD) (l := l))
  rw [List.length_append] at this; omega
theorem take_tw (l : List UInt8) : l.take (l.takeWhile isD).length = l.takeWhile isD := by
  have h9 := List.take_left (l₁ := l.takeWhile isD) (l₂ := l.dropWhile isD)
  rwa [List.takeWhile_append_dropWhile] at h9
theorem drop_tw (l : List UInt8) : l.drop (l.takeWhile isD).length = l.dropWhile isD := by
  have h9 := List.drop_left (l₁ := l.takeWhile isD) (l₂ := l.dropWhile isD)
  rwa [List.takeWhile_append_dropWhile] at h9
theorem tw_digs (l : List UInt8) : digsB (l.takeWhile isD) = true := by
  unfold digsB
  rw [List.all_eq_true]
  induction l with
  | nil => intro x h; cases h
  | cons b t ih =>
    intro x hx
    by_cases hb : isD b = true
    · rw [List.takeWhile_cons_of_pos hb] at hx
      rcases List.mem_cons.1 hx with rfl | hx
      · exact hb
      · exact ih x hx
    · rw [List.takeWhile_cons_of_neg hb] at hx; cases hx
theorem has_true {t l : List UInt8} {c : Nat} (h : (hasS t l c).1 = true) : (hasS t l c).2.2 = 0 := by
  unfold hasS at h ⊢
  by_cases q : c = 0 ∧ l.take t.length = t
  · rw [if_pos q]; exact q.1
  · rw [if_neg q] at h; cases h
theorem lx_bytes_ext {w w' : World} {t : TypeId} {s : ByteArray} (h : w' = w ∨ w' = Lib.bytesWorld w t s) : Ext w w' := by
  rcases h with rfl | rfl
  · exact ext_refl _
  · exact Lib.bytesWorld_below _ _ _
theorem lx_payload (b N : Nat) (l : List UInt8) (c : Nat) (W w : World) (h : Sc W w b N l c) (hT : LxT W) :
    Calls Tryz.prog 55 #[.pointer (some ⟨b, 0, none⟩)] w (ScQ W w b N (.int .u64 ((payS false l c).1 : Nat)) (payS false l c).2.1 (payS false l c).2.2) := by
  have HT := Lib.hid hT
  have hN := h.big
  have hlN := h.le
  have k1 : Hid (∀ w' l c, Sc W w' b N l c → Calls Tryz.prog 89 #[.pointer (some ⟨b, 0, none⟩), .string ⟨#[40]⟩] w' (ScQ W w' b N (.bool (hasS [40] l c).1) (hasS [40] l c).2.1 (hasS [40] l c).2.2)) := fun w' l c h => lx_has b N [40] l c W w' h
  have k2 : Hid (∀ w' l c, Sc W w' b N l c → Calls Tryz.prog 89 #[.pointer (some ⟨b, 0, none⟩), .string ⟨#[41]⟩] w' (ScQ W w' b N (.bool (hasS [41] l c).1) (hasS [41] l c).2.1 (hasS [41] l c).2.2)) := fun w' l c h => lx_has b N [41] l c W w' h
  have kf : Hid (∀ w' l c, Sc W w' b N l c → Calls Tryz.prog 34 #[.pointer (some ⟨b, 0, none⟩), .int .i64 111] w' (ScQ W w' b N (.tuple #[]) (failS 111 l c).2.1 (failS 111 l c).2.2)) := fun w' l c h => lx_fail b N 111 l c W w' h HT.out
  have kg : Hid (∀ w' l c, Sc W w' b N l c → Calls Tryz.prog 34 #[.pointer (some ⟨b, 0, none⟩), .int .i64 113] w' (ScQ W w' b N (.tuple #[]) (failS 113 l c).2.1 (failS 113 l c).2.2)) := fun w' l c h => lx_fail b N 113 l c W w' h HT.out
  unfold payS
  rw [bind_eq]
  have j1 := Lib.hid (k1.out w l c h)
  have ht := @has_true [40] l c
  have r1 := (ok_has [40] (by decide)).le l c
  obtain ⟨⟨v1, l1, c1⟩, e1⟩ : ∃ X, hasS [40] l c = X := ⟨_, rfl⟩
  rw [e1] at j1 ht r1
  rw [e1]
  clear h hT e1 k1
  cases v1
  · rw [if_neg Bool.false_ne_true]
    clear ht
    go_enter Tryz.func55, Tryz.ntmps55
    go_wp2_with (first
      | (go_at_call 89; (with_reducible refine (j1.out).mono ?_); rintro e w1 ⟨rfl, hS1, hT1⟩))
    refine bodyPost_ret (v := .int .u64 0) ?h rfl ⟨rfl, hS1, hT1⟩
    case h => simp [results, Tryz.results55, go_sem]
  · obtain rfl : c1 = 0 := ht rfl
    rw [if_pos rfl]
    dsimp only at r1 ⊢
    have hp : payIn false l1 0 = (if l1.takeWhile isD = [] then (0, (failS 111 l1 0).2) else if maxPay < dval (l1.takeWhile isD) then (0, l1, 115)
      else if (l1.dropWhile isD).head? = some 41 then (dval (l1.takeWhile isD), (l1.dropWhile isD).tail, 0) else (dval (l1.takeWhile isD), (failS 113 (l1.dropWhile isD) 0).2)) := rfl
    rw [hp]
    have kT := Lib.hid (fun w' => lx_TrimLeft l1 w')
    have hdl := lx_dw_len l1
    have htw := take_tw l1
    have hdt := drop_tw l1
    have hdg := tw_digs l1
    obtain ⟨t, htt⟩ : ∃ t, l1.takeWhile isD = t := ⟨_, rfl⟩
    obtain ⟨r, hrr⟩ : ∃ r, l1.dropWhile isD = r := ⟨_, rfl⟩
    rw [htt] at hdl htw hdt hdg
    rw [hrr] at kT hdl hdt
    rw [htt, hrr]
    have e0 : ((l1.length : Nat) : Int) - ((r.length : Nat) : Int) = (t.length : Nat) := by omega
    have htl : t.length ≤ l1.length := by omega
    have hex : (bs l1).extract 0 t.length = bs t := by rw [bs_extract, htw]; rfl
    clear ht hp htt hrr hex
    obtain ⟨Y, hY⟩ : ∃ Y : Nat × List UInt8 × Nat, (if t = [] then (0, (failS 111 l1 0).2) else if maxPay < dval t then (0, l1, 115) else if r.head? = some 41 then (dval t, r.tail, 0) else (dval t, (failS 113 r 0).2)) = Y := ⟨_, rfl⟩
    have HY := Lib.hid hY
    rw [hY]
    clear hY
    go_enter Tryz.func55, Tryz.ntmps55
    go_upto_region 3 with (first
      | (go_at_call 89; (with_reducible refine (j1.out).mono ?_); rintro e w1 ⟨rfl, hS1, hT1⟩; obtain ⟨zl, z0, z1, z2, g0, g1, g2, -, -, -, -⟩ := hS1.out))
    refine wp_aft (by kernel_rfl) (by kernel_rfl) (fun hq hqf => ?_)
    repeat (go_big_quiet_step (first
      | (go_at_call 102; exact aft_of (kT.out _))
      ))
    refine wpQuiet_nil ?_
    rintro _ ⟨nq, rfl⟩
    have xl := ext_lt nq.use
    have xz := ext_size nq.use
    try simp at xz
    obtain ⟨W2, hW2⟩ : ∃ W2, nq.out = W2 := ⟨_, rfl⟩
    have hEq := Lib.hid nq.use
    rw [hW2] at hEq xl xz ⊢
    have hS2 := Lib.hid (hS1.out.ext hEq.out)
    have hT2 := Lib.hid (hT1.trans (Tch.of hEq.out))
    clear hq hqf hW2 nq xl xz z0 z1 z2 g0 g1 g2 zl htw
    by_cases ht0 : t = []
    · have j2 := Lib.hid (kf.out W2 l1 0 hS2.out)
      have hy := HY.out
      rw [if_pos ht0] at hy
      obtain ⟨⟨⟨⟩, l2, c2⟩, e2⟩ : ∃ X, failS 111 l1 0 = X := ⟨_, rfl⟩
      rw [e2] at j2 hy
      subst hy
      clear e2 kf kg k2 HY
      subst ht0
      go_wp2_with (first
        | (go_at_call 34; (with_reducible refine (j2.out).mono ?_); rintro e w3 ⟨rfl, hS3, hT3⟩))
      refine bodyPost_ret (v := .int .u64 0) ?h rfl ⟨rfl, hS3, hT2.out.trans hT3⟩
      case h => simp [results, Tryz.results55, go_sem]
    · have hte : t.isEmpty = false := by
        cases t with
        | nil => exact absurd rfl ht0
        | cons x u => rfl
      have htp : 0 < t.length := List.length_pos_iff.2 ht0
      have hy := HY.out
      rw [if_neg ht0] at hy
      have hts : (bs t).size = t.length := bs_size t
      clear HY kf
      by_cases hm : maxPay < dval t
      · rw [if_pos hm] at hy
        subst hy
        by_cases h64 : dval t < 18446744073709551616
        · have k : Hid (∀ w, Calls Tryz.prog 104 #[.string (bs t), .int .i64 10, .int .i64 64] w fun e w' => e = .returned (.tuple #[.int .u64 (dval t : Nat), .nilIface]) ∧ Ext w w') := Lib.hid fun w =>
            (Tryz.strconv_ParseUint_10_at64_ok (bs t) (by omega) (dval t) (by show Lib.parseUintB 64 t = _; rw [lx_pu_digs t hdg htp, if_pos h64]) w).mono fun e w' ⟨h1, h2⟩ => ⟨h1, lx_bytes_ext h2⟩
          unfold maxPay at hm
          generalize dval t = v at *
          have hm' : (2251799813685247 : Int) < v := by omega
          clear hdg ht0 htp h64 hm
          go_wp2_with (first
            | (go_at_call 104; (with_reducible refine (k.out _).mono ?_); rintro e w3 ⟨rfl, xb3⟩; (have hS3 := Lib.hid (hS2.out.ext xb3)); obtain ⟨zl, z0, z1, z2, g0, g1, g2, -, -, -, -⟩ := hS3.out))
          refine bodyPost_ret (v := .int .u64 0) ?h rfl ⟨rfl, hS3.out.code 115 rfl, (hT2.out.trans (Tch.of xb3)).set _ _⟩
          case h => simp [results, Tryz.results55, go_sem]
        · have k : Hid (∀ w, LxT w → Calls Tryz.prog 104 #[.string (bs t), .int .i64 10, .int .i64 64] w fun e w' => ∃ ty N, e = .returned (.tuple #[.int .u64 18446744073709551615, .iface ty (.pointer (some ⟨N, 0, none⟩))]) ∧ Ext w w') := Lib.hid fun w hL => by
            obtain ⟨te, pe, hc⟩ := hL.er
            exact (Tryz.strconv_ParseUint_10_at64_range (bs t) (by omega) (by show Lib.parseUintB 64 t = _; rw [lx_pu_digs t hdg htp, if_neg h64]) _ w hc (.inr ⟨te, pe, rfl⟩)).mono fun e w' ⟨N, h1, _, _, h2⟩ => ⟨_, N, h1, h2⟩
          clear hdg ht0 htp h64 hm
          go_wp2_with (first
            | (go_at_call 104; (with_reducible refine (k.out _ (HT.out.ext hS2.out.base)).mono ?_); rintro e w3 ⟨ty, N9, rfl, xb3⟩; (have hS3 := Lib.hid (hS2.out.ext xb3)); obtain ⟨zl, z0, z1, z2, g0, g1, g2, -, -, -, -⟩ := hS3.out))
          refine bodyPost_ret (v := .int .u64 0) ?h rfl ⟨rfl, hS3.out.code 115 rfl, (hT2.out.trans (Tch.of xb3)).set _ _⟩
          case h => simp [results, Tryz.results55, go_sem]
      · rw [if_neg hm] at hy
        have k : Hid (∀ w, Calls Tryz.prog 104 #[.string (bs t), .int .i64 10, .int .i64 64] w fun e w' => e = .returned (.tuple #[.int .u64 (dval t : Nat), .nilIface]) ∧ Ext w w') := Lib.hid fun w =>
          (Tryz.strconv_ParseUint_10_at64_ok (bs t) (by omega) (dval t) (by show Lib.parseUintB 64 t = _; rw [lx_pu_digs t hdg htp, if_pos (by unfold maxPay at hm; omega)]) w).mono fun e w' ⟨h1, h2⟩ => ⟨h1, lx_bytes_ext h2⟩
        unfold maxPay at hm
        generalize dval t = v at *
        have hm' : ¬ (2251799813685247 : Int) < v := by omega
        have HDT := Lib.hid hdt
        have ks : Hid (∀ w', Sc W w' b N l1 0 → Calls Tryz.prog 92 #[.pointer (some ⟨b, 0, none⟩), .int .i64 (t.length : Nat)] w' (ScQ W w' b N (.tuple #[]) r 0)) := fun w' h => by
          have := lx_skip b N t.length l1 0 W w' h htl
          rwa [HDT.out] at this
        have j3 := Lib.hid (fun w' h => k2.out w' r 0 h)
        clear hdg ht0 htp hm hdt
        by_cases hr : r.head? = some 41
        · rw [if_pos hr] at hy
          have e3 : hasS [41] r 0 = (true, r.tail, 0) := by
            match r, hr with
            | x :: u, hr => obtain rfl : x = 41 := by simpa using hr
                            exact hasS_yes rfl
          rw [e3] at j3
          subst hy
          clear e3 kg hr
          go_wp2_with (first
            | (go_at_call 104; (with_reducible refine (k.out _).mono ?_); rintro e w3 ⟨rfl, xb3⟩; (have hS3 := Lib.hid (hS2.out.ext xb3)))
            | (go_at_call 92; (with_reducible refine (ks.out _ hS3.out).mono ?_); rintro e w4 ⟨rfl, hS4, hT4⟩)
            | (go_at_call 89; (with_reducible refine (j3.out _ hS4.out).mono ?_); rintro e w5 ⟨rfl, hS5, hT5⟩))
          refine bodyPost_ret (v := .int .u64 ↑v) ?h rfl ⟨rfl, hS5, ((hT2.out.trans (Tch.of xb3)).trans hT4).trans hT5⟩
          case h => simp [results, Tryz.results55, go_sem]
        · rw [if_neg hr] at hy
          have e3 : hasS [41] r 0 = (false, r, 0) := hasS_no (by
            cases r with
            | nil => simp
            | cons x u => intro q; apply hr; simpa using q)
          rw [e3] at j3
          have j4 := Lib.hid (fun w' h => kg.out w' r 0 h)
          obtain ⟨⟨⟨⟩, l2, c2⟩, e2⟩ : ∃ X, failS 113 r 0 = X := ⟨_, rfl⟩
          rw [e2] at j4 hy
          subst hy
          clear e3 e2 kg hr
          go_wp2_with (first
            | (go_at_call 104; (with_reducible refine (k.out _).mono ?_); rintro e w3 ⟨rfl, xb3⟩; (have hS3 := Lib.hid (hS2.out.ext xb3)))
            | (go_at_call 92; (with_reducible refine (ks.out _ hS3.out).mono ?_); rintro e w4 ⟨rfl, hS4, hT4⟩)
            | (go_at_call 89; (with_reducible refine (j3.out _ hS4.out).mono ?_); rintro e w5 ⟨rfl, hS5, hT5⟩)
            | (go_at_call 34; (with_reducible refine (j4.out _ hS5.out).mono ?_); rintro e w6 ⟨rfl, hS6, hT6⟩))
          refine bodyPost_ret (v := .int .u64 ↑v) ?h rfl ⟨rfl, hS6, (((hT2.out.trans (Tch.of xb3)).trans hT4).trans hT5).trans hT6⟩
          case h => simp [results, Tryz.results55, go_sem]
end Go.Proofs.YtnkajjealkggdaaGreatDoor
end
section
/- Lex, the program: the number that stands at a text's beginning. (Written by mklxo.py.) -/
namespace Go.Proofs.YtnkajjealkggdaaGreatDoor
open Go.RowKit
attribute [local go_sem] bs_size bs_extract bs_get bs_append bs_toList const_get
attribute [local go_sem] sz2 sz3 sz4 sz5 sz6 sz7 sz8 sz9 sz10
set_option maxHeartbeats 4000000
set_option maxRecDepth 100000
attribute [local irreducible] Calls
theorem has_code (t l : List UInt8) (c : Nat) : (hasS t l c).2.2 = c := by unfold hasS; split <;> rfl
theorem fold_code (t l : List UInt8) (c : Nat) : (foldS t l c).2.2 = c := by unfold foldS; split <;> rfl
theorem minus_code (l : List UInt8) (c : Nat) : (minusS l c).2.2 = c := by
  unfold minusS
  rw [bind_eq]
  split
  · exact has_code _ _ _
  · rw [bind_eq]
    split
    · show (hasS [45] _ _).2.2 = c
      rw [has_code, has_code]
    · rw [has_code, has_code, has_code]
/-- A number's answer: its limbs are the caller's. -/
abbrev NuQ (W w : World) (b N : Nat) (X : Num × List UInt8 × Nat) : Ending → World → Prop := fun e w' => ∃ A n k, e = .returned (numV X.1 A n k) ∧ Hid (RdO w' A n k X.1.mant none ∧ Fr w A) ∧ Hid (Sc W w' b N X.2.1 X.2.2) ∧ Tch b w w'
theorem numS_eq (doc : Bool) {l l1 : List UInt8} {neg : Bool} (h : minusS l 0 = (neg, l1, 0)) (hu : ¬ l1.head? = some 95) : numS doc l 0 = (if (foldS [48, 120] l1 0).1 = true then hexS doc neg else decO doc neg (namS doc neg)) (foldS [48, 120] l1 0).2.1 0 := by
  unfold numS
  rw [bind_eq, h, bind_eq]
  dsimp only
  rw [under_no hu, if_neg Bool.false_ne_true, bind_eq, fold_code]
theorem numS_under (doc : Bool) {l l1 : List UInt8} {neg : Bool} (h : minusS l 0 = (neg, l1, 0)) (hu : l1.head? = some 95) : numS doc l 0 = (num0, l1, 112) := by
  unfold numS
  rw [bind_eq, h, bind_eq]
  dsimp only
  rw [under_yes hu, if_pos rfl]
  rfl
theorem numS_hex (doc : Bool) {l l1 : List UInt8} {neg : Bool} (h : minusS l 0 = (neg, l1, 0)) (hu : ¬ l1.head? = some 95) (hf : (l1.take 2).map lowB = [48, 120]) : numS doc l 0 = hexS doc neg (l1.drop 2) 0 := by
  rw [numS_eq doc h hu, foldS_yes (t := [48, 120]) hf]
  rfl
theorem numS_dec (doc : Bool) {l l1 : List UInt8} {neg : Bool} (h : minusS l 0 = (neg, l1, 0)) (hu : ¬ l1.head? = some 95) (hf : ¬ (l1.take 2).map lowB = [48, 120]) (hd : decB l1 = true) : numS doc l 0 = decS doc neg l1 0 := by
  rw [numS_eq doc h hu, foldS_no (t := [48, 120]) hf]
  show decO doc neg (namS doc neg) l1 0 = _
  exact decO_yes hd
theorem numS_nam (doc : Bool) {l l1 : List UInt8} {neg : Bool} (h : minusS l 0 = (neg, l1, 0)) (hu : ¬ l1.head? = some 95) (hf : ¬ (l1.take 2).map lowB = [48, 120]) (hd : ¬ decB l1 = true) : numS doc l 0 = namS doc neg l1 0 := by
  rw [numS_eq doc h hu, foldS_no (t := [48, 120]) hf]
  show decO doc neg (namS doc neg) l1 0 = _
  exact decO_no hd
section
variable (b N : Nat) (l l1 : List UInt8) (neg : Bool) (W w : World) (h : Sc W w b N l 0) (hT : LxT W) (hm : minusS l 0 = (neg, l1, 0))
include h hT hm
theorem lx_num_under (hu : l1.head? = some 95) : Calls Tryz.prog 33 #[.pointer (some ⟨b, 0, none⟩)] w (NuQ W w b N (num0, l1, 112)) := by
  have HT := Lib.hid hT
  have hN := h.big
  have hb0 := h.lt
  have hlow := h.low
  have hWl := ext_size h.base
  have j1 : Hid (∀ w', Sc W w' b N l 0 → Calls Tryz.prog 49 #[.pointer (some ⟨b, 0, none⟩)] w' (ScQ W w' b N (.bool neg) l1 0)) := fun w' h => by
    have := lx_minus b N l 0 W w' h
    rwa [hm] at this
  have h0 := Lib.hid (h.ext (ext_alloc (ext_refl w) num0O))
  have hTw : Hid (Tch b w (w.alloc num0O)) := Tch.of (ext_alloc (ext_refl _) _)
  have hNC := Lib.hid (nc_new w)
  have hs0 : (w.alloc num0O).heap.size = w.heap.size + 1 := by simp
  have kp := Lib.hid (fun w' => lx_pre95 l1 w')
  rw [decide_eq_true hu] at kp
  clear h hT hm hu
  go_enter Tryz.func33, Tryz.ntmps33
  go_wp2_with (first
    | (go_at_call 49; (with_reducible refine (j1.out _ h0.out).mono ?_); rintro e w1 ⟨rfl, hS1, hT1⟩; (have hTw1 := Lib.hid (hTw.out.trans hT1)); (have hn1 := Lib.hid (hNC.out.tch hT1 (by omega))); obtain ⟨zl, z0, z1, z2, g0, g1, g2, -, -, -, -⟩ := hS1.out; obtain ⟨n0, n1, n2, n3, n4, n5, n6, n7, n8, q0, q1, q2, q3, q4, q5, q6, q7, q8, hB5⟩ := hn1.out)
    | (go_at_call 50; (with_reducible refine (kp.out _).mono ?_); rintro e w2 ⟨rfl, rfl⟩)
   )
  have hS2 := hS1.out.code 112 (v := .int .i64 112) rfl
  have hTw2 := hTw1.out.set 2 (.int .i64 112)
  have hn2 := hn1.out.tch ((Tch.refl b w1).set 2 (.int .i64 112)) (by omega)
  obtain ⟨m0, m1, m2, m3, m4, m5, m6, m7, m8⟩ := set9_at hn2 (.int .u8 0) (.bool false) (.bool false) (.string ⟨#[]⟩) (.int .i64 0) (.bool false) (.slice none 0 0) (.int .i64 0) (.int .u64 0) (ext_refl _)
  refine bodyPost_ret (v := numV num0 none 0 0) ?h rfl ⟨_, _, _, rfl, ⟨lx_rdo_nil _ _, fun a h => by cases h⟩, hS2.set9 (by omega) (by omega) (.int .u8 0) (.bool false) (.bool false) (.string ⟨#[]⟩) (.int .i64 0) (.bool false) (.slice none 0 0) (.int .i64 0) (.int .u64 0) (ext_refl _), hTw2.set9 (Nat.le_refl _) (.int .u8 0) (.bool false) (.bool false) (.string ⟨#[]⟩) (.int .i64 0) (.bool false) (.slice none 0 0) (.int .i64 0) (.int .u64 0) (ext_refl _)⟩
  case h => simp [results, Tryz.results33, go_sem, m0, m1, m2, m3, m4, m5, m6, m7, m8, num0]; rfl
theorem lx_num_hex (hu : ¬ l1.head? = some 95) (hf : (l1.take 2).map lowB = [48, 120]) : Calls Tryz.prog 33 #[.pointer (some ⟨b, 0, none⟩)] w (NuQ W w b N (hexS false neg (l1.drop 2) 0)) := by
  have HT := Lib.hid hT
  have hN := h.big
  have hb0 := h.lt
  have hlow := h.low
  have hWl := ext_size h.base
  have j1 : Hid (∀ w', Sc W w' b N l 0 → Calls Tryz.prog 49 #[.pointer (some ⟨b, 0, none⟩)] w' (ScQ W w' b N (.bool neg) l1 0)) := fun w' h => by
    have := lx_minus b N l 0 W w' h
    rwa [hm] at this
  have h0 := Lib.hid (h.ext (ext_alloc (ext_refl w) num0O))
  have hTw : Hid (Tch b w (w.alloc num0O)) := Tch.of (ext_alloc (ext_refl _) _)
  have hNC := Lib.hid (nc_new w)
  have hs0 : (w.alloc num0O).heap.size = w.heap.size + 1 := by simp
  have kp := Lib.hid (fun w' => lx_pre95 l1 w')
  rw [decide_eq_false hu] at kp
  have kt := Lib.hid (fun w' => lx_ten l1 w')
  have kx : Hid (∀ w', Sc W w' b N l1 0 → Calls Tryz.prog 52 #[.pointer (some ⟨b, 0, none⟩), .string ⟨#[48, 120]⟩] w' (ScQ W w' b N (.bool (foldS [48, 120] l1 0).1) (foldS [48, 120] l1 0).2.1 (foldS [48, 120] l1 0).2.2)) := fun w' h => lx_fold b N [48, 120] l1 0 W w' h
  rw [foldS_yes (t := [48, 120]) hf] at kx
  have kh := Lib.hid (fun w' h => lx_hex neg b N (l1.drop 2) 0 W w' h HT.out)
  obtain ⟨⟨X, l5, c5⟩, e5⟩ : ∃ X, hexS false neg (l1.drop 2) 0 = X := ⟨_, rfl⟩
  rw [e5] at kh
  rw [e5]
  clear h hT hm hu hf e5
  go_enter Tryz.func33, Tryz.ntmps33
  go_wp2_with (first
    | (go_at_call 49; (with_reducible refine (j1.out _ h0.out).mono ?_); rintro e w1 ⟨rfl, hS1, hT1⟩; (have hTw1 := Lib.hid (hTw.out.trans hT1)); (have hn1 := Lib.hid (hNC.out.tch hT1 (by omega))); obtain ⟨zl, z0, z1, z2, g0, g1, g2, -, -, -, -⟩ := hS1.out)
    | (go_at_call 50; (with_reducible refine (kp.out _).mono ?_); rintro e w2 ⟨rfl, rfl⟩)
    | (go_at_call 51; (with_reducible refine (kt.out _).mono ?_); rintro e w3 ⟨rfl, hE3⟩; (have hS3 := Lib.hid (hS1.out.ext hE3)); (have hTw3 := Lib.hid (hTw1.out.trans (Tch.of hE3))); (have hn3 := Lib.hid (hn1.out.ext hE3)); (have hz3 := hTw3.out.size))
    | (go_at_call 52; (with_reducible refine (kx.out _ hS3.out).mono ?_); rintro e w4 ⟨rfl, hS4, hT4⟩; (have hTw4 := Lib.hid (hTw3.out.trans hT4)); (have hn4 := Lib.hid (hn3.out.tch hT4 (by omega))); (have hz4 := hTw4.out.size))
    | (go_at_call 53; (with_reducible refine (kh.out _ hS4.out).mono ?_); rintro e w5 ⟨A5, k5, p5, rfl, hR5, hS5, hT5⟩; (have hTw5 := Lib.hid (hTw4.out.trans hT5)); (have hn5 := Lib.hid (hn4.out.tch hT5 (by omega))); obtain ⟨n0, n1, n2, n3, n4, n5, n6, n7, n8, q0, q1, q2, q3, q4, q5, q6, q7, q8, hB5⟩ := hn5.out)
   )
  have hfw : ∀ a, A5 = some a → w.heap.size < a.block := fun a ha => by
    have h1 : w4.heap.size ≤ a.block := hR5.out.2 a ha
    have h2 := hn4.out.lt
    omega
  obtain ⟨m0, m1, m2, m3, m4, m5, m6, m7, m8⟩ := set9_at hn5.out (.int .u8 (X.kind : Int)) (.bool X.neg) (.bool X.dneg) (.string (bs X.digits)) (.int .i64 X.dexp) (.bool X.hneg) (.slice A5 k5 p5) (.int .i64 X.hexp) (.int .u64 (X.payload : Int)) (ext_refl _)
  refine bodyPost_ret (v := numV X A5 k5 p5) ?h rfl ⟨_, _, _, rfl, ⟨((((((((hR5.out.1.set _ hfw).set _ hfw).set _ hfw).set _ hfw).set _ hfw).set _ hfw).set _ hfw).set _ hfw).set _ hfw, fun a ha => Nat.le_of_lt (hfw a ha)⟩, hS5.out.set9 (by omega) (by omega) (.int .u8 (X.kind : Int)) (.bool X.neg) (.bool X.dneg) (.string (bs X.digits)) (.int .i64 X.dexp) (.bool X.hneg) (.slice A5 k5 p5) (.int .i64 X.hexp) (.int .u64 (X.payload : Int)) (ext_refl _), hTw5.out.set9 (Nat.le_refl _) (.int .u8 (X.kind : Int)) (.bool X.neg) (.bool X.dneg) (.string (bs X.digits)) (.int .i64 X.dexp) (.bool X.hneg) (.slice A5 k5 p5) (.int .i64 X.hexp) (.int .u64 (X.payload : Int)) (ext_refl _)⟩
  case h => simp [results, Tryz.results33, go_sem, m0, m1, m2, m3, m4, m5, m6, m7, m8, num0]
theorem lx_num_dec (hu : ¬ l1.head? = some 95) (hf : ¬ (l1.take 2).map lowB = [48, 120]) (hd : decB l1 = true) : Calls Tryz.prog 33 #[.pointer (some ⟨b, 0, none⟩)] w (NuQ W w b N (decS false neg l1 0)) := by
  have HT := Lib.hid hT
  have hN := h.big
  have hb0 := h.lt
  have hlow := h.low
  have hWl := ext_size h.base
  have j1 : Hid (∀ w', Sc W w' b N l 0 → Calls Tryz.prog 49 #[.pointer (some ⟨b, 0, none⟩)] w' (ScQ W w' b N (.bool neg) l1 0)) := fun w' h => by
    have := lx_minus b N l 0 W w' h
    rwa [hm] at this
  have h0 := Lib.hid (h.ext (ext_alloc (ext_refl w) num0O))
  have hTw : Hid (Tch b w (w.alloc num0O)) := Tch.of (ext_alloc (ext_refl _) _)
  have hNC := Lib.hid (nc_new w)
  have hs0 : (w.alloc num0O).heap.size = w.heap.size + 1 := by simp
  have kp := Lib.hid (fun w' => lx_pre95 l1 w')
  rw [decide_eq_false hu] at kp
  have kt := Lib.hid (fun w' => lx_ten l1 w')
  have kx : Hid (∀ w', Sc W w' b N l1 0 → Calls Tryz.prog 52 #[.pointer (some ⟨b, 0, none⟩), .string ⟨#[48, 120]⟩] w' (ScQ W w' b N (.bool (foldS [48, 120] l1 0).1) (foldS [48, 120] l1 0).2.1 (foldS [48, 120] l1 0).2.2)) := fun w' h => lx_fold b N [48, 120] l1 0 W w' h
  rw [foldS_no (t := [48, 120]) hf] at kx
  have kd46 := Lib.hid (fun w' => lx_pre46 l1 w')
  have kc := Lib.hid (fun w' h => lx_decimal neg b N l1 0 W w' h HT.out)
  have hmant : (decS false neg l1 0).1.mant = [] := rfl
  obtain ⟨⟨X, l5, c5⟩, e5⟩ : ∃ X, decS false neg l1 0 = X := ⟨_, rfl⟩
  rw [e5] at kc hmant
  rw [e5]
  have HM : Hid (X.mant = []) := hmant
  have hd2 : 0 < (tenB l1).2 ∨ (¬ 0 < (tenB l1).2 ∧ l1.head? = some 46) := by
    unfold decB at hd
    rw [Bool.or_eq_true, decide_eq_true_eq, decide_eq_true_eq] at hd
    by_cases q : 0 < (tenB l1).2
    · exact .inl q
    · exact .inr ⟨q, hd.resolve_left q⟩
  obtain ⟨d9, hd9⟩ : ∃ d, (tenB l1).1 = d := ⟨_, rfl⟩
  obtain ⟨n9, hn9⟩ : ∃ n, (tenB l1).2 = n := ⟨_, rfl⟩
  rw [hd9, hn9] at kt
  rw [hn9] at hd2
  clear h hT hm hu hf e5 hmant hd hd9 hn9
  rcases hd2 with hd2 | ⟨hd2, hd3⟩
  · have hd3 : (0 : Int) < n9 := by omega
    go_enter Tryz.func33, Tryz.ntmps33
    go_wp2_with (first
      | (go_at_call 49; (with_reducible refine (j1.out _ h0.out).mono ?_); rintro e w1 ⟨rfl, hS1, hT1⟩; (have hTw1 := Lib.hid (hTw.out.trans hT1)); (have hn1 := Lib.hid (hNC.out.tch hT1 (by omega))); obtain ⟨zl, z0, z1, z2, g0, g1, g2, -, -, -, -⟩ := hS1.out)
      | (go_at_call 50; (with_reducible refine (kp.out _).mono ?_); rintro e w2 ⟨rfl, rfl⟩)
      | (go_at_call 51; (with_reducible refine (kt.out _).mono ?_); rintro e w3 ⟨rfl, hE3⟩; (have hS3 := Lib.hid (hS1.out.ext hE3)); (have hTw3 := Lib.hid (hTw1.out.trans (Tch.of hE3))); (have hn3 := Lib.hid (hn1.out.ext hE3)); (have hz3 := hTw3.out.size))
      | (go_at_call 52; (with_reducible refine (kx.out _ hS3.out).mono ?_); rintro e w4 ⟨rfl, hS4, hT4⟩; (have hTw4 := Lib.hid (hTw3.out.trans hT4)); (have hn4 := Lib.hid (hn3.out.tch hT4 (by omega))); (have hz4 := hTw4.out.size))
      | (go_at_call 54; (with_reducible refine (kc.out _ hS4.out).mono ?_); rintro e w5 ⟨rfl, hS5, hT5⟩; (have hTw5 := Lib.hid (hTw4.out.trans hT5)); (have hn5 := Lib.hid (hn4.out.tch hT5 (by omega))); obtain ⟨n0, n1, n2, n3, n4, n5, n6, n7, n8, q0, q1, q2, q3, q4, q5, q6, q7, q8, hB5⟩ := hn5.out)
     )
    obtain ⟨m0, m1, m2, m3, m4, m5, m6, m7, m8⟩ := set9_at hn5.out (.int .u8 (X.kind : Int)) (.bool X.neg) (.bool X.dneg) (.string (bs X.digits)) (.int .i64 X.dexp) (.bool X.hneg) (.slice none 0 0) (.int .i64 X.hexp) (.int .u64 (X.payload : Int)) (ext_refl _)
    refine bodyPost_ret (v := numV X none 0 0) ?h rfl ⟨_, _, _, rfl, ⟨by rw [HM.out]; exact lx_rdo_nil _ _, fun a h => by cases h⟩, hS5.out.set9 (by omega) (by omega) (.int .u8 (X.kind : Int)) (.bool X.neg) (.bool X.dneg) (.string (bs X.digits)) (.int .i64 X.dexp) (.bool X.hneg) (.slice none 0 0) (.int .i64 X.hexp) (.int .u64 (X.payload : Int)) (ext_refl _), hTw5.out.set9 (Nat.le_refl _) (.int .u8 (X.kind : Int)) (.bool X.neg) (.bool X.dneg) (.string (bs X.digits)) (.int .i64 X.dexp) (.bool X.hneg) (.slice none 0 0) (.int .i64 X.hexp) (.int .u64 (X.payload : Int)) (ext_refl _)⟩
    case h => simp [results, Tryz.results33, go_sem, m0, m1, m2, m3, m4, m5, m6, m7, m8, num0]
  · have hd4 : ¬ (0 : Int) < n9 := by omega
    rw [decide_eq_true hd3] at kd46
    clear hd3
    go_enter Tryz.func33, Tryz.ntmps33
    go_wp2_with (first
      | (go_at_call 49; (with_reducible refine (j1.out _ h0.out).mono ?_); rintro e w1 ⟨rfl, hS1, hT1⟩; (have hTw1 := Lib.hid (hTw.out.trans hT1)); (have hn1 := Lib.hid (hNC.out.tch hT1 (by omega))); obtain ⟨zl, z0, z1, z2, g0, g1, g2, -, -, -, -⟩ := hS1.out)
      | (go_at_call 50; (with_reducible refine (kp.out _).mono ?_); rintro e w2 ⟨rfl, rfl⟩)
      | (go_at_call 51; (with_reducible refine (kt.out _).mono ?_); rintro e w3 ⟨rfl, hE3⟩; (have hS3 := Lib.hid (hS1.out.ext hE3)); (have hTw3 := Lib.hid (hTw1.out.trans (Tch.of hE3))); (have hn3 := Lib.hid (hn1.out.ext hE3)); (have hz3 := hTw3.out.size))
      | (go_at_call 52; (with_reducible refine (kx.out _ hS3.out).mono ?_); rintro e w4 ⟨rfl, hS4, hT4⟩; (have hTw4 := Lib.hid (hTw3.out.trans hT4)); (have hn4 := Lib.hid (hn3.out.tch hT4 (by omega))); (have hz4 := hTw4.out.size); obtain ⟨yl, y0, y1, y2, r0, r1, r2, -, -, -, -⟩ := hS4.out)
      | (go_at_call 54; (with_reducible refine (kc.out _ hS4.out).mono ?_); rintro e w5 ⟨rfl, hS5, hT5⟩; (have hTw5 := Lib.hid (hTw4.out.trans hT5)); (have hn5 := Lib.hid (hn4.out.tch hT5 (by omega))); obtain ⟨n0, n1, n2, n3, n4, n5, n6, n7, n8, q0, q1, q2, q3, q4, q5, q6, q7, q8, hB5⟩ := hn5.out)
      | (go_at_call 50; (with_reducible refine (kd46.out _).mono ?_); rintro e w6 ⟨rfl, rfl⟩)
     )
    obtain ⟨m0, m1, m2, m3, m4, m5, m6, m7, m8⟩ := set9_at hn5.out (.int .u8 (X.kind : Int)) (.bool X.neg) (.bool X.dneg) (.string (bs X.digits)) (.int .i64 X.dexp) (.bool X.hneg) (.slice none 0 0) (.int .i64 X.hexp) (.int .u64 (X.payload : Int)) (ext_refl _)
    refine bodyPost_ret (v := numV X none 0 0) ?h rfl ⟨_, _, _, rfl, ⟨by rw [HM.out]; exact lx_rdo_nil _ _, fun a h => by cases h⟩, hS5.out.set9 (by omega) (by omega) (.int .u8 (X.kind : Int)) (.bool X.neg) (.bool X.dneg) (.string (bs X.digits)) (.int .i64 X.dexp) (.bool X.hneg) (.slice none 0 0) (.int .i64 X.hexp) (.int .u64 (X.payload : Int)) (ext_refl _), hTw5.out.set9 (Nat.le_refl _) (.int .u8 (X.kind : Int)) (.bool X.neg) (.bool X.dneg) (.string (bs X.digits)) (.int .i64 X.dexp) (.bool X.hneg) (.slice none 0 0) (.int .i64 X.hexp) (.int .u64 (X.payload : Int)) (ext_refl _)⟩
    case h => simp [results, Tryz.results33, go_sem, m0, m1, m2, m3, m4, m5, m6, m7, m8, num0]
theorem lx_num_infinity (hu : ¬ l1.head? = some 95) (hf : ¬ (l1.take 2).map lowB = [48, 120]) (hd : ¬ decB l1 = true) (h1 : (l1.take 8).map lowB = wInfinity) : Calls Tryz.prog 33 #[.pointer (some ⟨b, 0, none⟩)] w (NuQ W w b N ({ num0 with kind := 3, neg := neg }, l1.drop 8, 0)) := by
  have HT := Lib.hid hT
  have hN := h.big
  have hb0 := h.lt
  have hlow := h.low
  have hWl := ext_size h.base
  have j1 : Hid (∀ w', Sc W w' b N l 0 → Calls Tryz.prog 49 #[.pointer (some ⟨b, 0, none⟩)] w' (ScQ W w' b N (.bool neg) l1 0)) := fun w' h => by
    have := lx_minus b N l 0 W w' h
    rwa [hm] at this
  have h0 := Lib.hid (h.ext (ext_alloc (ext_refl w) num0O))
  have hTw : Hid (Tch b w (w.alloc num0O)) := Tch.of (ext_alloc (ext_refl _) _)
  have hNC := Lib.hid (nc_new w)
  have hs0 : (w.alloc num0O).heap.size = w.heap.size + 1 := by simp
  have kp := Lib.hid (fun w' => lx_pre95 l1 w')
  rw [decide_eq_false hu] at kp
  have kt := Lib.hid (fun w' => lx_ten l1 w')
  have kx : Hid (∀ w', Sc W w' b N l1 0 → Calls Tryz.prog 52 #[.pointer (some ⟨b, 0, none⟩), .string ⟨#[48, 120]⟩] w' (ScQ W w' b N (.bool (foldS [48, 120] l1 0).1) (foldS [48, 120] l1 0).2.1 (foldS [48, 120] l1 0).2.2)) := fun w' h => lx_fold b N [48, 120] l1 0 W w' h
  rw [foldS_no (t := [48, 120]) hf] at kx
  have kd46 := Lib.hid (fun w' => lx_pre46 l1 w')
  have hd2 : (tenB l1).2 = 0 ∧ ¬ l1.head? = some 46 := by
    unfold decB at hd
    rw [Bool.or_eq_true, decide_eq_true_eq, decide_eq_true_eq] at hd
    exact ⟨by
      rcases Nat.eq_zero_or_pos (tenB l1).2 with q | q
      · exact q
      · exact absurd (.inl q) hd, fun q => hd (.inr q)⟩
  rw [decide_eq_false hd2.2] at kd46
  rw [hd2.1] at kt
  have ki : Hid (∀ w', Sc W w' b N l1 0 → Calls Tryz.prog 52 #[.pointer (some ⟨b, 0, none⟩), .string ⟨#[105, 110, 102, 105, 110, 105, 116, 121]⟩] w' (ScQ W w' b N (.bool (foldS wInfinity l1 0).1) (foldS wInfinity l1 0).2.1 (foldS wInfinity l1 0).2.2)) := fun w' h => lx_fold b N wInfinity l1 0 W w' h
  have kj : Hid (∀ w', Sc W w' b N l1 0 → Calls Tryz.prog 52 #[.pointer (some ⟨b, 0, none⟩), .string ⟨#[105, 110, 102]⟩] w' (ScQ W w' b N (.bool (foldS wInf l1 0).1) (foldS wInf l1 0).2.1 (foldS wInf l1 0).2.2)) := fun w' h => lx_fold b N wInf l1 0 W w' h
  have kn : Hid (∀ w', Sc W w' b N l1 0 → Calls Tryz.prog 52 #[.pointer (some ⟨b, 0, none⟩), .string ⟨#[110, 97, 110]⟩] w' (ScQ W w' b N (.bool (foldS wNan l1 0).1) (foldS wNan l1 0).2.1 (foldS wNan l1 0).2.2)) := fun w' h => lx_fold b N wNan l1 0 W w' h
  rw [foldS_yes (t := wInfinity) h1] at ki
  clear h hT hm hu hf hd hd2
  go_enter Tryz.func33, Tryz.ntmps33
  go_wp2_with (first
    | (go_at_call 49; (with_reducible refine (j1.out _ h0.out).mono ?_); rintro e w1 ⟨rfl, hS1, hT1⟩; (have hTw1 := Lib.hid (hTw.out.trans hT1)); (have hn1 := Lib.hid (hNC.out.tch hT1 (by omega))); obtain ⟨zl, z0, z1, z2, g0, g1, g2, -, -, -, -⟩ := hS1.out)
    | (go_at_call 50; (with_reducible refine (kp.out _).mono ?_); rintro e w2 ⟨rfl, rfl⟩)
    | (go_at_call 51; (with_reducible refine (kt.out _).mono ?_); rintro e w3 ⟨rfl, hE3⟩; (have hS3 := Lib.hid (hS1.out.ext hE3)); (have hTw3 := Lib.hid (hTw1.out.trans (Tch.of hE3))); (have hn3 := Lib.hid (hn1.out.ext hE3)); (have hz3 := hTw3.out.size))
    | (go_at_call 52; (with_reducible refine (kx.out _ hS3.out).mono ?_); rintro e w4 ⟨rfl, hS4, hT4⟩; (have hTw4 := Lib.hid (hTw3.out.trans hT4)); (have hn4 := Lib.hid (hn3.out.tch hT4 (by omega))); (have hz4 := hTw4.out.size); obtain ⟨yl, y0, y1, y2, r0, r1, r2, -, -, -, -⟩ := hS4.out)
    | (go_at_call 50; (with_reducible refine (kd46.out _).mono ?_); rintro e w6 ⟨rfl, rfl⟩)
    | (go_at_call 52; (with_reducible refine (ki.out _ hS4.out).mono ?_); rintro e w7 ⟨rfl, hS7, hT7⟩; (have hTw7 := Lib.hid (hTw4.out.trans hT7)); (have hn7 := Lib.hid (hn4.out.tch hT7 (by omega))); obtain ⟨n0, n1, n2, n3, n4, n5, n6, n7, n8, q0, q1, q2, q3, q4, q5, q6, q7, q8, hB5⟩ := hn7.out)
   )
  obtain ⟨m0, m1, m2, m3, m4, m5, m6, m7, m8⟩ := set9_at hn7.out (.int .u8 3) (.bool neg) (.bool false) (.string ⟨#[]⟩) (.int .i64 0) (.bool false) (.slice none 0 0) (.int .i64 0) (.int .u64 0) (ext_refl _)
  refine bodyPost_ret (v := numV { num0 with kind := 3, neg := neg } none 0 0) ?h rfl ⟨_, _, _, rfl, ⟨lx_rdo_nil _ _, fun a h => by cases h⟩, hS7.out.set9 (by omega) (by omega) (.int .u8 3) (.bool neg) (.bool false) (.string ⟨#[]⟩) (.int .i64 0) (.bool false) (.slice none 0 0) (.int .i64 0) (.int .u64 0) (ext_refl _), hTw7.out.set9 (Nat.le_refl _) (.int .u8 3) (.bool neg) (.bool false) (.string ⟨#[]⟩) (.int .i64 0) (.bool false) (.slice none 0 0) (.int .i64 0) (.int .u64 0) (ext_refl _)⟩
  case h => simp [results, Tryz.results33, go_sem, m0, m1, m2, m3, m4, m5, m6, m7, m8, num0]; rfl
theorem lx_num_inf (hu : ¬ l1.head? = some 95) (hf : ¬ (l1.take 2).map lowB = [48, 120]) (hd : ¬ decB l1 = true) (h1 : ¬ (l1.take 8).map lowB = wInfinity) (h2 : (l1.take 3).map lowB = wInf) : Calls Tryz.prog 33 #[.pointer (some ⟨b, 0, none⟩)] w (NuQ W w b N ({ num0 with kind := 3, neg := neg }, l1.drop 3, 0)) := by
  have HT := Lib.hid hT
  have hN := h.big
  have hb0 := h.lt
  have hlow := h.low
  have hWl := ext_size h.base
  have j1 : Hid (∀ w', Sc W w' b N l 0 → Calls Tryz.prog 49 #[.pointer (some ⟨b, 0, none⟩)] w' (ScQ W w' b N (.bool neg) l1 0)) := fun w' h => by
    have := lx_minus b N l 0 W w' h
    rwa [hm] at this
  have h0 := Lib.hid (h.ext (ext_alloc (ext_refl w) num0O))
  have hTw : Hid (Tch b w (w.alloc num0O)) := Tch.of (ext_alloc (ext_refl _) _)
  have hNC := Lib.hid (nc_new w)
  have hs0 : (w.alloc num0O).heap.size = w.heap.size + 1 := by simp
  have kp := Lib.hid (fun w' => lx_pre95 l1 w')
  rw [decide_eq_false hu] at kp
  have kt := Lib.hid (fun w' => lx_ten l1 w')
  have kx : Hid (∀ w', Sc W w' b N l1 0 → Calls Tryz.prog 52 #[.pointer (some ⟨b, 0, none⟩), .string ⟨#[48, 120]⟩] w' (ScQ W w' b N (.bool (foldS [48, 120] l1 0).1) (foldS [48, 120] l1 0).2.1 (foldS [48, 120] l1 0).2.2)) := fun w' h => lx_fold b N [48, 120] l1 0 W w' h
  rw [foldS_no (t := [48, 120]) hf] at kx
  have kd46 := Lib.hid (fun w' => lx_pre46 l1 w')
  have hd2 : (tenB l1).2 = 0 ∧ ¬ l1.head? = some 46 := by
    unfold decB at hd
    rw [Bool.or_eq_true, decide_eq_true_eq, decide_eq_true_eq] at hd
    exact ⟨by
      rcases Nat.eq_zero_or_pos (tenB l1).2 with q | q
      · exact q
      · exact absurd (.inl q) hd, fun q => hd (.inr q)⟩
  rw [decide_eq_false hd2.2] at kd46
  rw [hd2.1] at kt
  have ki : Hid (∀ w', Sc W w' b N l1 0 → Calls Tryz.prog 52 #[.pointer (some ⟨b, 0, none⟩), .string ⟨#[105, 110, 102, 105, 110, 105, 116, 121]⟩] w' (ScQ W w' b N (.bool (foldS wInfinity l1 0).1) (foldS wInfinity l1 0).2.1 (foldS wInfinity l1 0).2.2)) := fun w' h => lx_fold b N wInfinity l1 0 W w' h
  have kj : Hid (∀ w', Sc W w' b N l1 0 → Calls Tryz.prog 52 #[.pointer (some ⟨b, 0, none⟩), .string ⟨#[105, 110, 102]⟩] w' (ScQ W w' b N (.bool (foldS wInf l1 0).1) (foldS wInf l1 0).2.1 (foldS wInf l1 0).2.2)) := fun w' h => lx_fold b N wInf l1 0 W w' h
  have kn : Hid (∀ w', Sc W w' b N l1 0 → Calls Tryz.prog 52 #[.pointer (some ⟨b, 0, none⟩), .string ⟨#[110, 97, 110]⟩] w' (ScQ W w' b N (.bool (foldS wNan l1 0).1) (foldS wNan l1 0).2.1 (foldS wNan l1 0).2.2)) := fun w' h => lx_fold b N wNan l1 0 W w' h
  rw [foldS_no (t := wInfinity) h1] at ki
  rw [foldS_yes (t := wInf) h2] at kj
  clear h hT hm hu hf hd hd2
  go_enter Tryz.func33, Tryz.ntmps33
  go_wp2_with (first
    | (go_at_call 49; (with_reducible refine (j1.out _ h0.out).mono ?_); rintro e w1 ⟨rfl, hS1, hT1⟩; (have hTw1 := Lib.hid (hTw.out.trans hT1)); (have hn1 := Lib.hid (hNC.out.tch hT1 (by omega))); obtain ⟨zl, z0, z1, z2, g0, g1, g2, -, -, -, -⟩ := hS1.out)
    | (go_at_call 50; (with_reducible refine (kp.out _).mono ?_); rintro e w2 ⟨rfl, rfl⟩)
    | (go_at_call 51; (with_reducible refine (kt.out _).mono ?_); rintro e w3 ⟨rfl, hE3⟩; (have hS3 := Lib.hid (hS1.out.ext hE3)); (have hTw3 := Lib.hid (hTw1.out.trans (Tch.of hE3))); (have hn3 := Lib.hid (hn1.out.ext hE3)); (have hz3 := hTw3.out.size))
    | (go_at_call 52; (with_reducible refine (kx.out _ hS3.out).mono ?_); rintro e w4 ⟨rfl, hS4, hT4⟩; (have hTw4 := Lib.hid (hTw3.out.trans hT4)); (have hn4 := Lib.hid (hn3.out.tch hT4 (by omega))); (have hz4 := hTw4.out.size); obtain ⟨yl, y0, y1, y2, r0, r1, r2, -, -, -, -⟩ := hS4.out)
    | (go_at_call 50; (with_reducible refine (kd46.out _).mono ?_); rintro e w6 ⟨rfl, rfl⟩)
    | (go_at_call 52; (with_reducible refine (ki.out _ hS4.out).mono ?_); rintro e w7 ⟨rfl, hS7, hT7⟩; (have hTw7 := Lib.hid (hTw4.out.trans hT7)); (have hn7 := Lib.hid (hn4.out.tch hT7 (by omega))))
    | (go_at_call 52; (with_reducible refine (kj.out _ hS7.out).mono ?_); rintro e w8 ⟨rfl, hS8, hT8⟩; (have hTw8 := Lib.hid (hTw7.out.trans hT8)); (have hn8 := Lib.hid (hn7.out.tch hT8 (by omega))); obtain ⟨n0, n1, n2, n3, n4, n5, n6, n7, n8, q0, q1, q2, q3, q4, q5, q6, q7, q8, hB5⟩ := hn8.out)
   )
  obtain ⟨m0, m1, m2, m3, m4, m5, m6, m7, m8⟩ := set9_at hn8.out (.int .u8 3) (.bool neg) (.bool false) (.string ⟨#[]⟩) (.int .i64 0) (.bool false) (.slice none 0 0) (.int .i64 0) (.int .u64 0) (ext_refl _)
  refine bodyPost_ret (v := numV { num0 with kind := 3, neg := neg } none 0 0) ?h rfl ⟨_, _, _, rfl, ⟨lx_rdo_nil _ _, fun a h => by cases h⟩, hS8.out.set9 (by omega) (by omega) (.int .u8 3) (.bool neg) (.bool false) (.string ⟨#[]⟩) (.int .i64 0) (.bool false) (.slice none 0 0) (.int .i64 0) (.int .u64 0) (ext_refl _), hTw8.out.set9 (Nat.le_refl _) (.int .u8 3) (.bool neg) (.bool false) (.string ⟨#[]⟩) (.int .i64 0) (.bool false) (.slice none 0 0) (.int .i64 0) (.int .u64 0) (ext_refl _)⟩
  case h => simp [results, Tryz.results33, go_sem, m0, m1, m2, m3, m4, m5, m6, m7, m8, num0]; rfl
theorem lx_num_nan (hu : ¬ l1.head? = some 95) (hf : ¬ (l1.take 2).map lowB = [48, 120]) (hd : ¬ decB l1 = true) (h1 : ¬ (l1.take 8).map lowB = wInfinity) (h2 : ¬ (l1.take 3).map lowB = wInf) (h3 : (l1.take 3).map lowB = wNan) (p5 : Nat) (l5 : List UInt8) (c5 : Nat) (h4 : payS false (l1.drop 3) 0 = (p5, l5, c5)) : Calls Tryz.prog 33 #[.pointer (some ⟨b, 0, none⟩)] w (NuQ W w b N ({ num0 with kind := 4, neg := neg, payload := p5 }, l5, c5)) := by
  have HT := Lib.hid hT
  have hN := h.big
  have hb0 := h.lt
  have hlow := h.low
  have hWl := ext_size h.base
  have j1 : Hid (∀ w', Sc W w' b N l 0 → Calls Tryz.prog 49 #[.pointer (some ⟨b, 0, none⟩)] w' (ScQ W w' b N (.bool neg) l1 0)) := fun w' h => by
    have := lx_minus b N l 0 W w' h
    rwa [hm] at this
  have h0 := Lib.hid (h.ext (ext_alloc (ext_refl w) num0O))
  have hTw : Hid (Tch b w (w.alloc num0O)) := Tch.of (ext_alloc (ext_refl _) _)
  have hNC := Lib.hid (nc_new w)
  have hs0 : (w.alloc num0O).heap.size = w.heap.size + 1 := by simp
  have kp := Lib.hid (fun w' => lx_pre95 l1 w')
  rw [decide_eq_false hu] at kp
  have kt := Lib.hid (fun w' => lx_ten l1 w')
  have kx : Hid (∀ w', Sc W w' b N l1 0 → Calls Tryz.prog 52 #[.pointer (some ⟨b, 0, none⟩), .string ⟨#[48, 120]⟩] w' (ScQ W w' b N (.bool (foldS [48, 120] l1 0).1) (foldS [48, 120] l1 0).2.1 (foldS [48, 120] l1 0).2.2)) := fun w' h => lx_fold b N [48, 120] l1 0 W w' h
  rw [foldS_no (t := [48, 120]) hf] at kx
  have kd46 := Lib.hid (fun w' => lx_pre46 l1 w')
  have hd2 : (tenB l1).2 = 0 ∧ ¬ l1.head? = some 46 := by
    unfold decB at hd
    rw [Bool.or_eq_true, decide_eq_true_eq, decide_eq_true_eq] at hd
    exact ⟨by
      rcases Nat.eq_zero_or_pos (tenB l1).2 with q | q
      · exact q
      · exact absurd (.inl q) hd, fun q => hd (.inr q)⟩
  rw [decide_eq_false hd2.2] at kd46
  rw [hd2.1] at kt
  have ki : Hid (∀ w', Sc W w' b N l1 0 → Calls Tryz.prog 52 #[.pointer (some ⟨b, 0, none⟩), .string ⟨#[105, 110, 102, 105, 110, 105, 116, 121]⟩] w' (ScQ W w' b N (.bool (foldS wInfinity l1 0).1) (foldS wInfinity l1 0).2.1 (foldS wInfinity l1 0).2.2)) := fun w' h => lx_fold b N wInfinity l1 0 W w' h
  have kj : Hid (∀ w', Sc W w' b N l1 0 → Calls Tryz.prog 52 #[.pointer (some ⟨b, 0, none⟩), .string ⟨#[105, 110, 102]⟩] w' (ScQ W w' b N (.bool (foldS wInf l1 0).1) (foldS wInf l1 0).2.1 (foldS wInf l1 0).2.2)) := fun w' h => lx_fold b N wInf l1 0 W w' h
  have kn : Hid (∀ w', Sc W w' b N l1 0 → Calls Tryz.prog 52 #[.pointer (some ⟨b, 0, none⟩), .string ⟨#[110, 97, 110]⟩] w' (ScQ W w' b N (.bool (foldS wNan l1 0).1) (foldS wNan l1 0).2.1 (foldS wNan l1 0).2.2)) := fun w' h => lx_fold b N wNan l1 0 W w' h
  rw [foldS_no (t := wInfinity) h1] at ki
  rw [foldS_no (t := wInf) h2] at kj
  rw [foldS_yes (t := wNan) h3] at kn
  have kp5 := Lib.hid (fun w' h => lx_payload b N (l1.drop 3) 0 W w' h HT.out)
  rw [h4] at kp5
  clear h4
  clear h hT hm hu hf hd hd2
  go_enter Tryz.func33, Tryz.ntmps33
  go_wp2_with (first
    | (go_at_call 49; (with_reducible refine (j1.out _ h0.out).mono ?_); rintro e w1 ⟨rfl, hS1, hT1⟩; (have hTw1 := Lib.hid (hTw.out.trans hT1)); (have hn1 := Lib.hid (hNC.out.tch hT1 (by omega))); obtain ⟨zl, z0, z1, z2, g0, g1, g2, -, -, -, -⟩ := hS1.out)
    | (go_at_call 50; (with_reducible refine (kp.out _).mono ?_); rintro e w2 ⟨rfl, rfl⟩)
    | (go_at_call 51; (with_reducible refine (kt.out _).mono ?_); rintro e w3 ⟨rfl, hE3⟩; (have hS3 := Lib.hid (hS1.out.ext hE3)); (have hTw3 := Lib.hid (hTw1.out.trans (Tch.of hE3))); (have hn3 := Lib.hid (hn1.out.ext hE3)); (have hz3 := hTw3.out.size))
    | (go_at_call 52; (with_reducible refine (kx.out _ hS3.out).mono ?_); rintro e w4 ⟨rfl, hS4, hT4⟩; (have hTw4 := Lib.hid (hTw3.out.trans hT4)); (have hn4 := Lib.hid (hn3.out.tch hT4 (by omega))); (have hz4 := hTw4.out.size); obtain ⟨yl, y0, y1, y2, r0, r1, r2, -, -, -, -⟩ := hS4.out)
    | (go_at_call 50; (with_reducible refine (kd46.out _).mono ?_); rintro e w6 ⟨rfl, rfl⟩)
    | (go_at_call 52; (with_reducible refine (ki.out _ hS4.out).mono ?_); rintro e w7 ⟨rfl, hS7, hT7⟩; (have hTw7 := Lib.hid (hTw4.out.trans hT7)); (have hn7 := Lib.hid (hn4.out.tch hT7 (by omega))))
    | (go_at_call 52; (with_reducible refine (kj.out _ hS7.out).mono ?_); rintro e w8 ⟨rfl, hS8, hT8⟩; (have hTw8 := Lib.hid (hTw7.out.trans hT8)); (have hn8 := Lib.hid (hn7.out.tch hT8 (by omega))))
    | (go_at_call 52; (with_reducible refine (kn.out _ hS8.out).mono ?_); rintro e w9 ⟨rfl, hS9, hT9⟩; (have hTw9 := Lib.hid (hTw8.out.trans hT9)); (have hn9 := Lib.hid (hn8.out.tch hT9 (by omega))))
    | (go_at_call 55; (with_reducible refine (kp5.out _ hS9.out).mono ?_); rintro e w5 ⟨rfl, hS5, hT5⟩; (have hTw5 := Lib.hid (hTw9.out.trans hT5)); (have hn5 := Lib.hid (hn9.out.tch hT5 (by omega))); obtain ⟨n0, n1, n2, n3, n4, n5, n6, n7, n8, q0, q1, q2, q3, q4, q5, q6, q7, q8, hB5⟩ := hn5.out)
   )
  obtain ⟨m0, m1, m2, m3, m4, m5, m6, m7, m8⟩ := set9_at hn5.out (.int .u8 4) (.bool neg) (.bool false) (.string ⟨#[]⟩) (.int .i64 0) (.bool false) (.slice none 0 0) (.int .i64 0) (.int .u64 (p5 : Int)) (ext_refl _)
  refine bodyPost_ret (v := numV { num0 with kind := 4, neg := neg, payload := p5 } none 0 0) ?h rfl ⟨_, _, _, rfl, ⟨lx_rdo_nil _ _, fun a h => by cases h⟩, hS5.out.set9 (by omega) (by omega) (.int .u8 4) (.bool neg) (.bool false) (.string ⟨#[]⟩) (.int .i64 0) (.bool false) (.slice none 0 0) (.int .i64 0) (.int .u64 (p5 : Int)) (ext_refl _), hTw5.out.set9 (Nat.le_refl _) (.int .u8 4) (.bool neg) (.bool false) (.string ⟨#[]⟩) (.int .i64 0) (.bool false) (.slice none 0 0) (.int .i64 0) (.int .u64 (p5 : Int)) (ext_refl _)⟩
  case h => simp [results, Tryz.results33, go_sem, m0, m1, m2, m3, m4, m5, m6, m7, m8, num0]; rfl
theorem lx_num_none (hu : ¬ l1.head? = some 95) (hf : ¬ (l1.take 2).map lowB = [48, 120]) (hd : ¬ decB l1 = true) (h1 : ¬ (l1.take 8).map lowB = wInfinity) (h2 : ¬ (l1.take 3).map lowB = wInf) (h3 : ¬ (l1.take 3).map lowB = wNan) : Calls Tryz.prog 33 #[.pointer (some ⟨b, 0, none⟩)] w (NuQ W w b N (num0, (failS 110 l1 0).2.1, (failS 110 l1 0).2.2)) := by
  have HT := Lib.hid hT
  have hN := h.big
  have hb0 := h.lt
  have hlow := h.low
  have hWl := ext_size h.base
  have j1 : Hid (∀ w', Sc W w' b N l 0 → Calls Tryz.prog 49 #[.pointer (some ⟨b, 0, none⟩)] w' (ScQ W w' b N (.bool neg) l1 0)) := fun w' h => by
    have := lx_minus b N l 0 W w' h
    rwa [hm] at this
  have h0 := Lib.hid (h.ext (ext_alloc (ext_refl w) num0O))
  have hTw : Hid (Tch b w (w.alloc num0O)) := Tch.of (ext_alloc (ext_refl _) _)
  have hNC := Lib.hid (nc_new w)
  have hs0 : (w.alloc num0O).heap.size = w.heap.size + 1 := by simp
  have kp := Lib.hid (fun w' => lx_pre95 l1 w')
  rw [decide_eq_false hu] at kp
  have kt := Lib.hid (fun w' => lx_ten l1 w')
  have kx : Hid (∀ w', Sc W w' b N l1 0 → Calls Tryz.prog 52 #[.pointer (some ⟨b, 0, none⟩), .string ⟨#[48, 120]⟩] w' (ScQ W w' b N (.bool (foldS [48, 120] l1 0).1) (foldS [48, 120] l1 0).2.1 (foldS [48, 120] l1 0).2.2)) := fun w' h => lx_fold b N [48, 120] l1 0 W w' h
  rw [foldS_no (t := [48, 120]) hf] at kx
  have kd46 := Lib.hid (fun w' => lx_pre46 l1 w')
  have hd2 : (tenB l1).2 = 0 ∧ ¬ l1.head? = some 46 := by
    unfold decB at hd
    rw [Bool.or_eq_true, decide_eq_true_eq, decide_eq_true_eq] at hd
    exact ⟨by
      rcases Nat.eq_zero_or_pos (tenB l1).2 with q | q
      · exact q
      · exact absurd (.inl q) hd, fun q => hd (.inr q)⟩
  rw [decide_eq_false hd2.2] at kd46
  rw [hd2.1] at kt
  have ki : Hid (∀ w', Sc W w' b N l1 0 → Calls Tryz.prog 52 #[.pointer (some ⟨b, 0, none⟩), .string ⟨#[105, 110, 102, 105, 110, 105, 116, 121]⟩] w' (ScQ W w' b N (.bool (foldS wInfinity l1 0).1) (foldS wInfinity l1 0).2.1 (foldS wInfinity l1 0).2.2)) := fun w' h => lx_fold b N wInfinity l1 0 W w' h
  have kj : Hid (∀ w', Sc W w' b N l1 0 → Calls Tryz.prog 52 #[.pointer (some ⟨b, 0, none⟩), .string ⟨#[105, 110, 102]⟩] w' (ScQ W w' b N (.bool (foldS wInf l1 0).1) (foldS wInf l1 0).2.1 (foldS wInf l1 0).2.2)) := fun w' h => lx_fold b N wInf l1 0 W w' h
  have kn : Hid (∀ w', Sc W w' b N l1 0 → Calls Tryz.prog 52 #[.pointer (some ⟨b, 0, none⟩), .string ⟨#[110, 97, 110]⟩] w' (ScQ W w' b N (.bool (foldS wNan l1 0).1) (foldS wNan l1 0).2.1 (foldS wNan l1 0).2.2)) := fun w' h => lx_fold b N wNan l1 0 W w' h
  rw [foldS_no (t := wInfinity) h1] at ki
  rw [foldS_no (t := wInf) h2] at kj
  rw [foldS_no (t := wNan) h3] at kn
  have kf : Hid (∀ w', Sc W w' b N l1 0 → Calls Tryz.prog 34 #[.pointer (some ⟨b, 0, none⟩), .int .i64 110] w' (ScQ W w' b N (.tuple #[]) (failS 110 l1 0).2.1 (failS 110 l1 0).2.2)) := fun w' h => lx_fail b N 110 l1 0 W w' h HT.out
  obtain ⟨⟨⟨⟩, l5, c5⟩, e5⟩ : ∃ X, failS 110 l1 0 = X := ⟨_, rfl⟩
  rw [e5] at kf
  rw [e5]
  clear e5
  clear h hT hm hu hf hd hd2
  go_enter Tryz.func33, Tryz.ntmps33
  go_wp2_with (first
    | (go_at_call 49; (with_reducible refine (j1.out _ h0.out).mono ?_); rintro e w1 ⟨rfl, hS1, hT1⟩; (have hTw1 := Lib.hid (hTw.out.trans hT1)); (have hn1 := Lib.hid (hNC.out.tch hT1 (by omega))); obtain ⟨zl, z0, z1, z2, g0, g1, g2, -, -, -, -⟩ := hS1.out)
    | (go_at_call 50; (with_reducible refine (kp.out _).mono ?_); rintro e w2 ⟨rfl, rfl⟩)
    | (go_at_call 51; (with_reducible refine (kt.out _).mono ?_); rintro e w3 ⟨rfl, hE3⟩; (have hS3 := Lib.hid (hS1.out.ext hE3)); (have hTw3 := Lib.hid (hTw1.out.trans (Tch.of hE3))); (have hn3 := Lib.hid (hn1.out.ext hE3)); (have hz3 := hTw3.out.size))
    | (go_at_call 52; (with_reducible refine (kx.out _ hS3.out).mono ?_); rintro e w4 ⟨rfl, hS4, hT4⟩; (have hTw4 := Lib.hid (hTw3.out.trans hT4)); (have hn4 := Lib.hid (hn3.out.tch hT4 (by omega))); (have hz4 := hTw4.out.size); obtain ⟨yl, y0, y1, y2, r0, r1, r2, -, -, -, -⟩ := hS4.out)
    | (go_at_call 50; (with_reducible refine (kd46.out _).mono ?_); rintro e w6 ⟨rfl, rfl⟩)
    | (go_at_call 52; (with_reducible refine (ki.out _ hS4.out).mono ?_); rintro e w7 ⟨rfl, hS7, hT7⟩; (have hTw7 := Lib.hid (hTw4.out.trans hT7)); (have hn7 := Lib.hid (hn4.out.tch hT7 (by omega))))
    | (go_at_call 52; (with_reducible refine (kj.out _ hS7.out).mono ?_); rintro e w8 ⟨rfl, hS8, hT8⟩; (have hTw8 := Lib.hid (hTw7.out.trans hT8)); (have hn8 := Lib.hid (hn7.out.tch hT8 (by omega))))
    | (go_at_call 52; (with_reducible refine (kn.out _ hS8.out).mono ?_); rintro e w9 ⟨rfl, hS9, hT9⟩; (have hTw9 := Lib.hid (hTw8.out.trans hT9)); (have hn9 := Lib.hid (hn8.out.tch hT9 (by omega))))
    | (go_at_call 34; (with_reducible refine (kf.out _ hS9.out).mono ?_); rintro e w5 ⟨rfl, hS5, hT5⟩; (have hTw5 := Lib.hid (hTw9.out.trans hT5)); (have hn5 := Lib.hid (hn9.out.tch hT5 (by omega))); obtain ⟨n0, n1, n2, n3, n4, n5, n6, n7, n8, q0, q1, q2, q3, q4, q5, q6, q7, q8, hB5⟩ := hn5.out)
   )
  obtain ⟨m0, m1, m2, m3, m4, m5, m6, m7, m8⟩ := set9_at hn5.out (.int .u8 0) (.bool false) (.bool false) (.string ⟨#[]⟩) (.int .i64 0) (.bool false) (.slice none 0 0) (.int .i64 0) (.int .u64 0) (ext_refl _)
  refine bodyPost_ret (v := numV num0 none 0 0) ?h rfl ⟨_, _, _, rfl, ⟨lx_rdo_nil _ _, fun a h => by cases h⟩, hS5.out.set9 (by omega) (by omega) (.int .u8 0) (.bool false) (.bool false) (.string ⟨#[]⟩) (.int .i64 0) (.bool false) (.slice none 0 0) (.int .i64 0) (.int .u64 0) (ext_refl _), hTw5.out.set9 (Nat.le_refl _) (.int .u8 0) (.bool false) (.bool false) (.string ⟨#[]⟩) (.int .i64 0) (.bool false) (.slice none 0 0) (.int .i64 0) (.int .u64 0) (ext_refl _)⟩
  case h => simp [results, Tryz.results33, go_sem, m0, m1, m2, m3, m4, m5, m6, m7, m8, num0]; rfl
end
theorem namS_eq (doc neg : Bool) (l : List UInt8) : namS doc neg l 0 =
    if (l.take 8).map lowB = wInfinity then ({ num0 with kind := 3, neg := neg }, l.drop 8, 0) else if (l.take 3).map lowB = wInf then ({ num0 with kind := 3, neg := neg }, l.drop 3, 0)
    else if (l.take 3).map lowB = wNan then ({ num0 with kind := 4, neg := neg, payload := (payS doc (l.drop 3) 0).1 }, (payS doc (l.drop 3) 0).2) else (num0, (failS 110 l 0).2) := by
  unfold namS infS
  rw [bind_eq, bind_eq]
  by_cases h1 : (l.take 8).map lowB = wInfinity
  · rw [if_pos h1, foldS_yes (t := wInfinity) h1]
    rfl
  · rw [if_neg h1, foldS_no (t := wInfinity) h1, if_neg Bool.false_ne_true]
    dsimp only
    by_cases h2 : (l.take 3).map lowB = wInf
    · rw [if_pos h2, foldS_yes (t := wInf) h2]
      rfl
    · rw [if_neg h2, foldS_no (t := wInf) h2, if_neg Bool.false_ne_true]
      dsimp only
      unfold nanS
      rw [bind_eq]
      by_cases h3 : (l.take 3).map lowB = wNan
      · rw [if_pos h3, foldS_yes (t := wNan) h3, if_pos rfl, bind_eq]
        rfl
      · rw [if_neg h3, foldS_no (t := wNan) h3, if_neg Bool.false_ne_true, bind_eq]
        rfl
theorem lx_number (b N : Nat) (l : List UInt8) (W w : World) (h : Sc W w b N l 0) (hT : LxT W) : Calls Tryz.prog 33 #[.pointer (some ⟨b, 0, none⟩)] w (NuQ W w b N (numS false l 0)) := by
  obtain ⟨neg, l1, hm⟩ : ∃ neg l1, minusS l 0 = (neg, l1, 0) := ⟨(minusS l 0).1, (minusS l 0).2.1, Prod.ext rfl (Prod.ext rfl (minus_code l 0))⟩
  by_cases hu : l1.head? = some 95
  · rw [numS_under false hm hu]; exact lx_num_under b N l l1 neg W w h hT hm hu
  by_cases hf : (l1.take 2).map lowB = [48, 120]
  · rw [numS_hex false hm hu hf]; exact lx_num_hex b N l l1 neg W w h hT hm hu hf
  by_cases hd : decB l1 = true
  · rw [numS_dec false hm hu hf hd]; exact lx_num_dec b N l l1 neg W w h hT hm hu hf hd
  rw [numS_nam false hm hu hf hd, namS_eq]
  by_cases h1 : (l1.take 8).map lowB = wInfinity
  · rw [if_pos h1]; exact lx_num_infinity b N l l1 neg W w h hT hm hu hf hd h1
  rw [if_neg h1]
  by_cases h2 : (l1.take 3).map lowB = wInf
  · rw [if_pos h2]; exact lx_num_inf b N l l1 neg W w h hT hm hu hf hd h1 h2
  rw [if_neg h2]
  by_cases h3 : (l1.take 3).map lowB = wNan
  · rw [if_pos h3]; exact lx_num_nan b N l l1 neg W w h hT hm hu hf hd h1 h2 h3 _ _ _ rfl
  · rw [if_neg h3]; exact lx_num_none b N l l1 neg W w h hT hm hu hf hd h1 h2 h3
end Go.Proofs.YtnkajjealkggdaaGreatDoor
end
section
/- Lex, the program: Read. -/
namespace Go.Proofs.YtnkajjealkggdaaGreatDoor
open Go.RowKit
attribute [local go_sem] bs_size bs_extract bs_get bs_append bs_toList const_get
attribute [local go_sem] sz2 sz3 sz4 sz5 sz6 sz7 sz8 sz9 sz10
set_option maxHeartbeats 4000000
set_option maxRecDepth 100000
attribute [local irreducible] Calls
/-- An error that tells this code and this place; code 0: none. -/
def EIs (w : World) (v : Value) (code at_ : Nat) : Prop :=
  (v = .nilIface ∧ code = 0) ∨ (code ≠ 0 ∧ ∃ b, v = .iface 67 (.pointer (some ⟨b, 0, none⟩)) ∧ b < w.heap.size ∧ w.cell? ⟨b, 0, none⟩ = some (.int .i64 (code : Int)) ∧ w.cell? ⟨b, 1, none⟩ = some (.int .i64 (at_ : Int)))
theorem EIs.ext {w w' : World} {v : Value} {code at_ : Nat} (h : EIs w v code at_) (he : Ext w w') : EIs w' v code at_ := by
  rcases h with h | ⟨h1, b, h2, h3, h4, h5⟩
  · exact .inl h
  · exact .inr ⟨h1, b, h2, ext_lt he b h3, (Below.cell (p := ⟨b, 0, none⟩) he h3).trans h4, (Below.cell (p := ⟨b, 1, none⟩) he h3).trans h5⟩
/-- What Read answers. -/
abbrev ReQ (w : World) (X : Num × Nat × Nat) : Ending → World → Prop := fun e w' => ∃ A n k v, e = .returned (.tuple #[numV X.1 A n k, v]) ∧ Hid (RdO w' A n k X.1.mant none ∧ Fr w A) ∧ Hid (EIs w' v X.2.1 X.2.2) ∧ Ext w w'
theorem sc_new (w w1 : World) (hE : Ext w w1) (l : List UInt8) (hl : l.length ≤ 70000) : Sc w (w1.alloc (Obj.cells #[.string (bs l), .int .i64 0, .int .i64 0] 72)) w1.heap.size l.length l 0 := by
  refine ⟨by simp, by simp [go_sem], by simp [go_sem], by simp [go_sem], by simp [go_sem], by simp [go_sem], by simp [go_sem], Nat.le_refl _, hl, ext_alloc hE _, ext_size hE⟩
theorem lx_Read_long (l : List UInt8) (hl : 65536 < l.length) (hb : l.length ≤ 1000000000) (w : World) : Calls Tryz.prog 13 #[.string (bs l)] w (ReQ w (num0, 3, 0)) := by
  have hl' : (65536 : Int) < l.length := by omega
  have hNC := Lib.hid (nc_new w)
  have hE := Lib.hid (ext_alloc (ext_refl w) num0O)
  obtain ⟨n0, n1, n2, n3, n4, n5, n6, n7, n8, q0, q1, q2, q3, q4, q5, q6, q7, q8, hB5⟩ := hNC.out
  go_enter Tryz.func13, Tryz.ntmps13
  go_wp2
  refine bodyPost_ret (v := .tuple #[numV num0 none 0 0, .iface 67 (.pointer (some ⟨w.heap.size + 1, 0, none⟩))]) ?h rfl ⟨none, 0, 0, _, rfl, ⟨lx_rdo_nil _ _, fun a h => by cases h⟩, .inr ⟨by decide, w.heap.size + 1, rfl, by simp, by simp [go_sem], by simp [go_sem]⟩, ext_alloc hE.out _⟩
  case h => simp [results, Tryz.results13, go_sem, num0]; rfl
theorem ext_set9 {w W : World} {B : Nat} (h : Ext w W) (hB : w.heap.size ≤ B) (v0 v1 v2 v3 v4 v5 v6 v7 v8 : Value) {X : World} (hX : Ext (set9 W B v0 v1 v2 v3 v4 v5 v6 v7 v8) X) : Ext w X :=
  ext_trans (ext_setCell (ext_setCell (ext_setCell (ext_setCell (ext_setCell (ext_setCell (ext_setCell (ext_setCell (ext_setCell h hB v0) hB v1) hB v2) hB v3) hB v4) hB v5) hB v6) hB v7) hB v8) hX
theorem err_new {Y : World} {n : Nat} (h : Y.heap.size = n) (a b : Value) (t : TypeId) : n < (Y.alloc (Obj.cells #[a, b] t)).drew.heap.size ∧ (Y.alloc (Obj.cells #[a, b] t)).drew.cell? ⟨n, 0, none⟩ = some a ∧ (Y.alloc (Obj.cells #[a, b] t)).drew.cell? ⟨n, 1, none⟩ = some b := by
  subst h
  exact ⟨by simp, by simp [go_sem], by simp [go_sem]⟩
theorem set9_size (W : World) (B : Nat) (v0 v1 v2 v3 v4 v5 v6 v7 v8 : Value) : (set9 W B v0 v1 v2 v3 v4 v5 v6 v7 v8).heap.size = W.heap.size := by simp
theorem set9_size1 (W : World) (B : Nat) (v0 v1 v2 v3 v4 v5 v6 v7 v8 : Value) (o : Obj) : ((set9 W B v0 v1 v2 v3 v4 v5 v6 v7 v8).alloc o).heap.size = W.heap.size + 1 := by simp
abbrev numO (X : Num) (A : Option Addr) (k p : Nat) : Obj := Obj.cells #[.int .u8 (X.kind : Int), .bool X.neg, .bool X.dneg, .string (bs X.digits), .int .i64 X.dexp, .bool X.hneg, .slice A k p, .int .i64 X.hexp, .int .u64 (X.payload : Int)] 33
theorem lx_Read_short (l : List UInt8) (hl : l.length ≤ 65536) (w : World) (hT : LxT w) : Calls Tryz.prog 13 #[.string (bs l)] w (ReQ w (readV false l)) := by
  have hl' : ¬ (65536 : Int) < l.length := by omega
  have HT := Lib.hid hT
  have hE0 := Lib.hid (ext_alloc (ext_refl w) num0O)
  have hNC := Lib.hid (nc_new w)
  have hs1 : (w.alloc num0O).heap.size = w.heap.size + 1 := by simp
  have hSc := Lib.hid (sc_new w (w.alloc num0O) hE0.out l (by omega))
  have hE1 : Hid (Ext w ((w.alloc num0O).alloc (Obj.cells #[.string (bs l), .int .i64 0, .int .i64 0] 72))) := ext_alloc hE0.out _
  have hE1' : Hid (Ext (w.alloc num0O) ((w.alloc num0O).alloc (Obj.cells #[.string (bs l), .int .i64 0, .int .i64 0] 72))) := ext_alloc (ext_refl _) _
  rw [hs1] at hSc
  have hN1 := Lib.hid (hNC.out.ext hE1'.out)
  have kn := Lib.hid (lx_number (w.heap.size + 1) l.length l w _ hSc.out hT)
  have hNle := (ok_num false).le l 0
  rw [read_le false hl]
  obtain ⟨⟨X, l2, c2⟩, e2⟩ : ∃ X, numS false l 0 = X := ⟨_, rfl⟩
  rw [e2] at kn hNle
  rw [e2]
  dsimp only at hNle ⊢
  have kf : Hid (∀ w' c, Sc w w' (w.heap.size + 1) l.length l2 c → Calls Tryz.prog 34 #[.pointer (some ⟨w.heap.size + 1, 0, none⟩), .int .i64 113] w' (ScQ w w' (w.heap.size + 1) l.length (.tuple #[]) (failS 113 l2 c).2.1 (failS 113 l2 c).2.2)) := fun w' c h => lx_fail (w.heap.size + 1) l.length 113 l2 c w w' h HT.out
  clear hT e2 hSc hE1' hNC
  by_cases hc : c2 = 0
  · subst hc
    by_cases h2 : l2 = []
    · subst h2
      rw [end_nil, if_pos rfl]
      have hcl := hN1.out.lt
      go_enter Tryz.func13, Tryz.ntmps13
      go_wp2_with (first
        | (go_at_call 33; (with_reducible refine (kn.out).mono ?_); rintro e w2 ⟨A2, k2, p2, rfl, hR2, hS2, hT2⟩; (have hN2 := Lib.hid (hN1.out.tch hT2 (by omega))); obtain ⟨zl, z0, z1, z2, g0, g1, g2, -, -, zb, -⟩ := hS2.out; obtain ⟨n0, n1, n2, n3, n4, n5, n6, n7, n8, q0, q1, q2, q3, q4, q5, q6, q7, q8, hB5⟩ := hN2.out))
      have hX : Ext (set9 w2 w.heap.size (.int .u8 (X.kind : Int)) (.bool X.neg) (.bool X.dneg) (.string (bs X.digits)) (.int .i64 X.dexp) (.bool X.hneg) (.slice A2 k2 p2) (.int .i64 X.hexp) (.int .u64 (X.payload : Int))) _ := ext_alloc (ext_refl _) (numO X A2 k2 p2)
      obtain ⟨m0, m1, m2, m3, m4, m5, m6, m7, m8⟩ := set9_at hN2.out _ _ _ _ _ _ _ _ _ hX
      have hb1 : ((w.alloc num0O).alloc (Obj.cells #[.string (bs l), .int .i64 0, .int .i64 0] 72)).heap.size = w.heap.size + 2 := by simp
      have hfw : ∀ a, A2 = some a → w.heap.size < a.block := fun a ha => by
        have h1 : ((w.alloc num0O).alloc (Obj.cells #[.string (bs l), .int .i64 0, .int .i64 0] 72)).heap.size ≤ a.block := hR2.out.2 a ha
        omega
      have hRf := Lib.hid ((((((((((hR2.out.1.set (.int .u8 (X.kind : Int)) (p := ⟨w.heap.size, 0, none⟩) hfw).set (.bool X.neg) (p := ⟨w.heap.size, 1, none⟩) hfw).set (.bool X.dneg) (p := ⟨w.heap.size, 2, none⟩) hfw).set (.string (bs X.digits)) (p := ⟨w.heap.size, 3, none⟩) hfw).set (.int .i64 X.dexp) (p := ⟨w.heap.size, 4, none⟩) hfw).set (.bool X.hneg) (p := ⟨w.heap.size, 5, none⟩) hfw).set (.slice A2 k2 p2) (p := ⟨w.heap.size, 6, none⟩) hfw).set (.int .i64 X.hexp) (p := ⟨w.heap.size, 7, none⟩) hfw).set (.int .u64 (X.payload : Int)) (p := ⟨w.heap.size, 8, none⟩) hfw).ext (ext_alloc (ext_refl _) (numO X A2 k2 p2)))
      refine bodyPost_ret (v := .tuple #[numV X A2 k2 p2, .nilIface]) ?h rfl ⟨A2, k2, p2, _, rfl, ⟨hRf.out, fun a ha => Nat.le_of_lt (hfw a ha)⟩, .inl ⟨rfl, rfl⟩, ext_set9 (hT2.ext hE1.out (by omega)) (Nat.le_refl _) _ _ _ _ _ _ _ _ _ hX⟩
      case h => simp [results, Tryz.results13, go_sem, m0, m1, m2, m3, m4, m5, m6, m7, m8]
    · have e4 : failS 113 l2 0 = ((), l2, (failS 113 l2 0).2.2) := Prod.ext rfl (Prod.ext (fail_suf 113 l2 0) rfl)
      have h4 := fail_ne (e := 113) (by decide) l2 0
      rw [end_more h2]
      have kf0 := Lib.hid (fun w' h => kf.out w' 0 h)
      rw [e4] at kf0
      obtain ⟨c4, hc4⟩ : ∃ c, (failS 113 l2 0).2.2 = c := ⟨_, rfl⟩
      rw [hc4] at kf0 h4
      rw [hc4, if_neg h4]
      have hc' : ((c4 : Int) == 0) = false := by simp [h4]
      have hc3 : ¬ (c4 : Int) = 0 := by omega
      have hne : l2.isEmpty = false := by
        cases l2 with
        | nil => exact absurd rfl h2
        | cons x t => rfl
      have HC := Lib.hid h4
      clear h4 hc4 e4 kf h2
      go_enter Tryz.func13, Tryz.ntmps13
      go_upto_region 8 with (first
        | (go_at_call 33; (with_reducible refine (kn.out).mono ?_); rintro e w2 ⟨A2, k2, p2, rfl, hR2, hS2, hT2⟩; (have hN2 := Lib.hid (hN1.out.tch hT2 (by omega))); obtain ⟨zl, z0, z1, z2, g0, g1, g2, -, -, zb, -⟩ := hS2.out; obtain ⟨n0, n1, n2, n3, n4, n5, n6, n7, n8, q0, q1, q2, q3, q4, q5, q6, q7, q8, hB5⟩ := hN2.out)
        | (go_at_call 34; (have hS3 := Lib.hid (hS2.out.ext (ext_alloc (ext_refl w2) (numO X A2 k2 p2)))); (with_reducible refine (kf0.out _ hS3.out).mono ?_); rintro e w4 ⟨rfl, hS4, hT4⟩; clear zl z0 z1 z2 g0 g1 g2 zb n0 n1 n2 n3 n4 n5 n6 n7 n8 q0 q1 q2 q3 q4 q5 q6 q7 q8 hB5; (have hN4 := Lib.hid ((hN2.out.ext (ext_alloc (ext_refl w2) (numO X A2 k2 p2))).tch hT4 (by omega))); obtain ⟨zl, z0, z1, z2, g0, g1, g2, -, -, zb, -⟩ := hS4.out; obtain ⟨n0, n1, n2, n3, n4, n5, n6, n7, n8, q0, q1, q2, q3, q4, q5, q6, q7, q8, hB5⟩ := hN4.out))
      go_region
      go_wp2
      have hX : Ext (set9 w4 w.heap.size (.int .u8 0) (.bool false) (.bool false) (.string ⟨#[]⟩) (.int .i64 0) (.bool false) (.slice none 0 0) (.int .i64 0) (.int .u64 0)) _ := ext_drew (ext_alloc (ext_refl _) (Obj.cells #[.int .i64 (c4 : Int), .int .i64 ((l.length - l2.length : Nat) : Int)] 69))
      have hen := err_new (set9_size w4 w.heap.size (.int .u8 0) (.bool false) (.bool false) (.string ⟨#[]⟩) (.int .i64 0) (.bool false) (.slice none 0 0) (.int .i64 0) (.int .u64 0)) (.int .i64 (c4 : Int)) (.int .i64 ((l.length - l2.length : Nat) : Int)) 69
      have hE4 : Ext w w4 := hT4.ext (ext_trans (hT2.ext hE1.out (by omega)) (ext_alloc (ext_refl _) _)) (by omega)
      obtain ⟨m0, m1, m2, m3, m4, m5, m6, m7, m8⟩ := set9_at hN4.out _ _ _ _ _ _ _ _ _ hX
      refine bodyPost_ret (v := .tuple #[numV num0 none 0 0, .iface 67 (.pointer (some ⟨w4.heap.size, 0, none⟩))]) ?h rfl ⟨none, 0, 0, _, rfl, ⟨lx_rdo_nil _ _, fun a h => by cases h⟩, .inr ⟨HC.out, w4.heap.size, rfl, hen.1, hen.2.1, hen.2.2⟩, ext_set9 hE4 (Nat.le_refl _) _ _ _ _ _ _ _ _ _ hX⟩
      case h => simp [results, Tryz.results13, go_sem, m0, m1, m2, m3, m4, m5, m6, m7, m8, num0]; rfl
  · rw [end_err _ hc, if_neg hc]
    have hc' : ((c2 : Int) == 0) = false := by simp [hc]
    have hc3 : ¬ (c2 : Int) = 0 := by omega
    have HC := Lib.hid hc
    clear hc
    go_enter Tryz.func13, Tryz.ntmps13
    go_upto_region 8 with (first
      | (go_at_call 33; (with_reducible refine (kn.out).mono ?_); rintro e w2 ⟨A2, k2, p2, rfl, hR2, hS2, hT2⟩; (have hN2 := Lib.hid (hN1.out.tch hT2 (by omega))); obtain ⟨zl, z0, z1, z2, g0, g1, g2, -, -, zb, -⟩ := hS2.out; obtain ⟨n0, n1, n2, n3, n4, n5, n6, n7, n8, q0, q1, q2, q3, q4, q5, q6, q7, q8, hB5⟩ := hN2.out))
    go_region
    go_wp2
    have hX : Ext (set9 w2 w.heap.size (.int .u8 0) (.bool false) (.bool false) (.string ⟨#[]⟩) (.int .i64 0) (.bool false) (.slice none 0 0) (.int .i64 0) (.int .u64 0)) _ := ext_drew (ext_alloc (ext_alloc (ext_refl _) (numO X A2 k2 p2)) (Obj.cells #[.int .i64 (c2 : Int), .int .i64 ((l.length - l2.length : Nat) : Int)] 69))
    have hen := err_new (set9_size1 w2 w.heap.size (.int .u8 0) (.bool false) (.bool false) (.string ⟨#[]⟩) (.int .i64 0) (.bool false) (.slice none 0 0) (.int .i64 0) (.int .u64 0) (numO X A2 k2 p2)) (.int .i64 (c2 : Int)) (.int .i64 ((l.length - l2.length : Nat) : Int)) 69
    obtain ⟨m0, m1, m2, m3, m4, m5, m6, m7, m8⟩ := set9_at hN2.out _ _ _ _ _ _ _ _ _ hX
    refine bodyPost_ret (v := .tuple #[numV num0 none 0 0, .iface 67 (.pointer (some ⟨w2.heap.size + 1, 0, none⟩))]) ?h rfl ⟨none, 0, 0, _, rfl, ⟨lx_rdo_nil _ _, fun a h => by cases h⟩, .inr ⟨HC.out, w2.heap.size + 1, rfl, hen.1, hen.2.1, hen.2.2⟩, ext_set9 (hT2.ext hE1.out (by omega)) (Nat.le_refl _) _ _ _ _ _ _ _ _ _ hX⟩
    case h => simp [results, Tryz.results13, go_sem, m0, m1, m2, m3, m4, m5, m6, m7, m8, num0]; rfl
theorem lx_Read (l : List UInt8) (hb : l.length ≤ 1000000000) (w : World) (hT : LxT w) : Calls Tryz.prog 13 #[.string (bs l)] w (ReQ w (readV false l)) := by
  by_cases h : 65536 < l.length
  · rw [read_gt false h]; exact lx_Read_long l h hb w
  · exact lx_Read_short l (by omega) w hT
end Go.Proofs.YtnkajjealkggdaaGreatDoor
end
section
/- Lex, the program: Begin. -/
namespace Go.Proofs.YtnkajjealkggdaaGreatDoor
open Go.RowKit
attribute [local go_sem] bs_size bs_extract bs_get bs_append bs_toList const_get
attribute [local go_sem] sz2 sz3 sz4 sz5 sz6 sz7 sz8 sz9 sz10
set_option maxHeartbeats 4000000
set_option maxRecDepth 100000
attribute [local irreducible] Calls
/-- What Begin answers. -/
abbrev BeQ (w : World) (X : Num × Nat) : Ending → World → Prop := fun e w' => ∃ A n k, e = .returned (.tuple #[numV X.1 A n k, .int .i64 (X.2 : Int)]) ∧ Hid (RdO w' A n k X.1.mant none ∧ Fr w A) ∧ Ext w w'
theorem RdO.set9 {W : World} {A : Option Addr} {k p B : Nat} {xs : List Nat} {Z : Option Addr} (h : RdO W A k p xs Z) (hf : ∀ a, A = some a → B < a.block) (v0 v1 v2 v3 v4 v5 v6 v7 v8 : Value) {Y : World} (hY : Ext (set9 W B v0 v1 v2 v3 v4 v5 v6 v7 v8) Y) : RdO Y A k p xs Z :=
  (((((((((h.set v0 (p := ⟨B, 0, none⟩) hf).set v1 (p := ⟨B, 1, none⟩) hf).set v2 (p := ⟨B, 2, none⟩) hf).set v3 (p := ⟨B, 3, none⟩) hf).set v4 (p := ⟨B, 4, none⟩) hf).set v5 (p := ⟨B, 5, none⟩) hf).set v6 (p := ⟨B, 6, none⟩) hf).set v7 (p := ⟨B, 7, none⟩) hf).set v8 (p := ⟨B, 8, none⟩) hf).ext hY
theorem EIs.nil {w : World} {v : Value} {at_ : Nat} (h : EIs w v 0 at_) : v = .nilIface := by
  rcases h with h | h
  · exact h.1
  · exact absurd rfl h.1
theorem EIs.some {w : World} {v : Value} {code at_ : Nat} (h : EIs w v code at_) (hc : code ≠ 0) : ∃ b, v = .iface 67 (.pointer (some ⟨b, 0, none⟩)) := by
  rcases h with h | ⟨_, b, h, _⟩
  · exact absurd h.2 hc
  · exact ⟨b, h⟩
theorem numS_at (l : List UInt8) (c : Nat) : (numS false l c).2.1.length ≤ l.length := (ok_num false).le l c
theorem lx_Begin (l : List UInt8) (hb : l.length ≤ 1000000000) (w : World) (hT : LxT w) : Calls Tryz.prog 15 #[.string (bs l)] w (BeQ w (beginP l)) := by
  have HT := Lib.hid hT
  have hE0 := Lib.hid (ext_alloc (ext_refl w) num0O)
  have hNC := Lib.hid (nc_new w)
  have hs1 : (w.alloc num0O).heap.size = w.heap.size + 1 := by simp
  obtain ⟨m, hm⟩ : ∃ m, l.take 65536 = m := ⟨_, rfl⟩
  have hml : m.length = min l.length 65536 := by rw [← hm, List.length_take]; omega
  have hSc := Lib.hid (sc_new w (w.alloc num0O) hE0.out m (by omega))
  have hE1 : Hid (Ext w ((w.alloc num0O).alloc (Obj.cells #[.string (bs m), .int .i64 0, .int .i64 0] 72))) := ext_alloc hE0.out _
  have hE1' : Hid (Ext (w.alloc num0O) ((w.alloc num0O).alloc (Obj.cells #[.string (bs m), .int .i64 0, .int .i64 0] 72))) := ext_alloc (ext_refl _) _
  rw [hs1] at hSc
  have hN1 := Lib.hid (hNC.out.ext hE1'.out)
  have kn := Lib.hid (lx_number (w.heap.size + 1) m.length m w _ hSc.out hT)
  have hNle := numS_at m 0
  have hbe : beginP l = if (numS false m 0).2.2 = 0 then ((numS false m 0).1, m.length - (numS false m 0).2.1.length) else fromV false m (m.length - (numS false m 0).2.1.length) := by
    show (if (numS false (l.take 65536) 0).2.2 = 0 then _ else _) = _
    rw [hm]
  rw [hbe]
  obtain ⟨⟨X, l2, c2⟩, e2⟩ : ∃ X, numS false m 0 = X := ⟨_, rfl⟩
  rw [e2] at kn hNle
  rw [e2]
  dsimp only at hNle ⊢
  have hmin : min (l.length : Int) 65536 = (m.length : Nat) := by omega
  have htk : l.take m.length = m := by
    rw [hml, ← hm]
    rcases Nat.le_total l.length 65536 with q | q
    · rw [Nat.min_eq_left q, List.take_length, List.take_of_length_le q]
    · rw [Nat.min_eq_right q]
  have hml2 : m.length ≤ l.length := by omega
  have hm6 : m.length ≤ 65536 := by omega
  clear hT e2 hSc hE1' hNC hbe hm hml
  by_cases hc : c2 = 0
  · subst hc
    rw [if_pos rfl]
    have hcl := hN1.out.lt
    go_enter Tryz.func15, Tryz.ntmps15
    go_upto_region 5 with (first
      | (go_at_call 33; (with_reducible refine (kn.out).mono ?_); rintro e w2 ⟨A2, k2, p2, rfl, hR2, hS2, hT2⟩; (have hN2 := Lib.hid (hN1.out.tch hT2 (by omega))); obtain ⟨zl, z0, z1, z2, g0, g1, g2, -, -, zb, -⟩ := hS2.out; obtain ⟨n0, n1, n2, n3, n4, n5, n6, n7, n8, q0, q1, q2, q3, q4, q5, q6, q7, q8, hB5⟩ := hN2.out))
    go_region
    go_wp2
    have hX : Ext (set9 w2 w.heap.size (.int .u8 (X.kind : Int)) (.bool X.neg) (.bool X.dneg) (.string (bs X.digits)) (.int .i64 X.dexp) (.bool X.hneg) (.slice A2 k2 p2) (.int .i64 X.hexp) (.int .u64 (X.payload : Int))) _ := ext_drew (ext_alloc (ext_refl _) (numO X A2 k2 p2))
    obtain ⟨m0, m1, m2, m3, m4, m5, m6, m7, m8⟩ := set9_at hN2.out _ _ _ _ _ _ _ _ _ hX
    have hb1 : ((w.alloc num0O).alloc (Obj.cells #[.string (bs m), .int .i64 0, .int .i64 0] 72)).heap.size = w.heap.size + 2 := by simp
    have hfw : ∀ a, A2 = some a → w.heap.size < a.block := fun a ha => by
      have h1 : ((w.alloc num0O).alloc (Obj.cells #[.string (bs m), .int .i64 0, .int .i64 0] 72)).heap.size ≤ a.block := hR2.out.2 a ha
      omega
    refine bodyPost_ret (v := .tuple #[numV X A2 k2 p2, .int .i64 ((m.length - l2.length : Nat) : Int)]) ?h rfl ⟨A2, k2, p2, rfl, ⟨hR2.out.1.set9 hfw _ _ _ _ _ _ _ _ _ hX, fun a ha => Nat.le_of_lt (hfw a ha)⟩, ext_set9 (hT2.ext hE1.out (by omega)) (Nat.le_refl _) _ _ _ _ _ _ _ _ _ hX⟩
    case h => simp [results, Tryz.results15, go_sem, m0, m1, m2, m3, m4, m5, m6, m7, m8]
  · rw [if_neg hc]
    have hc' : ((c2 : Int) == 0) = false := by simp [hc]
    have hc3 : ¬ (c2 : Int) = 0 := by omega
    clear hc
    go_enter Tryz.func15, Tryz.ntmps15
    go_wp2_with (first
      | (go_at_call 33; (with_reducible refine (kn.out).mono ?_); rintro e w2 ⟨A2, k2, p2, rfl, hR2, hS2, hT2⟩; (have hN2 := Lib.hid (hN1.out.tch hT2 (by omega))); obtain ⟨zl, z0, z1, z2, g0, g1, g2, -, -, zb, -⟩ := hS2.out; obtain ⟨n0, n1, n2, n3, n4, n5, n6, n7, n8, q0, q1, q2, q3, q4, q5, q6, q7, q8, hB5⟩ := hN2.out))
    have hE2 := hT2.ext hE1.out (by omega)
    have hE3 : Hid (Ext w (w2.alloc (numO X A2 k2 p2))) := ext_alloc hE2 _
    have hN3 : Hid (Nc (w2.alloc (numO X A2 k2 p2)) w.heap.size) := hN2.out.ext (ext_alloc (ext_refl _) _)
    clear zl z0 z1 z2 g0 g1 g2 zb n0 n1 n2 n3 n4 n5 n6 n7 n8 q0 q1 q2 q3 q4 q5 q6 q7 q8 hB5 hE2 hR2 hS2 hT2 kn
    obtain ⟨K0, hK0⟩ : ∃ K0, m.length - l2.length = K0 := ⟨_, rfl⟩
    have hK0m : K0 ≤ m.length := by omega
    simp only [hK0] at *
    go_loopw [6, 7, 8] (fun v6 _ _ wr => ∃ k : Nat, v6 = .int .i64 k ∧ k ≤ m.length ∧ Hid (fromV false m K0 = fromV false m k) ∧ Hid (Nc wr w.heap.size) ∧ Hid (Ext w wr)) (fun v6 _ _ _ => (intOf v6).toNat)
    case atStart => exact ⟨K0, rfl, hK0m, rfl, hN3, hE3⟩
    case round =>
      obtain ⟨k, rfl, hk, hfv, hNr, hEr⟩ := hrel
      by_cases h0 : k = 0
      · subst h0
        have hv0 : fromV false m K0 = (num0, 0) := hfv.out
        try rw [hv0]
        obtain ⟨n0, n1, n2, n3, n4, n5, n6, n7, n8, q0, q1, q2, q3, q4, q5, q6, q7, q8, hB5⟩ := hNr.out
        go_wp2
        have hX := ext_refl (set9 wr w.heap.size (.int .u8 0) (.bool false) (.bool false) (.string ⟨#[]⟩) (.int .i64 0) (.bool false) (.slice none 0 0) (.int .i64 0) (.int .u64 0))
        obtain ⟨m0, m1, m2, m3, m4, m5, m6, m7, m8⟩ := set9_at hNr.out _ _ _ _ _ _ _ _ _ hX
        refine bodyPost_ret (v := .tuple #[numV num0 none 0 0, .int .i64 0]) ?h rfl ⟨none, 0, 0, by rw [hv0]; rfl, ⟨by rw [hv0]; exact lx_rdo_nil _ _, fun a h => nomatch h⟩, ext_set9 hEr.out (Nat.le_refl _) _ _ _ _ _ _ _ _ _ hX⟩
        case h => simp [results, Tryz.results15, go_sem, m0, m1, m2, m3, m4, m5, m6, m7, m8, num0]; rfl
      · obtain ⟨k, rfl⟩ : ∃ k', k = k' + 1 := ⟨k - 1, by omega⟩
        have hfs : fromV false m (k + 1) = if (readV false (m.take (k + 1))).2.1 = 0 then ((readV false (m.take (k + 1))).1, k + 1) else fromV false m k := rfl
        have kR := Lib.hid (lx_Read (m.take (k + 1)) (by rw [List.length_take]; omega) wr (HT.out.ext hEr.out))
        obtain ⟨⟨Y, cd, at9⟩, hY⟩ : ∃ Y, readV false (m.take (k + 1)) = Y := ⟨_, rfl⟩
        rw [hY] at hfs kR
        dsimp only at hfs
        have hfv2 := hfv.out
        rw [hfs] at hfv2
        have hk1 : (0 : Int) < (k : Int) + 1 := by omega
        have hwl := ext_size hEr.out
        by_cases hcd : cd = 0
        · subst hcd
          rw [if_pos rfl] at hfv2
          rw [hfv2]
          clear hfv hfv2 hfs hY h0
          go_wp2_with (first
            | (go_at_call 13; (with_reducible refine (kR.out).mono ?_); rintro e w5 ⟨A9, k9, p9, v9, rfl, hR9, hV9, hE9⟩; obtain rfl := hV9.out.nil; (have hN9 := Lib.hid (hNr.out.ext hE9)); obtain ⟨n0, n1, n2, n3, n4, n5, n6, n7, n8, q0, q1, q2, q3, q4, q5, q6, q7, q8, hB5⟩ := hN9.out))
          have hX : Ext (set9 w5 w.heap.size (.int .u8 (Y.kind : Int)) (.bool Y.neg) (.bool Y.dneg) (.string (bs Y.digits)) (.int .i64 Y.dexp) (.bool Y.hneg) (.slice A9 k9 p9) (.int .i64 Y.hexp) (.int .u64 (Y.payload : Int))) _ := ext_alloc (ext_refl _) (numO Y A9 k9 p9)
          obtain ⟨m0, m1, m2, m3, m4, m5, m6, m7, m8⟩ := set9_at hN9.out _ _ _ _ _ _ _ _ _ hX
          have hBr := hNr.out.lt
          have hfw : ∀ a, A9 = some a → w.heap.size < a.block := fun a ha => by
            have h1 : wr.heap.size ≤ a.block := hR9.out.2 a ha
            omega
          refine bodyPost_ret (v := .tuple #[numV Y A9 k9 p9, .int .i64 ((k : Int) + 1)]) ?h rfl ⟨A9, k9, p9, rfl, ⟨hR9.out.1.set9 hfw _ _ _ _ _ _ _ _ _ hX, fun a ha => Nat.le_of_lt (hfw a ha)⟩, ext_set9 (ext_trans hEr.out hE9) (Nat.le_refl _) _ _ _ _ _ _ _ _ _ hX⟩
          case h => simp [results, Tryz.results15, go_sem, m0, m1, m2, m3, m4, m5, m6, m7, m8]
        · rw [if_neg hcd] at hfv2
          have HFV := Lib.hid hfv2
          clear hfv hfv2 hfs hY h0
          go_wp2_with (first
            | (go_at_call 13; (with_reducible refine (kR.out).mono ?_); rintro e w5 ⟨A9, k9, p9, v9, rfl, hR9, hV9, hE9⟩; obtain ⟨b9, rfl⟩ := hV9.out.some hcd))
          exact ⟨⟨k, by go_num, by omega, HFV, hNr.out.ext (ext_trans hE9 (ext_alloc (ext_refl _) _)), ext_trans hEr.out (ext_trans hE9 (ext_alloc (ext_refl _) _))⟩, by simp [intOf]⟩
end Go.Proofs.YtnkajjealkggdaaGreatDoor
end
section
/- Lex, the document: are two numbers the same? -/
namespace Go.Proofs.YtnkajjealkggdaaGreatDoor
open Go.RowKit
attribute [local go_sem] bs_size bs_extract bs_get bs_append bs_toList const_get
attribute [local go_sem] sz2 sz3 sz4 sz5 sz6 sz7 sz8 sz9 sz10
set_option maxHeartbeats 4000000
set_option maxRecDepth 100000
/-- The same decimal? -/
def sameD (d1 : Bool) (g1 : List UInt8) (x1 : Int) (d2 : Bool) (g2 : List UInt8) (x2 : Int) : Bool := decide (d1 = d2 ∧ g1 = g2 ∧ x1 = x2)
def sameN (x y : Num) : Bool := decide (x.kind = y.kind) && (decide (x.neg = y.neg) && (sameD x.dneg x.digits x.dexp y.dneg y.digits y.dexp && (decide (x.payload = y.payload) && (decide (x.mant = y.mant) && (decide (x.hneg = y.hneg) && decide (x.hexp = y.hexp))))))
theorem sameN_iff (x y : Num) : sameN x y = true ↔ x = y := by
  unfold sameN sameD
  simp only [Bool.and_eq_true, decide_eq_true_eq]
  constructor
  · rintro ⟨h1, h2, ⟨h3, h4, h5⟩, h6, h7, h8, h9⟩
    cases x; cases y; simp_all
  · rintro rfl; simp
theorem sameN_self (x : Num) : sameN x x = true := (sameN_iff x x).2 rfl
theorem eql_decs (d1 : Bool) (g1 : List UInt8) (x1 : Int) (d2 : Bool) (g2 : List UInt8) (x2 : Int) (w : World) : (binOp .eql 25 (.agg #[.bool d1, .string (bs g1), .int .i64 x1]) (.agg #[.bool d2, .string (bs g2), .int .i64 x2])).run Tryz.prog w = .ok (.bool (sameD d1 g1 x1 d2 g2 x2)) w := by
  unfold sameD
  simp [go_sem]
  by_cases h1 : d1 = d2
  · by_cases h2 : g1 = g2
    · by_cases h3 : x1 = x2
      · simp [h1, h2, h3]
      · simp [h1, h2, h3]
    · have h2' : ¬ bs g1 = bs g2 := fun e => h2 (bs_inj.1 e)
      simp [h1, h2, h2']
  · simp [h1]
attribute [local irreducible] Calls
attribute [local go_sem high] eql_decs
theorem dx_Same (x y : Num) (A : Option Addr) (n c : Nat) (B : Option Addr) (m d : Nat) (w : World) (hA : Rd w A n c x.mant) (hB : Rd w B m d y.mant) :
    Calls Tryz.prog 19 #[numV x A n c, numV y B m d] w fun e w' => e = .returned (.bool (sameN x y)) ∧ Ext w w' := by
  have kn := Lib.hid (fun w' (he : Ext w w') => rb_SameNat A B n c m d x.mant y.mant w' (hA.ext he) (hB.ext he))
  obtain ⟨kind, neg, dneg, digits, dexp, hneg, mant, hexp, payload⟩ := x
  obtain ⟨kind2, neg2, dneg2, digits2, dexp2, hneg2, mant2, hexp2, payload2⟩ := y
  clear hA hB
  obtain ⟨M, hM⟩ : ∃ M, decide (mant = mant2) = M := ⟨_, rfl⟩
  dsimp only at kn
  rw [hM] at kn
  have HM := Lib.hid hM
  clear hM
  have hv1 := Lib.hid (Nv.new w (.int .u8 (kind : Int)) (.bool neg) (.bool dneg) (.string (bs digits)) (.int .i64 dexp) (.bool hneg) (.slice A n c) (.int .i64 hexp) (.int .u64 (payload : Int)) 33)
  go_enter Tryz.func19, Tryz.ntmps19
  go_wp2_with (first
    | (go_at_call 17; (with_reducible refine (kn.out _ (by (repeat (first | exact ext_refl _ | assumption | refine ext_setCell ?_ (by simp; try omega) _ | refine ext_alloc ?_ _ | refine ext_drew ?_ | refine ext_drewN ?_ _ | refine ext_trans ?_ (Aft.use _) | refine ext_trans ?_ (by assumption))))).mono ?_); rintro e w1 ⟨rfl, xb1⟩; obtain ⟨xc1, xf1, xl1, xz1⟩ := ext_use xb1; (try simp at xz1); obtain ⟨l1_0, gc, gf⟩ := kp xb1 (w.heap.size) (by first | omega | (simp; try omega)); have r1_0 := gc 0; have f1_0 := gf 0; have r1_0_1 := gc 1; have f1_0_1 := gf 1; have r1_0_2 := gc 2; have f1_0_2 := gf 2; have r1_0_3 := gc 3; have f1_0_3 := gf 3; have r1_0_4 := gc 4; have f1_0_4 := gf 4; have r1_0_5 := gc 5; have f1_0_5 := gf 5; have r1_0_6 := gc 6; have f1_0_6 := gf 6; have r1_0_7 := gc 7; have f1_0_7 := gf 7; have r1_0_8 := gc 8; have f1_0_8 := gf 8; clear gc gf; obtain ⟨l1_1, gc, gf⟩ := kp xb1 (w.heap.size + 1) (by first | omega | (simp; try omega)); have r1_1 := gc 0; have f1_1 := gf 0; have r1_1_1 := gc 1; have f1_1_1 := gf 1; have r1_1_2 := gc 2; have f1_1_2 := gf 2; have r1_1_3 := gc 3; have f1_1_3 := gf 3; have r1_1_4 := gc 4; have f1_1_4 := gf 4; have r1_1_5 := gc 5; have f1_1_5 := gf 5; have r1_1_6 := gc 6; have f1_1_6 := gf 6; have r1_1_7 := gc 7; have f1_1_7 := gf 7; have r1_1_8 := gc 8; have f1_1_8 := gf 8; clear gc gf)
   )
  all_goals
    have hM := HM.out
    clear kn hv1 HM
    try clear r0_0
    first
      | (refine bodyPost_ret (v := .bool false) ?h rfl ⟨ret_bool (Eq.symm ?_), ?_⟩
         case h => simp [results, Tryz.results19, go_sem]
         · rw [← Bool.not_eq_true, sameN_iff]
           intro q
           injection q with q1 q2 q3 q4 q5 q6 q7 q8 q9
           first
             | exact absurd (congrArg (fun (n : Nat) => (n : Int)) q1) ‹_›
             | exact absurd (congrArg (fun (n : Nat) => (n : Int)) q8) ‹_›
             | exact absurd (congrArg (fun (n : Nat) => (n : Int)) q9) ‹_›
             | (subst q3 q4 q5; simp_all [sameD]; done)
             | (subst q1 q2 q3 q4 q5 q6 q7 q8 q9; simp_all [sameD])
         · repeat (first | exact ext_refl _ | assumption | refine ext_setCell ?_ (by simp; try omega) _ | refine ext_alloc ?_ _ | refine ext_drew ?_ | refine ext_trans ?_ (by assumption)))
      | (refine bodyPost_ret (v := .bool (hexp == hexp2)) ?h rfl ⟨ret_bool (Eq.symm ?_), ?_⟩
         case h => simp [results, Tryz.results19, go_sem]
         · rw [Bool.eq_iff_iff, sameN_iff, beq_iff_eq]
           constructor
           · intro q; injection q
           · intro q
             have k1 : kind = kind2 := by omega
             have k2 : payload = payload2 := by omega
             subst k1 k2
             simp_all [sameD]
         · repeat (first | exact ext_refl _ | assumption | refine ext_setCell ?_ (by simp; try omega) _ | refine ext_alloc ?_ _ | refine ext_drew ?_ | refine ext_trans ?_ (by assumption)))
end Go.Proofs.YtnkajjealkggdaaGreatDoor
end
