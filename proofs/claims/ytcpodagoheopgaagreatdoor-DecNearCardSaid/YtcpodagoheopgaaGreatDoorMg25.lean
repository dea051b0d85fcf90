/- Lemmas of this proof, laid together: Prt, TxP. -/
import Derived.Test.YtcpodagoheopgaaGreatDoorMg22
import Derived.Deep.DeepCutAuto
import Derived.Deep.RegionWith
import Derived.Deep.LoopGhost
set_option linter.unusedSimpArgs false
set_option linter.unusedVariables false
section
/- DecTexts: a text parted. -/
namespace Go.Proofs.YtcpodagoheopgaaGreatDoor
open Go.RowKit
attribute [local go_sem] bs_size bs_extract bs_get bs_append bs_toList const_get
attribute [local go_sem] sz2 sz3 sz4 sz5 sz6 sz7 sz8
set_option maxHeartbeats 4000000
set_option maxRecDepth 100000
attribute [local irreducible] Calls
/-- The text that is parted. -/
def prtL (M A : List UInt8) (pt : Bool) (B R : List UInt8) : List UInt8 := M ++ (A ++ ((if pt then 46 :: B else []) ++ R))
def prtO (A B : List UInt8) (k : Nat) : List UInt8 := A.take k ++ B.take (k - A.length - 1)
theorem prt_char {M A : List UInt8} {pt : Bool} {B R : List UInt8} {i : Nat} (h : i < (prtL M A pt B R).length) :
    (∀ hi : i < M.length, (prtL M A pt B R)[i] = M[i]) ∧ (∀ k (hk : k < A.length), i = M.length + k → (prtL M A pt B R)[i] = A[k]) ∧
    (pt = true → i = M.length + A.length → (prtL M A pt B R)[i] = 46) ∧ (pt = true → ∀ k (hk : k < B.length), i = M.length + A.length + 1 + k → (prtL M A pt B R)[i] = B[k]) ∧
    (∀ R', R = 101 :: R' → i = M.length + A.length + (if pt then 1 + B.length else 0) → (prtL M A pt B R)[i] = 101) := by
  refine ⟨fun hi => ?_, fun k hk e => ?_, fun hp e => ?_, fun hp k hk e => ?_, fun R' hR e => ?_⟩
  · simp only [prtL]; rw [List.getElem_append_left hi]
  · subst e; simp only [prtL]; rw [List.getElem_append_right (by omega)]; simp only [Nat.add_sub_cancel_left]; rw [List.getElem_append_left hk]
  · subst e; subst hp; simp only [prtL]; rw [List.getElem_append_right (by omega)]; simp only [Nat.add_sub_cancel_left]; rw [List.getElem_append_right (by omega)]; simp
  · subst e; subst hp; simp only [prtL]; rw [List.getElem_append_right (by omega), List.getElem_append_right (by omega)]
    simp only [show M.length + A.length + 1 + k - M.length - A.length = k + 1 by omega, if_true, List.cons_append, List.getElem_cons_succ]
    rw [List.getElem_append_left hk]
  · subst e hR; simp only [prtL]; rw [List.getElem_append_right (by omega), List.getElem_append_right (by omega), List.getElem_append_right (by split <;> simp <;> omega)]
    cases pt
    · simp
    · simp [show M.length + A.length + (1 + B.length) - M.length - A.length - (B.length + 1) = 0 by omega]
theorem one_piece (S : List UInt8) (i : Nat) (h : i < S.length) : (S.take (i + 1)).drop i = [S[i]] := by
  rw [List.take_succ_eq_append_getElem h, List.drop_append_of_le_length (by rw [List.length_take]; omega), List.drop_of_length_le (by rw [List.length_take]; omega)]; rfl
theorem parted_any (neg : Bool) (A : List UInt8) (pt : Bool) (B R : List UInt8) (hA0 : A ≠ []) (hA : digsB A = true) (hB : digsB B = true) (hpt : pt = true → B ≠ []) (hnp : pt = false → B = []) (hR : R = [] ∨ ∃ R', R = 101 :: R')
    (hl : (prtL (minusL neg) A pt B R).length ≤ 1000000) (w : World) :
    Calls Tryz.prog 25 #[.string (bs (prtL (minusL neg) A pt B R))] w fun e w' => e = .returned (.tuple #[.string (bs (A ++ B)), .int .i64 (B.length : Int), .bool true]) ∧ Ext w w' := by
  obtain ⟨S, hS⟩ : ∃ S, S = prtL (minusL neg) A pt B R := ⟨_, rfl⟩
  obtain ⟨T, hT⟩ : ∃ T, T = (minusL neg).length + A.length + (if pt then 1 + B.length else 0) := ⟨_, rfl⟩
  have hTl : T ≤ S.length := by rw [hT, hS]; unfold prtL; cases pt <;> simp <;> omega
  have hend : T < S.length → ∃ R', R = 101 :: R' := by
    intro h
    rcases hR with h1 | h1
    · exfalso; subst h1; rw [hS] at h; unfold prtL at h; rw [hT] at h; cases pt <;> simp at h <;> omega
    · exact h1
  have hch := fun i (h : i < S.length) => prt_char (M := minusL neg) (A := A) (pt := pt) (B := B) (R := R) (i := i) (by rw [← hS]; exact h)
  rw [← hS] at hl ⊢
  have hch' : ∀ i (h : i < S.length), (∀ hi : i < (minusL neg).length, S[i] = 45 ∧ i = 0) ∧ (∀ k (hk : k < A.length), i = (minusL neg).length + k → S[i] = A[k]) ∧
    (pt = true → i = (minusL neg).length + A.length → S[i] = 46) ∧ (pt = true → ∀ k (hk : k < B.length), i = (minusL neg).length + A.length + 1 + k → S[i] = B[k]) ∧ (i = T → S[i] = 101) := by
    intro i h
    obtain ⟨h1, h2, h3, h4, h5⟩ := hch i h
    subst hS
    refine ⟨fun hi => ⟨?_, ?_⟩, h2, h3, h4, fun e => ?_⟩
    · rw [h1 hi]; cases neg <;> simp [minusL] at hi ⊢
    · cases neg <;> simp [minusL] at hi; exact hi
    · obtain ⟨R', hR'⟩ := hend (by omega)
      exact h5 R' hR' (by rw [e, hT])
  obtain ⟨m, hm⟩ : ∃ m, m = (minusL neg).length := ⟨_, rfl⟩
  have hm1 : m ≤ 1 := by rw [hm]; exact minus_len neg
  rw [← hm] at hT hch'
  have HCH := Lib.hid hch'
  clear hch hch' hend hS hR hm
  have hae : 0 < A.length := List.length_pos_iff.2 hA0
  have hbe : pt = true → 0 < B.length := fun h => List.length_pos_iff.2 (hpt h)
  have eO : prtO A B (T - m) = A ++ B := by
    unfold prtO
    rw [List.take_of_length_le (by rw [hT]; omega), List.take_of_length_le]
    rw [hT]; cases pt
    · rw [hnp rfl]; simp
    · simp; omega
  have eP : T - m - A.length - 1 = B.length := by
    rw [hT]; cases pt
    · rw [hnp rfl]; simp
    · simp; omega
  have eB : (pt && decide (m + A.length < T)) = pt := by
    rw [hT]; cases pt <;> simp; omega
  have hAB : ((A ++ B).length : Int) ≠ 0 := by simp; omega
  have hemp : (A ++ B).isEmpty = false := by rw [List.isEmpty_eq_false_iff]; intro h; simp at h; exact hA0 h.1
  have HTT := Lib.hid hT
  have HEX := Lib.hid (And.intro eO (And.intro eP eB))
  clear hT eO eP eB
  go_enter Tryz.func25, Tryz.ntmps25
  go_wp2
  go_loopw [5, 6, 7, 8] (fun vo vp vt vi wr => ∃ (i : Nat) (O : List UInt8) (p : Nat) (b : Bool), i ≤ T ∧ vi = .int .i64 (i : Int) ∧ vo = .string (bs O) ∧ vp = .int .i64 (p : Int) ∧ vt = .bool b ∧ Hid (O = prtO A B (i - m) ∧ p = i - m - A.length - 1 ∧ b = (pt && decide (m + A.length < i))) ∧ wr = w)
    (fun _ _ _ vi _ => S.length - (intOf vi).toNat)
  case atStart => exact ⟨0, [], 0, false, by omega, rfl, rfl, rfl, rfl, ⟨by simp [prtO], by simp, by simp⟩, rfl⟩
  case round =>
    obtain ⟨i, O, p, b, hi, rfl, rfl, rfl, rfl, hst, rfl⟩ := hrel
    by_cases hT1 : i = T
    · subst hT1
      obtain ⟨rfl, rfl, rfl⟩ : O = A ++ B ∧ p = B.length ∧ b = pt := by
        obtain ⟨e1, e2, e3⟩ := hst.out
        obtain ⟨f1, f2, f3⟩ := HEX.out
        exact ⟨by rw [e1, f1], by rw [e2, f2], by rw [e3, f3]⟩
      have hfin : ∀ (x : Bool), b = x → (x = true → (0 : Int) < (B.length : Int)) := fun x h1 h2 => by subst h1; have := hbe h2; omega
      clear hnp hbe
      by_cases hSl : i < S.length
      · have hc := (HCH.out i hSl).2.2.2.2 rfl
        clear hst
        cases b with
        | true =>
          have hb0 := hfin true rfl rfl
          have hb1 : 0 < B.length := by omega
          clear hfin
          go_wp2
          refine bodyPost_ret (v := .tuple #[.string (bs (A ++ B)), .int .i64 ↑B.length, .bool true]) ?h rfl ⟨rfl, ext_refl _⟩
          case h => simp [results, Tryz.results25, go_sem, hb1]
        | false =>
          clear hfin
          go_wp2
          refine bodyPost_ret (v := .tuple #[.string (bs (A ++ B)), .int .i64 ↑B.length, .bool true]) ?h rfl ⟨rfl, ext_refl _⟩
          case h => simp [results, Tryz.results25, go_sem]
      · have hSn : ¬ (i : Int) < (S.length : Int) := by omega
        clear hst
        cases b with
        | true =>
          have hb0 := hfin true rfl rfl
          have hb1 : 0 < B.length := by omega
          clear hfin
          go_wp2
          refine bodyPost_ret (v := .tuple #[.string (bs (A ++ B)), .int .i64 ↑B.length, .bool true]) ?h rfl ⟨rfl, ext_refl _⟩
          case h => simp [results, Tryz.results25, go_sem, hb1]
        | false =>
          clear hfin
          go_wp2
          refine bodyPost_ret (v := .tuple #[.string (bs (A ++ B)), .int .i64 ↑B.length, .bool true]) ?h rfl ⟨rfl, ext_refl _⟩
          case h => simp [results, Tryz.results25, go_sem]
    · have hiT : i < T := by omega
      have hSl : i < S.length := by omega
      obtain ⟨g1, g2, g3, g4, -⟩ := HCH.out i hSl
      by_cases q1 : i < m
      · obtain ⟨hc, rfl⟩ := g1 q1
        clear g1 g2 g3 g4
        go_wp2
        case roundEnd =>
          refine ⟨⟨1, O, p, b, by omega, rfl, rfl, rfl, rfl, ?_, trivial⟩, by simp [intOf]; omega⟩
          obtain ⟨e1, e2, e3⟩ := hst.out
          refine ⟨by rw [e1, show 1 - m = 0 by omega, Nat.zero_sub], by rw [e2]; omega, ?_⟩
          rw [e3]; congr 1; rw [decide_eq_decide]; omega
      · by_cases q2 : i < m + A.length
        · obtain ⟨k, hk⟩ : ∃ k, k = i - m := ⟨_, rfl⟩
          have hkA : k < A.length := by omega
          have hc := g2 k hkA (by omega)
          obtain ⟨x, hx⟩ : ∃ x, x = A[k] := ⟨_, rfl⟩
          rw [← hx] at hc
          have hd := digs_at hA k hkA
          rw [← hx] at hd
          have n1 : ((x.toNat : Int) == 101) = false := by rw [beq_eq_false_iff_ne]; omega
          have n2 : ((x.toNat : Int) == 45) = false := by rw [beq_eq_false_iff_ne]; omega
          have n3 : ((x.toNat : Int) == 46) = false := by rw [beq_eq_false_iff_ne]; omega
          have n4 : (48 : Int) ≤ (x.toNat : Int) := by omega
          have n5 : (x.toNat : Int) ≤ 57 := by omega
          obtain ⟨rfl, rfl, rfl⟩ : O = A.take k ∧ p = 0 ∧ b = false := by
            obtain ⟨e1, e2, e3⟩ := hst.out
            refine ⟨?_, by omega, ?_⟩
            · rw [e1, ← hk]; unfold prtO; rw [show k - A.length - 1 = 0 by omega]; simp
            · rw [e3, decide_eq_false (by omega), Bool.and_false]
          clear g1 g2 g3 g4 hst
          have HX := Lib.hid hx
          have hpc := one_piece S i hSl
          rw [hc] at hpc
          have HPC := Lib.hid hpc
          have HK := Lib.hid hk
          have hmin : min k A.length = k := by omega
          have hlA : A.length ≤ 1000000 := by have := HTT.out; omega
          clear hx hd hpc hk
          go_wp2
          case roundEnd =>
            rw [HPC.out]
            have hkk := HK.out
            refine ⟨⟨i + 1, A.take k ++ [x], 0, false, by omega, by simp, by first | rfl | simp, by first | rfl | simp, by first | rfl | simp, ?_, trivial⟩, by simp [intOf]; omega⟩
            refine ⟨?_, by omega, ?_⟩
            · unfold prtO
              rw [show i + 1 - m = k + 1 by omega, show k + 1 - A.length - 1 = 0 by omega, List.take_zero, List.append_nil, HX.out, List.take_succ_eq_append_getElem hkA]
            · rw [decide_eq_false (by omega), Bool.and_false]
        · have hp1 : pt = true := by
            have := HTT.out
            cases pt
            · simp at this; omega
            · rfl
          subst hp1
          by_cases q3 : i = m + A.length
          · have hc := g3 rfl q3
            obtain ⟨rfl, rfl, rfl⟩ : O = A ∧ p = 0 ∧ b = false := by
              obtain ⟨e1, e2, e3⟩ := hst.out
              refine ⟨?_, by omega, ?_⟩
              · rw [e1]; unfold prtO; rw [show i - m = A.length by omega, List.take_length, show A.length - A.length - 1 = 0 by omega]; simp
              · rw [e3, decide_eq_false (by omega), Bool.and_false]
            have hOe : O.isEmpty = false := by rw [List.isEmpty_eq_false_iff]; exact hA0
            clear g1 g2 g3 g4 hst
            have HQ3 := Lib.hid q3
            clear q3
            go_wp2
            case roundEnd =>
              refine ⟨⟨i + 1, O, 0, true, by omega, by simp, rfl, rfl, rfl, ?_, trivial⟩, by simp [intOf]; omega⟩
              have := HQ3.out
              refine ⟨?_, by omega, ?_⟩
              · unfold prtO
                rw [show i + 1 - m = O.length + 1 by omega, List.take_of_length_le (by omega), show O.length + 1 - O.length - 1 = 0 by omega]; simp
              · rw [decide_eq_true (by omega)]; rfl
          · obtain ⟨k, hk⟩ : ∃ k, k = i - m - A.length - 1 := ⟨_, rfl⟩
            have hkB : k < B.length := by have := HTT.out; simp at this; omega
            have hc := g4 rfl k hkB (by omega)
            obtain ⟨x, hx⟩ : ∃ x, x = B[k] := ⟨_, rfl⟩
            rw [← hx] at hc
            have hd := digs_at hB k hkB
            rw [← hx] at hd
            have n1 : ((x.toNat : Int) == 101) = false := by rw [beq_eq_false_iff_ne]; omega
            have n2 : ((x.toNat : Int) == 45) = false := by rw [beq_eq_false_iff_ne]; omega
            have n3 : ((x.toNat : Int) == 46) = false := by rw [beq_eq_false_iff_ne]; omega
            have n4 : (48 : Int) ≤ (x.toNat : Int) := by omega
            have n5 : (x.toNat : Int) ≤ 57 := by omega
            obtain ⟨rfl, rfl, rfl⟩ : O = A ++ B.take k ∧ p = k ∧ b = true := by
              obtain ⟨e1, e2, e3⟩ := hst.out
              refine ⟨?_, by omega, ?_⟩
              · rw [e1]; unfold prtO; rw [List.take_of_length_le (by omega), ← hk]
              · rw [e3, decide_eq_true (by omega)]; rfl
            clear g1 g2 g3 g4 hst
            have HX := Lib.hid hx
            have hpc := one_piece S i hSl
            rw [hc] at hpc
            have HPC := Lib.hid hpc
            have HK := Lib.hid hk
            have hmin : min p B.length = p := by omega
            have hlA : A.length + B.length ≤ 1000000 := by have := HTT.out; simp at this; omega
            clear hx hd hpc hk
            go_wp2
            case roundEnd =>
              rw [HPC.out]
              have hkk := HK.out
              refine ⟨⟨i + 1, (A ++ B.take p) ++ [x], p + 1, true, by omega, by simp, by simp, by simp, rfl, ?_, trivial⟩, by simp [intOf]; omega⟩
              refine ⟨?_, by omega, ?_⟩
              · unfold prtO
                rw [List.take_of_length_le (l := A) (by omega), show i + 1 - m - A.length - 1 = p + 1 by omega, HX.out, List.take_succ_eq_append_getElem hkB, List.append_assoc]
              · rw [decide_eq_true (by omega)]; rfl
end Go.Proofs.YtcpodagoheopgaaGreatDoor
end
section
/- DecTexts: the plain part. -/
namespace Go.Proofs.YtcpodagoheopgaaGreatDoor
set_option maxRecDepth 100000
theorem mk_self {neg : Bool} {l : List UInt8} {exp : Int} (hok : Ok ⟨neg, l, exp⟩) (hlast : ∀ x, l.getLast? = some x → x ≠ 48) (a b : Nat) (e : Int) (he : e + b = exp) (hab : a + l.length + b ≤ 65536) (hr : -2147483648 ≤ e ∧ e ≤ 1073741824) :
    mkD neg (zerosL a ++ l ++ zerosL b) e = ⟨neg, l, exp⟩ ∧ mkE (zerosL a ++ l ++ zerosL b) e = 0 := by
  obtain ⟨hl, hpos, hd, hld, he1, he2⟩ := hok
  simp only at hl hpos hd hld he1 he2
  have hlen : (zerosL a ++ l ++ zerosL b).length = a + l.length + b := by simp [zerosL]; omega
  have hz : ∀ i (h : i < (zerosL a ++ l ++ zerosL b).length), i < a → (zerosL a ++ l ++ zerosL b)[i] = 48 := fun i h hi => by
    rw [List.getElem_append_left (by simp [zerosL]; omega), List.getElem_append_left (by simp [zerosL]; omega)]; simp [zerosL]
  have hy : ∀ i (h : i < (zerosL a ++ l ++ zerosL b).length), a + l.length ≤ i → (zerosL a ++ l ++ zerosL b)[i] = 48 := fun i h hi => by
    rw [List.getElem_append_right (by simp [zerosL]; omega)]; simp [zerosL]
  have hm : ∀ k (hk : k < l.length) i (h : i < (zerosL a ++ l ++ zerosL b).length), i = a + k → (zerosL a ++ l ++ zerosL b)[i] = l[k] := fun k hk i h e => by
    subst e
    rw [List.getElem_append_left (by simp [zerosL]; omega), List.getElem_append_right (by simp [zerosL])]
    simp [zerosL]
  have h1 := mk_between (zerosL a ++ l ++ zerosL b) a (a + l.length) (by omega) (by omega) hz hy
    (by rw [hm 0 hpos a (by omega) (by omega)]; exact hld _ (by rw [List.head?_eq_getElem?, List.getElem?_eq_getElem hpos]))
    (by rw [hm (l.length - 1) (by omega) _ (by omega) (by omega)]; exact hlast _ (by rw [List.getLast?_eq_getElem?, List.getElem?_eq_getElem (by omega)]))
  have h2 : ((zerosL a ++ l ++ zerosL b).take (a + l.length)).drop a = l := by
    rw [List.take_left' (by simp [zerosL]), List.drop_left' (by simp [zerosL])]
  rw [h2, hlen] at h1
  have hdg : digsB (zerosL a ++ l ++ zerosL b) = true := by
    unfold digsB at *
    have z : ∀ k, (zerosL k).all isD = true := fun k => digs_noughts k
    rw [List.all_append, List.all_append, z, z, hd]; rfl
  have hne : l ≠ [] := List.length_pos_iff.1 hpos
  have hE : mkE (zerosL a ++ l ++ zerosL b) e = 0 := by
    unfold mkE
    rw [if_neg (by omega), if_neg (by rw [hdg]; simp), h1.1, if_neg hne, h1.2, if_neg]
    rintro (h3 | h3 | h3)
    · omega
    · omega
    · have : far (e + ((a + l.length + b : Nat) - (a + l.length : Nat) : Int)) = far exp := by congr 1; omega
      rw [show (e + (((a + l.length + b : Nat) : Int) - ((a + l.length : Nat) : Int))) = exp by omega] at h3
      unfold far at h3; simp at h3; omega
  refine ⟨?_, hE⟩
  unfold mkD
  rw [if_pos hE, h1.1, if_neg hne, h1.2]
  congr 1; omega
theorem dc_lastq {d : Dc} (h : dcE d = 0) (h0 : 0 < d.dig.length) : ∀ x, d.dig.getLast? = some x → x ≠ 48 := by
  unfold dcE at h
  split at h
  · cases h
  · rw [if_neg (by omega)] at h
    split at h
    · cases h
    · split at h
      · cases h
      · rename_i h3
        exact fun x hx e => h3 (.inr (.inl (by rw [hx, e])))
/-- A plain text, parted. -/
theorem tx_plain (neg : Bool) (l : List UInt8) (exp : Int) (hok : Ok ⟨neg, l, exp⟩) (hE : dcE ⟨neg, l, exp⟩ = 0) (hl : l.length ≤ 3000) (he : -3000 ≤ exp ∧ exp ≤ 3000) :
    ∃ (A : List UInt8) (pt : Bool) (B : List UInt8), plnR ⟨neg, l, exp⟩ = ⟨prtL (minusL neg) A pt B [], 0⟩ ∧ (A ≠ [] ∧ digsB A = true ∧ digsB B = true ∧ (pt = true → B ≠ []) ∧ (pt = false → B = [])) ∧ (prtL (minusL neg) A pt B []).length ≤ 100000 ∧ (A ++ B).length ≤ 9000 ∧
      (mkD neg (A ++ B) (-(B.length : Int)) = ⟨neg, l, exp⟩ ∧ mkE (A ++ B) (-(B.length : Int)) = 0) ∧ (0 < B.length ↔ exp < 0) ∧ B.length ≤ 3000 := by
  have hla := dc_lastq hE hok.pos
  have hpos : 0 < l.length := hok.pos
  have hd : digsB l = true := hok.digs
  have zd : ∀ k, digsB (zerosL k) = true := fun k => digs_noughts k
  have ad : ∀ a b, digsB a = true → digsB b = true → digsB (a ++ b) = true := fun a b h1 h2 => by unfold digsB at *; rw [List.all_append, h1, h2]; rfl
  have hmn : (minusL neg).length ≤ 1 := minus_len neg
  have hpl : ∀ S, minusL neg ++ bodyL l exp = S → S.length ≤ 65536 → plnR ⟨neg, l, exp⟩ = ⟨S, 0⟩ := fun S h1 h2 => by
    unfold plnR
    rw [if_neg (by rw [hE]; simp), if_neg (by simp only; omega), if_neg (by simp only; omega)]
    simp only
    rw [h1, if_neg (by omega)]
  by_cases h0 : 0 ≤ exp
  · refine ⟨l ++ zerosL exp.toNat, false, [], hpl _ ?_ ?_, ⟨?_, ad _ _ hd (zd _), rfl, fun h => (by cases h), fun _ => rfl⟩, ?_, ?_, ?_, ?_, by simp⟩
    · unfold bodyL prtL; rw [if_pos h0]; simp
    · unfold prtL; simp [zerosL]; omega
    · intro h; simp at h; exact absurd h.1 (List.length_pos_iff.1 hpos)
    · unfold prtL; simp [zerosL]; omega
    · simp [zerosL]; omega
    · have := mk_self hok hla 0 exp.toNat 0 (by omega) (by omega) (by omega)
      simpa [zerosL] using this
    · simp; omega
  · obtain ⟨e, rfl⟩ : ∃ e : Nat, exp = -(e : Int) := ⟨exp.natAbs, by omega⟩
    obtain ⟨Z, hZ⟩ : ∃ Z, Z = zerosL (1 + e - l.length) ++ l := ⟨_, rfl⟩
    have hZl : Z.length = (1 + e - l.length) + l.length := by rw [hZ]; simp [zerosL]
    have hZd : digsB Z = true := by rw [hZ]; exact ad _ _ (zd _) hd
    have hAB : Z.take (Z.length - e) ++ Z.drop (Z.length - e) = Z := List.take_append_drop _ _
    have hB : (Z.drop (Z.length - e)).length = e := by rw [List.length_drop]; omega
    have hbod : minusL neg ++ bodyL l (-(e : Int)) = prtL (minusL neg) (Z.take (Z.length - e)) true (Z.drop (Z.length - e)) [] := by
      unfold bodyL prtL
      rw [if_neg h0, show (- -(e : Int)).toNat = e by omega, ← hZ]
      simp
    have hlen : (prtL (minusL neg) (Z.take (Z.length - e)) true (Z.drop (Z.length - e)) []).length = (minusL neg).length + Z.length + 1 := by
      unfold prtL; simp; omega
    refine ⟨Z.take (Z.length - e), true, Z.drop (Z.length - e), hpl _ hbod (by rw [hlen]; omega), ⟨?_, digs_take hZd _, digs_drop hZd _, fun _ => ?_, fun h => (by cases h)⟩, by rw [hlen]; omega, by rw [hAB]; omega, ?_, ?_, by rw [hB]; omega⟩
    · intro h; have := congrArg List.length h; rw [List.length_take] at this; simp at this; omega
    · intro h; rw [h] at hB; simp at hB; omega
    · rw [hAB, hB, hZ]
      have := mk_self hok hla (1 + e - l.length) 0 (-(e : Int)) (by omega) (by omega) (by omega)
      simpa [zerosL] using this
    · rw [hB]; omega
/-- A scientific text, parted. -/
theorem tx_sci (neg : Bool) (l : List UInt8) (exp : Int) (hok : Ok ⟨neg, l, exp⟩) (hE : dcE ⟨neg, l, exp⟩ = 0) (hl : l.length ≤ 3000) (he : -3000 ≤ exp ∧ exp ≤ 3000) :
    ∃ (A : List UInt8) (pt : Bool) (B R : List UInt8), sciR ⟨neg, l, exp⟩ = ⟨prtL (minusL neg) A pt B R, 0⟩ ∧ (A ≠ [] ∧ digsB A = true ∧ digsB B = true ∧ (pt = true → B ≠ []) ∧ (pt = false → B = [])) ∧ (∃ R', R = 101 :: R') ∧ (prtL (minusL neg) A pt B R).length ≤ 100000 ∧ A ++ B = l ∧ (B.length : Int) = l.length - 1 := by
  have hpos : 0 < l.length := hok.pos
  have hd : digsB l = true := hok.digs
  have hmn : (minusL neg).length ≤ 1 := minus_len neg
  have hit : (itoaL (exp + l.length - 1)).length ≤ 6 := by
    unfold itoaL
    rw [List.length_append]
    have h1 := minus_len (decide (exp + l.length - 1 < 0))
    have h2 : (dtext (exp + l.length - 1).natAbs).length ≤ 5 := by
      unfold dtext
      split
      · simp
      · exact digs_len (by omega)
    omega
  have hsc : sciR ⟨neg, l, exp⟩ = ⟨sciL neg l exp, 0⟩ := by
    unfold sciR
    rw [if_neg (by rw [hE]; simp), if_neg (by simp only; omega)]
  have htl : (l.take 1).length = 1 := by rw [List.length_take]; omega
  by_cases h1 : 1 < l.length
  · refine ⟨l.take 1, true, l.drop 1, 101 :: itoaL (exp + l.length - 1), ?_, ⟨?_, digs_take hd _, digs_drop hd _, fun _ => ?_, fun h => (by cases h)⟩, ⟨_, rfl⟩, ?_, List.take_append_drop _ _, ?_⟩
    · rw [hsc]; unfold sciL prtL; rw [if_pos h1]; simp
    · intro h; rw [h] at htl; cases htl
    · intro h; have := congrArg List.length h; simp at this; omega
    · unfold prtL; simp; omega
    · rw [List.length_drop]; omega
  · have hl1 : l.length = 1 := by omega
    have ht : l.take 1 = l := List.take_of_length_le (by omega)
    refine ⟨l, false, [], 101 :: itoaL (exp + l.length - 1), ?_, ⟨?_, hd, rfl, fun h => (by cases h), fun _ => rfl⟩, ⟨_, rfl⟩, ?_, by simp, by simp; omega⟩
    · rw [hsc]; unfold sciL prtL; rw [if_neg h1, ht]; simp
    · intro h; rw [h] at hl1; cases hl1
    · unfold prtL; simp; omega
end Go.Proofs.YtcpodagoheopgaaGreatDoor
end
