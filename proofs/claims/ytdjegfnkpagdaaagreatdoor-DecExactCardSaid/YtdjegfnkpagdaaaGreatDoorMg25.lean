/- Lemmas of this proof, laid together: AlvT, Alv, Prt, TxP, WorP, WorQ, WorN, WorR, NearA, NearP. -/
import Derived.Test.YtdjegfnkpagdaaaGreatDoorMg17
import Derived.Test.YtdjegfnkpagdaaaGreatDoorMg13
import Derived.Test.YtdjegfnkpagdaaaGreatDoorMg11
import Derived.Test.YtdjegfnkpagdaaaGreatDoorMg18
import Derived.Test.YtdjegfnkpagdaaaGreatDoorMg14
import Derived.Test.YtdjegfnkpagdaaaGreatDoorMg15
import Derived.Test.YtdjegfnkpagdaaaGreatDoorMg05
import Derived.Test.YtdjegfnkpagdaaaGreatDoorMg24
import Derived.Deep.DeepCutAuto
import Derived.Deep.RegionWith
import Derived.Deep.LoopGhost
set_option linter.unusedSimpArgs false
set_option linter.unusedVariables false
section
namespace Go.Proofs.YtdjegfnkpagdaaaGreatDoor
theorem av_add : addR ⟨false, [57, 53], -1⟩ ⟨false, [53], -1⟩ = ⟨⟨false, [49], 1⟩, 0⟩ := by kernel_rfl
theorem av_mul : mulR ⟨false, [50, 53], 0⟩ ⟨true, [52], 0⟩ = ⟨⟨true, [49], 2⟩, 0⟩ := by kernel_rfl
theorem av_rnd : rndR ⟨false, [49, 51, 53], 0⟩ 2 0 = ⟨⟨false, [49, 52], 1⟩, false, 0⟩ := by kernel_rfl
theorem av_plc : plcR ⟨true, [49], -9⟩ 3 4 = ⟨⟨true, [49], -3⟩, false, 0⟩ := by kernel_rfl
theorem av_pln : plnR ⟨false, [49, 50, 53], -1⟩ = ⟨[49, 50, 46, 53], 0⟩ := by kernel_rfl
end Go.Proofs.YtdjegfnkpagdaaaGreatDoor
end
section
/- The law's 'alive'. -/
namespace Go.Proofs.YtdjegfnkpagdaaaGreatDoor
open Go.RowKit
attribute [local go_sem] bs_size bs_extract bs_get bs_append bs_toList const_get
attribute [local go_sem] sz2 sz3 sz4 sz5 sz6 sz7 sz8
set_option maxHeartbeats 4000000
set_option maxRecDepth 100000
attribute [local irreducible] Calls
theorem ld_any (b : Bool) (s : ByteArray) (n : Int) (w : World) : Calls Tryz.prog 17 #[.bool b, .string s, .int .i64 n] w fun x w' => x = .returned (.agg #[.bool b, .string s, .int .i64 n]) ∧ Ext w w' := by
  go_enter Tryz.func17, Tryz.ntmps17
  go_wp2
  refine bodyPost_ret (v := _) ?h rfl ⟨rfl, ?_⟩
  case h => simp [results, Tryz.results17, go_sem]
  repeat (first | exact ext_refl _ | assumption | refine ext_setCell ?_ (by simp; try omega) _ | refine ext_alloc ?_ _ | refine ext_drew ?_ | refine ext_drewN ?_ _ | refine ext_trans ?_ (Aft.use _) | refine ext_trans ?_ (by assumption))
theorem lthree_any (b : Bool) (s : ByteArray) (n : Int) (k : Bool) (e : Int) (w : World) : Calls Tryz.prog 18 #[.agg #[.bool b, .string s, .int .i64 n], .bool k, .int .i64 e] w fun x w' => x = .returned (.agg #[.bool b, .string s, .int .i64 n, .bool k, .int .i64 e]) ∧ Ext w w' := by
  go_enter Tryz.func18, Tryz.ntmps18
  go_wp2
  refine bodyPost_ret (v := _) ?h rfl ⟨rfl, ?_⟩
  case h => simp [results, Tryz.results18, go_sem]
  repeat (first | exact ext_refl _ | assumption | refine ext_setCell ?_ (by simp; try omega) _ | refine ext_alloc ?_ _ | refine ext_drew ?_ | refine ext_drewN ?_ _ | refine ext_trans ?_ (Aft.use _) | refine ext_trans ?_ (by assumption))
theorem ltwo_any (b : Bool) (s : ByteArray) (n : Int) (e : Int) (w : World) : Calls Tryz.prog 16 #[.agg #[.bool b, .string s, .int .i64 n], .int .i64 e] w fun x w' => x = .returned (.agg #[.bool b, .string s, .int .i64 n, .bool false, .int .i64 e]) ∧ Ext w w' := by
  go_enter Tryz.func16, Tryz.ntmps16
  go_wp2
  refine bodyPost_ret (v := _) ?h rfl ⟨rfl, ?_⟩
  case h => simp [results, Tryz.results16, go_sem]
  repeat (first | exact ext_refl _ | assumption | refine ext_setCell ?_ (by simp; try omega) _ | refine ext_alloc ?_ _ | refine ext_drew ?_ | refine ext_drewN ?_ _ | refine ext_trans ?_ (Aft.use _) | refine ext_trans ?_ (by assumption))
theorem alive_any (w : World) (hT : Tz w) : Calls Tryz.prog 5 #[] w fun x w' => x = .returned (.bool true) ∧ Ext w w' := by
  have HT := Lib.hid hT
  clear hT
  have k1 : ∀ w, Calls Tryz.prog 10 #[.agg #[.bool false, .string { data := #[57, 53] }, .int .i64 (-1)], .agg #[.bool false, .string { data := #[53] }, .int .i64 (-1)]] w fun x w' => x = .returned (.tuple #[.agg #[.bool false, .string { data := #[49] }, .int .i64 1], .int .i64 0]) ∧ Ext w w' := fun w => by
    have := dadd_any ⟨false, [57, 53], -1⟩ ⟨false, [53], -1⟩ (by decide) (by decide) w; rw [av_add] at this; exact this
  have k2 : ∀ w, Calls Tryz.prog 11 #[.agg #[.bool false, .string { data := #[50, 53] }, .int .i64 0], .agg #[.bool true, .string { data := #[52] }, .int .i64 0]] w fun x w' => x = .returned (.tuple #[.agg #[.bool true, .string { data := #[49] }, .int .i64 2], .int .i64 0]) ∧ Ext w w' := fun w => by
    have := mul_any ⟨false, [50, 53], 0⟩ ⟨true, [52], 0⟩ (by decide) (by decide) w; rw [av_mul] at this; exact this
  have k3 : ∀ w, Calls Tryz.prog 19 #[.agg #[.bool false, .string { data := #[49, 51, 53] }, .int .i64 0], .int .i64 2, .int .u8 0] w fun x w' => x = .returned (.tuple #[.agg #[.bool false, .string { data := #[49, 52] }, .int .i64 1], .bool false, .int .i64 0]) ∧ Ext w w' := fun w => by
    have := round_any ⟨false, [49, 51, 53], 0⟩ 2 0 (by decide) (by decide) (by decide) w; rw [av_rnd] at this; exact this
  have k4 : ∀ w, Calls Tryz.prog 20 #[.agg #[.bool true, .string { data := #[49] }, .int .i64 (-9)], .int .i64 3, .int .u8 4] w fun x w' => x = .returned (.tuple #[.agg #[.bool true, .string { data := #[49] }, .int .i64 (-3)], .bool false, .int .i64 0]) ∧ Ext w w' := fun w => by
    have := places_any ⟨true, [49], -9⟩ 3 4 (by decide) (by decide) (by decide) w; rw [av_plc] at this; exact this
  have k5 : ∀ w, Calls Tryz.prog 21 #[.agg #[.bool false, .string { data := #[49, 50, 53] }, .int .i64 (-1)]] w fun x w' => x = .returned (.tuple #[.string { data := #[49, 50, 46, 53] }, .int .i64 0]) ∧ Ext w w' := fun w => by
    have := plain_any ⟨false, [49, 50, 53], -1⟩ (by decide) (by decide) w; rw [av_pln] at this; exact this
  have k6 : ∀ w, Tz w → Calls Tryz.prog 7 #[.agg #[.bool false, .string { data := #[53] }, .int .i64 (-1)]] w (TPost w 1 2) := fun w hT => by
    have := dratio_neg false [53] 1 (by decide) (by decide) (by decide) (by kernel_rfl) (by decide) w hT
    have e1 : sgn false (dval [53] / Nat.gcd (dval [53]) (10 ^ 1) : Nat) = 1 := by decide
    have e2 : denOf (lowD (dval [53]) (10 ^ 1)) = 2 := by decide
    rw [e1, e2] at this
    exact this
  have hlow : ∀ D m d w, Rd w D m d (lim 2) → Calls Tryz.prog 22 #[natV D m d] w fun x w' => x = .returned (.tuple #[.int .u64 2, .bool true]) ∧ Ext w w' := fun D m d w h => nlow_small 2 (by decide) (by decide) D m d w h
  go_enter Tryz.func5, Tryz.ntmps5
  go_wp2_with (first
    | (go_at_call 17; (with_reducible refine (ld_any _ _ _ _).mono ?_); rintro e w1 ⟨rfl, xb1⟩; obtain ⟨xc1, xf1, xl1, xz1⟩ := ext_use xb1; (try simp at xz1))
    | (go_at_call 16; (with_reducible refine (ltwo_any _ _ _ _ _).mono ?_); rintro e w1 ⟨rfl, xb1⟩; obtain ⟨xc1, xf1, xl1, xz1⟩ := ext_use xb1; (try simp at xz1))
    | (go_at_call 18; (with_reducible refine (lthree_any _ _ _ _ _ _).mono ?_); rintro e w1 ⟨rfl, xb1⟩; obtain ⟨xc1, xf1, xl1, xz1⟩ := ext_use xb1; (try simp at xz1))
    | (go_at_call 10; (with_reducible refine (k1 _).mono ?_); rintro e w1 ⟨rfl, xb1⟩; obtain ⟨xc1, xf1, xl1, xz1⟩ := ext_use xb1; (try simp at xz1))
    | (go_at_call 11; (with_reducible refine (k2 _).mono ?_); rintro e w1 ⟨rfl, xb1⟩; obtain ⟨xc1, xf1, xl1, xz1⟩ := ext_use xb1; (try simp at xz1))
    | (go_at_call 19; (with_reducible refine (k3 _).mono ?_); rintro e w1 ⟨rfl, xb1⟩; obtain ⟨xc1, xf1, xl1, xz1⟩ := ext_use xb1; (try simp at xz1))
    | (go_at_call 20; (with_reducible refine (k4 _).mono ?_); rintro e w1 ⟨rfl, xb1⟩; obtain ⟨xc1, xf1, xl1, xz1⟩ := ext_use xb1; (try simp at xz1))
    | (go_at_call 21; (with_reducible refine (k5 _).mono ?_); rintro e w1 ⟨rfl, xb1⟩; obtain ⟨xc1, xf1, xl1, xz1⟩ := ext_use xb1; (try simp at xz1))
    | (go_at_call 7; (with_reducible refine (k6 _ (HT.out.ext (by (repeat (first | exact ext_refl _ | assumption | refine ext_setCell ?_ (by simp; try omega) _ | refine ext_alloc ?_ _ | refine ext_drew ?_ | refine ext_drewN ?_ _ | refine ext_trans ?_ (Aft.use _) | refine ext_trans ?_ (by assumption)))))).mono ?_); rintro e w2 ⟨C, n, c, D, m, d, rfl, hZ, xb2⟩; obtain ⟨xc2, xf2, xl2, xz2⟩ := ext_use xb2; (try simp at xz2))
    | (go_at_call 22; (with_reducible refine (hlow D m d _ (hZ.out.2.2.1.ext (by (repeat (first | exact ext_refl _ | assumption | refine ext_setCell ?_ (by simp; try omega) _ | refine ext_alloc ?_ _ | refine ext_drew ?_ | refine ext_drewN ?_ _ | refine ext_trans ?_ (Aft.use _) | refine ext_trans ?_ (by assumption)))))).mono ?_); rintro e w3 ⟨rfl, xb3⟩; obtain ⟨xc3, xf3, xl3, xz3⟩ := ext_use xb3; (try simp at xz3))
   )
  refine bodyPost_ret (v := .bool true) ?h rfl ⟨rfl, ?_⟩
  case h => simp [results, Tryz.results5, go_sem]
  repeat (first | exact ext_refl _ | assumption | refine ext_setCell ?_ (by simp; try omega) _ | refine ext_alloc ?_ _ | refine ext_drew ?_ | refine ext_drewN ?_ _ | refine ext_trans ?_ (Aft.use _) | refine ext_trans ?_ (by assumption))
end Go.Proofs.YtdjegfnkpagdaaaGreatDoor
end
section
/- DecTexts: a text parted. -/
namespace Go.Proofs.YtdjegfnkpagdaaaGreatDoor
open Go.RowKit
attribute [local go_sem] bs_size bs_extract bs_get bs_append bs_toList const_get
attribute [local go_sem] sz2 sz3 sz4 sz5 sz6 sz7 sz8
set_option maxHeartbeats 4000000
set_option maxRecDepth 100000
attribute [local irreducible] Calls
/-- The text that is parted. -/
def prtL (M A : List UInt8) (pt : Bool) (B R : List UInt8) : List UInt8 := M ++ (A ++ ((if pt then 46 :: B else []) ++ R))
def prtO (A B : List UInt8) (k : Nat) : List UInt8 := A.take k ++ B.take (k - A.length - 1)
theorem prt_char {M A : List UInt8} {pt : Bool} {B R : List UInt8} {i : Nat} (h : i < (prtL M A pt B R).length) :
    (∀ hi : i < M.length, (prtL M A pt B R)[i] = M[i]) ∧ (∀ k (hk : k < A.length), i = M.length + k → (prtL M A pt B R)[i] = A[k]) ∧
    (pt = true → i = M.length + A.length → (prtL M A pt B R)[i] = 46) ∧ (pt = true → ∀ k (hk : k < B.length), i = M.length + A.length + 1 + k → (prtL M A pt B R)[i] = B[k]) ∧
    (∀ R', R = 101 :: R' → i = M.length + A.length + (if pt then 1 + B.length else 0) → (prtL M A pt B R)[i] = 101) := by
  refine ⟨fun hi => ?_, fun k hk e => ?_, fun hp e => ?_, fun hp k hk e => ?_, fun R' hR e => ?_⟩
  · simp only [prtL]; rw [List.getElem_append_left hi]
  · subst e; simp only [prtL]; rw [List.getElem_append_right (by omega)]; simp only [Nat.add_sub_cancel_left]; rw [List.getElem_append_left hk]
  · subst e; subst hp; simp only [prtL]; rw [List.getElem_append_right (by omega)]; simp only [Nat.add_sub_cancel_left]; rw [List.getElem_append_right (by omega)]; simp
  · subst e; subst hp; simp only [prtL]; rw [List.getElem_append_right (by omega), List.getElem_append_right (by omega)]
    simp only [show M.length + A.length + 1 + k - M.length - A.length = k + 1 by omega, if_true, List.cons_append, List.getElem_cons_succ]
    rw [List.getElem_append_left hk]
  · subst e hR; simp only [prtL]; rw [List.getElem_append_right (by omega), List.getElem_append_right (by omega), List.getElem_append_right (by split <;> simp <;> omega)]
    cases pt
    · simp
    · simp [show M.length + A.length + (1 + B.length) - M.length - A.length - (B.length + 1) = 0 by omega]
theorem one_piece (S : List UInt8) (i : Nat) (h : i < S.length) : (S.take (i + 1)).drop i = [S[i]] := by
  rw [List.take_succ_eq_append_getElem h, List.drop_append_of_le_length (by rw [List.length_take]; omega), List.drop_of_length_le (by rw [List.length_take]; omega)]; rfl
end Go.Proofs.YtdjegfnkpagdaaaGreatDoor
end
section
/- DecTexts: the plain part. -/
namespace Go.Proofs.YtdjegfnkpagdaaaGreatDoor
set_option maxRecDepth 100000
theorem mk_self {neg : Bool} {l : List UInt8} {exp : Int} (hok : Ok ⟨neg, l, exp⟩) (hlast : ∀ x, l.getLast? = some x → x ≠ 48) (a b : Nat) (e : Int) (he : e + b = exp) (hab : a + l.length + b ≤ 65536) (hr : -2147483648 ≤ e ∧ e ≤ 1073741824) :
    mkD neg (zerosL a ++ l ++ zerosL b) e = ⟨neg, l, exp⟩ ∧ mkE (zerosL a ++ l ++ zerosL b) e = 0 := by
  obtain ⟨hl, hpos, hd, hld, he1, he2⟩ := hok
  simp only at hl hpos hd hld he1 he2
  have hlen : (zerosL a ++ l ++ zerosL b).length = a + l.length + b := by simp [zerosL]; omega
  have hz : ∀ i (h : i < (zerosL a ++ l ++ zerosL b).length), i < a → (zerosL a ++ l ++ zerosL b)[i] = 48 := fun i h hi => by
    rw [List.getElem_append_left (by simp [zerosL]; omega), List.getElem_append_left (by simp [zerosL]; omega)]; simp [zerosL]
  have hy : ∀ i (h : i < (zerosL a ++ l ++ zerosL b).length), a + l.length ≤ i → (zerosL a ++ l ++ zerosL b)[i] = 48 := fun i h hi => by
    rw [List.getElem_append_right (by simp [zerosL]; omega)]; simp [zerosL]
  have hm : ∀ k (hk : k < l.length) i (h : i < (zerosL a ++ l ++ zerosL b).length), i = a + k → (zerosL a ++ l ++ zerosL b)[i] = l[k] := fun k hk i h e => by
    subst e
    rw [List.getElem_append_left (by simp [zerosL]; omega), List.getElem_append_right (by simp [zerosL])]
    simp [zerosL]
  have h1 := mk_between (zerosL a ++ l ++ zerosL b) a (a + l.length) (by omega) (by omega) hz hy
    (by rw [hm 0 hpos a (by omega) (by omega)]; exact hld _ (by rw [List.head?_eq_getElem?, List.getElem?_eq_getElem hpos]))
    (by rw [hm (l.length - 1) (by omega) _ (by omega) (by omega)]; exact hlast _ (by rw [List.getLast?_eq_getElem?, List.getElem?_eq_getElem (by omega)]))
  have h2 : ((zerosL a ++ l ++ zerosL b).take (a + l.length)).drop a = l := by
    rw [List.take_left' (by simp [zerosL]), List.drop_left' (by simp [zerosL])]
  rw [h2, hlen] at h1
  have hdg : digsB (zerosL a ++ l ++ zerosL b) = true := by
    unfold digsB at *
    have z : ∀ k, (zerosL k).all isD = true := fun k => digs_noughts k
    rw [List.all_append, List.all_append, z, z, hd]; rfl
  have hne : l ≠ [] := List.length_pos_iff.1 hpos
  have hE : mkE (zerosL a ++ l ++ zerosL b) e = 0 := by
    unfold mkE
    rw [if_neg (by omega), if_neg (by rw [hdg]; simp), h1.1, if_neg hne, h1.2, if_neg]
    rintro (h3 | h3 | h3)
    · omega
    · omega
    · have : far (e + ((a + l.length + b : Nat) - (a + l.length : Nat) : Int)) = far exp := by congr 1; omega
      rw [show (e + (((a + l.length + b : Nat) : Int) - ((a + l.length : Nat) : Int))) = exp by omega] at h3
      unfold far at h3; simp at h3; omega
  refine ⟨?_, hE⟩
  unfold mkD
  rw [if_pos hE, h1.1, if_neg hne, h1.2]
  congr 1; omega
theorem dc_lastq {d : Dc} (h : dcE d = 0) (h0 : 0 < d.dig.length) : ∀ x, d.dig.getLast? = some x → x ≠ 48 := by
  unfold dcE at h
  split at h
  · cases h
  · rw [if_neg (by omega)] at h
    split at h
    · cases h
    · split at h
      · cases h
      · rename_i h3
        exact fun x hx e => h3 (.inr (.inl (by rw [hx, e])))
/-- A plain text, parted. -/
theorem tx_plain (neg : Bool) (l : List UInt8) (exp : Int) (hok : Ok ⟨neg, l, exp⟩) (hE : dcE ⟨neg, l, exp⟩ = 0) (hl : l.length ≤ 3000) (he : -3000 ≤ exp ∧ exp ≤ 3000) :
    ∃ (A : List UInt8) (pt : Bool) (B : List UInt8), plnR ⟨neg, l, exp⟩ = ⟨prtL (minusL neg) A pt B [], 0⟩ ∧ (A ≠ [] ∧ digsB A = true ∧ digsB B = true ∧ (pt = true → B ≠ []) ∧ (pt = false → B = [])) ∧ (prtL (minusL neg) A pt B []).length ≤ 100000 ∧ (A ++ B).length ≤ 9000 ∧
      (mkD neg (A ++ B) (-(B.length : Int)) = ⟨neg, l, exp⟩ ∧ mkE (A ++ B) (-(B.length : Int)) = 0) ∧ (0 < B.length ↔ exp < 0) ∧ B.length ≤ 3000 := by
  have hla := dc_lastq hE hok.pos
  have hpos : 0 < l.length := hok.pos
  have hd : digsB l = true := hok.digs
  have zd : ∀ k, digsB (zerosL k) = true := fun k => digs_noughts k
  have ad : ∀ a b, digsB a = true → digsB b = true → digsB (a ++ b) = true := fun a b h1 h2 => by unfold digsB at *; rw [List.all_append, h1, h2]; rfl
  have hmn : (minusL neg).length ≤ 1 := minus_len neg
  have hpl : ∀ S, minusL neg ++ bodyL l exp = S → S.length ≤ 65536 → plnR ⟨neg, l, exp⟩ = ⟨S, 0⟩ := fun S h1 h2 => by
    unfold plnR
    rw [if_neg (by rw [hE]; simp), if_neg (by simp only; omega), if_neg (by simp only; omega)]
    simp only
    rw [h1, if_neg (by omega)]
  by_cases h0 : 0 ≤ exp
  · refine ⟨l ++ zerosL exp.toNat, false, [], hpl _ ?_ ?_, ⟨?_, ad _ _ hd (zd _), rfl, fun h => (by cases h), fun _ => rfl⟩, ?_, ?_, ?_, ?_, by simp⟩
    · unfold bodyL prtL; rw [if_pos h0]; simp
    · unfold prtL; simp [zerosL]; omega
    · intro h; simp at h; exact absurd h.1 (List.length_pos_iff.1 hpos)
    · unfold prtL; simp [zerosL]; omega
    · simp [zerosL]; omega
    · have := mk_self hok hla 0 exp.toNat 0 (by omega) (by omega) (by omega)
      simpa [zerosL] using this
    · simp; omega
  · obtain ⟨e, rfl⟩ : ∃ e : Nat, exp = -(e : Int) := ⟨exp.natAbs, by omega⟩
    obtain ⟨Z, hZ⟩ : ∃ Z, Z = zerosL (1 + e - l.length) ++ l := ⟨_, rfl⟩
    have hZl : Z.length = (1 + e - l.length) + l.length := by rw [hZ]; simp [zerosL]
    have hZd : digsB Z = true := by rw [hZ]; exact ad _ _ (zd _) hd
    have hAB : Z.take (Z.length - e) ++ Z.drop (Z.length - e) = Z := List.take_append_drop _ _
    have hB : (Z.drop (Z.length - e)).length = e := by rw [List.length_drop]; omega
    have hbod : minusL neg ++ bodyL l (-(e : Int)) = prtL (minusL neg) (Z.take (Z.length - e)) true (Z.drop (Z.length - e)) [] := by
      unfold bodyL prtL
      rw [if_neg h0, show (- -(e : Int)).toNat = e by omega, ← hZ]
      simp
    have hlen : (prtL (minusL neg) (Z.take (Z.length - e)) true (Z.drop (Z.length - e)) []).length = (minusL neg).length + Z.length + 1 := by
      unfold prtL; simp; omega
    refine ⟨Z.take (Z.length - e), true, Z.drop (Z.length - e), hpl _ hbod (by rw [hlen]; omega), ⟨?_, digs_take hZd _, digs_drop hZd _, fun _ => ?_, fun h => (by cases h)⟩, by rw [hlen]; omega, by rw [hAB]; omega, ?_, ?_, by rw [hB]; omega⟩
    · intro h; have := congrArg List.length h; rw [List.length_take] at this; simp at this; omega
    · intro h; rw [h] at hB; simp at hB; omega
    · rw [hAB, hB, hZ]
      have := mk_self hok hla (1 + e - l.length) 0 (-(e : Int)) (by omega) (by omega) (by omega)
      simpa [zerosL] using this
    · rw [hB]; omega
/-- A scientific text, parted. -/
theorem tx_sci (neg : Bool) (l : List UInt8) (exp : Int) (hok : Ok ⟨neg, l, exp⟩) (hE : dcE ⟨neg, l, exp⟩ = 0) (hl : l.length ≤ 3000) (he : -3000 ≤ exp ∧ exp ≤ 3000) :
    ∃ (A : List UInt8) (pt : Bool) (B R : List UInt8), sciR ⟨neg, l, exp⟩ = ⟨prtL (minusL neg) A pt B R, 0⟩ ∧ (A ≠ [] ∧ digsB A = true ∧ digsB B = true ∧ (pt = true → B ≠ []) ∧ (pt = false → B = [])) ∧ (∃ R', R = 101 :: R') ∧ (prtL (minusL neg) A pt B R).length ≤ 100000 ∧ A ++ B = l ∧ (B.length : Int) = l.length - 1 := by
  have hpos : 0 < l.length := hok.pos
  have hd : digsB l = true := hok.digs
  have hmn : (minusL neg).length ≤ 1 := minus_len neg
  have hit : (itoaL (exp + l.length - 1)).length ≤ 6 := by
    unfold itoaL
    rw [List.length_append]
    have h1 := minus_len (decide (exp + l.length - 1 < 0))
    have h2 : (dtext (exp + l.length - 1).natAbs).length ≤ 5 := by
      unfold dtext
      split
      · simp
      · exact digs_len (by omega)
    omega
  have hsc : sciR ⟨neg, l, exp⟩ = ⟨sciL neg l exp, 0⟩ := by
    unfold sciR
    rw [if_neg (by rw [hE]; simp), if_neg (by simp only; omega)]
  have htl : (l.take 1).length = 1 := by rw [List.length_take]; omega
  by_cases h1 : 1 < l.length
  · refine ⟨l.take 1, true, l.drop 1, 101 :: itoaL (exp + l.length - 1), ?_, ⟨?_, digs_take hd _, digs_drop hd _, fun _ => ?_, fun h => (by cases h)⟩, ⟨_, rfl⟩, ?_, List.take_append_drop _ _, ?_⟩
    · rw [hsc]; unfold sciL prtL; rw [if_pos h1]; simp
    · intro h; rw [h] at htl; cases htl
    · intro h; have := congrArg List.length h; simp at this; omega
    · unfold prtL; simp; omega
    · rw [List.length_drop]; omega
  · have hl1 : l.length = 1 := by omega
    have ht : l.take 1 = l := List.take_of_length_le (by omega)
    refine ⟨l, false, [], 101 :: itoaL (exp + l.length - 1), ?_, ⟨?_, hd, rfl, fun h => (by cases h), fun _ => rfl⟩, ⟨_, rfl⟩, ?_, by simp, by simp; omega⟩
    · rw [hsc]; unfold sciL prtL; rw [if_neg h1, ht]; simp
    · intro h; rw [h] at hl1; cases hl1
    · unfold prtL; simp; omega
end Go.Proofs.YtdjegfnkpagdaaaGreatDoor
end
section
/- What decimals are worth: the plain part. -/
namespace Go.Proofs.YtdjegfnkpagdaaaGreatDoor
set_option maxRecDepth 100000
theorem trimL_spec (c : UInt8) : ∀ l : List UInt8, ∃ a, l = List.replicate a c ++ trimL c l ∧ ∀ x, (trimL c l).head? = some x → x ≠ c
  | [] => ⟨0, rfl, fun x hx => by simp [trimL] at hx⟩
  | y :: l => by
    by_cases h : y = c
    · subst h
      obtain ⟨a, h1, h2⟩ := trimL_spec y l
      have e : trimL y (y :: l) = trimL y l := by simp [trimL]
      rw [e]
      exact ⟨a + 1, by rw [List.replicate_succ, List.cons_append, ← h1], h2⟩
    · have e : trimL c (y :: l) = y :: l := by simp [trimL, h]
      rw [e]
      exact ⟨0, rfl, fun x hx => by simp at hx; subst hx; exact h⟩
theorem trimR_spec (c : UInt8) (l : List UInt8) : ∃ b, l = trimR c l ++ List.replicate b c ∧ ∀ x, (trimR c l).getLast? = some x → x ≠ c := by
  obtain ⟨b, h1, h2⟩ := trimL_spec c l.reverse
  refine ⟨b, ?_, fun x hx => h2 x ?_⟩
  · have := congrArg List.reverse h1
    rw [List.reverse_reverse, List.reverse_append, List.reverse_replicate] at this
    exact this
  · unfold trimR at hx
    rwa [List.getLast?_reverse] at hx
theorem mk_spec (l : List UInt8) : ∃ a b, l = zerosL a ++ (mkDig l ++ zerosL b) ∧ mkN l = (b : Int) ∧ (∀ x, (mkDig l).head? = some x → x ≠ 48) ∧ (∀ x, (mkDig l).getLast? = some x → x ≠ 48) := by
  obtain ⟨b, h1, h2⟩ := trimR_spec 48 l
  obtain ⟨a, h3, h4⟩ := trimL_spec 48 (trimR 48 l)
  refine ⟨a, b, ?_, ?_, h4, fun x hx => h2 x ?_⟩
  · conv => lhs; rw [h1, h3]
    rw [List.append_assoc]; rfl
  · unfold mkN
    have := congrArg List.length h1
    rw [List.length_append, List.length_replicate] at this
    omega
  · change (trimL 48 (trimR 48 l)).getLast? = some x at hx
    rw [h3, List.getLast?_append, hx]; rfl
theorem dval_pos_last {l : List UInt8} (hd : digsB l = true) (hl : ∀ x, l.getLast? = some x → x ≠ 48) (hne : l ≠ []) : 0 < dval l := by
  obtain ⟨t, x, rfl⟩ : ∃ t x, l = t ++ [x] := ⟨l.dropLast, l.getLast hne, (List.dropLast_concat_getLast hne).symm⟩
  have h1 : x ≠ 48 := hl x (by simp)
  have h2 : isD x = true := by unfold digsB at hd; simp at hd; exact hd.2
  have h3 := isD_yes x h2
  have h4 : x.toNat ≠ 48 := fun e => h1 (UInt8.toNat_inj.1 e)
  rw [dval_snoc]; omega
theorem mk_val (l : List UInt8) : ∃ b : Nat, mkN l = b ∧ dval l = dval (mkDig l) * 10 ^ b := by
  obtain ⟨a, b, h1, h2, -, -⟩ := mk_spec l
  refine ⟨b, h2, ?_⟩
  conv => lhs; rw [h1]
  have hz : ∀ k, dval (zerosL k) = 0 := dval_noughts
  rw [dval_append, dval_append, hz, hz]; simp [zerosL]
/-- How much a decimal's digits are worth in units of ten to the power of F. -/
def mag (d : Dc) (F : Int) : Nat := dval d.dig * 10 ^ (d.exp - F).toNat
def wv (d : Dc) (F : Int) : Int := sgn d.neg (mag d F)
theorem mag_nil {d : Dc} (h : d.dig = []) (F : Int) : mag d F = 0 := by unfold mag; rw [h]; simp [dval]
theorem mag_step (d : Dc) {F G : Int} (hG : G ≤ F) (hF : F ≤ d.exp) : mag d G = mag d F * 10 ^ (F - G).toNat := by
  unfold mag
  rw [Nat.mul_assoc, ← Nat.pow_add]
  congr 2; omega
theorem dc_digs {d : Dc} (h : dcE d = 0) : digsB d.dig = true := by
  by_cases h0 : 0 < d.dig.length
  · exact (dc_ok h h0).digs
  · rw [List.eq_nil_of_length_eq_zero (by omega : d.dig.length = 0)]; rfl
theorem dc_nil {d : Dc} (h : dcE d = 0) (h0 : d.dig = []) : d.exp = 0 := by
  unfold dcE at h
  rw [h0] at h
  simp at h
  exact h
theorem mag_pos {d : Dc} (h : dcE d = 0) (h0 : d.dig ≠ []) (F : Int) : 0 < mag d F := by
  have h1 := dval_pos_last (dc_digs h) (dc_lastq h (List.length_pos_iff.2 h0)) h0
  exact Nat.mul_pos h1 (Nat.pow_pos (by decide))
theorem far_of {n : Int} (h : ¬ far n = true) : -1073741824 ≤ n ∧ n ≤ 1073741824 := far_false (by simpa using h)
/-- What was made may be, and is worth as much. -/
theorem mk_wv {neg : Bool} {l : List UInt8} {E : Int} (hd : digsB l = true) (h : mkE l E = 0) : dcE (mkD neg l E) = 0 ∧ (mkD neg l E).neg = neg ∧ (∀ F, F ≤ E → mag (mkD neg l E) F = dval l * 10 ^ (E - F).toNat) ∧ ((mkD neg l E).dig ≠ [] → E ≤ (mkD neg l E).exp) := by
  obtain ⟨b, hb, hv⟩ := mk_val l
  obtain ⟨a, b', h1, h2, h3, h4⟩ := mk_spec l
  obtain rfl : b' = b := by have := h2.symm.trans hb; omega
  have hdd : digsB (mkDig l) = true := by
    rw [h1] at hd
    unfold digsB at hd ⊢
    rw [List.all_append, List.all_append] at hd
    simp at hd ⊢
    exact hd.2.1
  unfold mkD
  rw [if_pos h]
  by_cases h0 : mkDig l = []
  · rw [if_pos h0]
    refine ⟨by unfold dcE; simp, rfl, fun F hF => ?_, fun h => absurd rfl h⟩
    rw [hv, h0, mag_nil rfl]; simp [dval]
  · rw [if_neg h0]
    have hpos : 0 < (mkDig l).length := List.length_pos_iff.2 h0
    have hlen : (mkDig l).length ≤ l.length := by have := congrArg List.length h1; simp at this; omega
    unfold mkE at h
    split at h
    · cases h
    · split at h
      · cases h
      · split at h
        · cases h
        · rename_i g1 g2 g3
          have g4 : ¬ far (E + mkN l) = true := fun e => g3 (.inr (.inr e))
          refine ⟨?_, rfl, fun F hF => ?_, fun _ => by simp only; omega⟩
          · unfold dcE
            rw [if_neg (by simp only; omega), if_neg (by simp only; omega), if_neg (by simp only; rw [hdd]; simp), if_neg]
            rintro (e | e | e)
            · exact h3 _ e rfl
            · exact h4 _ e rfl
            · exact g4 e
          · unfold mag
            simp only
            rw [hv, Nat.mul_assoc, ← Nat.pow_add]
            congr 2; omega
theorem up_val (l : List UInt8) (n : Nat) : upV l n = dval l * 10 ^ n := by
  unfold upV
  have hz : dval (zerosL n) = 0 := dval_noughts n
  rw [dval_append, hz]; simp [zerosL]
theorem sgn_mul (s : Bool) (v k : Nat) : sgn s (v * k) = sgn s v * (k : Int) := by
  cases s <;> simp [sgn, Int.neg_mul]
theorem sum_sgn (s t : Bool) (x y : Nat) : sgn (sumNeg s t x y) (sumAbs s t x y) = sgn s x + sgn t y := by
  unfold sumNeg sumAbs
  by_cases h : s = t
  · subst h; rw [if_pos rfl, if_pos rfl]; cases s <;> simp [sgn] <;> omega
  · rw [if_neg h, if_neg h]
    by_cases h1 : x < y
    · rw [if_pos h1, if_pos h1]; cases s <;> cases t <;> simp [sgn] at h ⊢ <;> omega
    · rw [if_neg h1, if_neg h1]
      by_cases h2 : y < x
      · rw [if_pos h2]; cases s <;> cases t <;> simp [sgn] at h ⊢ <;> omega
      · rw [if_neg h2]; cases s <;> cases t <;> simp [sgn] at h ⊢ <;> omega
theorem dtext_val (v : Nat) : dval (dtext v) = v ∧ digsB (dtext v) = true := by
  unfold dtext
  split
  · rename_i h; subst h; exact ⟨by decide, by decide⟩
  · exact ⟨dval_digs v, digs_digs v⟩
theorem wv_add {a b : Dc} (ha : dcE a = 0) (hb : dcE b = 0) (h : (addR a b).e = 0) :
    dcE (addR a b).d = 0 ∧ (∀ F, F ≤ a.exp → F ≤ b.exp → wv (addR a b).d F = wv a F + wv b F) := by
  have hc : chkD a b = 0 := by unfold chkD; rw [if_pos ha, hb]
  have wn : ∀ {d : Dc}, d.dig = [] → ∀ F, wv d F = 0 := fun {d} h F => by unfold wv; rw [mag_nil h]; cases d.neg <;> rfl
  unfold addR at h ⊢
  rw [if_neg (by rw [hc]; simp)] at h ⊢
  by_cases h1 : a.dig = [] ∧ b.dig = []
  · rw [if_pos h1]
    refine ⟨by unfold dcE; simp, fun F _ _ => ?_⟩
    rw [wn h1.1, wn h1.2, wn rfl]; rfl
  · rw [if_neg h1] at h ⊢
    by_cases h2 : a.dig = []
    · rw [if_pos h2]; exact ⟨hb, fun F _ _ => by rw [wn h2, Int.zero_add]⟩
    · rw [if_neg h2] at h ⊢
      by_cases h3 : b.dig = []
      · rw [if_pos h3]; exact ⟨ha, fun F _ _ => by rw [wn h3, Int.add_zero]⟩
      · rw [if_neg h3] at h ⊢
        by_cases h4 : 65536 < (a.dig.length : Int) + a.exp - min a.exp b.exp ∨ 65536 < (b.dig.length : Int) + b.exp - min a.exp b.exp
        · rw [if_pos h4] at h; cases h
        · rw [if_neg h4] at h ⊢
          simp only at h ⊢
          obtain ⟨e, he⟩ : ∃ e, e = min a.exp b.exp := ⟨_, rfl⟩
          rw [← he] at h ⊢
          have hx : upV a.dig (a.exp - e).toNat = mag a e := up_val _ _
          have hy : upV b.dig (b.exp - e).toNat = mag b e := up_val _ _
          rw [hx, hy] at h ⊢
          obtain ⟨v1, v2⟩ := dtext_val (sumAbs a.neg b.neg (mag a e) (mag b e))
          obtain ⟨m1, m2, m3, -⟩ := mk_wv (neg := sumNeg a.neg b.neg (mag a e) (mag b e)) v2 h
          refine ⟨m1, fun F f1 f2 => ?_⟩
          have hF : F ≤ e := by omega
          unfold wv
          rw [m2, m3 F hF, v1, sgn_mul, sum_sgn, mag_step a hF (by omega), mag_step b hF (by omega), sgn_mul, sgn_mul, Int.add_mul]
theorem dval_head {x : UInt8} {l : List UInt8} (h : digsB (x :: l) = true) : digsB l = true ∧ 48 ≤ x.toNat ∧ x.toNat ≤ 57 := by
  unfold digsB at h
  simp only [List.all_cons, Bool.and_eq_true] at h
  exact ⟨h.2, isD_yes x h.1⟩
/-- Digits compared byte by byte are compared as numbers, with noughts behind. -/
theorem cmpB_val : ∀ (l r : List UInt8) (n : Nat), l.length ≤ n → r.length ≤ n → digsB l = true → digsB r = true → (∀ x, l.getLast? = some x → x ≠ 48) → (∀ x, r.getLast? = some x → x ≠ 48) →
    Lib.compareBytes l r = ((dval l * 10 ^ (n - l.length) : Nat) - (dval r * 10 ^ (n - r.length) : Nat) : Int).sign
  | [], [], n, _, _, _, _, _, _ => by simp [Lib.compareBytes, dval]
  | [], y :: r, n, _, _, _, hr, _, lr => by
    have h1 := dval_pos_last hr lr (by simp)
    have h2 : 0 < dval (y :: r) * 10 ^ (n - (y :: r).length) := Nat.mul_pos h1 (Nat.pow_pos (by decide))
    have e : dval [] * 10 ^ (n - ([] : List UInt8).length) = 0 := by simp [dval]
    rw [e]
    show (-1 : Int) = _
    rw [Int.sign_eq_neg_one_of_neg (by omega)]
  | x :: l, [], n, _, _, hl, _, ll, _ => by
    have h1 := dval_pos_last hl ll (by simp)
    have h2 : 0 < dval (x :: l) * 10 ^ (n - (x :: l).length) := Nat.mul_pos h1 (Nat.pow_pos (by decide))
    have e : dval [] * 10 ^ (n - ([] : List UInt8).length) = 0 := by simp [dval]
    rw [e]
    show (1 : Int) = _
    rw [Int.sign_eq_one_of_pos (by omega)]
  | x :: l, y :: r, n, hnl, hnr, hl, hr, ll, lr => by
    obtain ⟨h1, h2, h3⟩ := dval_head hl
    obtain ⟨h4, h5, h6⟩ := dval_head hr
    simp only [List.length_cons] at hnl hnr
    obtain ⟨m, rfl⟩ : ∃ m, n = m + 1 := ⟨n - 1, by omega⟩
    have el : dval (x :: l) * 10 ^ (m + 1 - (x :: l).length) = (x.toNat - 48) * 10 ^ m + dval l * 10 ^ (m - l.length) := by
      rw [dval_cons, Nat.add_mul, Nat.mul_assoc, ← Nat.pow_add, List.length_cons]
      congr 3 <;> omega
    have er : dval (y :: r) * 10 ^ (m + 1 - (y :: r).length) = (y.toNat - 48) * 10 ^ m + dval r * 10 ^ (m - r.length) := by
      rw [dval_cons, Nat.add_mul, Nat.mul_assoc, ← Nat.pow_add, List.length_cons]
      congr 3 <;> omega
    have bl : dval l * 10 ^ (m - l.length) < 10 ^ m := by
      have h := Nat.mul_lt_mul_of_pos_right (dval_lt l h1) (Nat.pow_pos (n := m - l.length) (show 0 < 10 by decide))
      rwa [← Nat.pow_add, show l.length + (m - l.length) = m by omega] at h
    have br : dval r * 10 ^ (m - r.length) < 10 ^ m := by
      have h := Nat.mul_lt_mul_of_pos_right (dval_lt r h4) (Nat.pow_pos (n := m - r.length) (show 0 < 10 by decide))
      rwa [← Nat.pow_add, show r.length + (m - r.length) = m by omega] at h
    rw [el, er]
    unfold Lib.compareBytes
    by_cases c1 : x < y
    · rw [if_pos c1]
      have c2 : x.toNat < y.toNat := c1
      have c3 : (x.toNat - 48) * 10 ^ m + 10 ^ m ≤ (y.toNat - 48) * 10 ^ m := by
        rw [← Nat.succ_mul]; exact Nat.mul_le_mul_right _ (by omega)
      rw [Int.sign_eq_neg_one_of_neg (by omega)]
    · rw [if_neg c1]
      by_cases c2 : y < x
      · rw [if_pos c2]
        have c4 : y.toNat < x.toNat := c2
        have c3 : (y.toNat - 48) * 10 ^ m + 10 ^ m ≤ (x.toNat - 48) * 10 ^ m := by
          rw [← Nat.succ_mul]; exact Nat.mul_le_mul_right _ (by omega)
        rw [Int.sign_eq_one_of_pos (by omega)]
      · rw [if_neg c2]
        have c3 : x = y := by
          have g1 : ¬ x.toNat < y.toNat := c1
          have g2 : ¬ y.toNat < x.toNat := c2
          exact UInt8.toNat_inj.1 (by omega)
        subst c3
        have lst : ∀ t : List UInt8, (∀ z, (x :: t).getLast? = some z → z ≠ 48) → ∀ z, t.getLast? = some z → z ≠ 48 := fun t h z hz => h z (by
          cases t with
          | nil => cases hz
          | cons a t => simpa using hz)
        rw [cmpB_val l r m (by omega) (by omega) h1 h4 (lst l ll) (lst r lr)]
        congr 1; omega
theorem mag_top {d : Dc} (h : dcE d = 0) (h0 : d.dig ≠ []) {F : Int} (hF : F ≤ d.exp) : 10 ^ (d.exp + d.dig.length - 1 - F).toNat ≤ mag d F ∧ mag d F < 10 ^ (d.exp + d.dig.length - F).toNat := by
  have hok := dc_ok h (List.length_pos_iff.2 h0)
  have hlt := dval_lt d.dig hok.digs
  have hpos := List.length_pos_iff.2 h0
  constructor
  · have h1 : 10 ^ (d.dig.length - 1) ≤ dval d.dig := by
      have hld := hok.lead
      have hdg := hok.digs
      revert hld hdg hpos
      cases d.dig with
      | nil => intro h; cases h
      | cons x l =>
        intro _ hld hdg
        obtain ⟨-, g2, -⟩ := dval_head hdg
        have g3 : x ≠ 48 := hld x rfl
        have g4 : x.toNat ≠ 48 := fun e => g3 (UInt8.toNat_inj.1 e)
        rw [dval_cons]
        have := Nat.mul_le_mul_right (10 ^ l.length) (show 1 ≤ x.toNat - 48 by omega)
        simp; omega
    unfold mag
    have h2 := Nat.mul_le_mul_right (10 ^ (d.exp - F).toNat) h1
    rw [← Nat.pow_add] at h2
    rwa [show d.dig.length - 1 + (d.exp - F).toNat = (d.exp + d.dig.length - 1 - F).toNat by omega] at h2
  · unfold mag
    have h2 := Nat.mul_lt_mul_of_pos_right hlt (Nat.pow_pos (n := (d.exp - F).toNat) (show 0 < 10 by decide))
    rw [← Nat.pow_add] at h2
    rwa [show d.dig.length + (d.exp - F).toNat = (d.exp + d.dig.length - F).toNat by omega] at h2
theorem big_mag {a b : Dc} (ha : dcE a = 0) (hb : dcE b = 0) (ha0 : a.dig ≠ []) (hb0 : b.dig ≠ []) {F : Int} (hF : F ≤ a.exp) (hG : F ≤ b.exp) : bigD a b = ((mag a F : Int) - mag b F).sign := by
  obtain ⟨a1, a2⟩ := mag_top ha ha0 hF
  obtain ⟨b1, b2⟩ := mag_top hb hb0 hG
  have la := List.length_pos_iff.2 ha0
  have lb := List.length_pos_iff.2 hb0
  unfold bigD
  by_cases h1 : a.exp + a.dig.length < b.exp + b.dig.length
  · rw [if_pos h1]
    have := Nat.pow_le_pow_right (n := 10) (by decide) (show (a.exp + a.dig.length - F).toNat ≤ (b.exp + b.dig.length - 1 - F).toNat by omega)
    rw [Int.sign_eq_neg_one_of_neg (by omega)]
  · rw [if_neg h1]
    by_cases h2 : b.exp + b.dig.length < a.exp + a.dig.length
    · rw [if_pos h2]
      have := Nat.pow_le_pow_right (n := 10) (by decide) (show (b.exp + b.dig.length - F).toNat ≤ (a.exp + a.dig.length - 1 - F).toNat by omega)
      rw [Int.sign_eq_one_of_pos (by omega)]
    · rw [if_neg h2]
      have e1 : (a.exp - F).toNat = (a.exp + a.dig.length - F).toNat - a.dig.length := by omega
      have e2 : (b.exp - F).toNat = (a.exp + a.dig.length - F).toNat - b.dig.length := by omega
      rw [cmpB_val a.dig b.dig (a.exp + a.dig.length - F).toNat (by omega) (by omega) (dc_digs ha) (dc_digs hb) (dc_lastq ha la) (dc_lastq hb lb)]
      unfold mag
      rw [e1, e2]
end Go.Proofs.YtdjegfnkpagdaaaGreatDoor
end
section
/- What decimals are worth: order; what is cut. -/
namespace Go.Proofs.YtdjegfnkpagdaaaGreatDoor
set_option maxRecDepth 100000
theorem sgD_sign {d : Dc} (h : dcE d = 0) (F : Int) : sgD d = (wv d F).sign := by
  unfold sgD wv
  by_cases h0 : d.dig = []
  · rw [if_pos h0, mag_nil h0]; cases d.neg <;> rfl
  · rw [if_neg h0]
    have := mag_pos h h0 F
    cases d.neg
    · simp [sgn]; rw [Int.sign_eq_one_of_pos (by omega)]
    · show (-1 : Int) = (-(mag d F : Int)).sign
      rw [Int.sign_eq_neg_one_of_neg (by omega)]
theorem wv_cmp {a b : Dc} (ha : dcE a = 0) (hb : dcE b = 0) {F : Int} (hF : F ≤ a.exp) (hG : F ≤ b.exp) : cmpR a b = ⟨(wv a F - wv b F).sign, 0⟩ := by
  have hc : chkD a b = 0 := by unfold chkD; rw [if_pos ha, hb]
  unfold cmpR
  rw [if_neg (by rw [hc]; simp)]
  have sa := sgD_sign ha F
  have sb := sgD_sign hb F
  have key : ∀ x y : Int, (x.sign < y.sign → (x - y).sign = -1) ∧ (y.sign < x.sign → (x - y).sign = 1) := fun x y => by
    constructor
    · intro h
      refine Int.sign_eq_neg_one_of_neg ?_
      rcases Int.lt_trichotomy x 0 with h1 | h1 | h1 <;> rcases Int.lt_trichotomy y 0 with h2 | h2 | h2
      all_goals first | omega | (rw [Int.sign_eq_neg_one_of_neg h1, Int.sign_eq_neg_one_of_neg h2] at h; omega) | (rw [Int.sign_eq_one_of_pos h1, Int.sign_eq_one_of_pos h2] at h; omega) | (rw [Int.sign_eq_one_of_pos h1, Int.sign_eq_neg_one_of_neg h2] at h; omega) | (subst h1; rw [Int.sign_eq_neg_one_of_neg h2] at h; simp at h; done) | (subst h2; rw [Int.sign_eq_one_of_pos h1] at h; simp at h; done) | (subst h1 h2; simp at h; done)
    · intro h
      refine Int.sign_eq_one_of_pos ?_
      rcases Int.lt_trichotomy x 0 with h1 | h1 | h1 <;> rcases Int.lt_trichotomy y 0 with h2 | h2 | h2
      all_goals first | omega | (rw [Int.sign_eq_neg_one_of_neg h1, Int.sign_eq_neg_one_of_neg h2] at h; omega) | (rw [Int.sign_eq_one_of_pos h1, Int.sign_eq_one_of_pos h2] at h; omega) | (rw [Int.sign_eq_neg_one_of_neg h1, Int.sign_eq_one_of_pos h2] at h; omega) | (subst h1; rw [Int.sign_eq_one_of_pos h2] at h; simp at h; done) | (subst h2; rw [Int.sign_eq_neg_one_of_neg h1] at h; simp at h; done) | (subst h1 h2; simp at h; done)
  by_cases h1 : sgD a < sgD b
  · rw [if_pos h1, (key _ _).1 (by rw [← sa, ← sb]; exact h1)]
  · rw [if_neg h1]
    by_cases h2 : sgD b < sgD a
    · rw [if_pos h2, (key _ _).2 (by rw [← sa, ← sb]; exact h2)]
    · rw [if_neg h2]
      have he : sgD a = sgD b := by omega
      by_cases h3 : sgD a = 0
      · rw [if_pos h3]
        have z : ∀ x : Int, x.sign = 0 → x = 0 := fun x h => Int.sign_eq_zero_iff_zero.1 h
        rw [z (wv a F) (by rw [← sa, h3]), z (wv b F) (by rw [← sb, ← he, h3])]; rfl
      · rw [if_neg h3]
        have na : a.dig ≠ [] := fun h => h3 (by unfold sgD; rw [if_pos h])
        have nb : b.dig ≠ [] := fun h => h3 (by rw [he]; unfold sgD; rw [if_pos h])
        rw [big_mag ha hb na nb hF hG]
        have hn : a.neg = b.neg := by
          unfold sgD at he
          rw [if_neg na, if_neg nb] at he
          cases ha' : a.neg <;> cases hb' : b.neg <;> rw [ha', hb'] at he <;> simp at he ⊢
        unfold wv sgD
        rw [if_neg na, ← hn]
        cases a.neg
        · simp [sgn]
        · simp only [sgn, if_true]
          rw [show -(mag a F : Int) - -(mag b F : Int) = -((mag a F : Int) - mag b F) by omega, Int.sign_neg]; simp
end Go.Proofs.YtdjegfnkpagdaaaGreatDoor
end
section
/- DecNear: what is cut. -/
namespace Go.Proofs.YtdjegfnkpagdaaaGreatDoor
set_option maxRecDepth 100000
theorem last_mod {l : List UInt8} (hd : digsB l = true) (hl : ∀ x, l.getLast? = some x → x ≠ 48) (hne : l ≠ []) : dval l % 10 ≠ 0 := by
  obtain ⟨t, x, rfl⟩ : ∃ t x, l = t ++ [x] := ⟨l.dropLast, l.getLast hne, (List.dropLast_concat_getLast hne).symm⟩
  have h1 : x ≠ 48 := hl x (by simp)
  have h2 : isD x = true := by unfold digsB at hd; simp at hd; exact hd.2
  have h3 := isD_yes x h2
  have h4 : x.toNat ≠ 48 := fun e => h1 (UInt8.toNat_inj.1 e)
  rw [dval_snoc]; omega
/-- What a cut leaves: X in units of its own, D of them in one of the place's. -/
structure CutV (neg : Bool) (l : List UInt8) (m mode h r q : Nat) : Prop where
  hX : dval l = h * 10 ^ m + r
  r0 : 0 < r
  rD : r < 10 ^ m
  q2 : q = h ∨ q = h + 1
  up : mode = 3 → q = if neg then h else h + 1
  down : mode = 4 → q = if neg then h + 1 else h
  zero : mode = 2 → q = h
  half : mode ≤ 1 → (q = h → 2 * r ≤ 10 ^ m) ∧ (q = h + 1 → 10 ^ m ≤ 2 * r)
theorem cut_val {neg : Bool} {l : List UInt8} {k : Int} {m mode : Nat} (hd : digsB l = true) (hl : ∀ x, l.getLast? = some x → x ≠ 48) (hne : l ≠ []) (hm : 1 ≤ m) (hk : k = (l.length : Int) - m) (hmode : mode ≤ 4) :
    ∃ h r, CutV neg l m mode h r (dval (cutL neg l k mode)) ∧ digsB (cutL neg l k mode) = true ∧ (cutL neg l k mode).length ≤ k.toNat + 1 ∧ h < 10 ^ k.toNat := by
  have hlm := last_mod hd hl hne
  have hD : 10 ^ m = 10 * 10 ^ (m - 1) := by rw [← Nat.pow_succ']; congr 1; omega
  have hP : 0 < 10 ^ (m - 1) := Nat.pow_pos (by decide)
  have hhd : digsB (l.take k.toNat) = true := digs_take hd _
  have hhl : (l.take k.toNat).length ≤ k.toNat := by rw [List.length_take]; omega
  obtain ⟨h, hh⟩ : ∃ h, h = dval (l.take k.toNat) := ⟨_, rfl⟩
  have hlt : h < 10 ^ k.toNat := by
    rw [hh]; exact Nat.lt_of_lt_of_le (dval_lt _ hhd) (Nat.pow_le_pow_right (by decide) hhl)
  obtain ⟨r, hr, hr2, hr3⟩ : ∃ r, dval l = h * 10 ^ m + r ∧ r < 10 ^ m ∧ (mode ≤ 1 → (upB neg l k mode = false → 2 * r ≤ 10 ^ m) ∧ (upB neg l k mode = true → 10 ^ m ≤ 2 * r)) := by
    by_cases hk0 : 0 ≤ k
    · obtain ⟨j, rfl⟩ : ∃ j : Nat, k = j := ⟨k.toNat, by omega⟩
      simp only [Int.toNat_natCast] at *
      have hjl : j < l.length := by omega
      have htl : (l.drop j).length = m := by rw [List.length_drop]; omega
      have e1 : dval l = h * 10 ^ m + dval (l.drop j) := by
        rw [hh, ← htl, ← dval_append, List.take_append_drop]
      have hdd : digsB (l.drop j) = true := digs_drop hd _
      have e2 : dval (l.drop j) < 10 ^ m := by rw [← htl]; exact dval_lt _ hdd
      obtain ⟨x, t, hxt⟩ : ∃ x t, l.drop j = x :: t := by
        cases hc : l.drop j with
        | nil => rw [hc] at htl; simp at htl; omega
        | cons x t => exact ⟨x, t, rfl⟩
      have hx : l.getD j 0 = x := by
        rw [List.getD_eq_getElem?_getD, show l[j]? = (l.drop j)[0]? by rw [List.getElem?_drop]; rfl, hxt]; rfl
      rw [hxt] at hdd htl
      obtain ⟨t1, t2, t3⟩ := dval_head hdd
      have htl' : t.length = m - 1 := by simp at htl; omega
      have e3 : dval (l.drop j) = (x.toNat - 48) * 10 ^ (m - 1) + dval t := by rw [hxt, dval_cons, htl']
      have e4 : dval t < 10 ^ (m - 1) := by rw [← htl']; exact dval_lt t t1
      refine ⟨dval (l.drop j), e1, e2, fun hm1 => ?_⟩
      have lo : x.toNat < 53 → 2 * dval (l.drop j) ≤ 10 ^ m := fun hx53 => by
        have := Nat.mul_le_mul_right (10 ^ (m - 1)) (show x.toNat - 48 ≤ 4 by omega)
        omega
      have hi : 53 ≤ x.toNat → 10 ^ m ≤ 2 * dval (l.drop j) := fun hx53 => by
        have := Nat.mul_le_mul_right (10 ^ (m - 1)) (show 5 ≤ x.toNat - 48 by omega)
        omega
      have five : l.drop j = [53] → 2 * dval (l.drop j) = 10 ^ m := fun h5 => by
        rw [h5] at hxt
        have : t = [] := by cases hxt; rfl
        have hm0 : m - 1 = 0 := by rw [← htl', this]; rfl
        rw [h5, hD, hm0]; decide
      unfold upB
      by_cases h0 : mode = 0
      · rw [if_pos h0]
        simp only [Int.toNat_natCast, hx]
        constructor
        · intro hu
          by_cases hx53 : 53 ≤ x.toNat
          · by_cases h5 : l.drop j = [53]
            · exact Nat.le_of_eq (five h5)
            · simp [hx53, h5] at hu
          · exact lo (by omega)
        · intro hu
          simp only [Bool.and_eq_true, decide_eq_true_eq] at hu
          exact hi hu.1.2
      · rw [if_neg h0, if_pos (show mode = 1 by omega)]
        simp only [Int.toNat_natCast, hx]
        constructor
        · intro hu
          refine lo ?_
          simp at hu; omega
        · intro hu
          simp only [Bool.and_eq_true, decide_eq_true_eq] at hu
          exact hi hu.2
    · have hk1 : k.toNat = 0 := by omega
      have hh0 : h = 0 := by rw [hh, hk1]; rfl
      have e1 : dval l < 10 ^ (m - 1) := Nat.lt_of_lt_of_le (dval_lt l hd) (Nat.pow_le_pow_right (by decide) (by omega))
      refine ⟨dval l, by rw [hh0]; omega, by omega, fun hm1 => ⟨fun _ => by omega, fun hu => ?_⟩⟩
      exfalso
      unfold upB at hu
      by_cases h0 : mode = 0
      · rw [if_pos h0] at hu; simp [hk0] at hu
      · rw [if_neg h0, if_pos (show mode = 1 by omega)] at hu; simp [hk0] at hu
  have hr0 : 0 < r := by
    refine Nat.pos_of_ne_zero fun e => hlm ?_
    rw [hr, e, hD, Nat.add_zero, Nat.mul_left_comm]
    exact Nat.mul_mod_right _ _
  refine ⟨h, r, ?_, ?_, ?_, hlt⟩
  · by_cases hu : upB neg l k mode = true
    · have e : dval (cutL neg l k mode) = h + 1 := by unfold cutL; rw [if_pos hu, hh]; exact dval_digs _
      rw [e]
      refine ⟨hr, hr0, hr2, .inr rfl, fun h3 => ?_, fun h4 => ?_, fun h2 => ?_, fun h1 => ⟨fun h => by omega, fun _ => (hr3 h1).2 hu⟩⟩
      · subst h3; unfold upB at hu; simp at hu; rw [hu]; rfl
      · subst h4; unfold upB at hu; simp at hu; rw [hu]; rfl
      · subst h2; unfold upB at hu; simp at hu
    · have e : dval (cutL neg l k mode) = h := by unfold cutL; rw [if_neg hu, hh]
      have hu' : upB neg l k mode = false := by simpa using hu
      rw [e]
      refine ⟨hr, hr0, hr2, .inl rfl, fun h3 => ?_, fun h4 => ?_, fun h2 => rfl, fun h1 => ⟨fun _ => (hr3 h1).1 hu', fun h => by omega⟩⟩
      · subst h3; unfold upB at hu'; simp at hu'; rw [hu']; rfl
      · subst h4; unfold upB at hu'; simp at hu'; rw [hu']; rfl
  · unfold cutL
    split
    · exact digs_digs _
    · exact hhd
  · unfold cutL
    split
    · exact Nat.le_trans (nx_len _ hhd) (by omega)
    · omega
end Go.Proofs.YtdjegfnkpagdaaaGreatDoor
end
section
/- DecNear: what is rounded is near. -/
namespace Go.Proofs.YtdjegfnkpagdaaaGreatDoor
set_option maxRecDepth 100000
/-- What was cut and made: it may be, has few digits, is on its side and near. -/
structure NearV (x y : Dc) (n : Int) (mode : Nat) : Prop where
  ok : dcE y = 0
  neg : y.neg = x.neg
  exp : y.dig ≠ [] → n ≤ y.exp
  ne : wv y x.exp ≠ wv x x.exp
  unit : (wv x x.exp - wv y x.exp).natAbs < 10 ^ (n - x.exp).toNat
  up : mode = 3 → wv x x.exp < wv y x.exp
  down : mode = 4 → wv y x.exp < wv x x.exp
  zero : mode = 2 → (wv y x.exp < wv x x.exp ↔ x.neg = false)
  half : mode ≤ 1 → 2 * (wv x x.exp - wv y x.exp).natAbs ≤ 10 ^ (n - x.exp).toNat
theorem mkDig_len (l : List UInt8) : (mkDig l).length ≤ l.length := by
  obtain ⟨a, b, h1, -⟩ := mk_spec l
  have := congrArg List.length h1
  simp at this; omega
theorem mkE_small {l : List UInt8} {n : Int} (hd : digsB l = true) (hl : l.length ≤ 60000) (hn : -100000 ≤ n ∧ n ≤ 100000) : mkE l n = 0 := by
  obtain ⟨a, b, h1, h2, -⟩ := mk_spec l
  have h3 := congrArg List.length h1
  simp [zerosL] at h3
  unfold mkE
  rw [if_neg (by omega), if_neg (by rw [hd]; simp)]
  split
  · rfl
  · rw [if_neg]
    rintro (h | h | h)
    · omega
    · omega
    · rw [h2] at h
      unfold far at h; simp at h; omega
theorem cut_near {x : Dc} (hx : dcE x = 0) (h0 : x.dig ≠ []) {n k : Int} {mode : Nat} (hn : x.exp < n) (hk : k = x.dig.length - n + x.exp) (hm : mode ≤ 4) (hl : x.dig.length ≤ 3000) (he : -3000 ≤ x.exp ∧ x.exp ≤ 3000) (hn2 : n ≤ 10000) :
    (cutR x k n mode).e = 0 ∧ (cutR x k n mode).ok = false ∧ NearV x (cutR x k n mode).d n mode ∧ (1 ≤ k → ((cutR x k n mode).d.dig.length : Int) ≤ k) := by
  obtain ⟨m, hmm⟩ : ∃ m : Nat, n - x.exp = m := ⟨(n - x.exp).toNat, by omega⟩
  obtain ⟨h, r, hc, hdg, hln, hlt⟩ := cut_val (neg := x.neg) (k := k) (m := m) (dc_digs hx) (dc_lastq hx (List.length_pos_iff.2 h0)) h0 (by omega) (by omega) hm
  have hE : mkE (cutL x.neg x.dig k mode) n = 0 := mkE_small hdg (by omega) (by omega)
  obtain ⟨m1, m2, m3, m4⟩ := mk_wv (neg := x.neg) hdg hE
  obtain ⟨q, hq⟩ : ∃ q, q = dval (cutL x.neg x.dig k mode) := ⟨_, rfl⟩
  rw [← hq] at hc m3
  have hD : (n - x.exp).toNat = m := by omega
  have wy : wv (cutR x k n mode).d x.exp = sgn x.neg (q * 10 ^ m) := by
    unfold wv cutR
    simp only
    rw [m2, m3 x.exp (by omega), hD]
  have wx : wv x x.exp = sgn x.neg (h * 10 ^ m + r) := by
    unfold wv mag
    rw [Int.sub_self, hc.hX]; simp
  refine ⟨hE, rfl, ?_, fun hk1 => ?_⟩
  · obtain ⟨D, hDD⟩ : ∃ D, D = 10 ^ m := ⟨_, rfl⟩
    obtain ⟨-, c1, c2, c3, c4, c5, c6, c7⟩ := hc
    rw [← hDD] at c2 c7 wy wx
    have hq1 : ∀ z, z = h ∨ z = h + 1 → (z * D = h * D ∧ z = h) ∨ (z * D = h * D + D ∧ z = h + 1) := fun z hz => by
      rcases hz with e | e
      · left; subst e; exact ⟨rfl, rfl⟩
      · right; subst e; exact ⟨Nat.succ_mul _ _, rfl⟩
    have hq2 := hq1 q c3
    generalize q * D = Q at hq2 wy
    generalize h * D = H at hq2 wx
    refine ⟨m1, m2, m4, ?_, ?_, fun h3 => ?_, fun h4 => ?_, fun h2 => ?_, fun h1 => ?_⟩
    all_goals rw [wy, wx]
    · cases x.neg <;> simp only [sgn] <;> simp <;> omega
    · rw [hD, ← hDD]; cases x.neg <;> simp only [sgn] <;> simp <;> omega
    · have := c4 h3
      cases hneg : x.neg <;> rw [hneg] at this <;> simp only [sgn] <;> simp at this ⊢ <;> omega
    · have := c5 h4
      cases hneg : x.neg <;> rw [hneg] at this <;> simp only [sgn] <;> simp at this ⊢ <;> omega
    · have := c6 h2
      cases hneg : x.neg <;> simp only [sgn] <;> simp <;> omega
    · obtain ⟨g1, g2⟩ := c7 h1
      rw [hD, ← hDD]
      cases x.neg <;> simp only [sgn] <;> simp <;> omega
  · obtain ⟨j, rfl⟩ : ∃ j : Nat, k = j := ⟨k.toNat, by omega⟩
    simp only [Int.toNat_natCast] at *
    have hql : q ≤ 10 ^ j := by rcases hc.q2 with e | e <;> omega
    unfold cutR
    simp only
    by_cases hz : (mkD x.neg (cutL x.neg x.dig j mode) n).dig = []
    · rw [hz]; simp
    · obtain ⟨b, hb, hv⟩ := mk_val (cutL x.neg x.dig j mode)
      have hdig : (mkD x.neg (cutL x.neg x.dig j mode) n).dig = mkDig (cutL x.neg x.dig j mode) := by
        unfold mkD; rw [if_pos hE]; split
        · rename_i h; rw [h]
        · rfl
      rw [hdig] at hz ⊢
      have hml := mkDig_len (cutL x.neg x.dig j mode)
      refine Int.ofNat_le.2 (Nat.le_of_not_lt fun hlt2 => ?_)
      -- one digit more: then it is a one with noughts, of one digit
      have hdd : dcE (mkD x.neg (cutL x.neg x.dig j mode) n) = 0 := m1
      have hdd1 := dc_digs hdd
      have hdl := dc_lastq hdd (by rw [hdig]; exact List.length_pos_iff.2 hz)
      rw [hdig] at hdd1 hdl
      have hlast := last_mod hdd1 hdl hz
      have hpos := dval_pos_last hdd1 hdl hz
      have hb0 : 10 ^ b ≥ 1 := Nat.one_le_pow _ _ (by decide)
      have hle : dval (mkDig (cutL x.neg x.dig j mode)) ≤ 10 ^ j := by
        have : dval (mkDig (cutL x.neg x.dig j mode)) ≤ q := by rw [hq, hv]; exact Nat.le_mul_of_pos_right _ hb0
        omega
      have hok := dc_ok hdd (by rw [hdig]; exact List.length_pos_iff.2 hz)
      obtain ⟨t1, -⟩ := mag_top (d := mkD x.neg (cutL x.neg x.dig j mode) n) hdd (by rw [hdig]; exact hz) (F := (mkD x.neg (cutL x.neg x.dig j mode) n).exp) (Int.le_refl _)
      unfold mag at t1
      rw [hdig, Int.sub_self] at t1
      simp at t1
      have hge : 10 ^ j ≤ dval (mkDig (cutL x.neg x.dig j mode)) := Nat.le_trans (Nat.pow_le_pow_right (by decide) (by omega)) t1
      have heq : dval (mkDig (cutL x.neg x.dig j mode)) = 10 ^ j := by omega
      rw [heq] at hlast
      obtain ⟨i, rfl⟩ : ∃ i, j = i + 1 := ⟨j - 1, by omega⟩
      rw [Nat.pow_succ, Nat.mul_mod_left] at hlast
      exact hlast rfl
end Go.Proofs.YtdjegfnkpagdaaaGreatDoor
end
section
/- DecNear: near, walked. -/
namespace Go.Proofs.YtdjegfnkpagdaaaGreatDoor
open Go.RowKit
attribute [local go_sem] bs_size bs_extract bs_get bs_append bs_toList const_get
attribute [local go_sem] sz2 sz3 sz4 sz5 sz6 sz7 sz8
set_option maxHeartbeats 4000000
set_option maxRecDepth 100000
attribute [local irreducible] Calls
end Go.Proofs.YtdjegfnkpagdaaaGreatDoor
end
section
/- DecNear: the plain law. -/
namespace Go.Proofs.YtdjegfnkpagdaaaGreatDoor
set_option maxRecDepth 100000
theorem wv_nil {d : Dc} (h : d.dig = []) (F : Int) : wv d F = 0 := by unfold wv; rw [mag_nil h]; cases d.neg <;> rfl
theorem wv_step {d : Dc} {F G : Int} (hG : G ≤ F) (h : F ≤ d.exp ∨ d.dig = []) : wv d G = wv d F * (10 ^ (F - G).toNat : Nat) := by
  rcases h with h | h
  · unfold wv; rw [mag_step d hG h, sgn_mul]
  · rw [wv_nil h, wv_nil h, Int.zero_mul]
theorem sign_scale (x : Int) {k : Nat} (hk : 0 < k) : (x * (k : Int)).sign = x.sign := by
  rw [Int.sign_mul, Int.sign_eq_one_of_pos (show (0 : Int) < k by omega), Int.mul_one]
theorem wv_cmp' {a b : Dc} (ha : dcE a = 0) (hb : dcE b = 0) {F : Int} (hF : F ≤ a.exp ∨ a.dig = []) (hG : F ≤ b.exp ∨ b.dig = []) : cmpR a b = ⟨(wv a F - wv b F).sign, 0⟩ := by
  obtain ⟨G, g1, g2, g3⟩ : ∃ G, G ≤ F ∧ G ≤ a.exp ∧ G ≤ b.exp := ⟨min F (min a.exp b.exp), by omega, by omega, by omega⟩
  rw [wv_cmp ha hb g2 g3, wv_step g1 hF, wv_step g1 hG, ← Int.sub_mul, sign_scale _ (Nat.pow_pos (by decide))]
theorem wv_add' {a b : Dc} (ha : dcE a = 0) (hb : dcE b = 0) (h : (addR a b).e = 0) {F : Int} (hF : F ≤ a.exp ∨ a.dig = []) (hG : F ≤ b.exp ∨ b.dig = []) :
    dcE (addR a b).d = 0 ∧ wv (addR a b).d F = wv a F + wv b F ∧ (F ≤ (addR a b).d.exp ∨ (addR a b).d.dig = []) := by
  have h1 := wv_add ha hb h
  refine ⟨h1.1, ?_⟩
  have hc : chkD a b = 0 := by unfold chkD; rw [if_pos ha, hb]
  by_cases ea : a.dig = []
  · have e : (addR a b).d.dig = b.dig ∧ (addR a b).d.exp = b.exp ∧ wv (addR a b).d F = wv b F := by
      unfold addR
      rw [if_neg (by rw [hc]; simp)]
      by_cases eb : b.dig = []
      · rw [if_pos ⟨ea, eb⟩]
        exact ⟨eb.symm, (dc_nil hb eb).symm, by rw [wv_nil rfl, wv_nil eb]⟩
      · rw [if_neg (fun h => eb h.2), if_pos ea]; exact ⟨rfl, rfl, rfl⟩
    rw [e.1, e.2.1, e.2.2, wv_nil ea, Int.zero_add]
    exact ⟨rfl, hG⟩
  · by_cases eb : b.dig = []
    · have e : (addR a b).d = a := by
        unfold addR
        rw [if_neg (by rw [hc]; simp), if_neg (fun h => ea h.1), if_neg ea, if_pos eb]
      rw [e, wv_nil eb, Int.add_zero]
      exact ⟨rfl, hF⟩
    · have f1 : F ≤ a.exp := by rcases hF with h | h; exact h; exact absurd h ea
      have f2 : F ≤ b.exp := by rcases hG with h | h; exact h; exact absurd h eb
      refine ⟨h1.2 F f1 f2, ?_⟩
      by_cases es : (addR a b).d.dig = []
      · exact .inr es
      · left
        unfold addR at h es ⊢
        rw [if_neg (by rw [hc]; simp), if_neg (fun h => ea h.1), if_neg ea, if_neg eb] at h es ⊢
        by_cases h4 : 65536 < (a.dig.length : Int) + a.exp - min a.exp b.exp ∨ 65536 < (b.dig.length : Int) + b.exp - min a.exp b.exp
        · rw [if_pos h4] at h; cases h
        · rw [if_neg h4] at h es ⊢
          simp only at h es ⊢
          obtain ⟨v1, v2⟩ := dtext_val (sumAbs a.neg b.neg (upV a.dig (a.exp - min a.exp b.exp).toNat) (upV b.dig (b.exp - min a.exp b.exp).toNat))
          obtain ⟨m1, m2, m3, m4⟩ := mk_wv (neg := sumNeg a.neg b.neg (upV a.dig (a.exp - min a.exp b.exp).toNat) (upV b.dig (b.exp - min a.exp b.exp).toNat)) v2 h
          have := m4 es
          omega
theorem sumAbs_le (s t : Bool) (x y : Nat) : sumAbs s t x y ≤ x + y := by
  unfold sumAbs
  repeat' split
  all_goals omega
theorem add_ok {a b : Dc} (ha : dcE a = 0) (hb : dcE b = 0) (la : a.dig.length ≤ 3001) (lb : b.dig.length ≤ 3001) (ea : -10000 ≤ a.exp ∧ a.exp ≤ 10000) (eb : -10000 ≤ b.exp ∧ b.exp ≤ 10000) : (addR a b).e = 0 := by
  have hc : chkD a b = 0 := by unfold chkD; rw [if_pos ha, hb]
  unfold addR
  rw [if_neg (by rw [hc]; simp)]
  split
  · rfl
  · split
    · rfl
    · split
      · rfl
      · rw [if_neg (by omega)]
        simp only
        obtain ⟨v1, v2⟩ := dtext_val (sumAbs a.neg b.neg (upV a.dig (a.exp - min a.exp b.exp).toNat) (upV b.dig (b.exp - min a.exp b.exp).toNat))
        refine mkE_small v2 ?_ (by omega)
        obtain ⟨N, hN⟩ : ∃ N, N = 23001 := ⟨_, rfl⟩
        have h1 : upV a.dig (a.exp - min a.exp b.exp).toNat < 10 ^ N := by
          rw [up_val]
          have := Nat.mul_lt_mul_of_pos_right (dval_lt a.dig (dc_digs ha)) (Nat.pow_pos (n := (a.exp - min a.exp b.exp).toNat) (show 0 < 10 by decide))
          rw [← Nat.pow_add] at this
          exact Nat.lt_of_lt_of_le this (Nat.pow_le_pow_right (by decide) (by omega))
        have h2 : upV b.dig (b.exp - min a.exp b.exp).toNat < 10 ^ N := by
          rw [up_val]
          have := Nat.mul_lt_mul_of_pos_right (dval_lt b.dig (dc_digs hb)) (Nat.pow_pos (n := (b.exp - min a.exp b.exp).toNat) (show 0 < 10 by decide))
          rw [← Nat.pow_add] at this
          exact Nat.lt_of_lt_of_le this (Nat.pow_le_pow_right (by decide) (by omega))
        have h3 := sumAbs_le a.neg b.neg (upV a.dig (a.exp - min a.exp b.exp).toNat) (upV b.dig (b.exp - min a.exp b.exp).toNat)
        generalize sumAbs a.neg b.neg (upV a.dig (a.exp - min a.exp b.exp).toNat) (upV b.dig (b.exp - min a.exp b.exp).toNat) = v at h3
        have h4 : v < 10 ^ (N + 1) := by rw [Nat.pow_succ]; omega
        unfold dtext
        split
        · simp
        · exact Nat.le_trans (digs_len h4) (by omega)
theorem dcE_neg (s t : Bool) (l : List UInt8) (e : Int) : dcE ⟨s, l, e⟩ = dcE ⟨t, l, e⟩ := rfl
theorem unit_ok {n : Int} {m : UInt8} (hm : m = 49 ∨ m = 53) (hn : -100000 ≤ n ∧ n ≤ 100000) : dcE ⟨false, [m], n⟩ = 0 := by
  have hf : far n = false := by unfold far; simp; omega
  unfold dcE
  rcases hm with rfl | rfl
  all_goals
    rw [if_neg (by simp), if_neg (by simp), if_neg (by simp only; decide), if_neg]
    rintro (h1 | h1 | h1)
    · simp at h1
    · simp at h1
    · rw [hf] at h1; cases h1
theorem cutR_small {x : Dc} (hx : dcE x = 0) {n k : Int} {mode : Nat} (hl : x.dig.length ≤ 3000) (hk : k ≤ x.dig.length) (hn : -10000 ≤ n ∧ n ≤ 6000) : (cutR x k n mode).d.dig.length ≤ 3001 ∧ (-10000 ≤ (cutR x k n mode).d.exp ∧ (cutR x k n mode).d.exp ≤ 10000) := by
  have hhd : digsB (x.dig.take k.toNat) = true := digs_take (dc_digs hx) _
  have hhl : (x.dig.take k.toNat).length ≤ 3000 := by rw [List.length_take]; omega
  have hL : (cutL x.neg x.dig k mode).length ≤ 3001 := by
    unfold cutL
    split
    · exact Nat.le_trans (nx_len _ hhd) (by omega)
    · omega
  have h1 := mkDig_len (cutL x.neg x.dig k mode)
  obtain ⟨a, b, h2, h3, -⟩ := mk_spec (cutL x.neg x.dig k mode)
  have h4 := congrArg List.length h2
  simp [zerosL] at h4
  unfold cutR mkD
  simp only
  split
  · split
    · simp
    · simp only; rw [h3]; omega
  · simp [Dc.zero]
open Go.RowKit
end Go.Proofs.YtdjegfnkpagdaaaGreatDoor
end
