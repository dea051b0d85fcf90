import Derived.Test.YthmfmfggihejoaaSpanS
namespace Go.Proofs.Ythmfmfggihejoaa
open Go.RowKit
attribute [local go_sem high] run_feq run_fne run_flt run_fle run_fgt run_fge run_fmax run_fmin
attribute [local go_sem] unary_neg_float fbits fromb run_store_float sz2 sz3 sz4 sz5 sz6 sz7 sz8
theorem ck2_two (a b c d : Nat) : ck2 a b c d = 0 ∨ ck2 a b c d = 280 := by
  unfold ck2; split
  · exact ck_two c d
  · exact ck_two a b
theorem ck2_of {a b c d : Nat} (h : ck2 a b c d = 0) : ckV a b = 0 ∧ ckV c d = 0 := by
  unfold ck2 at h; split at h
  · exact ⟨‹_›, h⟩
  · contradiction
def inB (a b c d : Nat) : Bool := if ck2 a b c d = 0 then fle c a && fle b d else false
def meetL (a b c d : Nat) : Nat := if ck2 a b c d = 0 then (if fgt (fmaxB a c) (fminB b d) = true then 0 else fmaxB a c) else 0
def meetH (a b c d : Nat) : Nat := if ck2 a b c d = 0 then (if fgt (fmaxB a c) (fminB b d) = true then 0 else fminB b d) else 0
def meetB (a b c d : Nat) : Bool := if ck2 a b c d = 0 then !fgt (fmaxB a c) (fminB b d) else false
def joinL (a b c d : Nat) : Nat := if ck2 a b c d = 0 then fminB a c else 0
def joinH (a b c d : Nat) : Nat := if ck2 a b c d = 0 then fmaxB b d else 0
theorem in_any (a b c d : Nat) (ha : a < 2 ^ 64) (hb : b < 2 ^ 64) (hc : c < 2 ^ 64) (hd : d < 2 ^ 64) (w : World) : Calls Try.prog 14 #[.agg #[.float .f64 a, .float .f64 b], .agg #[.float .f64 c, .float .f64 d]] w fun e w' => e = .returned (.tuple #[.bool (inB a b c d), .int .i64 (ck2 a b c d)]) ∧ Ext w w' := by
  rcases ck2_two a b c d with e0 | e0
  · have q0 : (ck2 a b c d != 0) = false := by rw [e0]; rfl
    have E0 := Lib.hid e0
    clear e0
    go_enter Try.func14, Try.ntmps14
    go_wp2_with (first
      | (go_at_call 25; (with_reducible refine (checks_any a b c d ha hb hc hd _ _ (by go_simp) (by go_simp) (by go_simp) (by go_simp)).mono ?_); rintro e w' ⟨rfl, xb⟩; obtain ⟨xc, xf, xl, xz⟩ := ext_use xb; try simp at xz)
     )
    all_goals
      go_ret2
      exact ⟨by simp_all [inB, E0.out], by (repeat (first | exact ext_refl _ | assumption | refine ext_setCell ?_ (by simp; try omega) _ | refine ext_alloc ?_ _ | refine ext_drew ?_ | refine ext_drewN ?_ _ | refine ext_trans ?_ (Aft.use _) | refine ext_trans ?_ (by assumption)))⟩
  · have q0 : (ck2 a b c d != 0) = true := by rw [e0]; rfl
    have E0 := Lib.hid e0
    clear e0
    go_enter Try.func14, Try.ntmps14
    go_wp2_with (first
      | (go_at_call 25; (with_reducible refine (checks_any a b c d ha hb hc hd _ _ (by go_simp) (by go_simp) (by go_simp) (by go_simp)).mono ?_); rintro e w' ⟨rfl, xb⟩; obtain ⟨xc, xf, xl, xz⟩ := ext_use xb; try simp at xz)
     )
    go_ret2
    exact ⟨by simp [inB, E0.out], by (repeat (first | exact ext_refl _ | assumption | refine ext_setCell ?_ (by simp; try omega) _ | refine ext_alloc ?_ _ | refine ext_drew ?_ | refine ext_drewN ?_ _ | refine ext_trans ?_ (Aft.use _) | refine ext_trans ?_ (by assumption)))⟩
theorem rin_any (a b c d : Nat) (ha : a < 2 ^ 64) (hb : b < 2 ^ 64) (hc : c < 2 ^ 64) (hd : d < 2 ^ 64) (w : World) : Calls Try.prog 15 #[.agg #[.float .f64 a, .float .f64 b], .agg #[.float .f64 c, .float .f64 d]] w fun e w' => e = .returned (.tuple #[.bool (inB a b c d), .int .i64 (ck2 a b c d)]) ∧ Ext w w' := by
  rcases ck2_two a b c d with e0 | e0
  · have q0 : (ck2 a b c d != 0) = false := by rw [e0]; rfl
    have E0 := Lib.hid e0
    clear e0
    go_enter Try.func15, Try.ntmps15
    go_wp2_with (first
      | (go_at_call 26; (with_reducible refine (two_any _ _ _ _ ha hb hc hd _).mono ?_); rintro e w' ⟨rfl, xb⟩; obtain ⟨xc, xf, xl, xz⟩ := ext_use xb; try simp at xz)
     )
    all_goals
      go_ret2
      exact ⟨by simp_all [inB, E0.out], by (repeat (first | exact ext_refl _ | assumption | refine ext_setCell ?_ (by simp; try omega) _ | refine ext_alloc ?_ _ | refine ext_drew ?_ | refine ext_drewN ?_ _ | refine ext_trans ?_ (Aft.use _) | refine ext_trans ?_ (by assumption)))⟩
  · have q0 : (ck2 a b c d != 0) = true := by rw [e0]; rfl
    have E0 := Lib.hid e0
    clear e0
    go_enter Try.func15, Try.ntmps15
    go_wp2_with (first
      | (go_at_call 26; (with_reducible refine (two_any _ _ _ _ ha hb hc hd _).mono ?_); rintro e w' ⟨rfl, xb⟩; obtain ⟨xc, xf, xl, xz⟩ := ext_use xb; try simp at xz)
     )
    go_ret2
    exact ⟨by simp [inB, E0.out], by (repeat (first | exact ext_refl _ | assumption | refine ext_setCell ?_ (by simp; try omega) _ | refine ext_alloc ?_ _ | refine ext_drew ?_ | refine ext_drewN ?_ _ | refine ext_trans ?_ (Aft.use _) | refine ext_trans ?_ (by assumption)))⟩
theorem meet_any (a b c d : Nat) (ha : a < 2 ^ 64) (hb : b < 2 ^ 64) (hc : c < 2 ^ 64) (hd : d < 2 ^ 64) (w : World) : Calls Try.prog 16 #[.agg #[.float .f64 a, .float .f64 b], .agg #[.float .f64 c, .float .f64 d]] w fun e w' => e = .returned (.tuple #[.agg #[.float .f64 (meetL a b c d), .float .f64 (meetH a b c d)], .bool (meetB a b c d), .int .i64 (ck2 a b c d)]) ∧ Ext w w' := by
  rcases ck2_two a b c d with e0 | e0
  · have q0 : (ck2 a b c d != 0) = false := by rw [e0]; rfl
    have n1 := nan_of (ck2_of e0).1
    have n2 := nan_of (ck2_of e0).2
    have f1 : ford a c = true := ford_of n1.1 n2.1
    have f2 : ford b d = true := ford_of n1.2 n2.2
    clear n1 n2
    have E0 := Lib.hid e0
    clear e0
    go_enter Try.func16, Try.ntmps16
    go_wp2_with (first
      | (go_at_call 25; (with_reducible refine (checks_any a b c d ha hb hc hd _ _ (by go_simp) (by go_simp) (by go_simp) (by go_simp)).mono ?_); rintro e w' ⟨rfl, xb⟩; obtain ⟨xc, xf, xl, xz⟩ := ext_use xb; try simp at xz)
     )
    all_goals
      refine bodyPost_ret (v := _) ?h rfl ⟨rfl, ?_⟩
      case h => simp [results, Try.results16, go_sem, meetL, meetH, meetB, E0.out, xc, xf, xl, *]
      repeat (first | exact ext_refl _ | assumption | refine ext_setCell ?_ (by simp; try omega) _ | refine ext_alloc ?_ _ | refine ext_drew ?_ | refine ext_drewN ?_ _ | refine ext_trans ?_ (Aft.use _) | refine ext_trans ?_ (by assumption))
  · have q0 : (ck2 a b c d != 0) = true := by rw [e0]; rfl
    have E0 := Lib.hid e0
    clear e0
    go_enter Try.func16, Try.ntmps16
    go_wp2_with (first
      | (go_at_call 25; (with_reducible refine (checks_any a b c d ha hb hc hd _ _ (by go_simp) (by go_simp) (by go_simp) (by go_simp)).mono ?_); rintro e w' ⟨rfl, xb⟩; obtain ⟨xc, xf, xl, xz⟩ := ext_use xb; try simp at xz)
     )
    refine bodyPost_ret (v := _) ?h rfl ⟨rfl, ?_⟩
    case h => simp [results, Try.results16, go_sem, meetL, meetH, meetB, E0.out, xc, xf, xl]
    repeat (first | exact ext_refl _ | assumption | refine ext_setCell ?_ (by simp; try omega) _ | refine ext_alloc ?_ _ | refine ext_drew ?_ | refine ext_drewN ?_ _ | refine ext_trans ?_ (Aft.use _) | refine ext_trans ?_ (by assumption))
theorem rmeet_any (a b c d : Nat) (ha : a < 2 ^ 64) (hb : b < 2 ^ 64) (hc : c < 2 ^ 64) (hd : d < 2 ^ 64) (w : World) : Calls Try.prog 17 #[.agg #[.float .f64 a, .float .f64 b], .agg #[.float .f64 c, .float .f64 d]] w fun e w' => e = .returned (.tuple #[.agg #[.float .f64 (meetL a b c d), .float .f64 (meetH a b c d)], .bool (meetB a b c d), .int .i64 (ck2 a b c d)]) ∧ Ext w w' := by
  rcases ck2_two a b c d with e0 | e0
  · have q0 : (ck2 a b c d != 0) = false := by rw [e0]; rfl
    have n1 := nan_of (ck2_of e0).1
    have n2 := nan_of (ck2_of e0).2
    have f1 : ford a c = true := ford_of n1.1 n2.1
    have f2 : ford b d = true := ford_of n1.2 n2.2
    clear n1 n2
    have E0 := Lib.hid e0
    clear e0
    go_enter Try.func17, Try.ntmps17
    go_wp2_with (first
      | (go_at_call 26; (with_reducible refine (two_any _ _ _ _ ha hb hc hd _).mono ?_); rintro e w' ⟨rfl, xb⟩; obtain ⟨xc, xf, xl, xz⟩ := ext_use xb; try simp at xz)
     )
    all_goals
      refine bodyPost_ret (v := _) ?h rfl ⟨rfl, ?_⟩
      case h => simp [results, Try.results17, go_sem, meetL, meetH, meetB, E0.out, xc, xf, xl, *]
      repeat (first | exact ext_refl _ | assumption | refine ext_setCell ?_ (by simp; try omega) _ | refine ext_alloc ?_ _ | refine ext_drew ?_ | refine ext_drewN ?_ _ | refine ext_trans ?_ (Aft.use _) | refine ext_trans ?_ (by assumption))
  · have q0 : (ck2 a b c d != 0) = true := by rw [e0]; rfl
    have E0 := Lib.hid e0
    clear e0
    go_enter Try.func17, Try.ntmps17
    go_wp2_with (first
      | (go_at_call 26; (with_reducible refine (two_any _ _ _ _ ha hb hc hd _).mono ?_); rintro e w' ⟨rfl, xb⟩; obtain ⟨xc, xf, xl, xz⟩ := ext_use xb; try simp at xz)
     )
    refine bodyPost_ret (v := _) ?h rfl ⟨rfl, ?_⟩
    case h => simp [results, Try.results17, go_sem, meetL, meetH, meetB, E0.out, xc, xf, xl]
    repeat (first | exact ext_refl _ | assumption | refine ext_setCell ?_ (by simp; try omega) _ | refine ext_alloc ?_ _ | refine ext_drew ?_ | refine ext_drewN ?_ _ | refine ext_trans ?_ (Aft.use _) | refine ext_trans ?_ (by assumption))
theorem join_any (a b c d : Nat) (ha : a < 2 ^ 64) (hb : b < 2 ^ 64) (hc : c < 2 ^ 64) (hd : d < 2 ^ 64) (w : World) : Calls Try.prog 18 #[.agg #[.float .f64 a, .float .f64 b], .agg #[.float .f64 c, .float .f64 d]] w fun e w' => e = .returned (.tuple #[.agg #[.float .f64 (joinL a b c d), .float .f64 (joinH a b c d)], .int .i64 (ck2 a b c d)]) ∧ Ext w w' := by
  rcases ck2_two a b c d with e0 | e0
  · have q0 : (ck2 a b c d != 0) = false := by rw [e0]; rfl
    have n1 := nan_of (ck2_of e0).1
    have n2 := nan_of (ck2_of e0).2
    have f1 : ford a c = true := ford_of n1.1 n2.1
    have f2 : ford b d = true := ford_of n1.2 n2.2
    clear n1 n2
    have E0 := Lib.hid e0
    clear e0
    go_enter Try.func18, Try.ntmps18
    go_wp2_with (first
      | (go_at_call 25; (with_reducible refine (checks_any a b c d ha hb hc hd _ _ (by go_simp) (by go_simp) (by go_simp) (by go_simp)).mono ?_); rintro e w' ⟨rfl, xb⟩; obtain ⟨xc, xf, xl, xz⟩ := ext_use xb; try simp at xz)
     )
    all_goals
      refine bodyPost_ret (v := _) ?h rfl ⟨rfl, ?_⟩
      case h => simp [results, Try.results18, go_sem, joinL, joinH, E0.out, xc, xf, xl, *]
      repeat (first | exact ext_refl _ | assumption | refine ext_setCell ?_ (by simp; try omega) _ | refine ext_alloc ?_ _ | refine ext_drew ?_ | refine ext_drewN ?_ _ | refine ext_trans ?_ (Aft.use _) | refine ext_trans ?_ (by assumption))
  · have q0 : (ck2 a b c d != 0) = true := by rw [e0]; rfl
    have E0 := Lib.hid e0
    clear e0
    go_enter Try.func18, Try.ntmps18
    go_wp2_with (first
      | (go_at_call 25; (with_reducible refine (checks_any a b c d ha hb hc hd _ _ (by go_simp) (by go_simp) (by go_simp) (by go_simp)).mono ?_); rintro e w' ⟨rfl, xb⟩; obtain ⟨xc, xf, xl, xz⟩ := ext_use xb; try simp at xz)
     )
    refine bodyPost_ret (v := _) ?h rfl ⟨rfl, ?_⟩
    case h => simp [results, Try.results18, go_sem, joinL, joinH, E0.out, xc, xf, xl]
    repeat (first | exact ext_refl _ | assumption | refine ext_setCell ?_ (by simp; try omega) _ | refine ext_alloc ?_ _ | refine ext_drew ?_ | refine ext_drewN ?_ _ | refine ext_trans ?_ (Aft.use _) | refine ext_trans ?_ (by assumption))
theorem rjoin_any (a b c d : Nat) (ha : a < 2 ^ 64) (hb : b < 2 ^ 64) (hc : c < 2 ^ 64) (hd : d < 2 ^ 64) (w : World) : Calls Try.prog 19 #[.agg #[.float .f64 a, .float .f64 b], .agg #[.float .f64 c, .float .f64 d]] w fun e w' => e = .returned (.tuple #[.agg #[.float .f64 (joinL a b c d), .float .f64 (joinH a b c d)], .int .i64 (ck2 a b c d)]) ∧ Ext w w' := by
  rcases ck2_two a b c d with e0 | e0
  · have q0 : (ck2 a b c d != 0) = false := by rw [e0]; rfl
    have n1 := nan_of (ck2_of e0).1
    have n2 := nan_of (ck2_of e0).2
    have f1 : ford a c = true := ford_of n1.1 n2.1
    have f2 : ford b d = true := ford_of n1.2 n2.2
    clear n1 n2
    have E0 := Lib.hid e0
    clear e0
    go_enter Try.func19, Try.ntmps19
    go_wp2_with (first
      | (go_at_call 26; (with_reducible refine (two_any _ _ _ _ ha hb hc hd _).mono ?_); rintro e w' ⟨rfl, xb⟩; obtain ⟨xc, xf, xl, xz⟩ := ext_use xb; try simp at xz)
     )
    all_goals
      refine bodyPost_ret (v := _) ?h rfl ⟨rfl, ?_⟩
      case h => simp [results, Try.results19, go_sem, joinL, joinH, E0.out, xc, xf, xl, *]
      repeat (first | exact ext_refl _ | assumption | refine ext_setCell ?_ (by simp; try omega) _ | refine ext_alloc ?_ _ | refine ext_drew ?_ | refine ext_drewN ?_ _ | refine ext_trans ?_ (Aft.use _) | refine ext_trans ?_ (by assumption))
  · have q0 : (ck2 a b c d != 0) = true := by rw [e0]; rfl
    have E0 := Lib.hid e0
    clear e0
    go_enter Try.func19, Try.ntmps19
    go_wp2_with (first
      | (go_at_call 26; (with_reducible refine (two_any _ _ _ _ ha hb hc hd _).mono ?_); rintro e w' ⟨rfl, xb⟩; obtain ⟨xc, xf, xl, xz⟩ := ext_use xb; try simp at xz)
     )
    refine bodyPost_ret (v := _) ?h rfl ⟨rfl, ?_⟩
    case h => simp [results, Try.results19, go_sem, joinL, joinH, E0.out, xc, xf, xl]
    repeat (first | exact ext_refl _ | assumption | refine ext_setCell ?_ (by simp; try omega) _ | refine ext_alloc ?_ _ | refine ext_drew ?_ | refine ext_drewN ?_ _ | refine ext_trans ?_ (Aft.use _) | refine ext_trans ?_ (by assumption))
end Go.Proofs.Ythmfmfggihejoaa
