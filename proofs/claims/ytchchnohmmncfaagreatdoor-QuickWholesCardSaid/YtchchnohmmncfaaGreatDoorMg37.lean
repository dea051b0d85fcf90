/- Lemmas of this proof, laid together: R5I, R5J, R5K, R5L. -/
import Derived.Test.YtchchnohmmncfaaGreatDoorMg36
import Derived.Test.YtchchnohmmncfaaGreatDoorMg22
import Derived.Deep.DeepCutAuto
import Derived.Deep.RegionWith
import Derived.Deep.LoopGhost
import Derived.Deep.RegionHeld3
import Derived.Test.YtchchnohmmncfaaGreatDoorMg24
import Derived.Test.YtchchnohmmncfaaGreatDoorMg09
set_option linter.unusedSimpArgs false
set_option linter.unusedVariables false
section
/- The document's rounding: what stands beyond the greatest float; packed. -/
namespace Go.Proofs.YtchchnohmmncfaaGreatDoor.NB
open Go.RowKit
attribute [local go_sem] sz2 sz3 sz4 sz5 sz6 sz7 sz8
set_option maxHeartbeats 8000000
set_option maxRecDepth 100000
attribute [local irreducible] Calls
theorem r5_beyond (E F : Nat) (neg : Bool) (hE : 2 ≤ E ∧ E ≤ 11) (hF : 1 ≤ F ∧ F ≤ 52) (w : World) : Calls Tryz.prog 43 #[fmV E F, .bool neg, .int .u8 0] w fun e w' => e = .returned (.int .u64 ((infQ E F : Nat) : Int)) ∧ Ext w w' := by
  obtain ⟨I, hI⟩ : ∃ I, infQ E F = I := ⟨_, rfl⟩
  obtain ⟨i1, i2, i3⟩ := inf_wrap hE.2 hF.2 hI hE.1
  have hE1 := hE.1
  have hE2 := hE.2
  have hF1 := hF.1
  have hF2 := hF.2
  rw [hI]
  clear hI hE hF
  go_enter Tryz.func43, Tryz.ntmps43
  go_wp2
  refine bodyPost_ret (v := .int .u64 ↑I) ?h rfl ⟨rfl, ?_⟩
  case h => simp [results, Tryz.results43, go_sem, i1]
  repeat (first | exact ext_refl _ | assumption | refine ext_setCell ?_ (by simp; try omega) _ | refine ext_alloc ?_ _ | refine ext_drew ?_ | refine ext_drewN ?_ _ | refine ext_trans ?_ (Aft.use _) | refine ext_trans ?_ (by assumption))
theorem cmp_lo {a d p q : Nat} (hd : 0 < d) : cmpN (loN a d * q) (p * loD a d) = cmpN (a * q) (p * d) := by
  have hg : 0 < Nat.gcd a d := Nat.gcd_pos_of_pos_right _ hd
  obtain ⟨x, hx⟩ := Nat.gcd_dvd_left a d
  obtain ⟨y, hy⟩ := Nat.gcd_dvd_right a d
  have e1 : loN a d = x := Nat.div_eq_of_eq_mul_right hg hx
  have e2 : loD a d = y := Nat.div_eq_of_eq_mul_right hg hy
  rw [e1, e2]
  generalize Nat.gcd a d = g at *
  rw [hx, hy, ← cmpN_scale (a := x * q) (b := p * y) hg]
  congr 1 <;> ac_rfl
theorem lg_lo {a d : Nat} (ha : 0 < a) (hd : 0 < d) : lgQ (loN a d) (loD a d) = lgQ a d := by
  obtain ⟨-, c2, c3, -⟩ := lo_cross (a := a) hd
  have hg : 0 < Nat.gcd a d := Nat.gcd_pos_of_pos_right _ hd
  obtain ⟨x, hx⟩ := Nat.gcd_dvd_left a d
  obtain ⟨y, hy⟩ := Nat.gcd_dvd_right a d
  have e1 : loN a d = x := Nat.div_eq_of_eq_mul_right hg hx
  have e2 : loD a d = y := Nat.div_eq_of_eq_mul_right hg hy
  have h := lgQ_scale (g := Nat.gcd a d) (c3 ha) c2 hg
  rw [e1, e2] at h ⊢
  rw [Nat.mul_comm x, Nat.mul_comm y, ← hx, ← hy] at h
  exact h.symm
theorem lo_whole {X Y M : Nat} (hY : 0 < Y) (h : X = M * Y) : loN X Y = M ∧ loD X Y = 1 := by
  subst h
  have hg : Nat.gcd (M * Y) Y = Y := Nat.gcd_mul_left_left _ _
  unfold loN loD
  rw [hg, Nat.mul_div_cancel _ hY, Nat.div_self hY]
  exact ⟨rfl, rfl⟩
/-- What is rounded to, times a power of two, is a whole number. -/
theorem lo_times {M : Nat} {q k : Int} {N : Nat} (h : tA M q * tA 1 k = N * (tD 1 q * tD 1 k)) : loN (loN (tA M q) (tD 1 q) * tA 1 k) (loD (tA M q) (tD 1 q) * tD 1 k) = N ∧ loD (loN (tA M q) (tD 1 q) * tA 1 k) (loD (tA M q) (tD 1 q) * tD 1 k) = 1 := by
  have hd : 0 < tD 1 q := Nat.mul_pos (by decide) (Nat.two_pow_pos _)
  have hk : 0 < tD 1 k := Nat.mul_pos (by decide) (Nat.two_pow_pos _)
  obtain ⟨c1, c2, -, -⟩ := lo_cross (a := tA M q) hd
  refine lo_whole (Nat.mul_pos c2 hk) (Nat.eq_of_mul_eq_mul_right hd ?_)
  calc loN (tA M q) (tD 1 q) * tA 1 k * tD 1 q = loN (tA M q) (tD 1 q) * tD 1 q * tA 1 k := by ac_rfl
    _ = tA M q * loD (tA M q) (tD 1 q) * tA 1 k := by rw [c1]
    _ = tA M q * tA 1 k * loD (tA M q) (tD 1 q) := by ac_rfl
    _ = N * (loD (tA M q) (tD 1 q) * tD 1 k) * tD 1 q := by rw [h]; ac_rfl
end Go.Proofs.YtchchnohmmncfaaGreatDoor.NB
end
section
/- The document's rounding: packed. -/
namespace Go.Proofs.YtchchnohmmncfaaGreatDoor.NB
open Go.RowKit
attribute [local go_sem] sz2 sz3 sz4 sz5 sz6 sz7 sz8
set_option maxHeartbeats 8000000
set_option maxRecDepth 100000
attribute [local irreducible] Calls
theorem least_cmp {M F : Nat} {q b low : Int} (hq : low - F = q) (hl : 1 - b ≤ low) (h : low = 1 - b ∨ 2 ^ F ≤ M) : cmpN (tA M q * tD 1 (1 - b)) (tA 1 (1 - b) * tD 1 q) < 0 ↔ (low = 1 - b ∧ M < 2 ^ F) := by
  rw [pow_cmp, cmpN_neg, Nat.one_mul]
  by_cases h1 : low = 1 - b
  · have k1 : (q - (1 - b)).toNat = 0 := by omega
    have k2 : (1 - b - q).toNat = F := by omega
    rw [k1, k2, Nat.pow_zero, Nat.mul_one]
    exact ⟨fun q => ⟨h1, q⟩, fun q => q.2⟩
  · have hM : 2 ^ F ≤ M := by
      rcases h with h | h
      · exact absurd h h1
      · exact h
    constructor
    · intro g
      exfalso
      have g1 : 2 ^ (1 - b - q).toNat ≤ 2 ^ F := Nat.pow_le_pow_right (by decide) (by omega)
      have g2 := Nat.two_pow_pos (q - (1 - b)).toNat
      have g3 : M * 1 ≤ M * 2 ^ (q - (1 - b)).toNat := Nat.mul_le_mul_left _ g2
      omega
    · rintro ⟨g, _⟩
      exact absurd g h1
theorem times_same (M : Nat) (q k : Int) (h : k = -q) : tA M q * tA 1 k = M * (tD 1 q * tD 1 k) := by
  subst h
  unfold tA tD
  rw [Int.neg_neg]
  simp only [Nat.one_mul]
  ac_rfl
theorem times_less (F : Nat) (q k : Int) (h : k = -q - 1) : tA (2 ^ (F + 1)) q * tA 1 k = 2 ^ F * (tD 1 q * tD 1 k) := by
  subst h
  unfold tA tD
  simp only [Nat.one_mul]
  rw [← Nat.pow_add, ← Nat.pow_add, ← Nat.pow_add, ← Nat.pow_add]
  congr 1
  omega
theorem pow_len (k : Int) (hk : -60000 ≤ k ∧ k ≤ 60000) : (lim (tA 1 k)).length ≤ 4000 ∧ (lim (tD 1 k)).length ≤ 4000 := by
  unfold tA tD
  rw [Nat.one_mul, Nat.one_mul]
  exact ⟨two_len _ (by omega), two_len _ (by omega)⟩
theorem pack_len (E F : Nat) (hE : 2 ≤ E ∧ E ≤ 11) (hF : 1 ≤ F ∧ F ≤ 52) (M : Nat) (q low : Int) (hq : low - F = q) (hM : M ≤ 2 ^ (F + 1)) (hlow : 1 - biasF E ≤ low ∧ low ≤ biasF E) : (lim (loN (tA M q) (tD 1 q))).length ≤ 1700 ∧ (lim (loD (tA M q) (tD 1 q))).length ≤ 1700 := by
  obtain ⟨b1, b2⟩ := bias_rng hE
  have hp53 : 2 ^ (F + 1) ≤ 2 ^ 53 := Nat.pow_le_pow_right (by decide) (by omega)
  have lM : (lim M).length ≤ 2 := lim_bits (by have := bits_lt (show M < 2 ^ 54 by have : (2 : Nat) ^ 53 < 2 ^ 54 := by decide
                                                                                   omega); omega)
  have h1 := tA_len M q 2 (by omega) lM
  have h2 := tD_len 1 q 2 (by omega) (by have e : (lim 1).length = 1 := by kernel_rfl
                                         omega)
  have h3 := lo_len h1 h2
  omega
section
variable (E F : Nat) (hE : 2 ≤ E ∧ E ≤ 11) (hF : 1 ≤ F ∧ F ≤ 52) (b lo M : Nat) (q low : Int) (hq : low - F = q) (hM : M ≤ 2 ^ (F + 1)) (hlow : 1 - biasF E ≤ low ∧ low ≤ biasF E) (w : World) (hT : Tz w) (hx : Qat w b ((loN (tA M q) (tD 1 q) : Nat) : Int) (loD (tA M q) (tD 1 q)) lo)
include hE hF hq hM hlow hT hx
theorem r5_PackA (hA : low = 1 - biasF E ∧ M < 2 ^ F) : Calls Tryz.prog 44 #[fmV E F, .pointer (some ⟨b, 0, none⟩)] w fun e w' => e = .returned (.int .u64 (M : Int)) ∧ Ext w w' := by
  obtain ⟨b1, b2⟩ := bias_rng hE
  obtain ⟨l1, l2⟩ := pack_len E F hE hF M q low hq hM hlow
  have hd : 0 < tD 1 q := Nat.mul_pos (by decide) (Nat.two_pow_pos _)
  have kL := Lib.hid (fun w => r5_Least E F hE w)
  have kB := Lib.hid (fun w => r5_Bias E F hE w)
  obtain ⟨p1, p2⟩ := pow_len (1 - biasF E) (by omega)
  obtain ⟨k, hk⟩ : ∃ k : Int, biasF E - 1 + F = k := ⟨_, rfl⟩
  obtain ⟨p3, p4⟩ := pow_len k (by omega)
  obtain ⟨t1, t2⟩ := lo_times (times_same M q k (by omega))
  have kP := Lib.hid (fun w => r5_power k (by omega) w)
  obtain ⟨C, hC⟩ : ∃ C, cmpN (tA M q * tD 1 (1 - biasF E)) (tA 1 (1 - biasF E) * tD 1 q) = C := ⟨_, rfl⟩
  have hCn : C < 0 := by rw [← hC]; exact (least_cmp hq hlow.1 (.inl hA.1)).2 hA
  have kC := Lib.hid (fun u g l (he : Ext w u) (h : Qat u g ((tA 1 (1 - biasF E) : Nat) : Int) (tD 1 (1 - biasF E)) l) => show Calls Tryz.prog 40 #[.pointer (some ⟨b, 0, none⟩), .pointer (some ⟨g, 0, none⟩)] u fun e w' => e = .returned (.int .i64 C) ∧ Ext u w' by
    have := o_Cmp b g lo l _ _ _ _ (by rw [Int.natAbs_natCast]; omega) (by omega) (by rw [Int.natAbs_natCast]; omega) (by omega) u (hx.ext he) h
    rwa [← Int.natCast_mul, ← Int.natCast_mul, ← cmpN_sign, cmp_lo hd, hC] at this)
  have kM := Lib.hid (fun u r g l (hE : Ext w u) (hr : RatRoom u r) (h5 : Qat u g ((tA 1 k : Nat) : Int) (tD 1 k) l) => show Calls Tryz.prog 73 #[.pointer (some ⟨r, 0, none⟩), .pointer (some ⟨b, 0, none⟩), .pointer (some ⟨g, 0, none⟩)] u (QTc u r ((M : Nat) : Int) 1) by
    have := o_Mul r b g lo l _ _ _ _ (by rw [Int.natAbs_natCast]; omega) (by omega) (by rw [Int.natAbs_natCast]; omega) (by omega) u (hT.ext hE) hr (hx.ext hE) h5
    rw [← Int.natCast_mul, (can_lo _ _).1, (can_lo _ _).2, t1, t2] at this
    exact this)
  have hM53 : M < 9007199254740992 := by
    have : 2 ^ F ≤ 2 ^ 52 := Nat.pow_le_pow_right (by decide) hF.2
    have e : (2 : Nat) ^ 52 < 9007199254740992 := by decide
    omega
  have lM : (lim M).length ≤ 2 := lim_bits (by have := bits_lt (show M < 2 ^ 54 by have : (9007199254740992 : Nat) < 2 ^ 54 := by decide
                                                                                   omega); omega)
  have kN := Lib.hid (fun u r l (h : Qat u r ((M : Nat) : Int) 1 l) => o_Num r l ((M : Nat) : Int) 1 (by rw [Int.natAbs_natCast]; omega) u h)
  have kU := Lib.hid (fun u g l (h : Iat u g ((M : Nat) : Int) l) => o_Uint64 g M l (by omega) u h)
  have hFI1 : (1 : Int) ≤ (F : Int) := by omega
  have hFI2 : (F : Int) ≤ 52 := by omega
  have hdC : decide (C < 0) = true := decide_eq_true hCn
  have hk1 : 0 ≤ k := by omega
  have hk2 : k ≤ 1100 := by omega
  have hkw : IntKind.i64.wrap k = k := by rw [IntKind.wrap_i64]; omega
  generalize tA 1 (1 - biasF E) = P1 at *
  generalize tD 1 (1 - biasF E) = P2 at *
  generalize tA 1 k = P3 at *
  generalize tD 1 k = P4 at *
  obtain ⟨bz, hbz⟩ : ∃ bz, biasF E = bz := ⟨_, rfl⟩
  rw [hbz] at kB b1 b2 hk
  have hkk : IntKind.i64.wrap (IntKind.i64.wrap (bz - 1) + (F : Int)) = k := by rw [IntKind.wrap_i64, IntKind.wrap_i64]; omega
  clear hx hT hC hA hlow hM hq l1 l2 p1 p2 p3 p4 t1 t2 hd lM hbz hE hF
  go_enter Tryz.func44, Tryz.ntmps44
  go_upto_region 1 with fail
  obtain ⟨W, hW⟩ : ∃ W, W = w.alloc (.cells #[.int .i64 (E : Int), .int .i64 (F : Int)] 47) := ⟨_, rfl⟩
  obtain ⟨B0, hB0⟩ : ∃ B0, w.heap.size = B0 := ⟨_, rfl⟩
  have xW : Ext w W := by rw [hW]; exact ext_alloc (ext_refl _) _
  have bx : Hid (∀ u, Ext W u → u.cell? ⟨B0, 0, none⟩ = some (.int .i64 (E : Int)) ∧ u.cell? ⟨B0, 1, none⟩ = some (.int .i64 (F : Int)) ∧ B0 < u.heap.size) := Lib.hid fun u hu => by
    have l0 : B0 < W.heap.size := by rw [hW, ← hB0]; simp
    refine ⟨(Below.cell (p := ⟨B0, 0, none⟩) hu l0).trans ?_, (Below.cell (p := ⟨B0, 1, none⟩) hu l0).trans ?_, Nat.lt_of_lt_of_le l0 (ext_size hu)⟩
    all_goals (rw [hW, ← hB0]; simp [go_sem])
  obtain ⟨c0, c1, cl⟩ := bx.out W (ext_refl _)
  have hWs : W.heap.size = B0 + 1 := by rw [hW, ← hB0]; simp
  rw [← hW, hB0]
  clear hW
  go_wp2_with (first
    | (go_at_call 41; (with_reducible refine (kL.out _).mono ?_); rintro e w1 ⟨g1, rfl, hQ1, hg1, xb1⟩; obtain ⟨c0, c1, cl⟩ := bx.out w1 xb1)
    | (go_at_call 40; (with_reducible refine (kC.out _ _ _ (ext_trans xW xb1) hQ1.out).mono ?_); rintro e w2 ⟨rfl, xb2⟩; have hX2 := ext_trans xb1 xb2; obtain ⟨c0, c1, cl⟩ := bx.out w2 hX2))
  clear xb1 xb2 hQ1 hg1
  go_region_held3 (fun w' => w'.cell? ⟨B0, 0, none⟩ = some (.int .i64 (E : Int)) ∧ w'.cell? ⟨B0, 1, none⟩ = some (.int .i64 (F : Int))) (exact ⟨(bx.out _ (by (repeat (first | exact ext_refl _ | assumption | refine ext_setCell ?_ (by simp; try omega) _ | refine ext_alloc ?_ _ | refine ext_drew ?_ | refine ext_drewN ?_ _ | refine ext_trans ?_ (Aft.use _) | refine ext_trans ?_ (by assumption))))).1, (bx.out _ (by (repeat (first | exact ext_refl _ | assumption | refine ext_setCell ?_ (by simp; try omega) _ | refine ext_alloc ?_ _ | refine ext_drew ?_ | refine ext_drewN ?_ _ | refine ext_trans ?_ (Aft.use _) | refine ext_trans ?_ (by assumption))))).2.1⟩)
    (first
    | (go_at_call 39; (with_reducible refine (kB.out _).mono ?_); rintro e w3 ⟨rfl, xb3⟩; (try (refine byz5 (P := RatRoom w3 w2.heap.size) ?_ ?_; (focus (first | (refine RatRoom.ext (rat_room_new w2 _ rfl) ?_; (repeat (first | exact ext_refl _ | assumption | refine ext_setCell ?_ (by simp; try omega) _ | refine ext_alloc ?_ _ | refine ext_drew ?_ | refine ext_drewN ?_ _ | refine ext_trans ?_ (Aft.use _) | refine ext_trans ?_ (by assumption))); done) | (refine RatRoom.ext (rat_room_new w2.drew _ rfl) ?_; (repeat (first | exact ext_refl _ | assumption | refine ext_setCell ?_ (by simp; try omega) _ | refine ext_alloc ?_ _ | refine ext_drew ?_ | refine ext_drewN ?_ _ | refine ext_trans ?_ (Aft.use _) | refine ext_trans ?_ (by assumption))); done))); intro Ra)); have hX3 : Ext W w3 := (by (repeat (first | exact ext_refl _ | assumption | refine ext_setCell ?_ (by simp; try omega) _ | refine ext_alloc ?_ _ | refine ext_drew ?_ | refine ext_drewN ?_ _ | refine ext_trans ?_ (Aft.use _) | refine ext_trans ?_ (by assumption)))))
    | (go_at_call 71; (with_reducible refine (kP.out _).mono ?_); rintro e w4 ⟨g4, rfl, hQ4, hg4, xb4⟩; (try (refine byz5 (P := RatRoom w4 w2.heap.size) ?_ ?_; (focus (refine Ra.ext ?_; (repeat (first | exact ext_refl _ | assumption | refine ext_setCell ?_ (by simp; try omega) _ | refine ext_alloc ?_ _ | refine ext_drew ?_ | refine ext_drewN ?_ _ | refine ext_trans ?_ (Aft.use _) | refine ext_trans ?_ (by assumption))); done)); intro Ra)); (try (refine byz5 (P := RatRoom w4 w3.heap.size) ?_ ?_; (focus (first | (refine RatRoom.ext (rat_room_new w3 _ rfl) ?_; (repeat (first | exact ext_refl _ | assumption | refine ext_setCell ?_ (by simp; try omega) _ | refine ext_alloc ?_ _ | refine ext_drew ?_ | refine ext_drewN ?_ _ | refine ext_trans ?_ (Aft.use _) | refine ext_trans ?_ (by assumption))); done) | (refine RatRoom.ext (rat_room_new w3.drew _ rfl) ?_; (repeat (first | exact ext_refl _ | assumption | refine ext_setCell ?_ (by simp; try omega) _ | refine ext_alloc ?_ _ | refine ext_drew ?_ | refine ext_drewN ?_ _ | refine ext_trans ?_ (Aft.use _) | refine ext_trans ?_ (by assumption))); done))); intro Ra)); have hX4 : Ext W w4 := (by (repeat (first | exact ext_refl _ | assumption | refine ext_setCell ?_ (by simp; try omega) _ | refine ext_alloc ?_ _ | refine ext_drew ?_ | refine ext_drewN ?_ _ | refine ext_trans ?_ (Aft.use _) | refine ext_trans ?_ (by assumption)))))
    | (go_at_call 73; (with_reducible refine (kM.out _ _ _ _ (ext_trans xW (by (repeat (first | exact ext_refl _ | assumption | refine ext_setCell ?_ (by simp; try omega) _ | refine ext_alloc ?_ _ | refine ext_drew ?_ | refine ext_drewN ?_ _ | refine ext_trans ?_ (Aft.use _) | refine ext_trans ?_ (by assumption))))) ?_ (hQ4.out.ext (by (repeat (first | exact ext_refl _ | assumption | refine ext_setCell ?_ (by simp; try omega) _ | refine ext_alloc ?_ _ | refine ext_drew ?_ | refine ext_drewN ?_ _ | refine ext_trans ?_ (Aft.use _) | refine ext_trans ?_ (by assumption)))))).mono ?_); (focus (first | (refine Ra.ext ?_; (repeat (first | exact ext_refl _ | assumption | refine ext_setCell ?_ (by simp; try omega) _ | refine ext_alloc ?_ _ | refine ext_drew ?_ | refine ext_drewN ?_ _ | refine ext_trans ?_ (Aft.use _) | refine ext_trans ?_ (by assumption))); done) | (refine RatRoom.ext (rat_room_new w4 _ rfl) ?_; (repeat (first | exact ext_refl _ | assumption | refine ext_setCell ?_ (by simp; try omega) _ | refine ext_alloc ?_ _ | refine ext_drew ?_ | refine ext_drewN ?_ _ | refine ext_trans ?_ (Aft.use _) | refine ext_trans ?_ (by assumption))); done) | (refine RatRoom.ext (rat_room_new w4.drew _ rfl) ?_; (repeat (first | exact ext_refl _ | assumption | refine ext_setCell ?_ (by simp; try omega) _ | refine ext_alloc ?_ _ | refine ext_drew ?_ | refine ext_drewN ?_ _ | refine ext_trans ?_ (Aft.use _) | refine ext_trans ?_ (by assumption))); done))); rintro e w5 ⟨rfl, hQ5, xt5⟩; have hX5 : Ext W w5 := (Tch.ext xt5 (by (repeat (first | exact ext_refl _ | assumption | refine ext_setCell ?_ (by simp; try omega) _ | refine ext_alloc ?_ _ | refine ext_drew ?_ | refine ext_drewN ?_ _ | refine ext_trans ?_ (Aft.use _) | refine ext_trans ?_ (by assumption)))) (by have s2 := ext_size hX2; have s3 := ext_size hX3; have s4 := ext_size hX4; omega))))
  all_goals
    go_wp2_with (first
      | (go_at_call 68; (with_reducible refine (kN.out _ _ _ hQ5.out).mono ?_); rintro e w6 ⟨g6, rfl, hI6, hg6, xb6⟩)
      | (go_at_call 77; (with_reducible refine (kU.out _ _ _ hI6.out).mono ?_); rintro e w7 ⟨rfl, xb7⟩))
    refine bodyPost_ret (v := .int .u64 ↑M) ?h rfl ⟨rfl, ext_trans xW (ext_trans hX5 (ext_trans xb6 xb7))⟩
    case h => simp [results, Tryz.results44, go_sem]
theorem r5_PackB (hB : 2 ^ F ≤ M) (R : Nat) (hR63 : R < 9223372036854775808) (hR : (R : Int) = (lgQ (tA M q) (tD 1 q) + biasF E) * 2 ^ F + (if M = 2 ^ (F + 1) then 2 ^ F else (M : Int)) - 2 ^ F) : Calls Tryz.prog 44 #[fmV E F, .pointer (some ⟨b, 0, none⟩)] w fun e w' => e = .returned (.int .u64 (R : Int)) ∧ Ext w w' := by
  obtain ⟨b1, b2⟩ := bias_rng hE
  obtain ⟨l1, l2⟩ := pack_len E F hE hF M q low hq hM hlow
  have hd : 0 < tD 1 q := Nat.mul_pos (by decide) (Nat.two_pow_pos _)
  have hM0 : 0 < M := Nat.lt_of_lt_of_le (Nat.two_pow_pos F) hB
  have hA0 : 0 < tA M q := Nat.mul_pos hM0 (Nat.two_pow_pos _)
  obtain ⟨c1, c2, c3, -⟩ := lo_cross (a := tA M q) hd
  have kL := Lib.hid (fun w => r5_Least E F hE w)
  have kB := Lib.hid (fun w => r5_Bias E F hE w)
  obtain ⟨p1, p2⟩ := pow_len (1 - biasF E) (by omega)
  obtain ⟨C, hC⟩ : ∃ C, cmpN (tA M q * tD 1 (1 - biasF E)) (tA 1 (1 - biasF E) * tD 1 q) = C := ⟨_, rfl⟩
  have hCn : ¬ C < 0 := by
    rw [← hC, least_cmp hq hlow.1 (.inr hB)]
    rintro ⟨_, g⟩
    omega
  have kC := Lib.hid (fun u g l (he : Ext w u) (h : Qat u g ((tA 1 (1 - biasF E) : Nat) : Int) (tD 1 (1 - biasF E)) l) => show Calls Tryz.prog 40 #[.pointer (some ⟨b, 0, none⟩), .pointer (some ⟨g, 0, none⟩)] u fun e w' => e = .returned (.int .i64 C) ∧ Ext u w' by
    have := o_Cmp b g lo l _ _ _ _ (by rw [Int.natAbs_natCast]; omega) (by omega) (by rw [Int.natAbs_natCast]; omega) (by omega) u (hx.ext he) h
    rwa [← Int.natCast_mul, ← Int.natCast_mul, ← cmpN_sign, cmp_lo hd, hC] at this)
  obtain ⟨ey, hey⟩ : ∃ ey, lgQ (tA M q) (tD 1 q) = ey := ⟨_, rfl⟩
  have hlm := log_man (q := q) hB hM
  rw [hey] at hlm hR
  have kG := Lib.hid (fun u (he : Ext w u) => show Calls Tryz.prog 37 #[.pointer (some ⟨b, 0, none⟩)] u fun e w' => e = .returned (.int .i64 ey) ∧ Ext u w' by
    have := r5_log b lo _ _ (c3 hA0) c2 (by omega) (by omega) u (hx.ext he)
    rwa [lg_lo hA0 hd, hey] at this)
  have hey2 : 1 - biasF E ≤ ey ∧ ey ≤ biasF E + 1 := by
    by_cases g : M = 2 ^ (F + 1)
    · rw [if_pos g] at hlm; omega
    · rw [if_neg g] at hlm; omega
  obtain ⟨k, hk⟩ : ∃ k : Int, (F : Int) - ey = k := ⟨_, rfl⟩
  obtain ⟨N, hN⟩ : ∃ N : Nat, (if M = 2 ^ (F + 1) then 2 ^ F else M) = N := ⟨_, rfl⟩
  have hNI : (if M = 2 ^ (F + 1) then 2 ^ F else (M : Int)) = (N : Int) := by
    rw [← hN]
    by_cases g : M = 2 ^ (F + 1)
    · rw [if_pos g, if_pos g]; simp
    · rw [if_neg g, if_neg g]
  rw [hNI] at hR
  obtain ⟨p3, p4⟩ := pow_len k (by omega)
  obtain ⟨t1, t2⟩ := lo_times (M := M) (q := q) (k := k) (N := N) (by
    by_cases g : M = 2 ^ (F + 1)
    · rw [if_pos g] at hlm hN
      rw [← hN, g]
      exact times_less F q k (by omega)
    · rw [if_neg g] at hlm hN
      rw [← hN]
      exact times_same M q k (by omega))
  have kP := Lib.hid (fun w => r5_power k (by omega) w)
  have kM := Lib.hid (fun u r g l (hE : Ext w u) (hr : RatRoom u r) (h5 : Qat u g ((tA 1 k : Nat) : Int) (tD 1 k) l) => show Calls Tryz.prog 73 #[.pointer (some ⟨r, 0, none⟩), .pointer (some ⟨b, 0, none⟩), .pointer (some ⟨g, 0, none⟩)] u (QTc u r ((N : Nat) : Int) 1) by
    have := o_Mul r b g lo l _ _ _ _ (by rw [Int.natAbs_natCast]; omega) (by omega) (by rw [Int.natAbs_natCast]; omega) (by omega) u (hT.ext hE) hr (hx.ext hE) h5
    rw [← Int.natCast_mul, (can_lo _ _).1, (can_lo _ _).2, t1, t2] at this
    exact this)
  have hN53 : N ≤ 9007199254740992 := by
    have h1 : 2 ^ F ≤ 2 ^ 52 := Nat.pow_le_pow_right (by decide) hF.2
    have h2 : 2 ^ (F + 1) ≤ 2 ^ 53 := Nat.pow_le_pow_right (by decide) (by omega)
    have e : (2 : Nat) ^ 52 < 9007199254740992 := by decide
    have e2 : (2 : Nat) ^ 53 = 9007199254740992 := by decide
    rw [← hN]
    split <;> omega
  have lN : (lim N).length ≤ 2 := lim_bits (by have := bits_lt (show N < 2 ^ 54 by have : (9007199254740992 : Nat) < 2 ^ 54 := by decide
                                                                                   omega); omega)
  have kN := Lib.hid (fun u r l (h : Qat u r ((N : Nat) : Int) 1 l) => o_Num r l ((N : Nat) : Int) 1 (by rw [Int.natAbs_natCast]; omega) u h)
  have kU := Lib.hid (fun u g l (h : Iat u g ((N : Nat) : Int) l) => o_Uint64 g N l (by omega) u h)
  have hFI1 : (1 : Int) ≤ (F : Int) := by omega
  have hFI2 : (F : Int) ≤ 52 := by omega
  have hdC : decide (C < 0) = false := decide_eq_false hCn
  have hk1 : -1100 ≤ k := by omega
  have hk2 : k ≤ 1100 := by omega
  generalize tA 1 (1 - biasF E) = P1 at *
  generalize tD 1 (1 - biasF E) = P2 at *
  generalize tA 1 k = P3 at *
  generalize tD 1 k = P4 at *
  obtain ⟨bz, hbz⟩ : ∃ bz, biasF E = bz := ⟨_, rfl⟩
  rw [hbz] at kB b1 b2 hey2 hR
  obtain ⟨he1, he2⟩ := hey2
  have hkk : IntKind.i64.wrap ((F : Int) - ey) = k := by rw [IntKind.wrap_i64]; omega
  have heb : ey + bz ≤ 2047 := by omega
  have heb0 : 1 ≤ ey + bz := by omega
  have hp52 : 2 ^ F ≤ 4503599627370496 := by
    have h1 : 2 ^ F ≤ 2 ^ 52 := Nat.pow_le_pow_right (by decide) hF.2
    have e : (2 : Nat) ^ 52 = 4503599627370496 := by decide
    omega
  have e2F : ((2 ^ F : Nat) : Int) = 2 ^ F := by simp
  have hbits : IntKind.u64.wrap (IntKind.u64.wrap (IntKind.u64.wrap ((ey + bz) * 2 ^ F) + (N : Int)) - IntKind.u64.wrap (2 ^ F)) = (R : Int) := by
    rw [← e2F] at hR ⊢
    rw [IntKind.wrap_u64, IntKind.wrap_u64, IntKind.wrap_u64, IntKind.wrap_u64]
    generalize (2 ^ F : Nat) = p at *
    have h1 : (ey + bz) * (p : Int) ≤ 2047 * (p : Int) := Int.mul_le_mul_of_nonneg_right heb (by omega)
    have h0 : 0 ≤ (ey + bz) * (p : Int) := Int.mul_nonneg (by omega) (by omega)
    generalize (ey + bz) * (p : Int) = X at *
    omega
  have hval : IntKind.u64.wrap (IntKind.u64.wrap (IntKind.u64.wrap (IntKind.u64.wrap (IntKind.i64.wrap (ey + bz)) * 2 ^ min (IntKind.u64.wrap (F : Int)).toNat 64) + (N : Int)) - IntKind.u64.wrap (2 ^ min (IntKind.u64.wrap (F : Int)).toNat 64)) = (R : Int) := by
    have f1 : IntKind.u64.wrap (F : Int) = (F : Int) := by rw [IntKind.wrap_u64]; omega
    have f2 : IntKind.i64.wrap (ey + bz) = ey + bz := by rw [IntKind.wrap_i64]; omega
    have f3 : IntKind.u64.wrap (ey + bz) = ey + bz := by rw [IntKind.wrap_u64]; omega
    rw [f1, Int.toNat_natCast, Nat.min_eq_left (show F ≤ 64 by omega), f2, f3]
    exact hbits
  clear hbits
  clear hx hT hC hlow hM hq l1 l2 p1 p2 p3 p4 t1 t2 hd lN hbz hE hF hR hB hM0 hA0 c1 c2 c3 hlm hey hN hNI hp52 e2F
  go_enter Tryz.func44, Tryz.ntmps44
  go_upto_region 1 with fail
  obtain ⟨W, hW⟩ : ∃ W, W = w.alloc (.cells #[.int .i64 (E : Int), .int .i64 (F : Int)] 47) := ⟨_, rfl⟩
  obtain ⟨B0, hB0⟩ : ∃ B0, w.heap.size = B0 := ⟨_, rfl⟩
  have xW : Ext w W := by rw [hW]; exact ext_alloc (ext_refl _) _
  have bx : Hid (∀ u, Ext W u → u.cell? ⟨B0, 0, none⟩ = some (.int .i64 (E : Int)) ∧ u.cell? ⟨B0, 1, none⟩ = some (.int .i64 (F : Int)) ∧ B0 < u.heap.size) := Lib.hid fun u hu => by
    have l0 : B0 < W.heap.size := by rw [hW, ← hB0]; simp
    refine ⟨(Below.cell (p := ⟨B0, 0, none⟩) hu l0).trans ?_, (Below.cell (p := ⟨B0, 1, none⟩) hu l0).trans ?_, Nat.lt_of_lt_of_le l0 (ext_size hu)⟩
    all_goals (rw [hW, ← hB0]; simp [go_sem])
  obtain ⟨c0, c1, cl⟩ := bx.out W (ext_refl _)
  have hWs : W.heap.size = B0 + 1 := by rw [hW, ← hB0]; simp
  rw [← hW, hB0]
  clear hW
  go_wp2_with (first
    | (go_at_call 41; (with_reducible refine (kL.out _).mono ?_); rintro e w1 ⟨g1, rfl, hQ1, hg1, xb1⟩; obtain ⟨c0, c1, cl⟩ := bx.out w1 xb1)
    | (go_at_call 40; (with_reducible refine (kC.out _ _ _ (ext_trans xW xb1) hQ1.out).mono ?_); rintro e w2 ⟨rfl, xb2⟩; have hX2 := ext_trans xb1 xb2; obtain ⟨c0, c1, cl⟩ := bx.out w2 hX2)
    | (go_at_call 37; (with_reducible refine (kG.out _ (ext_trans xW hX2)).mono ?_); rintro e w3 ⟨rfl, xb3⟩; have hX3 := ext_trans hX2 xb3; obtain ⟨c0, c1, cl⟩ := bx.out w3 hX3)
    | (go_at_call 71; (with_reducible refine (kP.out _).mono ?_); rintro e w4 ⟨g4, rfl, hQ4, hg4, xb4⟩; have hX4 : Ext W w4 := ext_trans hX3 (ext_trans (ext_alloc (ext_refl _) _) xb4); obtain ⟨c0, c1, cl⟩ := bx.out w4 hX4)
    | (go_at_call 73; (with_reducible refine (kM.out _ _ _ _ (ext_trans xW hX4) ((room_rat w3).ext xb4) hQ4.out).mono ?_); rintro e w5 ⟨rfl, hQ5, xt5⟩; have hX5 : Ext W w5 := (Tch.ext xt5 hX4 (ext_size hX3)); obtain ⟨c0, c1, cl⟩ := bx.out w5 hX5))
  go_region_held3 (fun w' => w'.cell? ⟨B0, 0, none⟩ = some (.int .i64 (E : Int)) ∧ w'.cell? ⟨B0, 1, none⟩ = some (.int .i64 (F : Int))) (exact ⟨(bx.out _ (by (repeat (first | exact ext_refl _ | assumption | refine ext_setCell ?_ (by simp; try omega) _ | refine ext_alloc ?_ _ | refine ext_drew ?_ | refine ext_drewN ?_ _ | refine ext_trans ?_ (Aft.use _) | refine ext_trans ?_ (by assumption))))).1, (bx.out _ (by (repeat (first | exact ext_refl _ | assumption | refine ext_setCell ?_ (by simp; try omega) _ | refine ext_alloc ?_ _ | refine ext_drew ?_ | refine ext_drewN ?_ _ | refine ext_trans ?_ (Aft.use _) | refine ext_trans ?_ (by assumption))))).2.1⟩)
    (first
    | (go_at_call 39; (with_reducible refine (kB.out _).mono ?_); rintro e w6 ⟨rfl, xb6⟩; have hQ6 := Lib.hid (hQ5.out.ext (show Ext w5 w6 by (repeat (first | exact ext_refl _ | assumption | refine ext_setCell ?_ (by simp; try omega) _ | refine ext_alloc ?_ _ | refine ext_drew ?_ | refine ext_drewN ?_ _ | refine ext_trans ?_ (Aft.use _) | refine ext_trans ?_ (by assumption))))); have hX6 : Ext W w6 := (by (repeat (first | exact ext_refl _ | assumption | refine ext_setCell ?_ (by simp; try omega) _ | refine ext_alloc ?_ _ | refine ext_drew ?_ | refine ext_drewN ?_ _ | refine ext_trans ?_ (Aft.use _) | refine ext_trans ?_ (by assumption)))))
    | (go_at_call 68; (with_reducible refine (kN.out _ _ _ hQ6.out).mono ?_); rintro e w7 ⟨g7, rfl, hI7, hg7, xb7⟩; have hX7 : Ext W w7 := (by (repeat (first | exact ext_refl _ | assumption | refine ext_setCell ?_ (by simp; try omega) _ | refine ext_alloc ?_ _ | refine ext_drew ?_ | refine ext_drewN ?_ _ | refine ext_trans ?_ (Aft.use _) | refine ext_trans ?_ (by assumption)))))
    | (go_at_call 77; (with_reducible refine (kU.out _ _ _ hI7.out).mono ?_); rintro e w8 ⟨rfl, xb8⟩; have hX8 : Ext W w8 := (by (repeat (first | exact ext_refl _ | assumption | refine ext_setCell ?_ (by simp; try omega) _ | refine ext_alloc ?_ _ | refine ext_drew ?_ | refine ext_drewN ?_ _ | refine ext_trans ?_ (Aft.use _) | refine ext_trans ?_ (by assumption))))))
  all_goals
    go_wp2_with fail
    refine bodyPost_ret (v := .int .u64 ↑R) ?h rfl ⟨rfl, ext_trans xW hX8⟩
    case h => simp [results, Tryz.results44, go_sem, hval]
end
end Go.Proofs.YtchchnohmmncfaaGreatDoor.NB
end
section
/- The document's rounding: a fraction, to even. -/
namespace Go.Proofs.YtchchnohmmncfaaGreatDoor.NB
open Go.RowKit
attribute [local go_sem] sz2 sz3 sz4 sz5 sz6 sz7 sz8
set_option maxHeartbeats 8000000
set_option maxRecDepth 100000
attribute [local irreducible] Calls
theorem cmp_lo2 {p q a d : Nat} (hq : 0 < q) : cmpN (a * loD p q) (loN p q * d) = cmpN (a * q) (p * d) := by
  have hg : 0 < Nat.gcd p q := Nat.gcd_pos_of_pos_right _ hq
  obtain ⟨x, hx⟩ := Nat.gcd_dvd_left p q
  obtain ⟨y, hy⟩ := Nat.gcd_dvd_right p q
  have e1 : loN p q = x := Nat.div_eq_of_eq_mul_right hg hx
  have e2 : loD p q = y := Nat.div_eq_of_eq_mul_right hg hy
  rw [e1, e2]
  generalize Nat.gcd p q = g at *
  rw [hx, hy, ← cmpN_scale (a := a * y) (b := x * d) hg]
  congr 1 <;> ac_rfl
theorem lg_bound {a d k : Nat} (h1 : (lim a).length ≤ k) (h2 : (lim d).length ≤ k) : -(32 * k : Int) - 1 ≤ lgQ a d ∧ lgQ a d ≤ 32 * k := by
  have b1 := (lim_bytes a).1
  have b2 := (lim_bytes d).1
  have := @lg_range a d
  omega
/-- What is rounded: the bits; some flags. -/
abbrev RatP5 (w : World) (X : Nat) : Ending → World → Prop := fun e w' => ∃ fl : Int, e = .returned (.tuple #[.int .u64 (X : Int), .int .u8 fl]) ∧ Ext w w'
theorem r5_Rat0 (E F : Nat) (neg : Bool) (hE : 2 ≤ E ∧ E ≤ 11) (hF : 1 ≤ F ∧ F ≤ 52) (b lo d : Nat) (w : World) (hx : Qat w b 0 d lo) : Calls Tryz.prog 18 #[fmV E F, .pointer (some ⟨b, 0, none⟩), .bool neg, .int .u8 0] w (RatP5 w (if neg = true then 2 ^ (E + F) else 0)) := by
  have kG := Lib.hid (fun u (he : Ext w u) => show Calls Tryz.prog 34 #[.pointer (some ⟨b, 0, none⟩)] u fun e w' => e = .returned (.int .i64 0) ∧ Ext u w' from o_Sign b lo 0 d u (hx.ext he))
  have kI := Lib.hid (fun u => r5_Sign E F hE hF u)
  generalize (2 ^ (E + F) : Nat) = P at *
  clear hx
  cases neg with
  | true =>
    rw [if_pos rfl]
    go_enter Tryz.func18, Tryz.ntmps18
    go_wp2_with (first
      | (go_at_call 34; (with_reducible refine (kG.out _ (by (repeat (first | exact ext_refl _ | assumption | refine ext_setCell ?_ (by simp; try omega) _ | refine ext_alloc ?_ _ | refine ext_drew ?_ | refine ext_drewN ?_ _ | refine ext_trans ?_ (Aft.use _) | refine ext_trans ?_ (by assumption))))).mono ?_); rintro e w1 ⟨rfl, xb1⟩; obtain ⟨xc1, xf1, xl1, xz1⟩ := ext_use xb1; (try simp at xz1); obtain ⟨l1_0, gc, gf⟩ := kp xb1 (w.heap.size) (by first | omega | (simp; try omega)); have r1_0 := gc 0; have f1_0 := gf 0; have r1_0_1 := gc 1; have f1_0_1 := gf 1; clear gc gf)
      | (go_at_call 35; (with_reducible refine (kI.out _).mono ?_); rintro e w1 ⟨rfl, xb1⟩; obtain ⟨xc1, xf1, xl1, xz1⟩ := ext_use xb1; (try simp at xz1); obtain ⟨l1_0, gc, gf⟩ := kp xb1 (w.heap.size) (by first | omega | (simp; try omega)); have r1_0 := gc 0; have f1_0 := gf 0; have r1_0_1 := gc 1; have f1_0_1 := gf 1; clear gc gf)
     )
    refine bodyPost_ret (v := .tuple #[.int .u64 ↑P, .int .u8 0]) ?h rfl ⟨0, rfl, ?_⟩
    case h => simp [results, Tryz.results18, go_sem]
    repeat (first | exact ext_refl _ | assumption | refine ext_setCell ?_ (by simp; try omega) _ | refine ext_alloc ?_ _ | refine ext_drew ?_ | refine ext_drewN ?_ _ | refine ext_trans ?_ (Aft.use _) | refine ext_trans ?_ (by assumption))
  | false =>
    rw [if_neg (by decide)]
    go_enter Tryz.func18, Tryz.ntmps18
    go_wp2_with (first
      | (go_at_call 34; (with_reducible refine (kG.out _ (by (repeat (first | exact ext_refl _ | assumption | refine ext_setCell ?_ (by simp; try omega) _ | refine ext_alloc ?_ _ | refine ext_drew ?_ | refine ext_drewN ?_ _ | refine ext_trans ?_ (Aft.use _) | refine ext_trans ?_ (by assumption))))).mono ?_); rintro e w1 ⟨rfl, xb1⟩; obtain ⟨xc1, xf1, xl1, xz1⟩ := ext_use xb1; (try simp at xz1); obtain ⟨l1_0, gc, gf⟩ := kp xb1 (w.heap.size) (by first | omega | (simp; try omega)); have r1_0 := gc 0; have f1_0 := gf 0; have r1_0_1 := gc 1; have f1_0_1 := gf 1; clear gc gf)
      | (go_at_call 35; (with_reducible refine (kI.out _).mono ?_); rintro e w1 ⟨rfl, xb1⟩; obtain ⟨xc1, xf1, xl1, xz1⟩ := ext_use xb1; (try simp at xz1); obtain ⟨l1_0, gc, gf⟩ := kp xb1 (w.heap.size) (by first | omega | (simp; try omega)); have r1_0 := gc 0; have f1_0 := gf 0; have r1_0_1 := gc 1; have f1_0_1 := gf 1; clear gc gf)
     )
    refine bodyPost_ret (v := .tuple #[.int .u64 0, .int .u8 0]) ?h rfl ⟨0, rfl, ?_⟩
    case h => simp [results, Tryz.results18, go_sem]
    repeat (first | exact ext_refl _ | assumption | refine ext_setCell ?_ (by simp; try omega) _ | refine ext_alloc ?_ _ | refine ext_drew ?_ | refine ext_drewN ?_ _ | refine ext_trans ?_ (Aft.use _) | refine ext_trans ?_ (by assumption))
theorem r5_RatP (E F : Nat) (neg : Bool) (hE : 2 ≤ E ∧ E ≤ 11) (hF : 1 ≤ F ∧ F ≤ 52) (b lo a d : Nat) (ha : 0 < a) (hd : 0 < d) (l1 : (lim a).length ≤ 1000) (l2 : (lim d).length ≤ 1000) (w : World) (hT : Tz w) (hx : Qat w b ((a : Int)) d lo) : Calls Tryz.prog 18 #[fmV E F, .pointer (some ⟨b, 0, none⟩), .bool neg, .int .u8 0] w (RatP5 w (bitsQ E F 0 false a d)) := by
  obtain ⟨b1, b2⟩ := bias_rng hE
  obtain ⟨g1, g2⟩ := lg_bound l1 l2
  obtain ⟨m1, m2, m3, m4⟩ := man_rng (E := E) (F := F) (mode := 0) (neg := false) ha hd
  have hov := over_iff (F := F) (mode := 0) (neg := false) hE.1 hF.1 ha hd
  have hbits : bitsQ E F 0 false a d = if overQ E F 0 false a d = true then infQ E F else rungQ E F 0 false a d := by
    unfold bitsQ
    by_cases g : overQ E F 0 false a d = true
    · rw [if_pos g, if_pos g, if_neg (by simp)]
    · rw [if_neg g, if_neg g]
  obtain ⟨ey, hey⟩ : ∃ ey, lgQ a d = ey := ⟨_, rfl⟩
  obtain ⟨low, hlow⟩ : ∃ low, lowQ E a d = low := ⟨_, rfl⟩
  have hlo2 : max ey (1 - biasF E) = low := by rw [← hlow, ← hey]; rfl
  obtain ⟨q, hq⟩ : ∃ q : Int, low - F = q := ⟨_, rfl⟩
  have hqn : -q = (F : Int) - low := by omega
  have hlow32 : -1100 ≤ low ∧ low ≤ 32000 := by rw [hey] at g1 g2; omega
  obtain ⟨M, hM⟩ : ∃ M, manQ E F 0 false a d = M := ⟨_, rfl⟩
  have hMu : rdQ 0 false (tA a (-q)) (tD d (-q)) = M := by rw [← hM]; unfold manQ; rw [hlow, hqn]
  have hp53 : 2 ^ (F + 1) ≤ 2 ^ 53 := Nat.pow_le_pow_right (by decide) (by omega)
  have hp54 : (2 : Nat) ^ 53 < 2 ^ 54 := by decide
  have lM0 := bits_lt (show M < 2 ^ 54 by omega)
  have lM : (lim M).length ≤ 2 := lim_bits (by omega)
  have lone1 : (lim 1).length = 1 := by kernel_rfl
  have lone : (lim 1).length ≤ 2 := by omega
  obtain ⟨y1, y2⟩ := lo_len (tA_len M q 2 (by omega) lM) (tD_len 1 q 2 (by omega) lone)
  have hdq : 0 < tD 1 q := Nat.mul_pos (by decide) (Nat.two_pow_pos _)
  have hp0 := Nat.two_pow_pos (F + 1)
  have lG0 := bits_lt (show 2 ^ (F + 1) - 1 < 2 ^ 54 by omega)
  have lG : (lim (2 ^ (F + 1) - 1)).length ≤ 2 := lim_bits (by omega)
  have hdg : 0 < tD 1 (biasF E - F) := Nat.mul_pos (by decide) (Nat.two_pow_pos _)
  obtain ⟨z1, z2⟩ := lo_len (tA_len (2 ^ (F + 1) - 1) (biasF E - F) 2 (by omega) lG) (tD_len 1 (biasF E - F) 2 (by omega) lone)
  have kG := Lib.hid (fun u (he : Ext w u) => show Calls Tryz.prog 34 #[.pointer (some ⟨b, 0, none⟩)] u fun e w' => e = .returned (.int .i64 1) ∧ Ext u w' by
    have := o_Sign b lo ((a : Int)) d u (hx.ext he)
    rwa [show ((a : Int)).sign = 1 by rw [Int.sign_eq_one_of_pos (by omega)]] at this)
  have kI := Lib.hid (fun u => r5_Sign E F hE hF u)
  have kA := Lib.hid (fun u (he : Ext w u) => show Calls Tryz.prog 36 #[.pointer (some ⟨u.heap.size, 0, none⟩), .pointer (some ⟨b, 0, none⟩)] (newRat u) (QTc (newRat u) u.heap.size ((a : Nat) : Int) d) by
    have e0 : ((a : Int)).natAbs = a := by omega
    have := o_Abs u.heap.size b lo ((a : Int)) d (by rw [e0]; omega) (by omega) (newRat u) (room_rat u) (hx.ext (ext_trans he (ext_alloc (ext_refl _) _)))
    rwa [e0] at this)
  have kL := Lib.hid (fun u r l (h : Qat u r ((a : Nat) : Int) d l) => show Calls Tryz.prog 37 #[.pointer (some ⟨r, 0, none⟩)] u fun e w' => e = .returned (.int .i64 ey) ∧ Ext u w' by
    have := r5_log r l a d ha hd (by omega) (by omega) u h; rwa [hey] at this)
  have kB := Lib.hid (fun w => r5_Bias E F hE w)
  have kU := Lib.hid (fun u r l (he : Ext w u) (h : Qat u r ((a : Nat) : Int) d l) => show Calls Tryz.prog 38 #[.pointer (some ⟨r, 0, none⟩), .int .i64 q, .bool false, .int .u8 0] u (QPs u ((loN (tA M q) (tD 1 q) : Nat) : Int) (loD (tA M q) (tD 1 q))) by
    have := r5_unit false r l a d q (by omega) hd (by omega) (by omega) u (hT.ext he) h; rwa [hMu] at this)
  obtain ⟨q2, hq2⟩ : ∃ q2 : Int, ey - F = q2 := ⟨_, rfl⟩
  have hq2r : -33000 ≤ q2 ∧ q2 ≤ 33000 := by rw [hey] at g1 g2; omega
  obtain ⟨M2, hM2⟩ : ∃ M2, rdQ 0 false (tA a (-q2)) (tD d (-q2)) = M2 := ⟨_, rfl⟩
  have lM2 : (lim M2).length ≤ 2601 := by rw [← hM2]; exact man_len false (tA_len a (-q2) 1000 (by omega) l1) (by omega)
  obtain ⟨v1, v2⟩ := lo_len (tA_len M2 q2 2601 (by omega) lM2) (tD_len 1 q2 2601 (by omega) (by omega))
  have kU2 := Lib.hid (fun u r l (he : Ext w u) (h : Qat u r ((a : Nat) : Int) d l) => show Calls Tryz.prog 38 #[.pointer (some ⟨r, 0, none⟩), .int .i64 q2, .bool false, .int .u8 0] u (QPs u ((loN (tA M2 q2) (tD 1 q2) : Nat) : Int) (loD (tA M2 q2) (tD 1 q2))) by
    have := r5_unit false r l a d q2 (by omega) hd (by omega) (by omega) u (hT.ext he) h; rwa [hM2] at this)
  have kE := Lib.hid (fun w => r5_Least E F hE w)
  obtain ⟨p1, p2⟩ := pow_len (1 - biasF E) (by omega)
  have kT := Lib.hid (fun u (he : Ext w u) => r5_Greatest E F hE hF u (hT.ext he))
  have kY := Lib.hid (fun u => r5_beyond E F false hE hF u)
  obtain ⟨C1, hC1⟩ : ∃ C1, (((loN (tA M q) (tD 1 q) : Nat) : Int) * (d : Int) - ((a : Nat) : Int) * ((loD (tA M q) (tD 1 q) : Nat) : Int)).sign = C1 := ⟨_, rfl⟩
  obtain ⟨C2, hC2⟩ : ∃ C2, (((loN (tA M2 q2) (tD 1 q2) : Nat) : Int) * ((tD 1 (1 - biasF E) : Nat) : Int) - ((tA 1 (1 - biasF E) : Nat) : Int) * ((loD (tA M2 q2) (tD 1 q2) : Nat) : Int)).sign = C2 := ⟨_, rfl⟩
  obtain ⟨C3, hC3⟩ : ∃ C3, cmpN (tA M q * tD 1 (biasF E - F)) (tA (2 ^ (F + 1) - 1) (biasF E - F) * tD 1 q) = C3 := ⟨_, rfl⟩
  have k1 := Lib.hid (fun u g r l l' (h : Qat u g ((loN (tA M q) (tD 1 q) : Nat) : Int) (loD (tA M q) (tD 1 q)) l) (h' : Qat u r ((a : Nat) : Int) d l') => show Calls Tryz.prog 40 #[.pointer (some ⟨g, 0, none⟩), .pointer (some ⟨r, 0, none⟩)] u fun e w' => e = .returned (.int .i64 C1) ∧ Ext u w' by
    have := o_Cmp g r l l' _ _ _ _ (by rw [Int.natAbs_natCast]; omega) (by omega) (by rw [Int.natAbs_natCast]; omega) (by omega) u h h'; rwa [hC1] at this)
  have k2 := Lib.hid (fun u g r l l' (h : Qat u g ((loN (tA M2 q2) (tD 1 q2) : Nat) : Int) (loD (tA M2 q2) (tD 1 q2)) l) (h' : Qat u r ((tA 1 (1 - biasF E) : Nat) : Int) (tD 1 (1 - biasF E)) l') => show Calls Tryz.prog 40 #[.pointer (some ⟨g, 0, none⟩), .pointer (some ⟨r, 0, none⟩)] u fun e w' => e = .returned (.int .i64 C2) ∧ Ext u w' by
    have := o_Cmp g r l l' _ _ _ _ (by rw [Int.natAbs_natCast]; omega) (by omega) (by rw [Int.natAbs_natCast]; omega) (by omega) u h h'; rwa [hC2] at this)
  have k3 := Lib.hid (fun u g r l l' (h : Qat u g ((loN (tA M q) (tD 1 q) : Nat) : Int) (loD (tA M q) (tD 1 q)) l) (h' : Qat u r ((loN (tA (2 ^ (F + 1) - 1) (biasF E - F)) (tD 1 (biasF E - F)) : Nat) : Int) (loD (tA (2 ^ (F + 1) - 1) (biasF E - F)) (tD 1 (biasF E - F))) l') => show Calls Tryz.prog 40 #[.pointer (some ⟨g, 0, none⟩), .pointer (some ⟨r, 0, none⟩)] u fun e w' => e = .returned (.int .i64 C3) ∧ Ext u w' by
    have := o_Cmp g r l l' _ _ _ _ (by rw [Int.natAbs_natCast]; omega) (by omega) (by rw [Int.natAbs_natCast]; omega) (by omega) u h h'
    rwa [← Int.natCast_mul, ← Int.natCast_mul, ← cmpN_sign, cmp_lo hdq, cmp_lo2 hdg, hC3] at this)
  rw [hM, hlow, hq, hC3] at hov
  have kK : Hid (∀ u g l, ¬ 0 < C3 → Ext w u → Qat u g ((loN (tA M q) (tD 1 q) : Nat) : Int) (loD (tA M q) (tD 1 q)) l → Calls Tryz.prog 44 #[fmV E F, .pointer (some ⟨g, 0, none⟩)] u fun e w' => e = .returned (.int .u64 ((rungQ E F 0 false a d : Nat) : Int)) ∧ Ext u w') := Lib.hid fun u gp l hC he h => by
    have ho : ¬ overQ E F 0 false a d = true := fun q => hC (hov.2 q)
    unfold overQ at ho
    simp only [Bool.or_eq_true, decide_eq_true_eq, not_or] at ho
    rw [hlow] at ho
    have hI := inf_lt E F
    have h63 : 2 ^ (E + F) ≤ 2 ^ 63 := Nat.pow_le_pow_right (by decide) (by omega)
    have e63 : (2 : Nat) ^ 63 = 9223372036854775808 := by decide
    by_cases g : low = 1 - biasF E ∧ M < 2 ^ F
    · have hr := rung_small (F := F) (mode := 0) (neg := false) (a := a) (d := d) (hlow.trans g.1)
      rw [hr, hM]
      exact r5_PackA E F hE hF gp l M q low hq (by omega) (by omega) u (hT.ext he) h g
    · obtain ⟨hr1, hr2⟩ := pack_rung (F := F) (mode := 0) (neg := false) hE.1 ha hd (by rw [hlow, hM]; exact g)
      rw [hM] at hr1 hr2
      rw [hlow, hq] at hr2
      exact r5_PackB E F hE hF gp l M q low hq (by omega) (by omega) u (hT.ext he) h hr1 _ (by omega) hr2

  have hFI1 : (1 : Int) ≤ (F : Int) := by omega
  have hFI2 : (F : Int) ≤ 52 := by omega
  obtain ⟨bz, hbz⟩ : ∃ bz, biasF E = bz := ⟨_, rfl⟩
  rw [hbz] at kB b1 b2 hlo2
  have hey1 : -33000 ≤ ey ∧ ey ≤ 33000 := by rw [hey] at g1 g2; omega
  obtain ⟨he1, he2⟩ := hey1
  have hqw : IntKind.i64.wrap (max ey (IntKind.i64.wrap (1 - bz)) - (F : Int)) = q := by
    rw [IntKind.wrap_i64, IntKind.wrap_i64]
    have h1 : (1 - bz + 9223372036854775808) % 18446744073709551616 - 9223372036854775808 = 1 - bz := by omega
    first | (rw [h1, hlo2]; omega) | omega
  have hqw2 : IntKind.i64.wrap (ey - (F : Int)) = q2 := by rw [IntKind.wrap_i64]; omega
  rw [hbits]
  have hP63 : 2 ^ (E + F) ≤ 2 ^ 63 := Nat.pow_le_pow_right (by decide) (by omega)
  have e63 : (2 : Nat) ^ 63 = 9223372036854775808 := by decide
  rw [e63] at hP63
  clear hbits hlo2 hMu hlow hey hbz hM hM2 hq hq2 m1 m2 m3 m4 g1 g2 l1 l2 lM lone lG lM2 lM0 lG0 lone1 hp53 hp54 hp0 hdq hdg y1 y2 z1 z2 v1 v2 p1 p2 hC1 hC2 hC3 hqn hlow32 hq2r ha hd hE hF
  generalize loN (tA M q) (tD 1 q) = YN at *
  generalize loD (tA M q) (tD 1 q) = YD at *
  generalize loN (tA M2 q2) (tD 1 q2) = VN at *
  generalize loD (tA M2 q2) (tD 1 q2) = VD at *
  generalize loN (tA (2 ^ (F + 1) - 1) (biasF E - F)) (tD 1 (biasF E - F)) = ZN at *
  generalize loD (tA (2 ^ (F + 1) - 1) (biasF E - F)) (tD 1 (biasF E - F)) = ZD at *
  generalize tA 1 (1 - biasF E) = P1 at *
  generalize tD 1 (1 - biasF E) = P2 at *
  have hRI : ¬ overQ E F 0 false a d = true → rungQ E F 0 false a d < infQ E F := fun ho => by
    unfold overQ at ho
    simp only [Bool.or_eq_true, decide_eq_true_eq, not_or] at ho
    omega
  have hIP := inf_lt E F
  generalize infQ E F = I at *
  generalize (2 ^ (E + F) : Nat) = P at *
  generalize rungQ E F 0 false a d = R at *
  obtain ⟨X, hXv⟩ : ∃ X, (if overQ E F 0 false a d = true then I else R) = X := ⟨_, rfl⟩
  rw [hXv]
  have HXV := Lib.hid hXv
  have HOV := Lib.hid hov
  clear hXv hov
  go_enter Tryz.func18, Tryz.ntmps18
  go_upto_region 1 with fail
  obtain ⟨W, hW⟩ : ∃ W, W = w.alloc (.cells #[.int .i64 (E : Int), .int .i64 (F : Int)] 47) := ⟨_, rfl⟩
  obtain ⟨B0, hB0⟩ : ∃ B0, w.heap.size = B0 := ⟨_, rfl⟩
  have xW : Ext w W := by rw [hW]; exact ext_alloc (ext_refl _) _
  have bx : Hid (∀ u, Ext W u → u.cell? ⟨B0, 0, none⟩ = some (.int .i64 (E : Int)) ∧ u.cell? ⟨B0, 1, none⟩ = some (.int .i64 (F : Int)) ∧ B0 < u.heap.size) := Lib.hid fun u hu => by
    have l0 : B0 < W.heap.size := by rw [hW, ← hB0]; simp
    refine ⟨(Below.cell (p := ⟨B0, 0, none⟩) hu l0).trans ?_, (Below.cell (p := ⟨B0, 1, none⟩) hu l0).trans ?_, Nat.lt_of_lt_of_le l0 (ext_size hu)⟩
    all_goals (rw [hW, ← hB0]; simp [go_sem])
  obtain ⟨c0, c1, cl⟩ := bx.out W (ext_refl _)
  rw [← hW, hB0]
  clear hW
  have hX : Ext W W := ext_refl _
  go_wp2_with (first
    | (go_at_call 34; (with_reducible refine (kG.out _ (ext_trans xW hX)).mono ?_); rintro e wn ⟨rfl, xn⟩; have hX := ext_trans hX xn; obtain ⟨c0, c1, cl⟩ := bx.out wn hX)
    | (go_at_call 35; (with_reducible refine (kI.out _).mono ?_); rintro e wn ⟨rfl, xn⟩; have hX := ext_trans hX xn; obtain ⟨c0, c1, cl⟩ := bx.out wn hX)
    | (go_at_call 36; (with_reducible refine (kA.out _ (ext_trans xW hX)).mono ?_); rintro e wa ⟨rfl, hQA, xta⟩; have hX : Ext W wa := Tch.ext xta (ext_trans hX (ext_alloc (ext_refl _) _)) (ext_size hX); obtain ⟨c0, c1, cl⟩ := bx.out wa hX)
    | (go_at_call 37; (with_reducible refine (kL.out _ _ _ hQA.out).mono ?_); rintro e wl ⟨rfl, xl⟩; have hX := ext_trans hX xl; have hQA := Lib.hid (hQA.out.ext xl); obtain ⟨c0, c1, cl⟩ := bx.out wl hX))
  go_region_held3 (fun w' => w'.cell? ⟨B0, 0, none⟩ = some (.int .i64 (E : Int)) ∧ w'.cell? ⟨B0, 1, none⟩ = some (.int .i64 (F : Int))) (exact ⟨(bx.out _ (by (repeat (first | exact ext_refl _ | assumption | refine ext_setCell ?_ (by simp; try omega) _ | refine ext_alloc ?_ _ | refine ext_drew ?_ | refine ext_drewN ?_ _ | refine ext_trans ?_ (Aft.use _) | refine ext_trans ?_ (by assumption))))).1, (bx.out _ (by (repeat (first | exact ext_refl _ | assumption | refine ext_setCell ?_ (by simp; try omega) _ | refine ext_alloc ?_ _ | refine ext_drew ?_ | refine ext_drewN ?_ _ | refine ext_trans ?_ (Aft.use _) | refine ext_trans ?_ (by assumption))))).2.1⟩)
    (first
    | (go_at_call 39; (with_reducible refine (kB.out _).mono ?_); rintro e w6 ⟨rfl, xb6⟩; have hQ6 := Lib.hid (hQA.out.ext (show Ext wl w6 by (repeat (first | exact ext_refl _ | assumption | refine ext_setCell ?_ (by simp; try omega) _ | refine ext_alloc ?_ _ | refine ext_drew ?_ | refine ext_drewN ?_ _ | refine ext_trans ?_ (Aft.use _) | refine ext_trans ?_ (by assumption))))); have hX6 : Ext W w6 := (by (repeat (first | exact ext_refl _ | assumption | refine ext_setCell ?_ (by simp; try omega) _ | refine ext_alloc ?_ _ | refine ext_drew ?_ | refine ext_drewN ?_ _ | refine ext_trans ?_ (Aft.use _) | refine ext_trans ?_ (by assumption)))))
    | (go_at_call 38; (try simp only [hqw]); (with_reducible refine (kU.out _ _ _ (ext_trans xW hX6) hQ6.out).mono ?_); rintro e w7 ⟨g7, rfl, hQ7, hg7, xb7⟩; have hX7 : Ext W w7 := (by (repeat (first | exact ext_refl _ | assumption | refine ext_setCell ?_ (by simp; try omega) _ | refine ext_alloc ?_ _ | refine ext_drew ?_ | refine ext_drewN ?_ _ | refine ext_trans ?_ (Aft.use _) | refine ext_trans ?_ (by assumption)))); have hA7 := Lib.hid (hQ6.out.ext (show Ext w6 w7 by (repeat (first | exact ext_refl _ | assumption | refine ext_setCell ?_ (by simp; try omega) _ | refine ext_alloc ?_ _ | refine ext_drew ?_ | refine ext_drewN ?_ _ | refine ext_trans ?_ (Aft.use _) | refine ext_trans ?_ (by assumption)))))))
  obtain ⟨c0, c1, cl⟩ := bx.out w7 hX7
  go_upto_if 56 with (first
    | (go_at_call 40; (with_reducible refine (k1.out _ _ _ _ _ hQ7.out hA7.out).mono ?_); rintro e w8 ⟨rfl, xb8⟩; have hX8 : Ext W w8 := ext_trans hX7 xb8; obtain ⟨c0, c1, cl⟩ := bx.out w8 hX8; have hQ8 := Lib.hid (hQ7.out.ext xb8); have hA8 := Lib.hid (hA7.out.ext xb8)))
  clear hQA hQ6 hA7 hQ7 hX6 hX7 xb6 xb7 xb8 k1 kG kI kA kL
  go_cut [15] (fun v wx => (∃ fl : Int, v = .int .u8 fl) ∧ Hid (Ext w8 wx))
  case first =>
    by_cases g : C1 = 0
    · subst g
      go_wp2
      go_meet
      case rel => exact ⟨⟨_, rfl⟩, ext_refl _⟩
    · have dg : decide (C1 = 0) = false := decide_eq_false g
      go_wp2_with fail
      go_region_held3 (fun w' => w'.cell? ⟨B0, 0, none⟩ = some (.int .i64 (E : Int)) ∧ w'.cell? ⟨B0, 1, none⟩ = some (.int .i64 (F : Int))) (exact ⟨(bx.out _ (by (repeat (first | exact ext_refl _ | assumption | refine ext_setCell ?_ (by simp; try omega) _ | refine ext_alloc ?_ _ | refine ext_drew ?_ | refine ext_drewN ?_ _ | refine ext_trans ?_ (Aft.use _) | refine ext_trans ?_ (by assumption))))).1, (bx.out _ (by (repeat (first | exact ext_refl _ | assumption | refine ext_setCell ?_ (by simp; try omega) _ | refine ext_alloc ?_ _ | refine ext_drew ?_ | refine ext_drewN ?_ _ | refine ext_trans ?_ (Aft.use _) | refine ext_trans ?_ (by assumption))))).2.1⟩)
        (first
        | (go_at_call 38; (try simp only [hqw2]); (with_reducible refine (kU2.out _ _ _ (by (repeat (first | exact ext_refl _ | assumption | refine ext_setCell ?_ (by simp; try omega) _ | refine ext_alloc ?_ _ | refine ext_drew ?_ | refine ext_drewN ?_ _ | refine ext_trans ?_ (Aft.use _) | refine ext_trans ?_ (by assumption)))) (hA8.out.ext (by (repeat (first | exact ext_refl _ | assumption | refine ext_setCell ?_ (by simp; try omega) _ | refine ext_alloc ?_ _ | refine ext_drew ?_ | refine ext_drewN ?_ _ | refine ext_trans ?_ (Aft.use _) | refine ext_trans ?_ (by assumption)))))).mono ?_); rintro e w9 ⟨g9, rfl, hQ9, hg9, xb9⟩; have hX9 : Ext w8 w9 := (by (repeat (first | exact ext_refl _ | assumption | refine ext_setCell ?_ (by simp; try omega) _ | refine ext_alloc ?_ _ | refine ext_drew ?_ | refine ext_drewN ?_ _ | refine ext_trans ?_ (Aft.use _) | refine ext_trans ?_ (by assumption)))); have hW9 : Ext W w9 := (by (repeat (first | exact ext_refl _ | assumption | refine ext_setCell ?_ (by simp; try omega) _ | refine ext_alloc ?_ _ | refine ext_drew ?_ | refine ext_drewN ?_ _ | refine ext_trans ?_ (Aft.use _) | refine ext_trans ?_ (by assumption)))))
        | (go_at_call 41; (with_reducible refine (kE.out _).mono ?_); rintro e w10 ⟨g10, rfl, hQ10, hg10, xb10⟩; have hQ9 := Lib.hid (hQ9.out.ext (show Ext w9 w10 by (repeat (first | exact ext_refl _ | assumption | refine ext_setCell ?_ (by simp; try omega) _ | refine ext_alloc ?_ _ | refine ext_drew ?_ | refine ext_drewN ?_ _ | refine ext_trans ?_ (Aft.use _) | refine ext_trans ?_ (by assumption))))); have hX10 : Ext w8 w10 := (by (repeat (first | exact ext_refl _ | assumption | refine ext_setCell ?_ (by simp; try omega) _ | refine ext_alloc ?_ _ | refine ext_drew ?_ | refine ext_drewN ?_ _ | refine ext_trans ?_ (Aft.use _) | refine ext_trans ?_ (by assumption)))))
        | (go_at_call 40; (with_reducible refine (k2.out _ _ _ _ _ (hQ9.out.ext (by (repeat (first | exact ext_refl _ | assumption | refine ext_setCell ?_ (by simp; try omega) _ | refine ext_alloc ?_ _ | refine ext_drew ?_ | refine ext_drewN ?_ _ | refine ext_trans ?_ (Aft.use _) | refine ext_trans ?_ (by assumption))))) (hQ10.out.ext (by (repeat (first | exact ext_refl _ | assumption | refine ext_setCell ?_ (by simp; try omega) _ | refine ext_alloc ?_ _ | refine ext_drew ?_ | refine ext_drewN ?_ _ | refine ext_trans ?_ (Aft.use _) | refine ext_trans ?_ (by assumption)))))).mono ?_); rintro e w11 ⟨rfl, xb11⟩; have hX11 : Ext w8 w11 := (by (repeat (first | exact ext_refl _ | assumption | refine ext_setCell ?_ (by simp; try omega) _ | refine ext_alloc ?_ _ | refine ext_drew ?_ | refine ext_drewN ?_ _ | refine ext_trans ?_ (Aft.use _) | refine ext_trans ?_ (by assumption))))))
      all_goals
        go_wp2
        all_goals go_meet
        all_goals (case rel => exact ⟨⟨_, rfl⟩, hX11⟩)
  case rest =>
    obtain ⟨⟨fl, rfl⟩, hY⟩ := hcut
    obtain ⟨w9, rfl⟩ : ∃ u, u = wc := ⟨wc, rfl⟩
    have hX9 := ext_trans hX8 hY.out
    clear hqw hqw2 he1 he2 b1 b2
    have hQ9 := Lib.hid (hQ8.out.ext hY.out)
    clear hY hX8 hQ8 hA8 k2 kU kU2 kB kE
    obtain ⟨c0, c1, cl⟩ := bx.out _ hX9
    by_cases g : 0 < C3
    · have ho := HOV.out.1 g
      have hx2 := HXV.out
      rw [if_pos ho] at hx2
      clear HXV HOV kK ho hRI
      subst hx2
      have hval : IntKind.u64.wrap (I : Int) = (I : Int) := by rw [IntKind.wrap_u64]; omega
      clear hIP hP63 e63
      go_wp2_with (first
        | (go_at_call 42; (with_reducible refine (kT.out _ (ext_trans xW hX9)).mono ?_); rintro e w10 ⟨g10, rfl, hQ10, hg10, xb10⟩; have hX10 : Ext W w10 := ext_trans hX9 xb10; obtain ⟨c0, c1, cl⟩ := bx.out w10 hX10)
        | (go_at_call 40; (with_reducible refine (k3.out _ _ _ _ _ (hQ9.out.ext xb10) hQ10.out).mono ?_); rintro e w11 ⟨rfl, xb11⟩; have hX11 : Ext W w11 := ext_trans hX10 xb11; have hQ11 := Lib.hid (hQ9.out.ext (ext_trans xb10 xb11)); obtain ⟨c0, c1, cl⟩ := bx.out w11 hX11)
        | (go_at_call 43; (with_reducible refine (kY.out _).mono ?_); rintro e w12 ⟨rfl, xb12⟩; have hX12 : Ext W w12 := ext_trans hX11 xb12))
      refine bodyPost_ret (v := .tuple #[.int .u64 ↑I, .int .u8 3]) ?h rfl ⟨3, rfl, ext_trans xW hX12⟩
      case h => simp [results, Tryz.results18, go_sem, hval]
    · have ho : ¬ overQ E F 0 false a d = true := fun q => g (HOV.out.2 q)
      have hx2 := HXV.out
      rw [if_neg ho] at hx2
      have hR3 := hRI ho
      clear HXV HOV kY ho hRI
      subst hx2
      have hval : IntKind.u64.wrap (R : Int) = (R : Int) := by rw [IntKind.wrap_u64]; omega
      clear hIP hP63 e63
      go_wp2_with (first
        | (go_at_call 42; (with_reducible refine (kT.out _ (ext_trans xW hX9)).mono ?_); rintro e w10 ⟨g10, rfl, hQ10, hg10, xb10⟩; have hX10 : Ext W w10 := ext_trans hX9 xb10; obtain ⟨c0, c1, cl⟩ := bx.out w10 hX10)
        | (go_at_call 40; (with_reducible refine (k3.out _ _ _ _ _ (hQ9.out.ext xb10) hQ10.out).mono ?_); rintro e w11 ⟨rfl, xb11⟩; have hX11 : Ext W w11 := ext_trans hX10 xb11; have hQ11 := Lib.hid (hQ9.out.ext (ext_trans xb10 xb11)); obtain ⟨c0, c1, cl⟩ := bx.out w11 hX11)
        | (go_at_call 44; (with_reducible refine (kK.out _ _ _ g (ext_trans xW hX11) hQ11.out).mono ?_); rintro e w12 ⟨rfl, xb12⟩; have hX12 : Ext W w12 := ext_trans hX11 xb12))
      refine bodyPost_ret (v := .tuple #[.int .u64 ↑R, .int .u8 fl]) ?h rfl ⟨fl, rfl, ext_trans xW hX12⟩
      case h => simp [results, Tryz.results18, go_sem, hval]
theorem r5_RatN (E F : Nat) (neg : Bool) (hE : 2 ≤ E ∧ E ≤ 11) (hF : 1 ≤ F ∧ F ≤ 52) (b lo a d : Nat) (ha : 0 < a) (hd : 0 < d) (l1 : (lim a).length ≤ 1000) (l2 : (lim d).length ≤ 1000) (w : World) (hT : Tz w) (hx : Qat w b (-(a : Int)) d lo) : Calls Tryz.prog 18 #[fmV E F, .pointer (some ⟨b, 0, none⟩), .bool neg, .int .u8 0] w (RatP5 w (bitsQ E F 0 true a d + 2 ^ (E + F))) := by
  obtain ⟨b1, b2⟩ := bias_rng hE
  obtain ⟨g1, g2⟩ := lg_bound l1 l2
  obtain ⟨m1, m2, m3, m4⟩ := man_rng (E := E) (F := F) (mode := 0) (neg := true) ha hd
  have hov := over_iff (F := F) (mode := 0) (neg := true) hE.1 hF.1 ha hd
  have hbits : bitsQ E F 0 true a d = if overQ E F 0 true a d = true then infQ E F else rungQ E F 0 true a d := by
    unfold bitsQ
    by_cases g : overQ E F 0 true a d = true
    · rw [if_pos g, if_pos g, if_neg (by simp)]
    · rw [if_neg g, if_neg g]
  obtain ⟨ey, hey⟩ : ∃ ey, lgQ a d = ey := ⟨_, rfl⟩
  obtain ⟨low, hlow⟩ : ∃ low, lowQ E a d = low := ⟨_, rfl⟩
  have hlo2 : max ey (1 - biasF E) = low := by rw [← hlow, ← hey]; rfl
  obtain ⟨q, hq⟩ : ∃ q : Int, low - F = q := ⟨_, rfl⟩
  have hqn : -q = (F : Int) - low := by omega
  have hlow32 : -1100 ≤ low ∧ low ≤ 32000 := by rw [hey] at g1 g2; omega
  obtain ⟨M, hM⟩ : ∃ M, manQ E F 0 true a d = M := ⟨_, rfl⟩
  have hMu : rdQ 0 true (tA a (-q)) (tD d (-q)) = M := by rw [← hM]; unfold manQ; rw [hlow, hqn]
  have hp53 : 2 ^ (F + 1) ≤ 2 ^ 53 := Nat.pow_le_pow_right (by decide) (by omega)
  have hp54 : (2 : Nat) ^ 53 < 2 ^ 54 := by decide
  have lM0 := bits_lt (show M < 2 ^ 54 by omega)
  have lM : (lim M).length ≤ 2 := lim_bits (by omega)
  have lone1 : (lim 1).length = 1 := by kernel_rfl
  have lone : (lim 1).length ≤ 2 := by omega
  obtain ⟨y1, y2⟩ := lo_len (tA_len M q 2 (by omega) lM) (tD_len 1 q 2 (by omega) lone)
  have hdq : 0 < tD 1 q := Nat.mul_pos (by decide) (Nat.two_pow_pos _)
  have hp0 := Nat.two_pow_pos (F + 1)
  have lG0 := bits_lt (show 2 ^ (F + 1) - 1 < 2 ^ 54 by omega)
  have lG : (lim (2 ^ (F + 1) - 1)).length ≤ 2 := lim_bits (by omega)
  have hdg : 0 < tD 1 (biasF E - F) := Nat.mul_pos (by decide) (Nat.two_pow_pos _)
  obtain ⟨z1, z2⟩ := lo_len (tA_len (2 ^ (F + 1) - 1) (biasF E - F) 2 (by omega) lG) (tD_len 1 (biasF E - F) 2 (by omega) lone)
  have kG := Lib.hid (fun u (he : Ext w u) => show Calls Tryz.prog 34 #[.pointer (some ⟨b, 0, none⟩)] u fun e w' => e = .returned (.int .i64 (-1)) ∧ Ext u w' by
    have := o_Sign b lo (-(a : Int)) d u (hx.ext he)
    rwa [show (-(a : Int)).sign = (-1) by rw [Int.sign_neg, Int.sign_eq_one_of_pos (by omega)]] at this)
  have kI := Lib.hid (fun u => r5_Sign E F hE hF u)
  have kA := Lib.hid (fun u (he : Ext w u) => show Calls Tryz.prog 36 #[.pointer (some ⟨u.heap.size, 0, none⟩), .pointer (some ⟨b, 0, none⟩)] (newRat u) (QTc (newRat u) u.heap.size ((a : Nat) : Int) d) by
    have e0 : (-(a : Int)).natAbs = a := by omega
    have := o_Abs u.heap.size b lo (-(a : Int)) d (by rw [e0]; omega) (by omega) (newRat u) (room_rat u) (hx.ext (ext_trans he (ext_alloc (ext_refl _) _)))
    rwa [e0] at this)
  have kL := Lib.hid (fun u r l (h : Qat u r ((a : Nat) : Int) d l) => show Calls Tryz.prog 37 #[.pointer (some ⟨r, 0, none⟩)] u fun e w' => e = .returned (.int .i64 ey) ∧ Ext u w' by
    have := r5_log r l a d ha hd (by omega) (by omega) u h; rwa [hey] at this)
  have kB := Lib.hid (fun w => r5_Bias E F hE w)
  have kU := Lib.hid (fun u r l (he : Ext w u) (h : Qat u r ((a : Nat) : Int) d l) => show Calls Tryz.prog 38 #[.pointer (some ⟨r, 0, none⟩), .int .i64 q, .bool true, .int .u8 0] u (QPs u ((loN (tA M q) (tD 1 q) : Nat) : Int) (loD (tA M q) (tD 1 q))) by
    have := r5_unit true r l a d q (by omega) hd (by omega) (by omega) u (hT.ext he) h; rwa [hMu] at this)
  obtain ⟨q2, hq2⟩ : ∃ q2 : Int, ey - F = q2 := ⟨_, rfl⟩
  have hq2r : -33000 ≤ q2 ∧ q2 ≤ 33000 := by rw [hey] at g1 g2; omega
  obtain ⟨M2, hM2⟩ : ∃ M2, rdQ 0 true (tA a (-q2)) (tD d (-q2)) = M2 := ⟨_, rfl⟩
  have lM2 : (lim M2).length ≤ 2601 := by rw [← hM2]; exact man_len true (tA_len a (-q2) 1000 (by omega) l1) (by omega)
  obtain ⟨v1, v2⟩ := lo_len (tA_len M2 q2 2601 (by omega) lM2) (tD_len 1 q2 2601 (by omega) (by omega))
  have kU2 := Lib.hid (fun u r l (he : Ext w u) (h : Qat u r ((a : Nat) : Int) d l) => show Calls Tryz.prog 38 #[.pointer (some ⟨r, 0, none⟩), .int .i64 q2, .bool true, .int .u8 0] u (QPs u ((loN (tA M2 q2) (tD 1 q2) : Nat) : Int) (loD (tA M2 q2) (tD 1 q2))) by
    have := r5_unit true r l a d q2 (by omega) hd (by omega) (by omega) u (hT.ext he) h; rwa [hM2] at this)
  have kE := Lib.hid (fun w => r5_Least E F hE w)
  obtain ⟨p1, p2⟩ := pow_len (1 - biasF E) (by omega)
  have kT := Lib.hid (fun u (he : Ext w u) => r5_Greatest E F hE hF u (hT.ext he))
  have kY := Lib.hid (fun u => r5_beyond E F true hE hF u)
  obtain ⟨C1, hC1⟩ : ∃ C1, (((loN (tA M q) (tD 1 q) : Nat) : Int) * (d : Int) - ((a : Nat) : Int) * ((loD (tA M q) (tD 1 q) : Nat) : Int)).sign = C1 := ⟨_, rfl⟩
  obtain ⟨C2, hC2⟩ : ∃ C2, (((loN (tA M2 q2) (tD 1 q2) : Nat) : Int) * ((tD 1 (1 - biasF E) : Nat) : Int) - ((tA 1 (1 - biasF E) : Nat) : Int) * ((loD (tA M2 q2) (tD 1 q2) : Nat) : Int)).sign = C2 := ⟨_, rfl⟩
  obtain ⟨C3, hC3⟩ : ∃ C3, cmpN (tA M q * tD 1 (biasF E - F)) (tA (2 ^ (F + 1) - 1) (biasF E - F) * tD 1 q) = C3 := ⟨_, rfl⟩
  have k1 := Lib.hid (fun u g r l l' (h : Qat u g ((loN (tA M q) (tD 1 q) : Nat) : Int) (loD (tA M q) (tD 1 q)) l) (h' : Qat u r ((a : Nat) : Int) d l') => show Calls Tryz.prog 40 #[.pointer (some ⟨g, 0, none⟩), .pointer (some ⟨r, 0, none⟩)] u fun e w' => e = .returned (.int .i64 C1) ∧ Ext u w' by
    have := o_Cmp g r l l' _ _ _ _ (by rw [Int.natAbs_natCast]; omega) (by omega) (by rw [Int.natAbs_natCast]; omega) (by omega) u h h'; rwa [hC1] at this)
  have k2 := Lib.hid (fun u g r l l' (h : Qat u g ((loN (tA M2 q2) (tD 1 q2) : Nat) : Int) (loD (tA M2 q2) (tD 1 q2)) l) (h' : Qat u r ((tA 1 (1 - biasF E) : Nat) : Int) (tD 1 (1 - biasF E)) l') => show Calls Tryz.prog 40 #[.pointer (some ⟨g, 0, none⟩), .pointer (some ⟨r, 0, none⟩)] u fun e w' => e = .returned (.int .i64 C2) ∧ Ext u w' by
    have := o_Cmp g r l l' _ _ _ _ (by rw [Int.natAbs_natCast]; omega) (by omega) (by rw [Int.natAbs_natCast]; omega) (by omega) u h h'; rwa [hC2] at this)
  have k3 := Lib.hid (fun u g r l l' (h : Qat u g ((loN (tA M q) (tD 1 q) : Nat) : Int) (loD (tA M q) (tD 1 q)) l) (h' : Qat u r ((loN (tA (2 ^ (F + 1) - 1) (biasF E - F)) (tD 1 (biasF E - F)) : Nat) : Int) (loD (tA (2 ^ (F + 1) - 1) (biasF E - F)) (tD 1 (biasF E - F))) l') => show Calls Tryz.prog 40 #[.pointer (some ⟨g, 0, none⟩), .pointer (some ⟨r, 0, none⟩)] u fun e w' => e = .returned (.int .i64 C3) ∧ Ext u w' by
    have := o_Cmp g r l l' _ _ _ _ (by rw [Int.natAbs_natCast]; omega) (by omega) (by rw [Int.natAbs_natCast]; omega) (by omega) u h h'
    rwa [← Int.natCast_mul, ← Int.natCast_mul, ← cmpN_sign, cmp_lo hdq, cmp_lo2 hdg, hC3] at this)
  rw [hM, hlow, hq, hC3] at hov
  have kK : Hid (∀ u g l, ¬ 0 < C3 → Ext w u → Qat u g ((loN (tA M q) (tD 1 q) : Nat) : Int) (loD (tA M q) (tD 1 q)) l → Calls Tryz.prog 44 #[fmV E F, .pointer (some ⟨g, 0, none⟩)] u fun e w' => e = .returned (.int .u64 ((rungQ E F 0 true a d : Nat) : Int)) ∧ Ext u w') := Lib.hid fun u gp l hC he h => by
    have ho : ¬ overQ E F 0 true a d = true := fun q => hC (hov.2 q)
    unfold overQ at ho
    simp only [Bool.or_eq_true, decide_eq_true_eq, not_or] at ho
    rw [hlow] at ho
    have hI := inf_lt E F
    have h63 : 2 ^ (E + F) ≤ 2 ^ 63 := Nat.pow_le_pow_right (by decide) (by omega)
    have e63 : (2 : Nat) ^ 63 = 9223372036854775808 := by decide
    by_cases g : low = 1 - biasF E ∧ M < 2 ^ F
    · have hr := rung_small (F := F) (mode := 0) (neg := true) (a := a) (d := d) (hlow.trans g.1)
      rw [hr, hM]
      exact r5_PackA E F hE hF gp l M q low hq (by omega) (by omega) u (hT.ext he) h g
    · obtain ⟨hr1, hr2⟩ := pack_rung (F := F) (mode := 0) (neg := true) hE.1 ha hd (by rw [hlow, hM]; exact g)
      rw [hM] at hr1 hr2
      rw [hlow, hq] at hr2
      exact r5_PackB E F hE hF gp l M q low hq (by omega) (by omega) u (hT.ext he) h hr1 _ (by omega) hr2

  have hFI1 : (1 : Int) ≤ (F : Int) := by omega
  have hFI2 : (F : Int) ≤ 52 := by omega
  obtain ⟨bz, hbz⟩ : ∃ bz, biasF E = bz := ⟨_, rfl⟩
  rw [hbz] at kB b1 b2 hlo2
  have hey1 : -33000 ≤ ey ∧ ey ≤ 33000 := by rw [hey] at g1 g2; omega
  obtain ⟨he1, he2⟩ := hey1
  have hqw : IntKind.i64.wrap (max ey (IntKind.i64.wrap (1 - bz)) - (F : Int)) = q := by
    rw [IntKind.wrap_i64, IntKind.wrap_i64]
    have h1 : (1 - bz + 9223372036854775808) % 18446744073709551616 - 9223372036854775808 = 1 - bz := by omega
    first | (rw [h1, hlo2]; omega) | omega
  have hqw2 : IntKind.i64.wrap (ey - (F : Int)) = q2 := by rw [IntKind.wrap_i64]; omega
  rw [hbits]
  have hP63 : 2 ^ (E + F) ≤ 2 ^ 63 := Nat.pow_le_pow_right (by decide) (by omega)
  have e63 : (2 : Nat) ^ 63 = 9223372036854775808 := by decide
  rw [e63] at hP63
  clear hbits hlo2 hMu hlow hey hbz hM hM2 hq hq2 m1 m2 m3 m4 g1 g2 l1 l2 lM lone lG lM2 lM0 lG0 lone1 hp53 hp54 hp0 hdq hdg y1 y2 z1 z2 v1 v2 p1 p2 hC1 hC2 hC3 hqn hlow32 hq2r ha hd hE hF
  generalize loN (tA M q) (tD 1 q) = YN at *
  generalize loD (tA M q) (tD 1 q) = YD at *
  generalize loN (tA M2 q2) (tD 1 q2) = VN at *
  generalize loD (tA M2 q2) (tD 1 q2) = VD at *
  generalize loN (tA (2 ^ (F + 1) - 1) (biasF E - F)) (tD 1 (biasF E - F)) = ZN at *
  generalize loD (tA (2 ^ (F + 1) - 1) (biasF E - F)) (tD 1 (biasF E - F)) = ZD at *
  generalize tA 1 (1 - biasF E) = P1 at *
  generalize tD 1 (1 - biasF E) = P2 at *
  have hRI : ¬ overQ E F 0 true a d = true → rungQ E F 0 true a d < infQ E F := fun ho => by
    unfold overQ at ho
    simp only [Bool.or_eq_true, decide_eq_true_eq, not_or] at ho
    omega
  have hIP := inf_lt E F
  generalize infQ E F = I at *
  generalize (2 ^ (E + F) : Nat) = P at *
  generalize rungQ E F 0 true a d = R at *
  obtain ⟨X, hXv⟩ : ∃ X, (if overQ E F 0 true a d = true then I else R) + P = X := ⟨_, rfl⟩
  rw [hXv]
  have HXV := Lib.hid hXv
  have HOV := Lib.hid hov
  clear hXv hov
  go_enter Tryz.func18, Tryz.ntmps18
  go_upto_region 1 with fail
  obtain ⟨W, hW⟩ : ∃ W, W = w.alloc (.cells #[.int .i64 (E : Int), .int .i64 (F : Int)] 47) := ⟨_, rfl⟩
  obtain ⟨B0, hB0⟩ : ∃ B0, w.heap.size = B0 := ⟨_, rfl⟩
  have xW : Ext w W := by rw [hW]; exact ext_alloc (ext_refl _) _
  have bx : Hid (∀ u, Ext W u → u.cell? ⟨B0, 0, none⟩ = some (.int .i64 (E : Int)) ∧ u.cell? ⟨B0, 1, none⟩ = some (.int .i64 (F : Int)) ∧ B0 < u.heap.size) := Lib.hid fun u hu => by
    have l0 : B0 < W.heap.size := by rw [hW, ← hB0]; simp
    refine ⟨(Below.cell (p := ⟨B0, 0, none⟩) hu l0).trans ?_, (Below.cell (p := ⟨B0, 1, none⟩) hu l0).trans ?_, Nat.lt_of_lt_of_le l0 (ext_size hu)⟩
    all_goals (rw [hW, ← hB0]; simp [go_sem])
  obtain ⟨c0, c1, cl⟩ := bx.out W (ext_refl _)
  rw [← hW, hB0]
  clear hW
  have hX : Ext W W := ext_refl _
  go_wp2_with (first
    | (go_at_call 34; (with_reducible refine (kG.out _ (ext_trans xW hX)).mono ?_); rintro e wn ⟨rfl, xn⟩; have hX := ext_trans hX xn; obtain ⟨c0, c1, cl⟩ := bx.out wn hX)
    | (go_at_call 35; (with_reducible refine (kI.out _).mono ?_); rintro e wn ⟨rfl, xn⟩; have hX := ext_trans hX xn; obtain ⟨c0, c1, cl⟩ := bx.out wn hX)
    | (go_at_call 36; (with_reducible refine (kA.out _ (ext_trans xW hX)).mono ?_); rintro e wa ⟨rfl, hQA, xta⟩; have hX : Ext W wa := Tch.ext xta (ext_trans hX (ext_alloc (ext_refl _) _)) (ext_size hX); obtain ⟨c0, c1, cl⟩ := bx.out wa hX)
    | (go_at_call 37; (with_reducible refine (kL.out _ _ _ hQA.out).mono ?_); rintro e wl ⟨rfl, xl⟩; have hX := ext_trans hX xl; have hQA := Lib.hid (hQA.out.ext xl); obtain ⟨c0, c1, cl⟩ := bx.out wl hX))
  go_region_held3 (fun w' => w'.cell? ⟨B0, 0, none⟩ = some (.int .i64 (E : Int)) ∧ w'.cell? ⟨B0, 1, none⟩ = some (.int .i64 (F : Int))) (exact ⟨(bx.out _ (by (repeat (first | exact ext_refl _ | assumption | refine ext_setCell ?_ (by simp; try omega) _ | refine ext_alloc ?_ _ | refine ext_drew ?_ | refine ext_drewN ?_ _ | refine ext_trans ?_ (Aft.use _) | refine ext_trans ?_ (by assumption))))).1, (bx.out _ (by (repeat (first | exact ext_refl _ | assumption | refine ext_setCell ?_ (by simp; try omega) _ | refine ext_alloc ?_ _ | refine ext_drew ?_ | refine ext_drewN ?_ _ | refine ext_trans ?_ (Aft.use _) | refine ext_trans ?_ (by assumption))))).2.1⟩)
    (first
    | (go_at_call 39; (with_reducible refine (kB.out _).mono ?_); rintro e w6 ⟨rfl, xb6⟩; have hQ6 := Lib.hid (hQA.out.ext (show Ext wl w6 by (repeat (first | exact ext_refl _ | assumption | refine ext_setCell ?_ (by simp; try omega) _ | refine ext_alloc ?_ _ | refine ext_drew ?_ | refine ext_drewN ?_ _ | refine ext_trans ?_ (Aft.use _) | refine ext_trans ?_ (by assumption))))); have hX6 : Ext W w6 := (by (repeat (first | exact ext_refl _ | assumption | refine ext_setCell ?_ (by simp; try omega) _ | refine ext_alloc ?_ _ | refine ext_drew ?_ | refine ext_drewN ?_ _ | refine ext_trans ?_ (Aft.use _) | refine ext_trans ?_ (by assumption)))))
    | (go_at_call 38; (try simp only [hqw]); (with_reducible refine (kU.out _ _ _ (ext_trans xW hX6) hQ6.out).mono ?_); rintro e w7 ⟨g7, rfl, hQ7, hg7, xb7⟩; have hX7 : Ext W w7 := (by (repeat (first | exact ext_refl _ | assumption | refine ext_setCell ?_ (by simp; try omega) _ | refine ext_alloc ?_ _ | refine ext_drew ?_ | refine ext_drewN ?_ _ | refine ext_trans ?_ (Aft.use _) | refine ext_trans ?_ (by assumption)))); have hA7 := Lib.hid (hQ6.out.ext (show Ext w6 w7 by (repeat (first | exact ext_refl _ | assumption | refine ext_setCell ?_ (by simp; try omega) _ | refine ext_alloc ?_ _ | refine ext_drew ?_ | refine ext_drewN ?_ _ | refine ext_trans ?_ (Aft.use _) | refine ext_trans ?_ (by assumption)))))))
  obtain ⟨c0, c1, cl⟩ := bx.out w7 hX7
  go_upto_if 56 with (first
    | (go_at_call 40; (with_reducible refine (k1.out _ _ _ _ _ hQ7.out hA7.out).mono ?_); rintro e w8 ⟨rfl, xb8⟩; have hX8 : Ext W w8 := ext_trans hX7 xb8; obtain ⟨c0, c1, cl⟩ := bx.out w8 hX8; have hQ8 := Lib.hid (hQ7.out.ext xb8); have hA8 := Lib.hid (hA7.out.ext xb8)))
  clear hQA hQ6 hA7 hQ7 hX6 hX7 xb6 xb7 xb8 k1 kG kI kA kL
  go_cut [15] (fun v wx => (∃ fl : Int, v = .int .u8 fl) ∧ Hid (Ext w8 wx))
  case first =>
    by_cases g : C1 = 0
    · subst g
      go_wp2
      go_meet
      case rel => exact ⟨⟨_, rfl⟩, ext_refl _⟩
    · have dg : decide (C1 = 0) = false := decide_eq_false g
      go_wp2_with fail
      go_region_held3 (fun w' => w'.cell? ⟨B0, 0, none⟩ = some (.int .i64 (E : Int)) ∧ w'.cell? ⟨B0, 1, none⟩ = some (.int .i64 (F : Int))) (exact ⟨(bx.out _ (by (repeat (first | exact ext_refl _ | assumption | refine ext_setCell ?_ (by simp; try omega) _ | refine ext_alloc ?_ _ | refine ext_drew ?_ | refine ext_drewN ?_ _ | refine ext_trans ?_ (Aft.use _) | refine ext_trans ?_ (by assumption))))).1, (bx.out _ (by (repeat (first | exact ext_refl _ | assumption | refine ext_setCell ?_ (by simp; try omega) _ | refine ext_alloc ?_ _ | refine ext_drew ?_ | refine ext_drewN ?_ _ | refine ext_trans ?_ (Aft.use _) | refine ext_trans ?_ (by assumption))))).2.1⟩)
        (first
        | (go_at_call 38; (try simp only [hqw2]); (with_reducible refine (kU2.out _ _ _ (by (repeat (first | exact ext_refl _ | assumption | refine ext_setCell ?_ (by simp; try omega) _ | refine ext_alloc ?_ _ | refine ext_drew ?_ | refine ext_drewN ?_ _ | refine ext_trans ?_ (Aft.use _) | refine ext_trans ?_ (by assumption)))) (hA8.out.ext (by (repeat (first | exact ext_refl _ | assumption | refine ext_setCell ?_ (by simp; try omega) _ | refine ext_alloc ?_ _ | refine ext_drew ?_ | refine ext_drewN ?_ _ | refine ext_trans ?_ (Aft.use _) | refine ext_trans ?_ (by assumption)))))).mono ?_); rintro e w9 ⟨g9, rfl, hQ9, hg9, xb9⟩; have hX9 : Ext w8 w9 := (by (repeat (first | exact ext_refl _ | assumption | refine ext_setCell ?_ (by simp; try omega) _ | refine ext_alloc ?_ _ | refine ext_drew ?_ | refine ext_drewN ?_ _ | refine ext_trans ?_ (Aft.use _) | refine ext_trans ?_ (by assumption)))); have hW9 : Ext W w9 := (by (repeat (first | exact ext_refl _ | assumption | refine ext_setCell ?_ (by simp; try omega) _ | refine ext_alloc ?_ _ | refine ext_drew ?_ | refine ext_drewN ?_ _ | refine ext_trans ?_ (Aft.use _) | refine ext_trans ?_ (by assumption)))))
        | (go_at_call 41; (with_reducible refine (kE.out _).mono ?_); rintro e w10 ⟨g10, rfl, hQ10, hg10, xb10⟩; have hQ9 := Lib.hid (hQ9.out.ext (show Ext w9 w10 by (repeat (first | exact ext_refl _ | assumption | refine ext_setCell ?_ (by simp; try omega) _ | refine ext_alloc ?_ _ | refine ext_drew ?_ | refine ext_drewN ?_ _ | refine ext_trans ?_ (Aft.use _) | refine ext_trans ?_ (by assumption))))); have hX10 : Ext w8 w10 := (by (repeat (first | exact ext_refl _ | assumption | refine ext_setCell ?_ (by simp; try omega) _ | refine ext_alloc ?_ _ | refine ext_drew ?_ | refine ext_drewN ?_ _ | refine ext_trans ?_ (Aft.use _) | refine ext_trans ?_ (by assumption)))))
        | (go_at_call 40; (with_reducible refine (k2.out _ _ _ _ _ (hQ9.out.ext (by (repeat (first | exact ext_refl _ | assumption | refine ext_setCell ?_ (by simp; try omega) _ | refine ext_alloc ?_ _ | refine ext_drew ?_ | refine ext_drewN ?_ _ | refine ext_trans ?_ (Aft.use _) | refine ext_trans ?_ (by assumption))))) (hQ10.out.ext (by (repeat (first | exact ext_refl _ | assumption | refine ext_setCell ?_ (by simp; try omega) _ | refine ext_alloc ?_ _ | refine ext_drew ?_ | refine ext_drewN ?_ _ | refine ext_trans ?_ (Aft.use _) | refine ext_trans ?_ (by assumption)))))).mono ?_); rintro e w11 ⟨rfl, xb11⟩; have hX11 : Ext w8 w11 := (by (repeat (first | exact ext_refl _ | assumption | refine ext_setCell ?_ (by simp; try omega) _ | refine ext_alloc ?_ _ | refine ext_drew ?_ | refine ext_drewN ?_ _ | refine ext_trans ?_ (Aft.use _) | refine ext_trans ?_ (by assumption))))))
      all_goals
        go_wp2
        all_goals go_meet
        all_goals (case rel => exact ⟨⟨_, rfl⟩, hX11⟩)
  case rest =>
    obtain ⟨⟨fl, rfl⟩, hY⟩ := hcut
    obtain ⟨w9, rfl⟩ : ∃ u, u = wc := ⟨wc, rfl⟩
    have hX9 := ext_trans hX8 hY.out
    clear hqw hqw2 he1 he2 b1 b2
    have hQ9 := Lib.hid (hQ8.out.ext hY.out)
    clear hY hX8 hQ8 hA8 k2 kU kU2 kB kE
    obtain ⟨c0, c1, cl⟩ := bx.out _ hX9
    by_cases g : 0 < C3
    · have ho := HOV.out.1 g
      have hx2 := HXV.out
      rw [if_pos ho] at hx2
      clear HXV HOV kK ho hRI
      have hval : IntKind.u64.wrap ((P : Int) + (I : Int)) = (X : Int) := by rw [IntKind.wrap_u64]; omega
      clear hIP hP63 e63
      go_wp2_with (first
        | (go_at_call 42; (with_reducible refine (kT.out _ (ext_trans xW hX9)).mono ?_); rintro e w10 ⟨g10, rfl, hQ10, hg10, xb10⟩; have hX10 : Ext W w10 := ext_trans hX9 xb10; obtain ⟨c0, c1, cl⟩ := bx.out w10 hX10)
        | (go_at_call 40; (with_reducible refine (k3.out _ _ _ _ _ (hQ9.out.ext xb10) hQ10.out).mono ?_); rintro e w11 ⟨rfl, xb11⟩; have hX11 : Ext W w11 := ext_trans hX10 xb11; have hQ11 := Lib.hid (hQ9.out.ext (ext_trans xb10 xb11)); obtain ⟨c0, c1, cl⟩ := bx.out w11 hX11)
        | (go_at_call 43; (with_reducible refine (kY.out _).mono ?_); rintro e w12 ⟨rfl, xb12⟩; have hX12 : Ext W w12 := ext_trans hX11 xb12))
      refine bodyPost_ret (v := .tuple #[.int .u64 ↑X, .int .u8 3]) ?h rfl ⟨3, rfl, ext_trans xW hX12⟩
      case h => simp [results, Tryz.results18, go_sem, hval]
    · have ho : ¬ overQ E F 0 true a d = true := fun q => g (HOV.out.2 q)
      have hx2 := HXV.out
      rw [if_neg ho] at hx2
      have hR3 := hRI ho
      clear HXV HOV kY ho hRI
      have hval : IntKind.u64.wrap ((P : Int) + (R : Int)) = (X : Int) := by rw [IntKind.wrap_u64]; omega
      clear hIP hP63 e63
      go_wp2_with (first
        | (go_at_call 42; (with_reducible refine (kT.out _ (ext_trans xW hX9)).mono ?_); rintro e w10 ⟨g10, rfl, hQ10, hg10, xb10⟩; have hX10 : Ext W w10 := ext_trans hX9 xb10; obtain ⟨c0, c1, cl⟩ := bx.out w10 hX10)
        | (go_at_call 40; (with_reducible refine (k3.out _ _ _ _ _ (hQ9.out.ext xb10) hQ10.out).mono ?_); rintro e w11 ⟨rfl, xb11⟩; have hX11 : Ext W w11 := ext_trans hX10 xb11; have hQ11 := Lib.hid (hQ9.out.ext (ext_trans xb10 xb11)); obtain ⟨c0, c1, cl⟩ := bx.out w11 hX11)
        | (go_at_call 44; (with_reducible refine (kK.out _ _ _ g (ext_trans xW hX11) hQ11.out).mono ?_); rintro e w12 ⟨rfl, xb12⟩; have hX12 : Ext W w12 := ext_trans hX11 xb12))
      refine bodyPost_ret (v := .tuple #[.int .u64 ↑X, .int .u8 fl]) ?h rfl ⟨fl, rfl, ext_trans xW hX12⟩
      case h => simp [results, Tryz.results18, go_sem, hval]
end Go.Proofs.YtchchnohmmncfaaGreatDoor.NB
end
section
/- The document's rounding of any worth; the document's forms; its word on decimals. -/
namespace Go.Proofs.YtchchnohmmncfaaGreatDoor.NB
open Go.RowKit
attribute [local go_sem] bs_size bs_extract bs_get bs_append bs_toList const_get
attribute [local go_sem] sz2 sz3 sz4 sz5 sz6 sz7 sz8
set_option maxHeartbeats 8000000
set_option maxRecDepth 100000
attribute [local irreducible] Calls
theorem r5_Rat (E F : Nat) (neg : Bool) (hE : 2 ≤ E ∧ E ≤ 11) (hF : 1 ≤ F ∧ F ≤ 52) (b lo : Nat) (z : Int) (d : Nat) (hd : 0 < d) (l1 : (lim z.natAbs).length ≤ 1000) (l2 : (lim d).length ≤ 1000) (w : World) (hT : Tz w) (hx : Qat w b z d lo) : Calls Tryz.prog 18 #[fmV E F, .pointer (some ⟨b, 0, none⟩), .bool neg, .int .u8 0] w (RatP5 w (bitsS E F 0 (decide (z < 0)) neg z.natAbs d)) := by
  by_cases h0 : z = 0
  · subst h0
    have := r5_Rat0 E F neg hE hF b lo d w hx
    unfold bitsS
    rw [if_pos (show Int.natAbs 0 = 0 from rfl)]
    exact this
  · unfold bitsS
    rw [if_neg (by omega)]
    by_cases h1 : z < 0
    · rw [decide_eq_true h1, if_pos rfl]
      refine r5_RatN E F neg hE hF b lo z.natAbs d (by omega) hd l1 l2 w hT ?_
      rwa [show -((z.natAbs : Nat) : Int) = z by omega]
    · rw [decide_eq_false h1, if_neg (by decide), Nat.add_zero]
      refine r5_RatP E F neg hE hF b lo z.natAbs d (by omega) hd l1 l2 w hT ?_
      rwa [show ((z.natAbs : Nat) : Int) = z by omega]
theorem r8_Double (w : World) : Calls Tryz.prog 19 #[] w fun e w' => e = .returned (fmV (11 : Nat) (52 : Nat)) ∧ Ext w w' := by
  go_enter Tryz.func19, Tryz.ntmps19
  go_wp2
  refine bodyPost_ret (v := .agg #[.int .i64 11, .int .i64 52]) ?h rfl ⟨rfl, ?_⟩
  case h => simp [results, Tryz.results19, go_sem]
  repeat (first | exact ext_refl _ | assumption | refine ext_setCell ?_ (by simp; try omega) _ | refine ext_alloc ?_ _ | refine ext_drew ?_ | refine ext_drewN ?_ _ | refine ext_trans ?_ (Aft.use _) | refine ext_trans ?_ (by assumption))
theorem r8_Single (w : World) : Calls Tryz.prog 27 #[] w fun e w' => e = .returned (fmV (8 : Nat) (23 : Nat)) ∧ Ext w w' := by
  go_enter Tryz.func27, Tryz.ntmps27
  go_wp2
  refine bodyPost_ret (v := .agg #[.int .i64 8, .int .i64 23]) ?h rfl ⟨rfl, ?_⟩
  case h => simp [results, Tryz.results27, go_sem]
  repeat (first | exact ext_refl _ | assumption | refine ext_setCell ?_ (by simp; try omega) _ | refine ext_alloc ?_ _ | refine ext_drew ?_ | refine ext_drewN ?_ _ | refine ext_trans ?_ (Aft.use _) | refine ext_trans ?_ (by assumption))
theorem may_no (neg : Bool) {l : List UInt8} {exp : Int} (h : 1073741824 < exp ∨ exp < -1073741824 ∨ 65536 < l.length) : decide (dcE ⟨neg, l, exp⟩ = 0) = false := by
  refine decide_eq_false fun g => ?_
  by_cases h0 : l.length = 0
  · unfold dcE at g
    simp only at g
    rw [if_neg (by omega), if_pos h0] at g
    split at g
    · omega
    · cases g
  · have k := dc_ok g (by simpa using Nat.pos_of_ne_zero h0)
    have k1 := k.len
    have k2 := k.exp
    simp only at k1 k2
    omega
theorem may_nil (neg : Bool) (exp : Int) : decide (dcE ⟨neg, [], exp⟩ = 0) = decide (exp = 0) := by
  unfold dcE
  by_cases h : exp = 0
  · subst h; rfl
  · simp [h]
theorem may_dig (neg : Bool) {l : List UInt8} {exp : Int} (h0 : 0 < l.length) (h : digsB l = false) : decide (dcE ⟨neg, l, exp⟩ = 0) = false := by
  refine decide_eq_false fun g => ?_
  have k := (dc_ok g h0).digs
  simp only at k
  rw [h] at k
  cases k
theorem may_end (neg : Bool) {l : List UInt8} {exp : Int} (h0 : 0 < l.length) (h1 : l.length ≤ 65536) (h : digsB l = true) (he : -1073741824 ≤ exp ∧ exp ≤ 1073741824) : decide (dcE ⟨neg, l, exp⟩ = 0) = (decide (l[0] ≠ 48) && decide (l[l.length - 1] ≠ 48)) := by
  have hh : l.head? = some l[0] := by rw [List.head?_eq_getElem?, List.getElem?_eq_getElem h0]
  have hg : l.getLast? = some l[l.length - 1] := by rw [List.getLast?_eq_getElem?, List.getElem?_eq_getElem (show l.length - 1 < l.length by omega)]
  have hf : far exp = false := by unfold far; simp; omega
  unfold dcE
  simp only [hh, hg, hf, h]
  rw [if_neg (by omega), if_neg (by omega), if_neg (by decide)]
  by_cases g1 : l[0] = 48
  · simp [g1]
  · by_cases g2 : l[l.length - 1] = 48
    · simp [g2]
    · simp [g1, g2]
theorem ne_48 (b : UInt8) : ((b.toNat : Int) != 48) = decide (b ≠ 48) := by
  by_cases h : b = 48
  · subst h; rfl
  · rw [decide_eq_true h, bne, (byte_48n b).2 h]; rfl
theorem r11_May (neg : Bool) (l : List UInt8) (exp : Int) (hl : l.length ≤ 9223372036854775807) (w : World) : Calls Tryz.prog 47 #[dcV ⟨neg, l, exp⟩] w fun e w' => e = .returned (.bool (decide (dcE ⟨neg, l, exp⟩ = 0))) ∧ Ext w w' := by
  by_cases h1 : 1073741824 < exp
  · rw [may_no neg (.inl h1)]
    go_enter Tryz.func47, Tryz.ntmps47
    go_wp2
    refine bodyPost_ret (v := .bool false) ?h rfl ⟨rfl, ?_⟩
    case h => simp [results, Tryz.results47, go_sem]
    repeat (first | exact ext_refl _ | assumption | refine ext_setCell ?_ (by simp; try omega) _ | refine ext_alloc ?_ _ | refine ext_drew ?_ | refine ext_drewN ?_ _ | refine ext_trans ?_ (Aft.use _) | refine ext_trans ?_ (by assumption))
  by_cases h2 : exp < -1073741824
  · rw [may_no neg (.inr (.inl h2))]
    go_enter Tryz.func47, Tryz.ntmps47
    go_wp2
    refine bodyPost_ret (v := .bool false) ?h rfl ⟨rfl, ?_⟩
    case h => simp [results, Tryz.results47, go_sem]
    repeat (first | exact ext_refl _ | assumption | refine ext_setCell ?_ (by simp; try omega) _ | refine ext_alloc ?_ _ | refine ext_drew ?_ | refine ext_drewN ?_ _ | refine ext_trans ?_ (Aft.use _) | refine ext_trans ?_ (by assumption))
  by_cases h3 : 65536 < l.length
  · rw [may_no neg (.inr (.inr h3))]
    go_enter Tryz.func47, Tryz.ntmps47
    go_wp2
    refine bodyPost_ret (v := .bool false) ?h rfl ⟨rfl, ?_⟩
    case h => simp [results, Tryz.results47, go_sem]
    repeat (first | exact ext_refl _ | assumption | refine ext_setCell ?_ (by simp; try omega) _ | refine ext_alloc ?_ _ | refine ext_drew ?_ | refine ext_drewN ?_ _ | refine ext_trans ?_ (Aft.use _) | refine ext_trans ?_ (by assumption))
  by_cases h4 : l.length = 0
  · obtain rfl : l = [] := List.eq_nil_of_length_eq_zero h4
    rw [may_nil]
    by_cases h5 : exp = 0
    · subst h5
      go_enter Tryz.func47, Tryz.ntmps47
      go_wp2
      refine bodyPost_ret (v := .bool true) ?h rfl ⟨rfl, ?_⟩
      case h => simp [results, Tryz.results47, go_sem]
      repeat (first | exact ext_refl _ | assumption | refine ext_setCell ?_ (by simp; try omega) _ | refine ext_alloc ?_ _ | refine ext_drew ?_ | refine ext_drewN ?_ _ | refine ext_trans ?_ (Aft.use _) | refine ext_trans ?_ (by assumption))
    · have hne : (exp == 0) = false := by simp [h5]
      rw [decide_eq_false h5]
      clear h5
      go_enter Tryz.func47, Tryz.ntmps47
      go_wp2
      refine bodyPost_ret (v := .bool false) ?h rfl ⟨rfl, ?_⟩
      case h => simp [results, Tryz.results47, go_sem]
      repeat (first | exact ext_refl _ | assumption | refine ext_setCell ?_ (by simp; try omega) _ | refine ext_alloc ?_ _ | refine ext_drew ?_ | refine ext_drewN ?_ _ | refine ext_trans ?_ (Aft.use _) | refine ext_trans ?_ (by assumption))
  have hne : ((l.length : Int) == 0) = false := by rw [beq_eq_false_iff_ne]; omega
  have h0 : 0 < l.length := by omega
  have hem : l.isEmpty = false := by
    cases l with
    | nil => simp at h0
    | cons a t => rfl
  obtain ⟨X, hX⟩ : ∃ X, decide (dcE ⟨neg, l, exp⟩ = 0) = X := ⟨_, rfl⟩
  have HD := Lib.hid (fun h => hX.symm.trans (may_dig neg (exp := exp) h0 h))
  have HE := Lib.hid (fun h => hX.symm.trans (may_end neg (exp := exp) h0 (by omega) h (by omega)))
  rw [hX]
  clear hX h4
  go_enter Tryz.func47, Tryz.ntmps47
  go_wp2
  go_loop [3] (fun v => ∃ k : Nat, k ≤ l.length ∧ v = .int .i64 k ∧ digsB (l.take k) = true) (fun v => l.length - (intOf v).toNat)
  case atStart => exact ⟨0, Nat.zero_le _, rfl, rfl⟩
  case round =>
    obtain ⟨k, hk, rfl, hd⟩ := hrel
    have HG := Lib.hid hd
    clear hd
    by_cases hlt : k < l.length
    · cases hD : isD l[k]
      · have hb := isD_cases l[k] hD
        have hX0 := HD.out (digs_no l k (by assumption) hD)
        subst hX0
        rcases hb with hb | hb
        all_goals
          clear hD
          go_wp2
          refine bodyPost_ret (v := .bool false) ?h rfl ⟨rfl, ?_⟩
          case h => simp [results, Tryz.results47, go_sem]
          repeat (first | exact ext_refl _ | assumption | refine ext_setCell ?_ (by simp; try omega) _ | refine ext_alloc ?_ _ | refine ext_drew ?_ | refine ext_drewN ?_ _ | refine ext_trans ?_ (Aft.use _) | refine ext_trans ?_ (by assumption))
      · have hb := isD_yes l[k] hD
        have HN := Lib.hid hD
        clear hD
        obtain ⟨hb1, hb2⟩ := hb
        go_wp2
        go_round
        case rel => exact ⟨k + 1, by omega, by go_num, by rw [digs_step l k (by assumption) HG.out]; exact HN.out⟩
        case measure => simp [intOf]; omega
    · have : k = l.length := by omega
      subst this
      have hz := HG.out
      rw [List.take_length] at hz
      have hXe := HE.out hz
      clear hz HG HD HE
      have hval : ((l[0].toNat : Int) != 48 && (l[l.length - 1].toNat : Int) != 48) = X := by rw [hXe, ne_48, ne_48]
      clear hXe
      by_cases h5 : l[0] = 48
      · have hX0 : X = false := by rw [← hval, ne_48]; simp [h5]
        have hc : (l[0].toNat : Int) = 48 := by rw [h5]; rfl
        subst hX0
        clear hval h5
        go_wp2
        all_goals
          refine bodyPost_ret (v := .bool false) ?h rfl ⟨rfl, ?_⟩
          case h => simp [results, Tryz.results47, go_sem]
          repeat (first | exact ext_refl _ | assumption | refine ext_setCell ?_ (by simp; try omega) _ | refine ext_alloc ?_ _ | refine ext_drew ?_ | refine ext_drewN ?_ _ | refine ext_trans ?_ (Aft.use _) | refine ext_trans ?_ (by assumption))
      · have hc : ¬ (l[0].toNat : Int) = 48 := by have := (byte_48n l[0]).2 h5; rwa [beq_eq_false_iff_ne] at this
        clear h5
        go_wp2
        all_goals
          refine bodyPost_ret (v := .bool X) ?h rfl ⟨rfl, ?_⟩
          case h => simp [results, Tryz.results47, go_sem, hval]
          repeat (first | exact ext_refl _ | assumption | refine ext_setCell ?_ (by simp; try omega) _ | refine ext_alloc ?_ _ | refine ext_drew ?_ | refine ext_drewN ?_ _ | refine ext_trans ?_ (Aft.use _) | refine ext_trans ?_ (by assumption))
end Go.Proofs.YtchchnohmmncfaaGreatDoor.NB
end
