/- Lemmas of this proof, laid together: R5H. -/
import Derived.Test.YtchchnohmmncfaaGreatDoorMg29
import Derived.Deep.DeepCutAuto
import Derived.Deep.RegionWith
import Derived.Deep.LoopGhost
import Derived.Deep.RegionHeld3
set_option linter.unusedSimpArgs false
set_option linter.unusedVariables false
section
/- The document's rounding: the greatest float; what stands beyond it. -/
namespace Go.Proofs.YtchchnohmmncfaaGreatDoor.NB
open Go.RowKit
attribute [local go_sem] sz2 sz3 sz4 sz5 sz6 sz7 sz8
set_option maxHeartbeats 8000000
set_option maxRecDepth 100000
attribute [local irreducible] Calls
theorem byz5 {P Q : Prop} (h : P) (k : P → Q) : Q := k h
theorem rat_room_new (u : World) (g : Nat) (h : g = u.heap.size) : RatRoom (newRat u) g := by subst h; exact room_rat u
theorem r5_Greatest (E F : Nat) (hE : 2 ≤ E ∧ E ≤ 11) (hF : 1 ≤ F ∧ F ≤ 52) (w : World) (hT : Tz w) : Calls Tryz.prog 42 #[fmV E F] w (QPs w ((loN (tA (2 ^ (F + 1) - 1) (biasF E - F)) (tD 1 (biasF E - F)) : Nat) : Int) (loD (tA (2 ^ (F + 1) - 1) (biasF E - F)) (tD 1 (biasF E - F)))) := by
  obtain ⟨b1, b2⟩ := bias_rng hE
  have kB := Lib.hid (fun w => r5_Bias E F hE w)
  have kP := Lib.hid (fun w => r5_power (biasF E - F) (by omega) w)
  obtain ⟨G, hG⟩ : ∃ G, 2 ^ (F + 1) - 1 = G := ⟨_, rfl⟩
  have hp53 : 2 ^ (F + 1) ≤ 2 ^ 53 := Nat.pow_le_pow_right (by decide) (by omega)
  have hp0 : 0 < 2 ^ (F + 1) := Nat.two_pow_pos _
  have e53 : (2 : Nat) ^ 53 = 9007199254740992 := by decide
  have hG53 : G < 9007199254740992 := by omega
  have hGw : wrap64 (wrap64 ((2 : Int) ^ (F + 1)) - 1) = (G : Int) := by
    have : ((2 : Int) ^ (F + 1)) = ((2 ^ (F + 1) : Nat) : Int) := by simp
    rw [this]
    unfold wrap64
    omega
  have o1 : (lim 1).length ≤ 1 := by have e : (lim 1).length = 1 := by kernel_rfl
                                     omega
  have lG : (lim G).length ≤ 2 := lim_bits (by have := bits_lt (show G < 2 ^ 53 by omega); omega)
  have lA1 := tA_len 1 (biasF E - F) 1 (by omega) o1
  have lD1 := tD_len 1 (biasF E - F) 1 (by omega) o1
  have eA : G * tA 1 (biasF E - F) = tA G (biasF E - F) := by unfold tA; rw [Nat.one_mul]
  rw [hG]
  obtain ⟨q, hq⟩ : ∃ q : Int, biasF E - F = q := ⟨_, rfl⟩
  rw [hq] at kP lA1 lD1 eA ⊢
  have kS := Lib.hid (fun u r (h : RatRoom u r) => o_SetInt64 r (G : Int) (by omega) (by omega) u h)
  have kM := Lib.hid (fun u r r2 g5 l l' (hE : Ext w u) (hr : RatRoom u r) (h2 : Qat u r2 (G : Int) 1 l) (h5 : Qat u g5 ((tA 1 q : Nat) : Int) (tD 1 q) l') => show Calls Tryz.prog 73 #[.pointer (some ⟨r, 0, none⟩), .pointer (some ⟨r2, 0, none⟩), .pointer (some ⟨g5, 0, none⟩)] u (QTc u r ((loN (tA G q) (tD 1 q) : Nat) : Int) (loD (tA G q) (tD 1 q))) by
    have := o_Mul r r2 g5 l l' (G : Int) ((tA 1 q : Nat) : Int) 1 (tD 1 q) (by rw [Int.natAbs_natCast]; omega) (by omega) (by rw [Int.natAbs_natCast]; omega) (by omega) u (hT.ext hE) hr h2 h5
    rw [← Int.natCast_mul, eA, Nat.one_mul, (can_lo _ _).1, (can_lo _ _).2] at this
    exact this)
  have hFI1 : (1 : Int) ≤ (F : Int) := by omega
  have hFI2 : (F : Int) ≤ 52 := by omega
  obtain ⟨bz, hbz⟩ : ∃ bz, biasF E = bz := ⟨_, rfl⟩
  rw [hbz] at kB b1 b2 hq
  have hq1 : -52 ≤ q := by omega
  have hq2 : q ≤ 1022 := by omega
  have hqw : IntKind.i64.wrap q = q := by rw [IntKind.wrap_i64]; omega
  generalize loN (tA G q) (tD 1 q) = ZN at *
  generalize loD (tA G q) (tD 1 q) = ZD at *
  generalize tA 1 q = P3 at *
  generalize tD 1 q = P4 at *
  clear hG hp53 hp0 e53 o1 lG lA1 lD1 eA hbz hT hE
  go_enter Tryz.func42, Tryz.ntmps42
  go_upto_region 2 with fail
  obtain ⟨W, hW⟩ : ∃ W, W = w.alloc (.cells #[.int .i64 (E : Int), .int .i64 (F : Int)] 47) := ⟨_, rfl⟩
  obtain ⟨B0, hB0⟩ : ∃ B0, w.heap.size = B0 := ⟨_, rfl⟩
  have xW : Ext w W := by rw [hW]; exact ext_alloc (ext_refl _) _
  have bx : Hid (∀ u, Ext W u → u.cell? ⟨B0, 0, none⟩ = some (.int .i64 (E : Int)) ∧ u.cell? ⟨B0, 1, none⟩ = some (.int .i64 (F : Int)) ∧ B0 < u.heap.size) := Lib.hid fun u hu => by
    have l0 : B0 < W.heap.size := by rw [hW, ← hB0]; simp
    refine ⟨(Below.cell (p := ⟨B0, 0, none⟩) hu l0).trans ?_, (Below.cell (p := ⟨B0, 1, none⟩) hu l0).trans ?_, Nat.lt_of_lt_of_le l0 (ext_size hu)⟩
    all_goals (rw [hW, ← hB0]; simp [go_sem])
  obtain ⟨c0, c1, cl⟩ := bx.out W (ext_refl _)
  have hWs : W.heap.size = B0 + 1 := by rw [hW, ← hB0]; simp
  rw [← hW, hB0]
  clear hW
  go_region_held3 (fun w' => w'.cell? ⟨B0, 0, none⟩ = some (.int .i64 (E : Int)) ∧ w'.cell? ⟨B0, 1, none⟩ = some (.int .i64 (F : Int))) (exact ⟨(bx.out _ (by (repeat (first | exact ext_refl _ | assumption | refine ext_setCell ?_ (by simp; try omega) _ | refine ext_alloc ?_ _ | refine ext_drew ?_ | refine ext_drewN ?_ _ | refine ext_trans ?_ (Aft.use _) | refine ext_trans ?_ (by assumption))))).1, (bx.out _ (by (repeat (first | exact ext_refl _ | assumption | refine ext_setCell ?_ (by simp; try omega) _ | refine ext_alloc ?_ _ | refine ext_drew ?_ | refine ext_drewN ?_ _ | refine ext_trans ?_ (Aft.use _) | refine ext_trans ?_ (by assumption))))).2.1⟩)
    (first
    | (go_at_call 76; (with_reducible refine (kS.out _ _ ?_).mono ?_); (refine ⟨⟨?_, ⟨.bool false, ?_⟩, ⟨.slice none 0 0, ?_⟩, ?_, ?_⟩, ⟨.slice none 0 0, ?_⟩, ?_⟩ <;> (first | (simp [go_sem, hWs]; done) | (simp [hWs]; done) | (simp [hWs]; omega))); rintro e w1 ⟨rfl, hQ1, xt1⟩; (try (refine byz5 (P := RatRoom w1 (B0 + 1)) ?_ ?_; (refine room_tch ?_ xt1 ?_; (refine ⟨⟨?_, ⟨.bool false, ?_⟩, ⟨.slice none 0 0, ?_⟩, ?_, ?_⟩, ⟨.slice none 0 0, ?_⟩, ?_⟩ <;> (first | (simp [go_sem, hWs]; done) | (simp [hWs]; done) | (simp [hWs]; omega))); (omega)); intro Ra)); (try (refine byz5 (P := RatRoom w1 (B0 + 1 + 1)) ?_ ?_; (refine room_tch ?_ xt1 ?_; (refine ⟨⟨?_, ⟨.bool false, ?_⟩, ⟨.slice none 0 0, ?_⟩, ?_, ?_⟩, ⟨.slice none 0 0, ?_⟩, ?_⟩ <;> (first | (simp [go_sem, hWs]; done) | (simp [hWs]; done) | (simp [hWs]; omega))); (omega)); intro Ra)); have hX1 : Ext W w1 := (Tch.ext xt1 (by (repeat (first | exact ext_refl _ | assumption | refine ext_setCell ?_ (by simp; try omega) _ | refine ext_alloc ?_ _ | refine ext_drew ?_ | refine ext_drewN ?_ _ | refine ext_trans ?_ (Aft.use _) | refine ext_trans ?_ (by assumption)))) (by omega)))
    | (go_at_call 39; (with_reducible refine (kB.out _).mono ?_); rintro e w2 ⟨rfl, xb2⟩; have hQ2 := Lib.hid (hQ1.out.ext (show Ext w1 w2 by (repeat (first | exact ext_refl _ | assumption | refine ext_setCell ?_ (by simp; try omega) _ | refine ext_alloc ?_ _ | refine ext_drew ?_ | refine ext_drewN ?_ _ | refine ext_trans ?_ (Aft.use _) | refine ext_trans ?_ (by assumption))))); (try (refine byz5 (P := RatRoom w2 (B0 + 1)) ?_ ?_; (focus (refine Ra.ext ?_; (repeat (first | exact ext_refl _ | assumption | refine ext_setCell ?_ (by simp; try omega) _ | refine ext_alloc ?_ _ | refine ext_drew ?_ | refine ext_drewN ?_ _ | refine ext_trans ?_ (Aft.use _) | refine ext_trans ?_ (by assumption))); done)); intro Ra)); (try (refine byz5 (P := RatRoom w2 (B0 + 1 + 1)) ?_ ?_; (focus (refine Ra.ext ?_; (repeat (first | exact ext_refl _ | assumption | refine ext_setCell ?_ (by simp; try omega) _ | refine ext_alloc ?_ _ | refine ext_drew ?_ | refine ext_drewN ?_ _ | refine ext_trans ?_ (Aft.use _) | refine ext_trans ?_ (by assumption))); done)); intro Ra)); (try (refine byz5 (P := RatRoom w2 w1.heap.size) ?_ ?_; (focus (first | (refine RatRoom.ext (rat_room_new w1 _ rfl) ?_; (repeat (first | exact ext_refl _ | assumption | refine ext_setCell ?_ (by simp; try omega) _ | refine ext_alloc ?_ _ | refine ext_drew ?_ | refine ext_drewN ?_ _ | refine ext_trans ?_ (Aft.use _) | refine ext_trans ?_ (by assumption))); done) | (refine RatRoom.ext (rat_room_new w1.drew _ rfl) ?_; (repeat (first | exact ext_refl _ | assumption | refine ext_setCell ?_ (by simp; try omega) _ | refine ext_alloc ?_ _ | refine ext_drew ?_ | refine ext_drewN ?_ _ | refine ext_trans ?_ (Aft.use _) | refine ext_trans ?_ (by assumption))); done) | (refine RatRoom.ext (rat_room_new w1.drew.drew _ rfl) ?_; (repeat (first | exact ext_refl _ | assumption | refine ext_setCell ?_ (by simp; try omega) _ | refine ext_alloc ?_ _ | refine ext_drew ?_ | refine ext_drewN ?_ _ | refine ext_trans ?_ (Aft.use _) | refine ext_trans ?_ (by assumption))); done))); intro Ra)); have hX2 : Ext W w2 := (by (repeat (first | exact ext_refl _ | assumption | refine ext_setCell ?_ (by simp; try omega) _ | refine ext_alloc ?_ _ | refine ext_drew ?_ | refine ext_drewN ?_ _ | refine ext_trans ?_ (Aft.use _) | refine ext_trans ?_ (by assumption)))))
    | (go_at_call 71; (with_reducible refine (kP.out _).mono ?_); rintro e w3 ⟨g3, rfl, hQ3, hg3, xb3⟩; have hQ2 := Lib.hid (hQ2.out.ext (show Ext w2 w3 by (repeat (first | exact ext_refl _ | assumption | refine ext_setCell ?_ (by simp; try omega) _ | refine ext_alloc ?_ _ | refine ext_drew ?_ | refine ext_drewN ?_ _ | refine ext_trans ?_ (Aft.use _) | refine ext_trans ?_ (by assumption))))); (try (refine byz5 (P := RatRoom w3 (B0 + 1)) ?_ ?_; (focus (refine Ra.ext ?_; (repeat (first | exact ext_refl _ | assumption | refine ext_setCell ?_ (by simp; try omega) _ | refine ext_alloc ?_ _ | refine ext_drew ?_ | refine ext_drewN ?_ _ | refine ext_trans ?_ (Aft.use _) | refine ext_trans ?_ (by assumption))); done)); intro Ra)); (try (refine byz5 (P := RatRoom w3 (B0 + 1 + 1)) ?_ ?_; (focus (refine Ra.ext ?_; (repeat (first | exact ext_refl _ | assumption | refine ext_setCell ?_ (by simp; try omega) _ | refine ext_alloc ?_ _ | refine ext_drew ?_ | refine ext_drewN ?_ _ | refine ext_trans ?_ (Aft.use _) | refine ext_trans ?_ (by assumption))); done)); intro Ra)); (try (refine byz5 (P := RatRoom w3 w1.heap.size) ?_ ?_; (focus (refine Ra.ext ?_; (repeat (first | exact ext_refl _ | assumption | refine ext_setCell ?_ (by simp; try omega) _ | refine ext_alloc ?_ _ | refine ext_drew ?_ | refine ext_drewN ?_ _ | refine ext_trans ?_ (Aft.use _) | refine ext_trans ?_ (by assumption))); done)); intro Ra)); (try (refine byz5 (P := RatRoom w3 w2.heap.size) ?_ ?_; (focus (first | (refine RatRoom.ext (rat_room_new w2 _ rfl) ?_; (repeat (first | exact ext_refl _ | assumption | refine ext_setCell ?_ (by simp; try omega) _ | refine ext_alloc ?_ _ | refine ext_drew ?_ | refine ext_drewN ?_ _ | refine ext_trans ?_ (Aft.use _) | refine ext_trans ?_ (by assumption))); done) | (refine RatRoom.ext (rat_room_new w2.drew _ rfl) ?_; (repeat (first | exact ext_refl _ | assumption | refine ext_setCell ?_ (by simp; try omega) _ | refine ext_alloc ?_ _ | refine ext_drew ?_ | refine ext_drewN ?_ _ | refine ext_trans ?_ (Aft.use _) | refine ext_trans ?_ (by assumption))); done) | (refine RatRoom.ext (rat_room_new w2.drew.drew _ rfl) ?_; (repeat (first | exact ext_refl _ | assumption | refine ext_setCell ?_ (by simp; try omega) _ | refine ext_alloc ?_ _ | refine ext_drew ?_ | refine ext_drewN ?_ _ | refine ext_trans ?_ (Aft.use _) | refine ext_trans ?_ (by assumption))); done))); intro Ra)); have hX3 : Ext W w3 := (by (repeat (first | exact ext_refl _ | assumption | refine ext_setCell ?_ (by simp; try omega) _ | refine ext_alloc ?_ _ | refine ext_drew ?_ | refine ext_drewN ?_ _ | refine ext_trans ?_ (Aft.use _) | refine ext_trans ?_ (by assumption)))))
    | (go_at_call 73; (with_reducible refine (kM.out _ _ _ _ _ _ (ext_trans xW (by (repeat (first | exact ext_refl _ | assumption | refine ext_setCell ?_ (by simp; try omega) _ | refine ext_alloc ?_ _ | refine ext_drew ?_ | refine ext_drewN ?_ _ | refine ext_trans ?_ (Aft.use _) | refine ext_trans ?_ (by assumption))))) ?_ (hQ2.out.ext (by (repeat (first | exact ext_refl _ | assumption | refine ext_setCell ?_ (by simp; try omega) _ | refine ext_alloc ?_ _ | refine ext_drew ?_ | refine ext_drewN ?_ _ | refine ext_trans ?_ (Aft.use _) | refine ext_trans ?_ (by assumption))))) (hQ3.out.ext (by (repeat (first | exact ext_refl _ | assumption | refine ext_setCell ?_ (by simp; try omega) _ | refine ext_alloc ?_ _ | refine ext_drew ?_ | refine ext_drewN ?_ _ | refine ext_trans ?_ (Aft.use _) | refine ext_trans ?_ (by assumption)))))).mono ?_); (focus (first | (refine Ra.ext ?_; (repeat (first | exact ext_refl _ | assumption | refine ext_setCell ?_ (by simp; try omega) _ | refine ext_alloc ?_ _ | refine ext_drew ?_ | refine ext_drewN ?_ _ | refine ext_trans ?_ (Aft.use _) | refine ext_trans ?_ (by assumption))); done) | (refine RatRoom.ext (rat_room_new w3 _ rfl) ?_; (repeat (first | exact ext_refl _ | assumption | refine ext_setCell ?_ (by simp; try omega) _ | refine ext_alloc ?_ _ | refine ext_drew ?_ | refine ext_drewN ?_ _ | refine ext_trans ?_ (Aft.use _) | refine ext_trans ?_ (by assumption))); done) | (refine RatRoom.ext (rat_room_new w3.drew _ rfl) ?_; (repeat (first | exact ext_refl _ | assumption | refine ext_setCell ?_ (by simp; try omega) _ | refine ext_alloc ?_ _ | refine ext_drew ?_ | refine ext_drewN ?_ _ | refine ext_trans ?_ (Aft.use _) | refine ext_trans ?_ (by assumption))); done))); rintro e w4 ⟨rfl, hQ4, xt4⟩; have hX4 : Ext W w4 := (Tch.ext xt4 (by (repeat (first | exact ext_refl _ | assumption | refine ext_setCell ?_ (by simp; try omega) _ | refine ext_alloc ?_ _ | refine ext_drew ?_ | refine ext_drewN ?_ _ | refine ext_trans ?_ (Aft.use _) | refine ext_trans ?_ (by assumption)))) (by have s1 := ext_size hX1; have s2 := ext_size hX2; have s3 := ext_size hX3; omega))))
  all_goals
    go_wp2_with fail
    first
      | (refine bodyPost_ret (v := .pointer (some ⟨B0 + 1, 0, none⟩)) ?h rfl ⟨B0 + 1, rfl, hQ4.out.weak (by have s1 := ext_size hX1; have s2 := ext_size hX2; have s3 := ext_size hX3; first | omega | (simp; omega)), (by have s1 := ext_size hX1; have s2 := ext_size hX2; have s3 := ext_size hX3; first | omega | (simp; omega)), ext_trans xW hX4⟩; (case h => simp [results, Tryz.results42, go_sem]))
      | (refine bodyPost_ret (v := .pointer (some ⟨B0 + 1 + 1, 0, none⟩)) ?h rfl ⟨B0 + 1 + 1, rfl, hQ4.out.weak (by have s1 := ext_size hX1; have s2 := ext_size hX2; have s3 := ext_size hX3; first | omega | (simp; omega)), (by have s1 := ext_size hX1; have s2 := ext_size hX2; have s3 := ext_size hX3; first | omega | (simp; omega)), ext_trans xW hX4⟩; (case h => simp [results, Tryz.results42, go_sem]))
      | (refine bodyPost_ret (v := .pointer (some ⟨w1.heap.size, 0, none⟩)) ?h rfl ⟨w1.heap.size, rfl, hQ4.out.weak (by have s1 := ext_size hX1; have s2 := ext_size hX2; have s3 := ext_size hX3; first | omega | (simp; omega)), (by have s1 := ext_size hX1; have s2 := ext_size hX2; have s3 := ext_size hX3; first | omega | (simp; omega)), ext_trans xW hX4⟩; (case h => simp [results, Tryz.results42, go_sem]))
      | (refine bodyPost_ret (v := .pointer (some ⟨w2.heap.size, 0, none⟩)) ?h rfl ⟨w2.heap.size, rfl, hQ4.out.weak (by have s1 := ext_size hX1; have s2 := ext_size hX2; have s3 := ext_size hX3; first | omega | (simp; omega)), (by have s1 := ext_size hX1; have s2 := ext_size hX2; have s3 := ext_size hX3; first | omega | (simp; omega)), ext_trans xW hX4⟩; (case h => simp [results, Tryz.results42, go_sem]))
      | (refine bodyPost_ret (v := .pointer (some ⟨w3.heap.size, 0, none⟩)) ?h rfl ⟨w3.heap.size, rfl, hQ4.out.weak (by have s1 := ext_size hX1; have s2 := ext_size hX2; have s3 := ext_size hX3; first | omega | (simp; omega)), (by have s1 := ext_size hX1; have s2 := ext_size hX2; have s3 := ext_size hX3; first | omega | (simp; omega)), ext_trans xW hX4⟩; (case h => simp [results, Tryz.results42, go_sem]))
end Go.Proofs.YtchchnohmmncfaaGreatDoor.NB
end
