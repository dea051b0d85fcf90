/- Lemmas of this proof, laid together: R5S. -/
import Derived.Test.YtchchnohmmncfaaGreatDoorMg38
import Derived.Test.YtchchnohmmncfaaGreatDoorMg34
import Derived.Deep.DeepCutAuto
import Derived.Deep.RegionWith
set_option linter.unusedSimpArgs false
set_option linter.unusedVariables false
section
/- The document's answer for quick: whole numbers. -/
namespace Go.Proofs.YtchchnohmmncfaaGreatDoor.NB
open Go.RowKit
attribute [local go_sem] bs_size bs_extract bs_get bs_append bs_toList const_get
attribute [local go_sem] sz2 sz3 sz4 sz5 sz6 sz7 sz8
set_option maxHeartbeats 8000000
set_option maxRecDepth 100000
attribute [local irreducible] Calls
theorem r14_Whole_no (l : List UInt8) (hl : l.length ≤ 9223372036854775807) (hno : l.length = 0 ∨ 19 < l.length) (w : World) : Calls Tryz.prog 7 #[.string (bs l)] w fun e w' => e = .returned (.tuple #[.int .u64 0, .bool false]) ∧ Ext w w' := by
  rcases hno with h | h
  · have h1 : (l.length : Int) < 1 := by omega
    have h2 : decide ((l.length : Int) < 1) = true := decide_eq_true h1
    go_enter Tryz.func7, Tryz.ntmps7
    go_wp2
    refine bodyPost_ret (v := .tuple #[.int .u64 0, .bool false]) ?h rfl ⟨rfl, ext_refl _⟩
    case h => simp [results, Tryz.results7, go_sem]
  · have h1 : ¬ (l.length : Int) < 1 := by omega
    have h2 : decide ((l.length : Int) < 1) = false := decide_eq_false h1
    have h3 : (19 : Int) < (l.length : Int) := by omega
    have h4 : decide ((19 : Int) < (l.length : Int)) = true := decide_eq_true h3
    go_enter Tryz.func7, Tryz.ntmps7
    go_wp2
    refine bodyPost_ret (v := .tuple #[.int .u64 0, .bool false]) ?h rfl ⟨rfl, ext_refl _⟩
    case h => simp [results, Tryz.results7, go_sem]
theorem r14_Whole (l : List UInt8) (h0 : 0 < l.length) (h19 : l.length ≤ 19) (w : World) (hT : Tz w) : Calls Tryz.prog 7 #[.string (bs l)] w fun e w' => e = .returned (if digsB l = true then .tuple #[.int .u64 (nearB (dval l) : Nat), .bool true] else .tuple #[.int .u64 0, .bool false]) ∧ Ext w w' := by
  have lone : (lim 1).length = 1 := by kernel_rfl
  have kN : Hid (digsB l = true → ∀ u, Calls Tryz.prog 17 #[.agg #[.bool false, .string (bs l), .int .i64 0]] u (IPs u ((dval l : Nat) : Int))) := Lib.hid fun hd u => r14_Number false l 0 (by omega) hd u
  have hln : Hid (digsB l = true → (lim (dval l)).length ≤ 19) := Lib.hid fun hd => Nat.le_trans (dval_len l hd) h19
  have kF := Lib.hid (fun u => r8_Double u)
  have kS : Hid (digsB l = true → ∀ u b lo, Iat u b ((dval l : Nat) : Int) lo → Calls Tryz.prog 20 #[.pointer (some ⟨u.heap.size, 0, none⟩), .pointer (some ⟨b, 0, none⟩)] (newRat u) (QTc (newRat u) u.heap.size ((dval l : Nat) : Int) 1)) := Lib.hid fun hd u b lo h =>
    o_SetInt u.heap.size b lo ((dval l : Nat) : Int) (by rw [Int.natAbs_natCast]; have := hln.out hd; omega) (newRat u) (room_rat u) (h.ext (ext_alloc (ext_refl _) _))
  have kR : Hid (digsB l = true → ∀ u g lo, Ext w u → Qat u g ((dval l : Nat) : Int) 1 lo → Calls Tryz.prog 18 #[fmV (11 : Nat) (52 : Nat), .pointer (some ⟨g, 0, none⟩), .bool false, .int .u8 0] u (RatP5 u (nearB (dval l)))) := Lib.hid fun hd u g lo hE h => by
    have := r5_Rat 11 52 false (by decide) (by decide) g lo ((dval l : Nat) : Int) 1 (by decide) (by rw [Int.natAbs_natCast]; have := hln.out hd; omega) (by omega) u (hT.ext hE) h
    rwa [decide_eq_false (show ¬ ((dval l : Nat) : Int) < 0 by omega), Int.natAbs_natCast] at this
  obtain ⟨X, hX⟩ : ∃ X, nearB (dval l) = X := ⟨_, rfl⟩
  rw [hX] at kR ⊢
  clear hX
  generalize dval l = N at *
  obtain ⟨R, hR⟩ : ∃ R : Value, (if digsB l = true then .tuple #[.int .u64 (X : Int), .bool true] else .tuple #[.int .u64 0, .bool false]) = R := ⟨_, rfl⟩
  have hR1 : Hid (digsB l = true → R = .tuple #[.int .u64 (X : Int), .bool true]) := Lib.hid fun h => by rw [← hR, if_pos h]
  have hR2 : Hid (digsB l = false → R = .tuple #[.int .u64 0, .bool false]) := Lib.hid fun h => by rw [← hR, if_neg (by rw [h]; decide)]
  rw [hR]
  have h1 : ¬ (l.length : Int) < 1 := by omega
  have h2 : decide ((l.length : Int) < 1) = false := decide_eq_false h1
  have h3 : ¬ (19 : Int) < (l.length : Int) := by omega
  have h4 : decide ((19 : Int) < (l.length : Int)) = false := decide_eq_false h3
  clear hR hln lone hT
  go_enter Tryz.func7, Tryz.ntmps7
  go_wp2
  go_loop [4] (fun v => ∃ k : Nat, k ≤ l.length ∧ v = .int .i64 k ∧ digsB (l.take k) = true) (fun v => l.length - (intOf v).toNat)
  case atStart => exact ⟨0, Nat.zero_le _, rfl, rfl⟩
  case round =>
    obtain ⟨k, hk, rfl, hd⟩ := hrel
    have HG := Lib.hid hd
    clear hd
    by_cases hlt : k < l.length
    · cases hD : isD l[k]
      · have hb := isD_cases l[k] hD
        have hX0 := hR2.out (digs_no l k (by assumption) hD)
        subst hX0
        rcases hb with hb | hb
        all_goals
          clear hD
          go_wp2
          refine bodyPost_ret (v := .tuple #[.int .u64 0, .bool false]) ?h rfl ⟨rfl, ext_refl _⟩
          case h => simp [results, Tryz.results7, go_sem]
      · have hb := isD_yes l[k] hD
        have HN := Lib.hid hD
        clear hD
        obtain ⟨hb1, hb2⟩ := hb
        go_wp2
        go_round
        case rel => exact ⟨k + 1, by omega, by go_num, by rw [digs_step l k (by assumption) HG.out]; exact HN.out⟩
        case measure => simp [intOf]; omega
    · have : k = l.length := by omega
      subst this
      have hz := HG.out
      rw [List.take_length] at hz
      have hX0 := hR1.out hz
      subst hX0
      have kN := Lib.hid (kN.out hz)
      have kS := Lib.hid (kS.out hz)
      have kR := Lib.hid (kR.out hz)
      clear hz HG hR1 hR2
      go_wp2_with (first
        | (go_at_call 17; (with_reducible refine (kN.out _).mono ?_); rintro e w1 ⟨g1, rfl, hI1, hg1, xb1⟩)
        | (go_at_call 19; (with_reducible refine (kF.out _).mono ?_); rintro e w2 ⟨rfl, xb2⟩; have hX2 := ext_trans xb1 xb2)
        | (go_at_call 20; (with_reducible refine (kS.out _ _ _ (hI1.out.ext xb2)).mono ?_); rintro e w3 ⟨rfl, hQ3, xt3⟩; have hX3 : Ext w w3 := Tch.ext xt3 (ext_trans hX2 (ext_alloc (ext_refl _) _)) (ext_size hX2))
        | (go_at_call 18; (with_reducible refine (kR.out _ _ _ hX3 hQ3.out).mono ?_); rintro e w4 ⟨fl, rfl, xb4⟩; have hX4 := ext_trans hX3 xb4))
      refine bodyPost_ret (v := .tuple #[.int .u64 ↑X, .bool true]) ?h rfl ⟨rfl, hX4⟩
      case h => simp [results, Tryz.results7, go_sem]
end Go.Proofs.YtchchnohmmncfaaGreatDoor.NB
end
