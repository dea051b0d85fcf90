/- Lemmas of this proof, laid together: QkF, QkG. -/
import Derived.Test.YtkhkoeibpkglkaaGreatDoorMg19
import Derived.Deep.DeepCutAuto
import Derived.Deep.RegionWith
set_option linter.unusedSimpArgs false
set_option linter.unusedVariables false
section
/- quick: which decimals may be asked. -/
namespace Go.Proofs.YtkhkoeibpkglkaaGreatDoor
open Go.RowKit
attribute [local go_sem] bs_size bs_extract bs_get bs_append bs_toList const_get
attribute [local go_sem] sz2 sz3 sz4 sz5 sz6 sz7 sz8
set_option maxHeartbeats 8000000
set_option maxRecDepth 100000
attribute [local irreducible] Calls
abbrev askR (d : Dc) (whole power more : Nat) : Value := if askB d whole power more = true then .tuple #[.int .u64 (askN d power : Nat), .int .i64 (askX d power), .bool true] else .tuple #[.int .u64 0, .int .i64 0, .bool false]
theorem dc_ok_digs {d : Dc} (h : dcE d = 0) (h0 : 0 < d.dig.length) : digsB d.dig = true ∧ d.dig.length ≤ 65536 := ⟨(dc_ok h h0).digs, (dc_ok h h0).len⟩
theorem qk_asked_err (d : Dc) (whole power more : Nat) (hl : d.dig.length ≤ 9223372036854775807) (he : dcE d ≠ 0) (w : World) :
    Calls Tryz.prog 36 #[dcV d, .int .u64 (whole : Int), .int .i64 (power : Int), .int .i64 (more : Int)] w fun e w' => e = .returned (.tuple #[.int .u64 0, .int .i64 0, .bool false]) ∧ Ext w w' := by
  have k := Lib.hid (fun w => check_any' d hl w)
  obtain ⟨E, hE⟩ : ∃ E, dcE d = E := ⟨_, rfl⟩
  rw [hE] at k he
  obtain ⟨neg, l, x⟩ := d
  have hne : (E != 0) = true := by simpa using he
  clear hE hl
  go_enter Tryz.func36, Tryz.ntmps36
  go_wp2_with (first
    | (go_at_call 32; (with_reducible refine (k.out _).mono ?_); rintro e w1 ⟨rfl, xb1⟩; obtain ⟨xc1, xf1, xl1, xz1⟩ := ext_use xb1; (try simp at xz1); obtain ⟨l1_0, gc, gf⟩ := kp xb1 (w.heap.size) (by first | omega | (simp; try omega)); have r1_0 := gc 0; have f1_0 := gf 0; have r1_0_1 := gc 1; have f1_0_1 := gf 1; have r1_0_2 := gc 2; have f1_0_2 := gf 2; clear gc gf)
   )
  refine bodyPost_ret (v := .tuple #[.int .u64 0, .int .i64 0, .bool false]) ?h rfl ⟨rfl, ?_⟩
  case h => simp [results, Tryz.results36, go_sem]
  repeat (first | exact ext_refl _ | assumption | refine ext_setCell ?_ (by simp; try omega) _ | refine ext_alloc ?_ _ | refine ext_drew ?_ | refine ext_drewN ?_ _ | refine ext_trans ?_ (Aft.use _) | refine ext_trans ?_ (by assumption))
theorem qk_asked_zero (neg : Bool) (whole power more : Nat) (w : World) :
    Calls Tryz.prog 36 #[dcV ⟨neg, [], 0⟩, .int .u64 (whole : Int), .int .i64 (power : Int), .int .i64 (more : Int)] w fun e w' => e = .returned (.tuple #[.int .u64 0, .int .i64 0, .bool true]) ∧ Ext w w' := by
  have k := Lib.hid (fun w => show Calls Tryz.prog 32 #[dcV ⟨neg, [], 0⟩] w fun e w' => e = .returned (.int .i64 0) ∧ Ext w w' from check_any' ⟨neg, [], 0⟩ (show [].length ≤ _ by decide) w)
  go_enter Tryz.func36, Tryz.ntmps36
  go_wp2_with (first
    | (go_at_call 32; (with_reducible refine (k.out _).mono ?_); rintro e w1 ⟨rfl, xb1⟩; obtain ⟨xc1, xf1, xl1, xz1⟩ := ext_use xb1; (try simp at xz1); obtain ⟨l1_0, gc, gf⟩ := kp xb1 (w.heap.size) (by first | omega | (simp; try omega)); have r1_0 := gc 0; have f1_0 := gf 0; have r1_0_1 := gc 1; have f1_0_1 := gf 1; have r1_0_2 := gc 2; have f1_0_2 := gf 2; clear gc gf)
   )
  refine bodyPost_ret (v := .tuple #[.int .u64 0, .int .i64 0, .bool true]) ?h rfl ⟨rfl, ?_⟩
  case h => simp [results, Tryz.results36, go_sem]
  repeat (first | exact ext_refl _ | assumption | refine ext_setCell ?_ (by simp; try omega) _ | refine ext_alloc ?_ _ | refine ext_drew ?_ | refine ext_drewN ?_ _ | refine ext_trans ?_ (Aft.use _) | refine ext_trans ?_ (by assumption))
theorem qk_asked_much (neg : Bool) (l : List UInt8) (x : Int) (whole power more : Nat) (h0 : 0 < l.length) (hok : dcE ⟨neg, l, x⟩ = 0) (hv : ¬ dval l < 18446744073709551616) (w : World) (hE : Er w) :
    Calls Tryz.prog 36 #[dcV ⟨neg, l, x⟩, .int .u64 (whole : Int), .int .i64 (power : Int), .int .i64 (more : Int)] w fun e w' => e = .returned (.tuple #[.int .u64 0, .int .i64 0, .bool false]) ∧ Ext w w' := by
  obtain ⟨hd, hl⟩ := dc_ok_digs hok h0
  change l.length ≤ 65536 at hl
  change digsB l = true at hd
  have k := Lib.hid (fun w => show Calls Tryz.prog 32 #[dcV ⟨neg, l, x⟩] w fun e w' => e = .returned (.int .i64 0) ∧ Ext w w' by have := check_any' ⟨neg, l, x⟩ (by show l.length ≤ _; omega) w; rwa [hok] at this)
  have k2 := Lib.hid (fun w' (he : Ext w w') => qk_number_no l hd h0 hl hv w' (hE.ext he))
  have hne : (l == []) = false := by rw [beq_eq_false_iff_ne]; intro e; subst e; simp at h0
  clear hd hl hok hv hE
  go_enter Tryz.func36, Tryz.ntmps36
  go_wp2_with (first
    | (go_at_call 32; (with_reducible refine (k.out _).mono ?_); rintro e w1 ⟨rfl, xb1⟩; obtain ⟨xc1, xf1, xl1, xz1⟩ := ext_use xb1; (try simp at xz1); obtain ⟨l1_0, gc, gf⟩ := kp xb1 (w.heap.size) (by first | omega | (simp; try omega)); have r1_0 := gc 0; have f1_0 := gf 0; have r1_0_1 := gc 1; have f1_0_1 := gf 1; have r1_0_2 := gc 2; have f1_0_2 := gf 2; clear gc gf)
    | (go_at_call 57; (with_reducible refine (k2.out _ (by (repeat (first | exact ext_refl _ | assumption | refine ext_setCell ?_ (by simp; try omega) _ | refine ext_alloc ?_ _ | refine ext_drew ?_ | refine ext_drewN ?_ _ | refine ext_trans ?_ (Aft.use _) | refine ext_trans ?_ (by assumption))))).mono ?_); rintro e w1 ⟨rfl, xb1⟩; obtain ⟨xc1, xf1, xl1, xz1⟩ := ext_use xb1; (try simp at xz1); obtain ⟨l1_0, gc, gf⟩ := kp xb1 (w.heap.size) (by first | omega | (simp; try omega)); have r1_0 := gc 0; have f1_0 := gf 0; have r1_0_1 := gc 1; have f1_0_1 := gf 1; have r1_0_2 := gc 2; have f1_0_2 := gf 2; clear gc gf)
   )
  refine bodyPost_ret (v := .tuple #[.int .u64 0, .int .i64 0, .bool false]) ?h rfl ⟨rfl, ?_⟩
  case h => simp [results, Tryz.results36, go_sem]
  repeat (first | exact ext_refl _ | assumption | refine ext_setCell ?_ (by simp; try omega) _ | refine ext_alloc ?_ _ | refine ext_drew ?_ | refine ext_drewN ?_ _ | refine ext_trans ?_ (Aft.use _) | refine ext_trans ?_ (by assumption))
theorem qk_asked_out (neg : Bool) (l : List UInt8) (x : Int) (whole power more : Nat) (h0 : 0 < l.length) (hok : dcE ⟨neg, l, x⟩ = 0) (hv : dval l < 18446744073709551616) (hp : power ≤ 1000) (hno : whole < dval l ∨ x < -(power : Int) ∨ (more : Int) < x) (w : World) :
    Calls Tryz.prog 36 #[dcV ⟨neg, l, x⟩, .int .u64 (whole : Int), .int .i64 (power : Int), .int .i64 (more : Int)] w fun e w' => e = .returned (.tuple #[.int .u64 0, .int .i64 0, .bool false]) ∧ Ext w w' := by
  obtain ⟨hd, hl⟩ := dc_ok_digs hok h0
  change l.length ≤ 65536 at hl
  change digsB l = true at hd
  have k := Lib.hid (fun w => show Calls Tryz.prog 32 #[dcV ⟨neg, l, x⟩] w fun e w' => e = .returned (.int .i64 0) ∧ Ext w w' by have := check_any' ⟨neg, l, x⟩ (by show l.length ≤ _; omega) w; rwa [hok] at this)
  have k2 := Lib.hid (fun w' => qk_number_ok l hd h0 hl hv w')
  have hne : (l == []) = false := by rw [beq_eq_false_iff_ne]; intro e; subst e; simp at h0
  generalize dval l = v at *
  have hpi : (power : Int) ≤ 1000 := by omega
  clear hd hl hok h0 hp
  by_cases g1 : (whole : Int) < (v : Int)
  · have d1 : decide ((whole : Int) < (v : Int)) = true := decide_eq_true g1
    have d1' : decide (whole < v) = true := decide_eq_true (by omega)
    have g1' : whole < v := by omega
    clear hno
    go_enter Tryz.func36, Tryz.ntmps36
    go_wp2_with (first
      | (go_at_call 32; (with_reducible refine (k.out _).mono ?_); rintro e w1 ⟨rfl, xb1⟩; obtain ⟨xc1, xf1, xl1, xz1⟩ := ext_use xb1; (try simp at xz1); obtain ⟨l1_0, gc, gf⟩ := kp xb1 (w.heap.size) (by first | omega | (simp; try omega)); have r1_0 := gc 0; have f1_0 := gf 0; have r1_0_1 := gc 1; have f1_0_1 := gf 1; have r1_0_2 := gc 2; have f1_0_2 := gf 2; clear gc gf)
      | (go_at_call 57; (with_reducible refine (k2.out _).mono ?_); rintro e w1 ⟨rfl, xb1⟩; obtain ⟨xc1, xf1, xl1, xz1⟩ := ext_use xb1; (try simp at xz1); obtain ⟨l1_0, gc, gf⟩ := kp xb1 (w.heap.size) (by first | omega | (simp; try omega)); have r1_0 := gc 0; have f1_0 := gf 0; have r1_0_1 := gc 1; have f1_0_1 := gf 1; have r1_0_2 := gc 2; have f1_0_2 := gf 2; clear gc gf)
     )
    refine bodyPost_ret (v := .tuple #[.int .u64 0, .int .i64 0, .bool false]) ?h rfl ⟨rfl, ?_⟩
    case h => simp [results, Tryz.results36, go_sem]
    repeat (first | exact ext_refl _ | assumption | refine ext_setCell ?_ (by simp; try omega) _ | refine ext_alloc ?_ _ | refine ext_drew ?_ | refine ext_drewN ?_ _ | refine ext_trans ?_ (Aft.use _) | refine ext_trans ?_ (by assumption))
  · have d1 : decide ((whole : Int) < (v : Int)) = false := decide_eq_false g1
    have d1' : decide (whole < v) = false := decide_eq_false (by omega)
    have g1' : ¬ whole < v := by omega
    by_cases g2 : x < -(power : Int)
    · have d2 : decide (x < -(power : Int)) = true := decide_eq_true g2
      clear hno
      go_enter Tryz.func36, Tryz.ntmps36
      go_wp2_with (first
        | (go_at_call 32; (with_reducible refine (k.out _).mono ?_); rintro e w1 ⟨rfl, xb1⟩; obtain ⟨xc1, xf1, xl1, xz1⟩ := ext_use xb1; (try simp at xz1); obtain ⟨l1_0, gc, gf⟩ := kp xb1 (w.heap.size) (by first | omega | (simp; try omega)); have r1_0 := gc 0; have f1_0 := gf 0; have r1_0_1 := gc 1; have f1_0_1 := gf 1; have r1_0_2 := gc 2; have f1_0_2 := gf 2; clear gc gf)
        | (go_at_call 57; (with_reducible refine (k2.out _).mono ?_); rintro e w1 ⟨rfl, xb1⟩; obtain ⟨xc1, xf1, xl1, xz1⟩ := ext_use xb1; (try simp at xz1); obtain ⟨l1_0, gc, gf⟩ := kp xb1 (w.heap.size) (by first | omega | (simp; try omega)); have r1_0 := gc 0; have f1_0 := gf 0; have r1_0_1 := gc 1; have f1_0_1 := gf 1; have r1_0_2 := gc 2; have f1_0_2 := gf 2; clear gc gf)
       )
      refine bodyPost_ret (v := .tuple #[.int .u64 0, .int .i64 0, .bool false]) ?h rfl ⟨rfl, ?_⟩
      case h => simp [results, Tryz.results36, go_sem]
      repeat (first | exact ext_refl _ | assumption | refine ext_setCell ?_ (by simp; try omega) _ | refine ext_alloc ?_ _ | refine ext_drew ?_ | refine ext_drewN ?_ _ | refine ext_trans ?_ (Aft.use _) | refine ext_trans ?_ (by assumption))
    · have d2 : decide (x < -(power : Int)) = false := decide_eq_false g2
      have g3 : (more : Int) < x := by omega
      have d3 : decide ((more : Int) < x) = true := decide_eq_true g3
      clear hno
      go_enter Tryz.func36, Tryz.ntmps36
      go_wp2_with (first
        | (go_at_call 32; (with_reducible refine (k.out _).mono ?_); rintro e w1 ⟨rfl, xb1⟩; obtain ⟨xc1, xf1, xl1, xz1⟩ := ext_use xb1; (try simp at xz1); obtain ⟨l1_0, gc, gf⟩ := kp xb1 (w.heap.size) (by first | omega | (simp; try omega)); have r1_0 := gc 0; have f1_0 := gf 0; have r1_0_1 := gc 1; have f1_0_1 := gf 1; have r1_0_2 := gc 2; have f1_0_2 := gf 2; clear gc gf)
        | (go_at_call 57; (with_reducible refine (k2.out _).mono ?_); rintro e w1 ⟨rfl, xb1⟩; obtain ⟨xc1, xf1, xl1, xz1⟩ := ext_use xb1; (try simp at xz1); obtain ⟨l1_0, gc, gf⟩ := kp xb1 (w.heap.size) (by first | omega | (simp; try omega)); have r1_0 := gc 0; have f1_0 := gf 0; have r1_0_1 := gc 1; have f1_0_1 := gf 1; have r1_0_2 := gc 2; have f1_0_2 := gf 2; clear gc gf)
       )
      refine bodyPost_ret (v := .tuple #[.int .u64 0, .int .i64 0, .bool false]) ?h rfl ⟨rfl, ?_⟩
      case h => simp [results, Tryz.results36, go_sem]
      repeat (first | exact ext_refl _ | assumption | refine ext_setCell ?_ (by simp; try omega) _ | refine ext_alloc ?_ _ | refine ext_drew ?_ | refine ext_drewN ?_ _ | refine ext_trans ?_ (Aft.use _) | refine ext_trans ?_ (by assumption))
theorem qk_asked_main (neg : Bool) (l : List UInt8) (x : Int) (whole power more : Nat) (h0 : 0 < l.length) (hok : dcE ⟨neg, l, x⟩ = 0) (hw : whole ≤ 9007199254740992) (hp : power ≤ 22) (hm : more ≤ 37) (hvw : dval l ≤ whole) (hx1 : -(power : Int) ≤ x) (hx2 : x ≤ (more : Int)) (w : World) :
    Calls Tryz.prog 36 #[dcV ⟨neg, l, x⟩, .int .u64 (whole : Int), .int .i64 (power : Int), .int .i64 (more : Int)] w fun e w' => e = .returned (askR ⟨neg, l, x⟩ whole power more) ∧ Ext w w' := by
  obtain ⟨hd, hl⟩ := dc_ok_digs hok h0
  change l.length ≤ 65536 at hl
  change digsB l = true at hd
  have k := Lib.hid (fun w => show Calls Tryz.prog 32 #[dcV ⟨neg, l, x⟩] w fun e w' => e = .returned (.int .i64 0) ∧ Ext w w' by have := check_any' ⟨neg, l, x⟩ (by show l.length ≤ _; omega) w; rwa [hok] at this)
  have k2 := Lib.hid (fun w' => qk_number_ok l hd h0 hl (by omega) w')
  have hnil : l ≠ [] := by intro e; subst e; simp at h0
  have hne : (l == []) = false := by rw [beq_eq_false_iff_ne]; exact hnil
  have hR : askR ⟨neg, l, x⟩ whole power more = if dval l * 10 ^ (x - power).toNat ≤ whole then .tuple #[.int .u64 (dval l * 10 ^ (x - power).toNat : Nat), .int .i64 (x - (x - power).toNat), .bool true] else .tuple #[.int .u64 0, .int .i64 0, .bool false] := by
    have hB : askB ⟨neg, l, x⟩ whole power more = decide (dval l * 10 ^ (x - power).toNat ≤ whole) := by
      unfold askB askK
      rw [hok, decide_eq_true rfl, Bool.true_and]
      show (decide (l = []) || (decide (dval l * 10 ^ (x - power).toNat ≤ whole) && (decide (-(power : Int) ≤ x) && decide (x ≤ (more : Int))))) = _
      rw [decide_eq_false hnil, decide_eq_true hx1, decide_eq_true hx2, Bool.false_or, Bool.and_true, Bool.and_true]
    have hN : askN ⟨neg, l, x⟩ power = dval l * 10 ^ (x - power).toNat := by unfold askN askK; exact if_neg hnil
    have hX : askX ⟨neg, l, x⟩ power = x - (x - power).toNat := by unfold askX askK; exact if_neg hnil
    unfold askR
    rw [hB, hN, hX]
    by_cases g : dval l * 10 ^ (x - power).toNat ≤ whole
    · rw [if_pos (decide_eq_true g), if_pos g]
    · rw [if_neg (by rw [decide_eq_false g]; decide), if_neg g]
  rw [hR]
  clear hR
  generalize dval l = v at *
  obtain ⟨K, hK⟩ : ∃ K, (x - power).toNat = K := ⟨_, rfl⟩
  rw [hK]
  have hK37 : K ≤ 37 := by omega
  have hKi : max (x - (power : Int)) 0 = (K : Int) := by omega
  have hpi : (power : Int) ≤ 22 := by omega
  have hxi : -22 ≤ x ∧ x ≤ 37 := by omega
  obtain ⟨hxa, hxb⟩ := hxi
  have g1 : ¬ (whole : Int) < (v : Int) := by omega
  have d1 : decide ((whole : Int) < (v : Int)) = false := decide_eq_false g1
  have d1' : decide (whole < v) = false := decide_eq_false (by omega)
  have g1' : ¬ whole < v := by omega
  have g2 : ¬ x < -(power : Int) := by omega
  have d2 : decide (x < -(power : Int)) = false := decide_eq_false g2
  have g3 : ¬ (more : Int) < x := by omega
  have d3 : decide ((more : Int) < x) = false := decide_eq_false g3
  have hwi : (whole : Int) ≤ 9007199254740992 := by omega
  obtain ⟨R, HR⟩ : ∃ R, Hid ((if v * 10 ^ K ≤ whole then Value.tuple #[.int .u64 (v * 10 ^ K : Nat), .int .i64 (x - (K : Int)), .bool true] else .tuple #[.int .u64 0, .int .i64 0, .bool false]) = R) := ⟨_, rfl⟩
  rw [HR.out]
  clear hd hl hok h0 hK hx1 hx2 hnil
  go_enter Tryz.func36, Tryz.ntmps36
  go_wp2_with (first
    | (go_at_call 32; (with_reducible refine (k.out _).mono ?_); rintro e w1 ⟨rfl, xb1⟩; obtain ⟨xc1, xf1, xl1, xz1⟩ := ext_use xb1; (try simp at xz1); obtain ⟨l1_0, gc, gf⟩ := kp xb1 (w.heap.size) (by first | omega | (simp; try omega)); have r1_0 := gc 0; have f1_0 := gf 0; have r1_0_1 := gc 1; have f1_0_1 := gf 1; have r1_0_2 := gc 2; have f1_0_2 := gf 2; clear gc gf)
    | (go_at_call 57; (with_reducible refine (k2.out _).mono ?_); rintro e w1 ⟨rfl, xb1⟩; obtain ⟨xc1, xf1, xl1, xz1⟩ := ext_use xb1; (try simp at xz1); obtain ⟨l1_0, gc, gf⟩ := kp xb1 (w.heap.size) (by first | omega | (simp; try omega)); have r1_0 := gc 0; have f1_0 := gf 0; have r1_0_1 := gc 1; have f1_0_1 := gf 1; have r1_0_2 := gc 2; have f1_0_2 := gf 2; clear gc gf)
   )
  have hX1 : Hid (Ext w w1) := by show Ext w w1; (repeat (first | exact ext_refl _ | assumption | refine ext_setCell ?_ (by simp; try omega) _ | refine ext_alloc ?_ _ | refine ext_drew ?_ | refine ext_drewN ?_ _ | refine ext_trans ?_ (Aft.use _) | refine ext_trans ?_ (by assumption)))
  clear k k2 xb1 xc1 xf1 xl1 xz1 r1_0 r1_0_1 r1_0_2 f1_0 f1_0_1 f1_0_2
  go_loopw [8, 9, 49] (fun v8 v9 v49 wr => ∃ i : Nat, i ≤ K ∧ v8 = .int .u64 ((v * 10 ^ i : Nat) : Int) ∧ v9 = .int .i64 (x - (i : Int)) ∧ v49 = .int .i64 (i : Int) ∧ v * 10 ^ i ≤ whole ∧ Hid (Ext w wr)) (fun _ _ v49 _ => K - (intOf v49).toNat)
  case atStart => exact ⟨0, Nat.zero_le _, by simp, by simp, rfl, by simpa using hvw, hX1.out⟩
  case round =>
    obtain ⟨i, hi, rfl, rfl, rfl, hq, hX⟩ := hrel
    obtain ⟨q, hqe⟩ : ∃ q, v * 10 ^ i = q := ⟨_, rfl⟩
    rw [hqe] at hq ⊢
    have hqv : v * 10 ^ i ≤ whole := by omega
    by_cases hlt : i < K
    · have hltI : (i : Int) < (K : Int) := by omega
      have hqI : (q : Int) ≤ 9007199254740992 := by omega
      have hiI : (i : Int) ≤ 37 := by omega
      have hs : v * 10 ^ (i + 1) = q * 10 := by rw [Nat.pow_succ, ← Nat.mul_assoc, hqe]
      by_cases g : whole < q * 10
      · have dg : decide ((whole : Int) < (q : Int) * 10) = true := decide_eq_true (by omega)
        have gI : (whole : Int) < (q : Int) * 10 := by omega
        have hbig : ¬ v * 10 ^ K ≤ whole := by
          have h1 : v * 10 ^ (i + 1) ≤ v * 10 ^ K := Nat.mul_le_mul_left _ (Nat.pow_le_pow_right (by decide) hlt)
          omega
        have hRe := HR.out
        rw [if_neg hbig] at hRe
        have HRe := Lib.hid hRe
        clear hRe
        clear hqe hs hbig hq hqv
        go_wp2
        refine bodyPost_ret (v := .tuple #[.int .u64 0, .int .i64 0, .bool false]) ?h rfl ⟨by rw [← HRe.out], hX.out⟩
        case h => simp [results, Tryz.results36, go_sem]
      · have dg : decide ((whole : Int) < (q : Int) * 10) = false := decide_eq_false (by omega)
        have gI : ¬ (whole : Int) < (q : Int) * 10 := by omega
        have HS := Lib.hid hs
        clear hqe hs hqv
        go_wp2
        case roundEnd => exact ⟨⟨i + 1, by omega, by rw [HS.out]; simp, by simp; omega, by simp, by rw [HS.out]; omega, hX.out⟩, by simp [intOf]; omega⟩
    · have e : i = K := by omega
      subst e
      have hnlt : ¬ (i : Int) < (i : Int) := by omega
      have hRe := HR.out
      rw [hqe, if_pos hq] at hRe
      have HRe := Lib.hid hRe
      clear hqe hRe hqv
      go_wp2
      refine bodyPost_ret (v := .tuple #[.int .u64 ↑q, .int .i64 (x - ↑i), .bool true]) ?h rfl ⟨by rw [← HRe.out], hX.out⟩
      case h => simp [results, Tryz.results36, go_sem]
theorem qk_asked (d : Dc) (whole power more : Nat) (hl : d.dig.length ≤ 9223372036854775807) (hw : whole ≤ 9007199254740992) (hp : power ≤ 22) (hm : more ≤ 37) (w : World) (hE : Er w) :
    Calls Tryz.prog 36 #[dcV d, .int .u64 (whole : Int), .int .i64 (power : Int), .int .i64 (more : Int)] w fun e w' => e = .returned (askR d whole power more) ∧ Ext w w' := by
  by_cases hok : dcE d = 0
  · obtain ⟨neg, l, x⟩ := d
    rcases Nat.eq_zero_or_pos l.length with h0 | h0
    · obtain rfl : l = [] := List.eq_nil_of_length_eq_zero h0
      obtain rfl : x = 0 := by
        unfold dcE at hok
        rw [if_neg (show ¬ 65536 < [].length by decide), if_pos (show ([] : List UInt8).length = 0 from rfl)] at hok
        by_cases g : x = 0
        · exact g
        · rw [if_neg g] at hok; cases hok
      have hR : askR ⟨neg, [], 0⟩ whole power more = .tuple #[.int .u64 0, .int .i64 0, .bool true] := by
        unfold askR
        rw [if_pos (by unfold askB; rw [hok]; simp)]
        rfl
      rw [hR]
      exact qk_asked_zero neg whole power more w
    · have no : ∀ _ : ¬ (dval l ≤ whole ∧ -(power : Int) ≤ x ∧ x ≤ (more : Int)), askR ⟨neg, l, x⟩ whole power more = .tuple #[.int .u64 0, .int .i64 0, .bool false] := fun h => by
        unfold askR
        refine if_neg fun hB => h ?_
        unfold askB askK at hB
        have hnil : l ≠ [] := by intro e; subst e; simp at h0
        simp only [Bool.and_eq_true, Bool.or_eq_true, decide_eq_true_eq] at hB
        obtain ⟨_, hB | ⟨h1, h2, h3⟩⟩ := hB
        · exact absurd hB hnil
        · exact ⟨Nat.le_trans (Nat.le_mul_of_pos_right _ (Nat.pow_pos (by decide))) h1, h2, h3⟩
      by_cases hv : dval l < 18446744073709551616
      · by_cases g : dval l ≤ whole ∧ -(power : Int) ≤ x ∧ x ≤ (more : Int)
        · exact qk_asked_main neg l x whole power more h0 hok hw hp hm g.1 g.2.1 g.2.2 w
        · rw [no g]
          exact qk_asked_out neg l x whole power more h0 hok hv (by omega) (by omega) w
      · rw [no (fun h => by omega)]
        exact qk_asked_much neg l x whole power more h0 hok hv w hE
  · have hR : askR d whole power more = .tuple #[.int .u64 0, .int .i64 0, .bool false] := by
      unfold askR
      rw [if_neg (by unfold askB; rw [decide_eq_false hok]; simp)]
    rw [hR]
    exact qk_asked_err d whole power more hl hok w
end Go.Proofs.YtkhkoeibpkglkaaGreatDoor
end
section
/- quick: Double, Single, Fits. -/
namespace Go.Proofs.YtkhkoeibpkglkaaGreatDoor
open Go.RowKit
attribute [local go_sem] bs_size bs_extract bs_get bs_append bs_toList const_get
attribute [local go_sem] sz2 sz3 sz4 sz5 sz6 sz7 sz8
set_option maxHeartbeats 8000000
set_option maxRecDepth 100000
attribute [local irreducible] Calls
theorem ask_rng {d : Dc} {whole power more : Nat} (h : askB d whole power more = true) : askN d power ≤ whole ∧ -(power : Int) ≤ askX d power ∧ askX d power ≤ power := by
  unfold askB at h
  simp only [Bool.and_eq_true, Bool.or_eq_true, decide_eq_true_eq] at h
  obtain ⟨_, h⟩ := h
  unfold askN askX
  by_cases hn : d.dig = []
  · rw [if_pos hn, if_pos hn]; omega
  · rw [if_neg hn, if_neg hn]
    rcases h with h | ⟨h1, h2, h3⟩
    · exact absurd h hn
    · refine ⟨h1, ?_, ?_⟩
      · unfold askK; omega
      · unfold askK; omega
abbrev dbR (d : Dc) : Value := if askB d 9007199254740992 22 37 = true then .tuple #[.float .f64 (rdB 11 52 d.neg (askN d 22) (askX d 22)), .bool true] else .tuple #[.float .f64 0, .bool false]
abbrev sgR (d : Dc) : Value := if askB d 16777216 10 17 = true then .tuple #[.float .f32 (rdB 8 23 d.neg (askN d 10) (askX d 10)), .bool true] else .tuple #[.float .f32 0, .bool false]
theorem qk_Double (d : Dc) (hl : d.dig.length ≤ 9223372036854775807) (w : World) (hE : Er w) : Calls Tryz.prog 28 #[dcV d] w fun e w' => e = .returned (dbR d) ∧ Ext w w' := by
  have k := Lib.hid (fun w' (he : Ext w w') => show Calls Tryz.prog 36 #[dcV d, .int .u64 9007199254740992, .int .i64 22, .int .i64 37] w' fun e w'' => e = .returned (askR d 9007199254740992 22 37) ∧ Ext w' w'' from qk_asked d 9007199254740992 22 37 hl (by decide) (by decide) (by decide) w' (hE.ext he))
  unfold dbR
  unfold askR at k
  obtain ⟨neg, l, x⟩ := d
  clear hE hl
  by_cases hB : askB ⟨neg, l, x⟩ 9007199254740992 22 37 = true
  · rw [if_pos hB] at k ⊢
    obtain ⟨h1, h2, h3⟩ := ask_rng hB
    have kr := Lib.hid (fun w' => qk_read64 neg _ _ h1 ⟨h2, h3⟩ w')
    generalize askN ⟨neg, l, x⟩ 22 = N at *
    generalize askX ⟨neg, l, x⟩ 22 = X at *
    clear hB h1 h2 h3
    obtain ⟨R, hR⟩ : ∃ R, rdB 11 52 neg N X = R := ⟨_, rfl⟩
    rw [hR] at kr
    rw [show rdB 11 52 (Dc.mk neg l x).neg N X = R from hR]
    go_enter Tryz.func28, Tryz.ntmps28
    go_wp2_with (first
      | (go_at_call 36; (with_reducible refine (k.out _ (by (repeat (first | exact ext_refl _ | assumption | refine ext_setCell ?_ (by simp; try omega) _ | refine ext_alloc ?_ _ | refine ext_drew ?_ | refine ext_drewN ?_ _ | refine ext_trans ?_ (Aft.use _) | refine ext_trans ?_ (by assumption))))).mono ?_); rintro e w1 ⟨rfl, xb1⟩; obtain ⟨xc1, xf1, xl1, xz1⟩ := ext_use xb1; (try simp at xz1); obtain ⟨l1_0, gc, gf⟩ := kp xb1 (w.heap.size) (by first | omega | (simp; try omega)); have r1_0 := gc 0; have f1_0 := gf 0; have r1_0_1 := gc 1; have f1_0_1 := gf 1; have r1_0_2 := gc 2; have f1_0_2 := gf 2; clear gc gf)
      | (go_at_call 50; (with_reducible refine (kr.out _).mono ?_); rintro e w1 ⟨rfl, xb1⟩; obtain ⟨xc1, xf1, xl1, xz1⟩ := ext_use xb1; (try simp at xz1); obtain ⟨l1_0, gc, gf⟩ := kp xb1 (w.heap.size) (by first | omega | (simp; try omega)); have r1_0 := gc 0; have f1_0 := gf 0; have r1_0_1 := gc 1; have f1_0_1 := gf 1; have r1_0_2 := gc 2; have f1_0_2 := gf 2; clear gc gf)
     )
    refine bodyPost_ret (v := .tuple #[.float .f64 R, .bool true]) ?h rfl ⟨rfl, ?_⟩
    case h => simp [results, Tryz.results28, go_sem]
    repeat (first | exact ext_refl _ | assumption | refine ext_setCell ?_ (by simp; try omega) _ | refine ext_alloc ?_ _ | refine ext_drew ?_ | refine ext_drewN ?_ _ | refine ext_trans ?_ (Aft.use _) | refine ext_trans ?_ (by assumption))
  · rw [if_neg hB] at k ⊢
    clear hB
    go_enter Tryz.func28, Tryz.ntmps28
    go_wp2_with (first
      | (go_at_call 36; (with_reducible refine (k.out _ (by (repeat (first | exact ext_refl _ | assumption | refine ext_setCell ?_ (by simp; try omega) _ | refine ext_alloc ?_ _ | refine ext_drew ?_ | refine ext_drewN ?_ _ | refine ext_trans ?_ (Aft.use _) | refine ext_trans ?_ (by assumption))))).mono ?_); rintro e w1 ⟨rfl, xb1⟩; obtain ⟨xc1, xf1, xl1, xz1⟩ := ext_use xb1; (try simp at xz1); obtain ⟨l1_0, gc, gf⟩ := kp xb1 (w.heap.size) (by first | omega | (simp; try omega)); have r1_0 := gc 0; have f1_0 := gf 0; have r1_0_1 := gc 1; have f1_0_1 := gf 1; have r1_0_2 := gc 2; have f1_0_2 := gf 2; clear gc gf)
     )
    refine bodyPost_ret (v := .tuple #[.float .f64 0, .bool false]) ?h rfl ⟨rfl, ?_⟩
    case h => simp [results, Tryz.results28, go_sem]
    repeat (first | exact ext_refl _ | assumption | refine ext_setCell ?_ (by simp; try omega) _ | refine ext_alloc ?_ _ | refine ext_drew ?_ | refine ext_drewN ?_ _ | refine ext_trans ?_ (Aft.use _) | refine ext_trans ?_ (by assumption))
theorem qk_Single (d : Dc) (hl : d.dig.length ≤ 9223372036854775807) (w : World) (hE : Er w) : Calls Tryz.prog 29 #[dcV d] w fun e w' => e = .returned (sgR d) ∧ Ext w w' := by
  have k := Lib.hid (fun w' (he : Ext w w') => show Calls Tryz.prog 36 #[dcV d, .int .u64 16777216, .int .i64 10, .int .i64 17] w' fun e w'' => e = .returned (askR d 16777216 10 17) ∧ Ext w' w'' from qk_asked d 16777216 10 17 hl (by decide) (by decide) (by decide) w' (hE.ext he))
  unfold sgR
  unfold askR at k
  obtain ⟨neg, l, x⟩ := d
  clear hE hl
  by_cases hB : askB ⟨neg, l, x⟩ 16777216 10 17 = true
  · rw [if_pos hB] at k ⊢
    obtain ⟨h1, h2, h3⟩ := ask_rng hB
    have kr := Lib.hid (fun w' => qk_read32 neg _ _ h1 ⟨h2, h3⟩ w')
    generalize askN ⟨neg, l, x⟩ 10 = N at *
    generalize askX ⟨neg, l, x⟩ 10 = X at *
    clear hB h1 h2 h3
    obtain ⟨R, hR⟩ : ∃ R, rdB 8 23 neg N X = R := ⟨_, rfl⟩
    rw [hR] at kr
    rw [show rdB 8 23 (Dc.mk neg l x).neg N X = R from hR]
    go_enter Tryz.func29, Tryz.ntmps29
    go_wp2_with (first
      | (go_at_call 36; (with_reducible refine (k.out _ (by (repeat (first | exact ext_refl _ | assumption | refine ext_setCell ?_ (by simp; try omega) _ | refine ext_alloc ?_ _ | refine ext_drew ?_ | refine ext_drewN ?_ _ | refine ext_trans ?_ (Aft.use _) | refine ext_trans ?_ (by assumption))))).mono ?_); rintro e w1 ⟨rfl, xb1⟩; obtain ⟨xc1, xf1, xl1, xz1⟩ := ext_use xb1; (try simp at xz1); obtain ⟨l1_0, gc, gf⟩ := kp xb1 (w.heap.size) (by first | omega | (simp; try omega)); have r1_0 := gc 0; have f1_0 := gf 0; have r1_0_1 := gc 1; have f1_0_1 := gf 1; have r1_0_2 := gc 2; have f1_0_2 := gf 2; clear gc gf)
      | (go_at_call 51; (with_reducible refine (kr.out _).mono ?_); rintro e w1 ⟨rfl, xb1⟩; obtain ⟨xc1, xf1, xl1, xz1⟩ := ext_use xb1; (try simp at xz1); obtain ⟨l1_0, gc, gf⟩ := kp xb1 (w.heap.size) (by first | omega | (simp; try omega)); have r1_0 := gc 0; have f1_0 := gf 0; have r1_0_1 := gc 1; have f1_0_1 := gf 1; have r1_0_2 := gc 2; have f1_0_2 := gf 2; clear gc gf)
     )
    refine bodyPost_ret (v := .tuple #[.float .f32 R, .bool true]) ?h rfl ⟨rfl, ?_⟩
    case h => simp [results, Tryz.results29, go_sem]
    repeat (first | exact ext_refl _ | assumption | refine ext_setCell ?_ (by simp; try omega) _ | refine ext_alloc ?_ _ | refine ext_drew ?_ | refine ext_drewN ?_ _ | refine ext_trans ?_ (Aft.use _) | refine ext_trans ?_ (by assumption))
  · rw [if_neg hB] at k ⊢
    clear hB
    go_enter Tryz.func29, Tryz.ntmps29
    go_wp2_with (first
      | (go_at_call 36; (with_reducible refine (k.out _ (by (repeat (first | exact ext_refl _ | assumption | refine ext_setCell ?_ (by simp; try omega) _ | refine ext_alloc ?_ _ | refine ext_drew ?_ | refine ext_drewN ?_ _ | refine ext_trans ?_ (Aft.use _) | refine ext_trans ?_ (by assumption))))).mono ?_); rintro e w1 ⟨rfl, xb1⟩; obtain ⟨xc1, xf1, xl1, xz1⟩ := ext_use xb1; (try simp at xz1); obtain ⟨l1_0, gc, gf⟩ := kp xb1 (w.heap.size) (by first | omega | (simp; try omega)); have r1_0 := gc 0; have f1_0 := gf 0; have r1_0_1 := gc 1; have f1_0_1 := gf 1; have r1_0_2 := gc 2; have f1_0_2 := gf 2; clear gc gf)
     )
    refine bodyPost_ret (v := .tuple #[.float .f32 0, .bool false]) ?h rfl ⟨rfl, ?_⟩
    case h => simp [results, Tryz.results29, go_sem]
    repeat (first | exact ext_refl _ | assumption | refine ext_setCell ?_ (by simp; try omega) _ | refine ext_alloc ?_ _ | refine ext_drew ?_ | refine ext_drewN ?_ _ | refine ext_trans ?_ (Aft.use _) | refine ext_trans ?_ (by assumption))
theorem qk_Fits (d : Dc) (hl : d.dig.length ≤ 9223372036854775807) (w : World) (hE : Er w) : Calls Tryz.prog 9 #[dcV d] w fun e w' => e = .returned (.bool (askB d 9007199254740992 22 37)) ∧ Ext w w' := by
  have k := Lib.hid (fun w' (he : Ext w w') => show Calls Tryz.prog 36 #[dcV d, .int .u64 9007199254740992, .int .i64 22, .int .i64 37] w' fun e w'' => e = .returned (askR d 9007199254740992 22 37) ∧ Ext w' w'' from qk_asked d 9007199254740992 22 37 hl (by decide) (by decide) (by decide) w' (hE.ext he))
  unfold askR at k
  obtain ⟨neg, l, x⟩ := d
  clear hE hl
  cases hB : askB ⟨neg, l, x⟩ 9007199254740992 22 37 with
  | true =>
    rw [if_pos hB] at k
    generalize askN ⟨neg, l, x⟩ 22 = N at *
    generalize askX ⟨neg, l, x⟩ 22 = X at *
    clear hB
    go_enter Tryz.func9, Tryz.ntmps9
    go_wp2_with (first
      | (go_at_call 36; (with_reducible refine (k.out _ (by (repeat (first | exact ext_refl _ | assumption | refine ext_setCell ?_ (by simp; try omega) _ | refine ext_alloc ?_ _ | refine ext_drew ?_ | refine ext_drewN ?_ _ | refine ext_trans ?_ (Aft.use _) | refine ext_trans ?_ (by assumption))))).mono ?_); rintro e w1 ⟨rfl, xb1⟩; obtain ⟨xc1, xf1, xl1, xz1⟩ := ext_use xb1; (try simp at xz1); obtain ⟨l1_0, gc, gf⟩ := kp xb1 (w.heap.size) (by first | omega | (simp; try omega)); have r1_0 := gc 0; have f1_0 := gf 0; have r1_0_1 := gc 1; have f1_0_1 := gf 1; have r1_0_2 := gc 2; have f1_0_2 := gf 2; clear gc gf)
     )
    refine bodyPost_ret (v := .bool true) ?h rfl ⟨rfl, ?_⟩
    case h => simp [results, Tryz.results9, go_sem]
    repeat (first | exact ext_refl _ | assumption | refine ext_setCell ?_ (by simp; try omega) _ | refine ext_alloc ?_ _ | refine ext_drew ?_ | refine ext_drewN ?_ _ | refine ext_trans ?_ (Aft.use _) | refine ext_trans ?_ (by assumption))
  | false =>
    rw [if_neg (by rw [hB]; decide)] at k
    clear hB
    go_enter Tryz.func9, Tryz.ntmps9
    go_wp2_with (first
      | (go_at_call 36; (with_reducible refine (k.out _ (by (repeat (first | exact ext_refl _ | assumption | refine ext_setCell ?_ (by simp; try omega) _ | refine ext_alloc ?_ _ | refine ext_drew ?_ | refine ext_drewN ?_ _ | refine ext_trans ?_ (Aft.use _) | refine ext_trans ?_ (by assumption))))).mono ?_); rintro e w1 ⟨rfl, xb1⟩; obtain ⟨xc1, xf1, xl1, xz1⟩ := ext_use xb1; (try simp at xz1); obtain ⟨l1_0, gc, gf⟩ := kp xb1 (w.heap.size) (by first | omega | (simp; try omega)); have r1_0 := gc 0; have f1_0 := gf 0; have r1_0_1 := gc 1; have f1_0_1 := gf 1; have r1_0_2 := gc 2; have f1_0_2 := gf 2; clear gc gf)
     )
    refine bodyPost_ret (v := .bool false) ?h rfl ⟨rfl, ?_⟩
    case h => simp [results, Tryz.results9, go_sem]
    repeat (first | exact ext_refl _ | assumption | refine ext_setCell ?_ (by simp; try omega) _ | refine ext_alloc ?_ _ | refine ext_drew ?_ | refine ext_drewN ?_ _ | refine ext_trans ?_ (Aft.use _) | refine ext_trans ?_ (by assumption))
end Go.Proofs.YtkhkoeibpkglkaaGreatDoor
end
