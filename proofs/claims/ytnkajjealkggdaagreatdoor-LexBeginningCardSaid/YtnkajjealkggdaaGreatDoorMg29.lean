/- Lemmas of this proof, laid together: LxS, LxU, LxW. -/
import Derived.Test.YtnkajjealkggdaaGreatDoorMg28
import Derived.Test.YtnkajjealkggdaaGreatDoorMg21
import Derived.Test.YtnkajjealkggdaaGreatDoorMg11
import Derived.Test.YtnkajjealkggdaaGreatDoorMg27
import Derived.Deep.DeepCutAuto
import Derived.Deep.RegionWith
set_option linter.unusedSimpArgs false
set_option linter.unusedVariables false
section
/- Lex, the program: may a dyadic be? -/
namespace Go.Proofs.YtnkajjealkggdaaGreatDoor
open Go.RowKit
attribute [local go_sem] sz2 sz3 sz4 sz5 sz6 sz7 sz8
set_option maxHeartbeats 4000000
set_option maxRecDepth 100000
attribute [local irreducible] Calls
/-- What exact.Check tells. -/
def exE (neg : Bool) (xs : List Nat) (x : Int) : Nat :=
  if chk xs ≠ 0 then chk xs else if xs = [] then (if neg = true ∨ x ≠ 0 then 40 else 0) else if xs.getD 0 0 % 2 = 0 ∨ far x = true then 40 else 0
theorem lx_none (A : Option Addr) (n c : Nat) (w : World) : Calls Tryz.prog 84 #[natV A n c] w fun e w' => e = .returned (.bool (decide (n = 0))) ∧ Ext w w' := by
  have h0 : decide (n = 0) = ((n : Int) == 0) := by
    rw [Bool.eq_iff_iff, decide_eq_true_iff, beq_iff_eq]; omega
  rw [h0]
  clear h0
  go_enter Tryz.func84, Tryz.ntmps84
  go_wp2
  refine bodyPost_ret (v := .bool ((n : Int) == 0)) ?h rfl ⟨rfl, ?_⟩
  case h => simp [results, Tryz.results84, go_sem]
  repeat (first | exact ext_refl _ | assumption | refine ext_setCell ?_ (by simp; try omega) _ | refine ext_alloc ?_ _ | refine ext_drew ?_ | refine ext_drewN ?_ _ | refine ext_trans ?_ (Aft.use _) | refine ext_trans ?_ (by assumption))
theorem lx_far (n : Int) (w : World) : Calls Tryz.prog 85 #[.int .i64 n] w fun e w' => e = .returned (.bool (far n)) ∧ Ext w w' := by
  unfold far
  by_cases a1 : n < -1073741824
  · have a2 : decide (n < -1073741824) = true := decide_eq_true a1
    rw [a2, Bool.true_or]
    go_enter Tryz.func85, Tryz.ntmps85
    go_wp2
    refine bodyPost_ret (v := .bool true) ?h rfl ⟨rfl, ?_⟩
    case h => simp [results, Tryz.results85, go_sem]
    repeat (first | exact ext_refl _ | assumption | refine ext_setCell ?_ (by simp; try omega) _ | refine ext_alloc ?_ _ | refine ext_drew ?_ | refine ext_drewN ?_ _ | refine ext_trans ?_ (Aft.use _) | refine ext_trans ?_ (by assumption))
  · have a2 : decide (n < -1073741824) = false := decide_eq_false a1
    rw [a2, Bool.false_or]
    go_enter Tryz.func85, Tryz.ntmps85
    go_wp2
    refine bodyPost_ret (v := .bool (decide (1073741824 < n))) ?h rfl ⟨rfl, ?_⟩
    case h => simp [results, Tryz.results85, go_sem]
    repeat (first | exact ext_refl _ | assumption | refine ext_setCell ?_ (by simp; try omega) _ | refine ext_alloc ?_ _ | refine ext_drew ?_ | refine ext_drewN ?_ _ | refine ext_trans ?_ (Aft.use _) | refine ext_trans ?_ (by assumption))
theorem lx_exCheck (neg : Bool) (A : Option Addr) (n c : Nat) (xs : List Nat) (x : Int) (w : World) (hA : Rd w A n c xs) : Calls Tryz.prog 43 #[dyV neg A n c x] w fun e w' => e = .returned (.int .i64 (exE neg xs x : Nat)) ∧ Ext w w' := by
  have hlen := hA.len
  have hcx := hA.cap
  have chA := Lib.hid (fun w' (he : Ext w w') => ncheck_any A n c xs w' (hA.ext he))
  have kn := Lib.hid (fun w' => lx_none A n c w')
  have kf := Lib.hid (fun w' => lx_far x w')
  unfold exE
  by_cases h1 : chk xs = 0
  · rw [if_neg (fun q => q h1)]
    rw [h1] at chA
    by_cases h2 : xs = []
    · subst h2
      obtain rfl : n = 0 := by rw [← hlen]; rfl
      rw [if_pos rfl]
      rw [decide_eq_true rfl] at kn
      clear hA h1 hlen
      cases neg
      · by_cases h3 : x = 0
        · subst h3
          rw [if_neg (by simp)]
          go_enter Tryz.func43, Tryz.ntmps43
          go_wp2_with (first
            | (go_at_call 83; (with_reducible refine (chA.out _ (by (repeat (first | exact ext_refl _ | assumption | refine ext_setCell ?_ (by simp; try omega) _ | refine ext_alloc ?_ _ | refine ext_drew ?_ | refine ext_drewN ?_ _ | refine ext_trans ?_ (Aft.use _) | refine ext_trans ?_ (by assumption))))).mono ?_); rintro e w1 ⟨rfl, xb1⟩; obtain ⟨xc1, xf1, xl1, xz1⟩ := ext_use xb1; (try simp at xz1); obtain ⟨l1_0, gc, gf⟩ := kp xb1 (w.heap.size) (by first | omega | (simp; try omega)); have r1_0 := gc 0; have f1_0 := gf 0; have r1_0_1 := gc 1; have f1_0_1 := gf 1; have r1_0_2 := gc 2; have f1_0_2 := gf 2; clear gc gf)
            | (go_at_call 84; (with_reducible refine (kn.out _).mono ?_); rintro e w1 ⟨rfl, xb1⟩; obtain ⟨xc1, xf1, xl1, xz1⟩ := ext_use xb1; (try simp at xz1); obtain ⟨l1_0, gc, gf⟩ := kp xb1 (w.heap.size) (by first | omega | (simp; try omega)); have r1_0 := gc 0; have f1_0 := gf 0; have r1_0_1 := gc 1; have f1_0_1 := gf 1; have r1_0_2 := gc 2; have f1_0_2 := gf 2; clear gc gf)
           )
          refine bodyPost_ret (v := .int .i64 0) ?h rfl ⟨rfl, ?_⟩
          case h => simp [results, Tryz.results43, go_sem]
          repeat (first | exact ext_refl _ | assumption | refine ext_setCell ?_ (by simp; try omega) _ | refine ext_alloc ?_ _ | refine ext_drew ?_ | refine ext_drewN ?_ _ | refine ext_trans ?_ (Aft.use _) | refine ext_trans ?_ (by assumption))
        · rw [if_pos (.inr h3)]
          have hne : (x != 0) = true := by simp [h3]
          clear h3
          go_enter Tryz.func43, Tryz.ntmps43
          go_wp2_with (first
            | (go_at_call 83; (with_reducible refine (chA.out _ (by (repeat (first | exact ext_refl _ | assumption | refine ext_setCell ?_ (by simp; try omega) _ | refine ext_alloc ?_ _ | refine ext_drew ?_ | refine ext_drewN ?_ _ | refine ext_trans ?_ (Aft.use _) | refine ext_trans ?_ (by assumption))))).mono ?_); rintro e w1 ⟨rfl, xb1⟩; obtain ⟨xc1, xf1, xl1, xz1⟩ := ext_use xb1; (try simp at xz1); obtain ⟨l1_0, gc, gf⟩ := kp xb1 (w.heap.size) (by first | omega | (simp; try omega)); have r1_0 := gc 0; have f1_0 := gf 0; have r1_0_1 := gc 1; have f1_0_1 := gf 1; have r1_0_2 := gc 2; have f1_0_2 := gf 2; clear gc gf)
            | (go_at_call 84; (with_reducible refine (kn.out _).mono ?_); rintro e w1 ⟨rfl, xb1⟩; obtain ⟨xc1, xf1, xl1, xz1⟩ := ext_use xb1; (try simp at xz1); obtain ⟨l1_0, gc, gf⟩ := kp xb1 (w.heap.size) (by first | omega | (simp; try omega)); have r1_0 := gc 0; have f1_0 := gf 0; have r1_0_1 := gc 1; have f1_0_1 := gf 1; have r1_0_2 := gc 2; have f1_0_2 := gf 2; clear gc gf)
           )
          refine bodyPost_ret (v := .int .i64 40) ?h rfl ⟨rfl, ?_⟩
          case h => simp [results, Tryz.results43, go_sem]
          repeat (first | exact ext_refl _ | assumption | refine ext_setCell ?_ (by simp; try omega) _ | refine ext_alloc ?_ _ | refine ext_drew ?_ | refine ext_drewN ?_ _ | refine ext_trans ?_ (Aft.use _) | refine ext_trans ?_ (by assumption))
      · rw [if_pos (.inl rfl)]
        go_enter Tryz.func43, Tryz.ntmps43
        go_wp2_with (first
          | (go_at_call 83; (with_reducible refine (chA.out _ (by (repeat (first | exact ext_refl _ | assumption | refine ext_setCell ?_ (by simp; try omega) _ | refine ext_alloc ?_ _ | refine ext_drew ?_ | refine ext_drewN ?_ _ | refine ext_trans ?_ (Aft.use _) | refine ext_trans ?_ (by assumption))))).mono ?_); rintro e w1 ⟨rfl, xb1⟩; obtain ⟨xc1, xf1, xl1, xz1⟩ := ext_use xb1; (try simp at xz1); obtain ⟨l1_0, gc, gf⟩ := kp xb1 (w.heap.size) (by first | omega | (simp; try omega)); have r1_0 := gc 0; have f1_0 := gf 0; have r1_0_1 := gc 1; have f1_0_1 := gf 1; have r1_0_2 := gc 2; have f1_0_2 := gf 2; clear gc gf)
          | (go_at_call 84; (with_reducible refine (kn.out _).mono ?_); rintro e w1 ⟨rfl, xb1⟩; obtain ⟨xc1, xf1, xl1, xz1⟩ := ext_use xb1; (try simp at xz1); obtain ⟨l1_0, gc, gf⟩ := kp xb1 (w.heap.size) (by first | omega | (simp; try omega)); have r1_0 := gc 0; have f1_0 := gf 0; have r1_0_1 := gc 1; have f1_0_1 := gf 1; have r1_0_2 := gc 2; have f1_0_2 := gf 2; clear gc gf)
         )
        refine bodyPost_ret (v := .int .i64 40) ?h rfl ⟨rfl, ?_⟩
        case h => simp [results, Tryz.results43, go_sem]
        repeat (first | exact ext_refl _ | assumption | refine ext_setCell ?_ (by simp; try omega) _ | refine ext_alloc ?_ _ | refine ext_drew ?_ | refine ext_drewN ?_ _ | refine ext_trans ?_ (Aft.use _) | refine ext_trans ?_ (by assumption))
    · rw [if_neg h2]
      have hn0 : 0 < n := by
        rcases Nat.eq_zero_or_pos n with h | h
        · exact absurd (List.eq_nil_of_length_eq_zero (by omega)) h2
        · exact h
      rw [decide_eq_false (by omega)] at kn
      obtain ⟨bv, ov, rfl⟩ : ∃ b off, A = some ⟨b, off, none⟩ := by
        rcases hA.shape with ⟨_, h, _⟩ | h
        · omega
        · exact h
      obtain ⟨l, hl⟩ : ∃ l, xs.getD 0 0 = l := ⟨_, rfl⟩
      have hx0 : xs[0]'(by omega) = l := by rw [← hl, List.getD_eq_getElem?_getD, List.getElem?_eq_getElem (by omega)]; rfl
      have hlb : l < 4294967296 := by rw [← hx0]; exact hA.lb _ (List.getElem_mem _)
      have hcell : Hid (∀ u, Ext w u → u.cell? ⟨bv, ov, none⟩ = some (.int .u32 (l : Int))) := Lib.hid fun u hu => by
        obtain ⟨h1, h2⟩ := (hA.ext hu).cells bv ov rfl 0 (by omega)
        rw [Nat.add_zero] at h2
        rw [h2, hx0]
      have hnI : (0 : Int) < (n : Int) := by omega
      rw [hl]
      have hand : bits BinOp.and IntKind.u32 (l : Int) 1 = ((l % 2 : Nat) : Int) := and_one32 l hlb
      clear hA h1 h2 hlen hx0 hl hlb
      obtain ⟨F, hF⟩ : ∃ F, far x = F := ⟨_, rfl⟩
      rw [hF] at kf
      rw [hF]
      clear hF
      rcases Nat.mod_two_eq_zero_or_one l with hp | hp
      · rw [if_pos (.inl hp)]
        rw [hp] at hand
        clear hp
        go_enter Tryz.func43, Tryz.ntmps43
        go_wp2_with (first
          | (go_at_call 83; (with_reducible refine (chA.out _ (by (repeat (first | exact ext_refl _ | assumption | refine ext_setCell ?_ (by simp; try omega) _ | refine ext_alloc ?_ _ | refine ext_drew ?_ | refine ext_drewN ?_ _ | refine ext_trans ?_ (Aft.use _) | refine ext_trans ?_ (by assumption))))).mono ?_); rintro e w1 ⟨rfl, xb1⟩; obtain ⟨xc1, xf1, xl1, xz1⟩ := ext_use xb1; (try simp at xz1); have hC := hcell.out w1 (by (repeat (first | exact ext_refl _ | assumption | refine ext_setCell ?_ (by simp; try omega) _ | refine ext_alloc ?_ _ | refine ext_drew ?_ | refine ext_drewN ?_ _ | refine ext_trans ?_ (Aft.use _) | refine ext_trans ?_ (by assumption)))); obtain ⟨l1_0, gc, gf⟩ := kp xb1 (w.heap.size) (by first | omega | (simp; try omega)); have r1_0 := gc 0; have f1_0 := gf 0; have r1_1 := gc 1; have f1_1 := gf 1; have r1_2 := gc 2; have f1_2 := gf 2; clear gc gf)
          | (go_at_call 84; (with_reducible refine (kn.out _).mono ?_); rintro e w1 ⟨rfl, xb1⟩; obtain ⟨xc1, xf1, xl1, xz1⟩ := ext_use xb1; (try simp at xz1); have hC := hcell.out w1 (by (repeat (first | exact ext_refl _ | assumption | refine ext_setCell ?_ (by simp; try omega) _ | refine ext_alloc ?_ _ | refine ext_drew ?_ | refine ext_drewN ?_ _ | refine ext_trans ?_ (Aft.use _) | refine ext_trans ?_ (by assumption)))); obtain ⟨l1_0, gc, gf⟩ := kp xb1 (w.heap.size) (by first | omega | (simp; try omega)); have r1_0 := gc 0; have f1_0 := gf 0; have r1_1 := gc 1; have f1_1 := gf 1; have r1_2 := gc 2; have f1_2 := gf 2; clear gc gf)
          | (go_at_call 85; (with_reducible refine (kf.out _).mono ?_); rintro e w1 ⟨rfl, xb1⟩))
        refine bodyPost_ret (v := .int .i64 40) ?h rfl ⟨rfl, ?_⟩
        case h => simp [results, Tryz.results43, go_sem]
        repeat (first | exact ext_refl _ | assumption | refine ext_setCell ?_ (by simp; try omega) _ | refine ext_alloc ?_ _ | refine ext_drew ?_ | refine ext_drewN ?_ _ | refine ext_trans ?_ (Aft.use _) | refine ext_trans ?_ (by assumption))
      · rw [hp] at hand
        cases F
        · rw [if_neg (by simp [hp])]
          clear hp
          go_enter Tryz.func43, Tryz.ntmps43
          go_wp2_with (first
            | (go_at_call 83; (with_reducible refine (chA.out _ (by (repeat (first | exact ext_refl _ | assumption | refine ext_setCell ?_ (by simp; try omega) _ | refine ext_alloc ?_ _ | refine ext_drew ?_ | refine ext_drewN ?_ _ | refine ext_trans ?_ (Aft.use _) | refine ext_trans ?_ (by assumption))))).mono ?_); rintro e w1 ⟨rfl, xb1⟩; obtain ⟨xc1, xf1, xl1, xz1⟩ := ext_use xb1; (try simp at xz1); have hC := hcell.out w1 (by (repeat (first | exact ext_refl _ | assumption | refine ext_setCell ?_ (by simp; try omega) _ | refine ext_alloc ?_ _ | refine ext_drew ?_ | refine ext_drewN ?_ _ | refine ext_trans ?_ (Aft.use _) | refine ext_trans ?_ (by assumption)))); obtain ⟨l1_0, gc, gf⟩ := kp xb1 (w.heap.size) (by first | omega | (simp; try omega)); have r1_0 := gc 0; have f1_0 := gf 0; have r1_1 := gc 1; have f1_1 := gf 1; have r1_2 := gc 2; have f1_2 := gf 2; clear gc gf)
            | (go_at_call 84; (with_reducible refine (kn.out _).mono ?_); rintro e w1 ⟨rfl, xb1⟩; obtain ⟨xc1, xf1, xl1, xz1⟩ := ext_use xb1; (try simp at xz1); have hC := hcell.out w1 (by (repeat (first | exact ext_refl _ | assumption | refine ext_setCell ?_ (by simp; try omega) _ | refine ext_alloc ?_ _ | refine ext_drew ?_ | refine ext_drewN ?_ _ | refine ext_trans ?_ (Aft.use _) | refine ext_trans ?_ (by assumption)))); obtain ⟨l1_0, gc, gf⟩ := kp xb1 (w.heap.size) (by first | omega | (simp; try omega)); have r1_0 := gc 0; have f1_0 := gf 0; have r1_1 := gc 1; have f1_1 := gf 1; have r1_2 := gc 2; have f1_2 := gf 2; clear gc gf)
            | (go_at_call 85; (with_reducible refine (kf.out _).mono ?_); rintro e w1 ⟨rfl, xb1⟩))
          refine bodyPost_ret (v := .int .i64 0) ?h rfl ⟨rfl, ?_⟩
          case h => simp [results, Tryz.results43, go_sem]
          repeat (first | exact ext_refl _ | assumption | refine ext_setCell ?_ (by simp; try omega) _ | refine ext_alloc ?_ _ | refine ext_drew ?_ | refine ext_drewN ?_ _ | refine ext_trans ?_ (Aft.use _) | refine ext_trans ?_ (by assumption))
        · rw [if_pos (.inr rfl)]
          clear hp
          go_enter Tryz.func43, Tryz.ntmps43
          go_wp2_with (first
            | (go_at_call 83; (with_reducible refine (chA.out _ (by (repeat (first | exact ext_refl _ | assumption | refine ext_setCell ?_ (by simp; try omega) _ | refine ext_alloc ?_ _ | refine ext_drew ?_ | refine ext_drewN ?_ _ | refine ext_trans ?_ (Aft.use _) | refine ext_trans ?_ (by assumption))))).mono ?_); rintro e w1 ⟨rfl, xb1⟩; obtain ⟨xc1, xf1, xl1, xz1⟩ := ext_use xb1; (try simp at xz1); have hC := hcell.out w1 (by (repeat (first | exact ext_refl _ | assumption | refine ext_setCell ?_ (by simp; try omega) _ | refine ext_alloc ?_ _ | refine ext_drew ?_ | refine ext_drewN ?_ _ | refine ext_trans ?_ (Aft.use _) | refine ext_trans ?_ (by assumption)))); obtain ⟨l1_0, gc, gf⟩ := kp xb1 (w.heap.size) (by first | omega | (simp; try omega)); have r1_0 := gc 0; have f1_0 := gf 0; have r1_1 := gc 1; have f1_1 := gf 1; have r1_2 := gc 2; have f1_2 := gf 2; clear gc gf)
            | (go_at_call 84; (with_reducible refine (kn.out _).mono ?_); rintro e w1 ⟨rfl, xb1⟩; obtain ⟨xc1, xf1, xl1, xz1⟩ := ext_use xb1; (try simp at xz1); have hC := hcell.out w1 (by (repeat (first | exact ext_refl _ | assumption | refine ext_setCell ?_ (by simp; try omega) _ | refine ext_alloc ?_ _ | refine ext_drew ?_ | refine ext_drewN ?_ _ | refine ext_trans ?_ (Aft.use _) | refine ext_trans ?_ (by assumption)))); obtain ⟨l1_0, gc, gf⟩ := kp xb1 (w.heap.size) (by first | omega | (simp; try omega)); have r1_0 := gc 0; have f1_0 := gf 0; have r1_1 := gc 1; have f1_1 := gf 1; have r1_2 := gc 2; have f1_2 := gf 2; clear gc gf)
            | (go_at_call 85; (with_reducible refine (kf.out _).mono ?_); rintro e w1 ⟨rfl, xb1⟩))
          refine bodyPost_ret (v := .int .i64 40) ?h rfl ⟨rfl, ?_⟩
          case h => simp [results, Tryz.results43, go_sem]
          repeat (first | exact ext_refl _ | assumption | refine ext_setCell ?_ (by simp; try omega) _ | refine ext_alloc ?_ _ | refine ext_drew ?_ | refine ext_drewN ?_ _ | refine ext_trans ?_ (Aft.use _) | refine ext_trans ?_ (by assumption))
  · rw [if_pos h1]
    obtain ⟨E, hE⟩ : ∃ E, chk xs = E := ⟨_, rfl⟩
    rw [hE] at chA h1
    rw [hE]
    have hne : ((E : Int) != 0) = true := by simp [h1]
    clear hA h1 hE hlen
    go_enter Tryz.func43, Tryz.ntmps43
    go_wp2_with (first
      | (go_at_call 83; (with_reducible refine (chA.out _ (by (repeat (first | exact ext_refl _ | assumption | refine ext_setCell ?_ (by simp; try omega) _ | refine ext_alloc ?_ _ | refine ext_drew ?_ | refine ext_drewN ?_ _ | refine ext_trans ?_ (Aft.use _) | refine ext_trans ?_ (by assumption))))).mono ?_); rintro e w1 ⟨rfl, xb1⟩; obtain ⟨xc1, xf1, xl1, xz1⟩ := ext_use xb1; (try simp at xz1); obtain ⟨l1_0, gc, gf⟩ := kp xb1 (w.heap.size) (by first | omega | (simp; try omega)); have r1_0 := gc 0; have f1_0 := gf 0; have r1_0_1 := gc 1; have f1_0_1 := gf 1; have r1_0_2 := gc 2; have f1_0_2 := gf 2; clear gc gf)
     )
    refine bodyPost_ret (v := .int .i64 ↑E) ?h rfl ⟨rfl, ?_⟩
    case h => simp [results, Tryz.results43, go_sem]
    repeat (first | exact ext_refl _ | assumption | refine ext_setCell ?_ (by simp; try omega) _ | refine ext_alloc ?_ _ | refine ext_drew ?_ | refine ext_drewN ?_ _ | refine ext_trans ?_ (Aft.use _) | refine ext_trans ?_ (by assumption))
end Go.Proofs.YtnkajjealkggdaaGreatDoor
end
section
/- Lex, the program: Check. -/
namespace Go.Proofs.YtnkajjealkggdaaGreatDoor
open Go.RowKit
attribute [local go_sem] bs_size bs_extract bs_get bs_append bs_toList const_get
attribute [local go_sem] sz2 sz3 sz4 sz5 sz6 sz7 sz8 sz9 sz10
set_option maxHeartbeats 4000000
set_option maxRecDepth 100000
def noD (dneg : Bool) (digits : List UInt8) (dexp : Int) : Bool := decide (dneg = false ∧ digits = [] ∧ dexp = 0)
theorem eql_dec (dneg : Bool) (digits : List UInt8) (dexp : Int) (w : World) : (binOp .eql 25 (.agg #[.bool dneg, .string (bs digits), .int .i64 dexp]) (.agg #[.bool false, .string ⟨#[]⟩, .int .i64 0])).run Tryz.prog w = .ok (.bool (noD dneg digits dexp)) w := by
  unfold noD
  simp [go_sem]
  cases dneg
  · by_cases h1 : digits = []
    · by_cases h2 : dexp = 0
      · simp [h1, h2]
      · simp [h1, h2]
    · simp [h1]
  · simp
attribute [local irreducible] Calls
attribute [local go_sem high] eql_dec
def noDecB (x : Num) : Bool := noD x.dneg x.digits x.dexp
def noHexB (x : Num) : Bool := decide (x.mant = [] ∧ x.hexp = 0 ∧ x.hneg = false)
/-- May a number be? -/
def okN (x : Num) : Bool :=
  if x.kind = 1 then decide (dcE ⟨x.dneg, x.digits, x.dexp⟩ = 0) && (decide (x.dneg = x.neg) && (noHexB x && decide (x.payload = 0)))
  else if x.kind = 2 then decide (exE x.hneg x.mant x.hexp = 0) && ((noHexB x || decide (x.hneg = x.neg)) && (noDecB x && decide (x.payload = 0)))
  else if x.kind = 3 then noDecB x && (noHexB x && decide (x.payload = 0))
  else if x.kind = 4 then noDecB x && (noHexB x && decide (x.payload ≤ maxPay))
  else false
def chkN (x : Num) : Nat := if okN x = true then 0 else 110
theorem ret_chk (k : Nat) {m : Nat} (h : m = k) : Ending.returned (Value.int IntKind.i64 (k : Int)) = Ending.returned (Value.int IntKind.i64 (m : Int)) := by rw [h]
theorem lx_Check3 (neg dneg : Bool) (digits : List UInt8) (dexp : Int) (hneg : Bool) (mant : List Nat) (hexp : Int) (payload : Nat) (A : Option Addr) (n c : Nat) (w : World) (hA : Rd w A n c mant) (hl : digits.length ≤ 1000000000) : Calls Tryz.prog 25 #[numV ⟨3, neg, dneg, digits, dexp, hneg, mant, hexp, payload⟩ A n c] w fun e w' => e = .returned (.int .i64 (chkN ⟨3, neg, dneg, digits, dexp, hneg, mant, hexp, payload⟩ : Nat)) ∧ Ext w w' := by
  have hlen := Lib.hid hA.len
  have hv := Lib.hid (Nv.new w (.int .u8 3) (.bool neg) (.bool dneg) (.string (bs digits)) (.int .i64 dexp) (.bool hneg) (.slice A n c) (.int .i64 hexp) (.int .u64 (payload : Int)) 33)
  obtain ⟨n0, n1, n2, n3, n4, n5, n6, n7, n8, q0, q1, q2, q3, q4, q5, q6, q7, q8, hB5⟩ := hv.out
  obtain ⟨nd, hnd⟩ : ∃ nd, noD dneg digits dexp = nd := ⟨_, rfl⟩
  have HND := Lib.hid hnd
  go_enter Tryz.func25, Tryz.ntmps25
  go_wp2
  all_goals
    have hml : mant = [] ↔ n = 0 := ⟨fun e => by rw [← hlen.out, e]; rfl, fun e => List.eq_nil_of_length_eq_zero (by rw [hlen.out]; exact e)⟩
    have hnd := HND.out
    first
      | (refine bodyPost_ret (v := .int .i64 110) ?h rfl ⟨?_, ?_⟩
         case h => simp [results, Tryz.results25, go_sem]
         · exact ret_chk 110 (by simp_all [chkN, okN, noDecB, noHexB, maxPay])
         · exact ext_alloc (ext_refl _) _)
      | (refine bodyPost_ret (v := .int .i64 0) ?h rfl ⟨?_, ?_⟩
         case h => simp [results, Tryz.results25, go_sem]
         · exact ret_chk 0 (by simp_all [chkN, okN, noDecB, noHexB, maxPay])
         · exact ext_alloc (ext_refl _) _)
theorem lx_Check4a (neg dneg : Bool) (digits : List UInt8) (dexp : Int) (hneg : Bool) (mant : List Nat) (hexp : Int) (payload : Nat) (hp : payload ≤ 2251799813685247) (A : Option Addr) (n c : Nat) (w : World) (hA : Rd w A n c mant) (hl : digits.length ≤ 1000000000) : Calls Tryz.prog 25 #[numV ⟨4, neg, dneg, digits, dexp, hneg, mant, hexp, payload⟩ A n c] w fun e w' => e = .returned (.int .i64 (chkN ⟨4, neg, dneg, digits, dexp, hneg, mant, hexp, payload⟩ : Nat)) ∧ Ext w w' := by
  have hlen := Lib.hid hA.len
  have hv := Lib.hid (Nv.new w (.int .u8 4) (.bool neg) (.bool dneg) (.string (bs digits)) (.int .i64 dexp) (.bool hneg) (.slice A n c) (.int .i64 hexp) (.int .u64 (payload : Int)) 33)
  obtain ⟨n0, n1, n2, n3, n4, n5, n6, n7, n8, q0, q1, q2, q3, q4, q5, q6, q7, q8, hB5⟩ := hv.out
  obtain ⟨nd, hnd⟩ : ∃ nd, noD dneg digits dexp = nd := ⟨_, rfl⟩
  have HND := Lib.hid hnd
  have hp2 : (payload : Int) ≤ 2251799813685247 := by omega
  have hp3 := Lib.hid hp
  clear hp
  go_enter Tryz.func25, Tryz.ntmps25
  go_wp2
  all_goals
    have hml : mant = [] ↔ n = 0 := ⟨fun e => by rw [← hlen.out, e]; rfl, fun e => List.eq_nil_of_length_eq_zero (by rw [hlen.out]; exact e)⟩
    have hnd := HND.out
    have hp := hp3.out
    first
      | (refine bodyPost_ret (v := .int .i64 110) ?h rfl ⟨?_, ?_⟩
         case h => simp [results, Tryz.results25, go_sem]
         · exact ret_chk 110 (by simp_all [chkN, okN, noDecB, noHexB, maxPay])
         · exact ext_alloc (ext_refl _) _)
      | (refine bodyPost_ret (v := .int .i64 0) ?h rfl ⟨?_, ?_⟩
         case h => simp [results, Tryz.results25, go_sem]
         · exact ret_chk 0 (by simp_all [chkN, okN, noDecB, noHexB, maxPay])
         · exact ext_alloc (ext_refl _) _)
theorem lx_Check4b (neg dneg : Bool) (digits : List UInt8) (dexp : Int) (hneg : Bool) (mant : List Nat) (hexp : Int) (payload : Nat) (hp : ¬ payload ≤ 2251799813685247) (A : Option Addr) (n c : Nat) (w : World) (hA : Rd w A n c mant) (hl : digits.length ≤ 1000000000) : Calls Tryz.prog 25 #[numV ⟨4, neg, dneg, digits, dexp, hneg, mant, hexp, payload⟩ A n c] w fun e w' => e = .returned (.int .i64 (chkN ⟨4, neg, dneg, digits, dexp, hneg, mant, hexp, payload⟩ : Nat)) ∧ Ext w w' := by
  have hlen := Lib.hid hA.len
  have hv := Lib.hid (Nv.new w (.int .u8 4) (.bool neg) (.bool dneg) (.string (bs digits)) (.int .i64 dexp) (.bool hneg) (.slice A n c) (.int .i64 hexp) (.int .u64 (payload : Int)) 33)
  obtain ⟨n0, n1, n2, n3, n4, n5, n6, n7, n8, q0, q1, q2, q3, q4, q5, q6, q7, q8, hB5⟩ := hv.out
  obtain ⟨nd, hnd⟩ : ∃ nd, noD dneg digits dexp = nd := ⟨_, rfl⟩
  have HND := Lib.hid hnd
  have hp2 : ¬ (payload : Int) ≤ 2251799813685247 := by omega
  have hp3 := Lib.hid (decide_eq_false hp)
  clear hp
  go_enter Tryz.func25, Tryz.ntmps25
  go_wp2
  all_goals
    have hml : mant = [] ↔ n = 0 := ⟨fun e => by rw [← hlen.out, e]; rfl, fun e => List.eq_nil_of_length_eq_zero (by rw [hlen.out]; exact e)⟩
    have hnd := HND.out
    have hp := hp3.out
    first
      | (refine bodyPost_ret (v := .int .i64 110) ?h rfl ⟨?_, ?_⟩
         case h => simp [results, Tryz.results25, go_sem]
         · exact ret_chk 110 (by simp_all [chkN, okN, noDecB, noHexB, maxPay] <;> first | exact hp3.out | exact decide_eq_false (by omega))
         · exact ext_alloc (ext_refl _) _)
      | (refine bodyPost_ret (v := .int .i64 0) ?h rfl ⟨?_, ?_⟩
         case h => simp [results, Tryz.results25, go_sem]
         · exact ret_chk 0 (by simp_all [chkN, okN, noDecB, noHexB, maxPay] <;> first | exact hp3.out | exact decide_eq_false (by omega))
         · exact ext_alloc (ext_refl _) _)
theorem lx_Check1 (neg dneg : Bool) (digits : List UInt8) (dexp : Int) (hneg : Bool) (mant : List Nat) (hexp : Int) (payload : Nat) (A : Option Addr) (n c : Nat) (w : World) (hA : Rd w A n c mant) (hl : digits.length ≤ 1000000000) : Calls Tryz.prog 25 #[numV ⟨1, neg, dneg, digits, dexp, hneg, mant, hexp, payload⟩ A n c] w fun e w' => e = .returned (.int .i64 (chkN ⟨1, neg, dneg, digits, dexp, hneg, mant, hexp, payload⟩ : Nat)) ∧ Ext w w' := by
  have hlen := Lib.hid hA.len
  have hv := Lib.hid (Nv.new w (.int .u8 1) (.bool neg) (.bool dneg) (.string (bs digits)) (.int .i64 dexp) (.bool hneg) (.slice A n c) (.int .i64 hexp) (.int .u64 (payload : Int)) 33)
  obtain ⟨n0, n1, n2, n3, n4, n5, n6, n7, n8, q0, q1, q2, q3, q4, q5, q6, q7, q8, hB5⟩ := hv.out
  obtain ⟨nd, hnd⟩ : ∃ nd, noD dneg digits dexp = nd := ⟨_, rfl⟩
  have HND := Lib.hid hnd
  obtain ⟨D, hD⟩ : ∃ D, dcE ⟨dneg, digits, dexp⟩ = D := ⟨_, rfl⟩
  have kc := Lib.hid (fun w' => check_any' ⟨dneg, digits, dexp⟩ (by dsimp only; omega) w')
  rw [hD] at kc
  have HD := Lib.hid hD
  clear hD
  go_enter Tryz.func25, Tryz.ntmps25
  go_wp2_with (first
    | (go_at_call 42; (with_reducible refine (kc.out _).mono ?_); rintro e w1 ⟨rfl, xb1⟩; obtain ⟨xc1, xf1, xl1, xz1⟩ := ext_use xb1; (try simp at xz1); obtain ⟨l1_0, gc, gf⟩ := kp xb1 (w.heap.size) (by first | omega | (simp; try omega)); have r1_0 := gc 0; have f1_0 := gf 0; have r1_0_1 := gc 1; have f1_0_1 := gf 1; have r1_0_2 := gc 2; have f1_0_2 := gf 2; have r1_0_3 := gc 3; have f1_0_3 := gf 3; have r1_0_4 := gc 4; have f1_0_4 := gf 4; have r1_0_5 := gc 5; have f1_0_5 := gf 5; have r1_0_6 := gc 6; have f1_0_6 := gf 6; have r1_0_7 := gc 7; have f1_0_7 := gf 7; have r1_0_8 := gc 8; have f1_0_8 := gf 8; clear gc gf)
   )
  all_goals
    have hml : mant = [] ↔ n = 0 := ⟨fun e => by rw [← hlen.out, e]; rfl, fun e => List.eq_nil_of_length_eq_zero (by rw [hlen.out]; exact e)⟩
    have hnd := HND.out
    have hD := HD.out
    first
      | (refine bodyPost_ret (v := .int .i64 110) ?h rfl ⟨?_, ?_⟩
         case h => simp [results, Tryz.results25, go_sem]
         · exact ret_chk 110 (by simp_all [chkN, okN, noDecB, noHexB, maxPay])
         · first | exact ext_alloc (ext_refl _) _ | exact ext_trans (ext_alloc (ext_refl _) _) xb1)
      | (refine bodyPost_ret (v := .int .i64 0) ?h rfl ⟨?_, ?_⟩
         case h => simp [results, Tryz.results25, go_sem]
         · exact ret_chk 0 (by simp_all [chkN, okN, noDecB, noHexB, maxPay])
         · first | exact ext_alloc (ext_refl _) _ | exact ext_trans (ext_alloc (ext_refl _) _) xb1)
theorem lx_Check2 (neg dneg : Bool) (digits : List UInt8) (dexp : Int) (hneg : Bool) (mant : List Nat) (hexp : Int) (payload : Nat) (A : Option Addr) (n c : Nat) (w : World) (hA : Rd w A n c mant) (hl : digits.length ≤ 1000000000) : Calls Tryz.prog 25 #[numV ⟨2, neg, dneg, digits, dexp, hneg, mant, hexp, payload⟩ A n c] w fun e w' => e = .returned (.int .i64 (chkN ⟨2, neg, dneg, digits, dexp, hneg, mant, hexp, payload⟩ : Nat)) ∧ Ext w w' := by
  have hlen := Lib.hid hA.len
  have hv := Lib.hid (Nv.new w (.int .u8 2) (.bool neg) (.bool dneg) (.string (bs digits)) (.int .i64 dexp) (.bool hneg) (.slice A n c) (.int .i64 hexp) (.int .u64 (payload : Int)) 33)
  obtain ⟨n0, n1, n2, n3, n4, n5, n6, n7, n8, q0, q1, q2, q3, q4, q5, q6, q7, q8, hB5⟩ := hv.out
  obtain ⟨nd, hnd⟩ : ∃ nd, noD dneg digits dexp = nd := ⟨_, rfl⟩
  have HND := Lib.hid hnd
  obtain ⟨D, hD⟩ : ∃ D, exE hneg mant hexp = D := ⟨_, rfl⟩
  have kc : Hid (∀ hn' n' he' w', hn' = hneg → n' = n → he' = hexp → Ext w w' → Calls Tryz.prog 43 #[dyV hn' A n' c he'] w' fun e w'' => e = .returned (.int .i64 (D : Nat)) ∧ Ext w' w'') := fun hn' n' he' w' h1 h2 h3 he => by
    subst h1; subst h2; subst h3
    rw [← hD]; exact lx_exCheck hn' A n' c mant he' w' (hA.ext he)
  have HD := Lib.hid hD
  clear hD
  go_enter Tryz.func25, Tryz.ntmps25
  go_wp2_with (first
    | (go_at_call 43; (with_reducible refine (kc.out _ _ _ _ (by first | rfl | exact Eq.symm (by assumption)) (by first | rfl | exact Eq.symm (by assumption) | omega) (by first | rfl | exact Eq.symm (by assumption)) (ext_alloc (ext_refl _) _)).mono ?_); rintro e w1 ⟨rfl, xb1⟩; obtain ⟨xc1, xf1, xl1, xz1⟩ := ext_use xb1; (try simp at xz1); obtain ⟨l1_0, gc, gf⟩ := kp xb1 (w.heap.size) (by first | omega | (simp; try omega)); have r1_0 := gc 0; have f1_0 := gf 0; have r1_0_1 := gc 1; have f1_0_1 := gf 1; have r1_0_2 := gc 2; have f1_0_2 := gf 2; have r1_0_3 := gc 3; have f1_0_3 := gf 3; have r1_0_4 := gc 4; have f1_0_4 := gf 4; have r1_0_5 := gc 5; have f1_0_5 := gf 5; have r1_0_6 := gc 6; have f1_0_6 := gf 6; have r1_0_7 := gc 7; have f1_0_7 := gf 7; have r1_0_8 := gc 8; have f1_0_8 := gf 8; clear gc gf)
   )
  all_goals
    have hml : mant = [] ↔ n = 0 := ⟨fun e => by rw [← hlen.out, e]; rfl, fun e => List.eq_nil_of_length_eq_zero (by rw [hlen.out]; exact e)⟩
    have hnd := HND.out
    have hD := HD.out
    first
      | (refine bodyPost_ret (v := .int .i64 110) ?h rfl ⟨?_, ?_⟩
         case h => simp [results, Tryz.results25, go_sem]
         · exact ret_chk 110 (by simp_all [chkN, okN, noDecB, noHexB, maxPay])
         · first | exact ext_alloc (ext_refl _) _ | exact ext_trans (ext_alloc (ext_refl _) _) xb1)
      | (refine bodyPost_ret (v := .int .i64 0) ?h rfl ⟨?_, ?_⟩
         case h => simp [results, Tryz.results25, go_sem]
         · exact ret_chk 0 (by simp_all [chkN, okN, noDecB, noHexB, maxPay])
         · first | exact ext_alloc (ext_refl _) _ | exact ext_trans (ext_alloc (ext_refl _) _) xb1)
theorem lx_Check0 (kind : Nat) (neg dneg : Bool) (digits : List UInt8) (dexp : Int) (hneg : Bool) (mant : List Nat) (hexp : Int) (payload : Nat) (hk : kind < 256) (k1 : kind ≠ 1) (k2 : kind ≠ 2) (k3 : kind ≠ 3) (k4 : kind ≠ 4) (A : Option Addr) (n c : Nat) (w : World) : Calls Tryz.prog 25 #[numV ⟨kind, neg, dneg, digits, dexp, hneg, mant, hexp, payload⟩ A n c] w fun e w' => e = .returned (.int .i64 (chkN ⟨kind, neg, dneg, digits, dexp, hneg, mant, hexp, payload⟩ : Nat)) ∧ Ext w w' := by
  have hv := Lib.hid (Nv.new w (.int .u8 (kind : Int)) (.bool neg) (.bool dneg) (.string (bs digits)) (.int .i64 dexp) (.bool hneg) (.slice A n c) (.int .i64 hexp) (.int .u64 (payload : Int)) 33)
  obtain ⟨n0, n1, n2, n3, n4, n5, n6, n7, n8, q0, q1, q2, q3, q4, q5, q6, q7, q8, hB5⟩ := hv.out
  have e1 : ((kind : Int) == 1) = false := by rw [beq_eq_false_iff_ne]; omega
  have e2 : ((kind : Int) == 2) = false := by rw [beq_eq_false_iff_ne]; omega
  have e3 : ((kind : Int) == 3) = false := by rw [beq_eq_false_iff_ne]; omega
  have e4 : ((kind : Int) == 4) = false := by rw [beq_eq_false_iff_ne]; omega
  have hch : Hid (chkN ⟨kind, neg, dneg, digits, dexp, hneg, mant, hexp, payload⟩ = 110) := by
    show _ = _
    unfold chkN okN
    dsimp only
    rw [if_neg k1, if_neg k2, if_neg k3, if_neg k4]
    rfl
  clear k1 k2 k3 k4
  go_enter Tryz.func25, Tryz.ntmps25
  go_wp2
  all_goals
    refine bodyPost_ret (v := .int .i64 110) ?h rfl ⟨ret_chk 110 hch.out, ext_alloc (ext_refl _) _⟩
    case h => simp [results, Tryz.results25, go_sem]
theorem lx_Check (x : Num) (hk : x.kind < 256) (A : Option Addr) (n c : Nat) (w : World) (hA : Rd w A n c x.mant) (hl : x.digits.length ≤ 1000000000) : Calls Tryz.prog 25 #[numV x A n c] w fun e w' => e = .returned (.int .i64 (chkN x : Nat)) ∧ Ext w w' := by
  obtain ⟨kind, neg, dneg, digits, dexp, hneg, mant, hexp, payload⟩ := x
  dsimp only at hk hA hl
  by_cases k1 : kind = 1
  · subst k1; exact lx_Check1 neg dneg digits dexp hneg mant hexp payload A n c w hA hl
  by_cases k2 : kind = 2
  · subst k2; exact lx_Check2 neg dneg digits dexp hneg mant hexp payload A n c w hA hl
  by_cases k3 : kind = 3
  · subst k3; exact lx_Check3 neg dneg digits dexp hneg mant hexp payload A n c w hA hl
  by_cases k4 : kind = 4
  · subst k4
    by_cases hp : payload ≤ 2251799813685247
    · exact lx_Check4a neg dneg digits dexp hneg mant hexp payload hp A n c w hA hl
    · exact lx_Check4b neg dneg digits dexp hneg mant hexp payload hp A n c w hA hl
  exact lx_Check0 kind neg dneg digits dexp hneg mant hexp payload hk k1 k2 k3 k4 A n c w
end Go.Proofs.YtnkajjealkggdaaGreatDoor
end
section
/- Lex, the program: a dyadic's text in sixteens. -/
namespace Go.Proofs.YtnkajjealkggdaaGreatDoor
open Go.RowKit
attribute [local go_sem] bs_size bs_extract bs_get bs_append bs_toList const_get
attribute [local go_sem] sz2 sz3 sz4 sz5 sz6 sz7 sz8
set_option maxHeartbeats 8000000
set_option maxRecDepth 100000
attribute [local irreducible] Calls
theorem and_three (T : Nat) (hT : T < 9000000000000000000) : bits BinOp.and IntKind.i64 (-(T : Int)) 3 = (((4 - T % 4) % 4 : Nat) : Int) := by
  have h2 : (BitVec.ofInt 64 3).toNat = 3 := by decide
  have h1 : (BitVec.ofInt 64 (-(T : Int))).toNat % 4 = (4 - T % 4) % 4 := by
    rw [BitVec.toNat_ofInt]
    omega
  show IntKind.i64.wrap ((BitVec.ofInt 64 (-(T : Int)) &&& BitVec.ofInt 64 3).toNat : Int) = _
  rw [BitVec.toNat_and, h2, show (3 : Nat) = 2 ^ 2 - 1 from rfl, Nat.and_two_pow_sub_one_eq_mod, show (2 : Nat) ^ 2 = 4 from rfl, h1, IntKind.wrap_i64]
  have : (4 - T % 4) % 4 < 4 := Nat.mod_lt _ (by decide)
  generalize (4 - T % 4) % 4 = q at *
  omega
theorem lx_itoa_len (n : Int) (h : -2000000000 ≤ n ∧ n ≤ 2000000000) : (itoaL n).length ≤ 100 := by
  unfold itoaL dtext
  rw [List.length_append]
  have h1 : (minusL (decide (n < 0))).length ≤ 1 := by unfold minusL; split <;> simp
  have h2 := digs_len (n := n.natAbs) (k := 10) (Nat.lt_of_le_of_lt (show n.natAbs ≤ 2000000000 by omega) (by decide))
  split
  · simp only [List.length_singleton]; omega
  · omega
theorem hxtext_pos (v : Nat) : 1 ≤ (hxtext v).length := by
  unfold hxtext
  split
  · decide
  · rename_i h
    rw [hxs_pos h]; simp
theorem hxtext_len (v k : Nat) (h : (lim v).length ≤ k) : (hxtext v).length ≤ 8 * k + 1 := by
  unfold hxtext
  split
  · simp
  · have := hxs_lim' h; omega
/-- A dyadic's text, without its sign. -/
def sixT (a : Nat) (x : Int) : List UInt8 :=
  let top := bitsOf a - 1
  let t := hxtext (a * 2 ^ ((4 - top % 4) % 4))
  if t.length = 1 then [48, 120, 49] ++ (112 :: itoaL (x + top)) else [48, 120, 49, 46] ++ t.tail ++ (112 :: itoaL (x + top))
theorem lx_sixteens (hneg : Bool) (a : Nat) (ha : a ≠ 0) (x0 : Int) (hx0 : -1073741824 ≤ x0 ∧ x0 ≤ 1073741824) (A : Option Addr) (n c : Nat) (hn : n ≤ 16384) (w : World) (hA : Rd w A n c (lim a)) (hT : LxT w) :
    Calls Tryz.prog 36 #[dyV hneg A n c x0] w fun e w' => e = .returned (.string (bs (sixT a x0))) ∧ Ext w w' := by
  have hlen := hA.len
  have HA := Lib.hid hA
  have HT := Lib.hid hT
  have hmx := hA.mx
  have hcap := hA.cap
  have hz : a / Bs ^ n = 0 := by rw [← hlen]; exact Nat.div_eq_of_lt (lim_lt a)
  have HZ := Lib.hid hz
  have HL := Lib.hid hlen
  have HA0 := Lib.hid ha
  obtain ⟨S, hS9⟩ : ∃ S, sixT a x0 = S := ⟨_, rfl⟩
  have HS9 := Lib.hid hS9
  rw [hS9]
  clear hA hz hlen hT ha hS9
  go_enter Tryz.func36, Tryz.ntmps36
  go_upto_region 3 with fail
  obtain ⟨b, hb⟩ : ∃ b, w.heap.size + 1 = b := ⟨_, rfl⟩
  obtain ⟨W, hW⟩ : ∃ W, W = (w.alloc (.cells #[.bool hneg, .slice A n c, .int .i64 x0] 30)).alloc (.cells #[.bool false, .slice none 0 0] 112) := ⟨_, rfl⟩
  obtain ⟨B0, hB0⟩ : ∃ B0, w.heap.size = B0 := ⟨_, rfl⟩
  have xW : Hid (Ext w W) := by show Ext w W; rw [hW]; exact ext_alloc (ext_alloc (ext_refl _) _) _
  have hI0 : Hid (IntIs W b 0 ((0 : Nat) : Int) none 0 0) := by
    rw [hW, ← hb]
    have := zero_int (w.alloc (.cells #[.bool hneg, .slice A n c, .int .i64 x0] 30))
    have es : (w.alloc (.cells #[.bool hneg, .slice A n c, .int .i64 x0] 30)).heap.size = w.heap.size + 1 := by simp
    rw [es] at this
    exact this
  have c0 : W.cell? ⟨B0, 1, none⟩ = some (.slice A n c) := by rw [hW, ← hB0]; simp [go_sem]
  have c2 : W.cell? ⟨B0, 2, none⟩ = some (.int .i64 x0) := by rw [hW, ← hB0]; simp [go_sem]
  have cl : B0 < W.heap.size := by rw [hW, ← hB0]; simp; try omega
  have hne : B0 ≠ b := by omega
  have hbW : b < W.heap.size := by rw [hW, ← hb]; simp; try omega
  have hAb : Hid (∀ x, A = some x → 0 < n → x.block ≠ b) := Lib.hid fun x hx hp => by
    rcases HA.out.shape with ⟨h1, _⟩ | ⟨bb, oo, h1⟩
    · rw [h1] at hx; cases hx
    · subst h1
      cases hx
      have := (HA.out.cells bb oo rfl 0 (by have := HL.out; omega)).1
      show bb ≠ b
      omega
  rw [← hW, hb, hB0]
  have HW1 : Hid (w.heap.size ≤ b) := by show _ ≤ _; omega
  clear hW hb hB0
  go_loopw [4] (fun vi wr => ∃ j : Nat, j ≤ n ∧ vi = .int .i64 ((n : Int) - 1 - (j : Int)) ∧ Hid (∃ X k l, IntIs wr b 0 ((a / Bs ^ (n - j) : Nat) : Int) X k l ∧ Fr w X) ∧ Hid (Tch b W wr)) (fun vi _ => (intOf vi + 1).toNat)
  case atStart => exact ⟨0, Nat.zero_le _, by simp, ⟨_, _, _, by rw [Nat.sub_zero, HZ.out]; exact hI0.out, fun x hx => by cases hx⟩, Tch.refl _ _⟩
  case round =>
    obtain ⟨j, hj, rfl, hI, ht⟩ := hrel
    have hE := Lib.hid (ht.out.ext xW.out HW1.out)
    have y0 := (ht.out.cell (p := ⟨B0, 1, none⟩) cl hne).trans c0
    have yl : B0 < wr.heap.size := Nat.lt_of_lt_of_le cl ht.out.size
    by_cases hlt : j < n
    · obtain ⟨i, hi⟩ : ∃ i, n - 1 - j = i := ⟨_, rfl⟩
      have hin : i < n := by omega
      have e1 : (n : Int) - 1 - (j : Int) = (i : Int) := by omega
      have e2 : n - j = i + 1 := by omega
      have e3 : n - (j + 1) = i := by omega
      obtain ⟨x, hx⟩ : ∃ x, (lim a).getD i 0 = x := ⟨_, rfl⟩
      have hxb : x < 4294967296 := by rw [← hx]; exact lim_getD_lt a i
      obtain ⟨v, hv⟩ : ∃ v, a / Bs ^ (i + 1) = v := ⟨_, rfl⟩
      have hvs : a / Bs ^ i = v * 4294967296 + x := by rw [← hv, ← hx]; exact drop_step a i
      rcases HA.out.shape with ⟨_, q0, _⟩ | ⟨ba, oa, rfl⟩
      · omega
      · obtain ⟨hb1, hc1⟩ := (HA.out.ext hE.out).cells ba oa rfl i (by have := HL.out; omega)
        have hc2 : wr.cell? ⟨ba, oa + i, none⟩ = some (.int .u32 (x : Int)) := by
          rw [hc1, ← hx, List.getD_eq_getElem?_getD, List.getElem?_eq_getElem (by have := HL.out; omega)]; rfl
        have hbab : ba ≠ b := hAb.out _ rfl (by omega)
        rw [e2, hv] at hI
        have hS : Hid (StL wr b wr v 400000) := Lib.hid ⟨by obtain ⟨X, kk, l, h, _⟩ := hI.out; exact ⟨X, kk, l, h⟩, Tch.refl _ _, by
          have h1 : v ≤ a := by rw [← hv]; exact Nat.div_le_self _ _
          have := lim_mono h1
          have := HL.out
          omega⟩
        have KS := Lib.hid (fun u v' L (h : StL wr b u v' L) => show u.cell? ⟨B0, 1, none⟩ = some (.slice (some ⟨ba, oa, none⟩) n c) ∧ u.cell? ⟨ba, oa + i, none⟩ = some (.int .u32 (x : Int)) from ⟨(h.tch.cell (p := ⟨B0, 1, none⟩) yl hne).trans y0, (h.tch.cell (p := ⟨ba, oa + i, none⟩) hb1 hbab).trans hc2⟩)
        have KL := Lib.hid (fun u v' (h : StL wr b u v' 400000) => stL_lsh wr b v' 400000 (by decide) u h)
        have KN := Lib.hid (fun u v' L (h : StL wr b u v' L) => stL_new wr b v' L x hxb u h)
        have KO := Lib.hid (fun u g (h : StL wr b u (v * 4294967296) 400001) (ho : OneL wr b u g x) => stL_or wr b v 400001 g x (by decide) hxb u h ho)
        have hSd : Hid (∀ k : Nat, StL wr b (wr.drewN k) v 400000) := Lib.hid fun k => ⟨by obtain ⟨X, kk, l, h, _⟩ := hI.out; exact ⟨X, kk, l, h.ext (ext_drewN (ext_refl _) _)⟩, Tch.of (ext_drewN (ext_refl _) _), hS.out.le⟩
        rw [e1]
        have hii : (i : Int) < (n : Int) := by omega
        have hxi : (x : Int) < 4294967296 := by omega
        have hxw : IntKind.i64.wrap (x : Int) = (x : Int) := by rw [IntKind.wrap_i64]; omega
        have hi0 : (0 : Int) ≤ (i : Int) := by omega
        have hSZ : Hid (w.heap.size ≤ wr.heap.size) := hE.out.size
        clear hx hv hi hE hc1 e2
        have e1' := Lib.hid e1
        clear e1
        go_upto_region 5 with fail
        obtain ⟨w5, hw5⟩ : ∃ u, u = wr := ⟨wr, rfl⟩
        have hS1 : Hid (StL wr b wr.drew v 400000) := hSd.out 1
        have hS2 : Hid (StL wr b wr.drew.drew v 400000) := hSd.out 2
        have hS3 : Hid (StL wr b wr.drew.drew.drew v 400000) := hSd.out 3
        have hS4 : Hid (StL wr b wr.drew.drew.drew.drew v 400000) := hSd.out 4
        have hS5 := hSd.out
        go_region_law (go_simp; first
          | (go_at_call 62; (with_reducible refine (KO.out _ _ hS.out hO.out).mono ?_); rintro e u3 ⟨rfl, hI3, ht3⟩)
          | (go_at_call 61; (with_reducible refine (KL.out _ _ (by first | exact hS.out | exact hS1.out | exact hS2.out | exact hS3.out | exact hS4.out | exact hS5 _)).mono ?_); rintro e u1 ⟨rfl, hS, hkp⟩; (try (have hO := Lib.hid (hkp.out _ _ hO.out))); obtain ⟨y0, y1⟩ := KS.out _ _ _ hS.out)
          | (go_at_call 63; (with_reducible refine (KN.out _ _ _ (by first | exact hS.out | exact hS1.out | exact hS2.out | exact hS3.out | exact hS4.out | exact hS5 _)).mono ?_); rintro e u2 ⟨g, rfl, hS, hO⟩; obtain ⟨y0, y1⟩ := KS.out _ _ _ hS.out))
        all_goals go_wp2
        all_goals refine ⟨⟨j + 1, by omega, by congr 1; omega, ?_, ht.out.trans ht3.out⟩, by simp [intOf] <;> omega⟩
        all_goals (rw [e3, hvs]; obtain ⟨X, kk, l, h1, h2⟩ := hI3.out; exact ⟨X, kk, l, h1, fun x hx => Nat.le_trans hSZ.out (h2 x hx)⟩)
    · obtain rfl : j = n := by omega
      have e1 : (j : Int) - 1 - (j : Int) = -1 := by omega
      rw [e1]
      have hn1 : ¬ (0 : Int) ≤ -1 := by omega
      have hfin : Hid (∃ X k l, IntIs wr b 0 (a : Int) X k l ∧ Fr w X) := by
        have := hI.out
        rw [Nat.sub_self, Nat.pow_zero, Nat.div_one] at this
        exact Lib.hid this
      obtain ⟨X, k, l, hX, hFr⟩ := hfin.out
      clear hI hfin
      have y2 := (ht.out.cell (p := ⟨B0, 2, none⟩) cl hne).trans c2
      obtain ⟨hb0, hb1, hb2⟩ := bitsOf_spec HA0.out
      have hk : k = (lim a).length := by have := hX.rd.len; rw [Int.natAbs_natCast] at this; exact this.symm
      have hLL := HL.out
      have hbn : bitsOf a ≤ 32 * 16384 := by
        rcases Nat.lt_or_ge (32 * 16384) (bitsOf a) with q | q
        · exfalso
          have h3 := lim_lt a
          rw [hLL] at h3
          have h4 : Bs ^ j = 2 ^ (32 * j) := by rw [Nat.pow_mul]
          rw [h4] at h3
          have h5 : 2 ^ (32 * j) ≤ 2 ^ (bitsOf a - 1) := Nat.pow_le_pow_right (by decide) (by omega)
          omega
        · exact q
      obtain ⟨T, hTt⟩ : ∃ T, bitsOf a = T + 1 := ⟨bitsOf a - 1, by omega⟩
      obtain ⟨z, hz⟩ : ∃ z, (4 - T % 4) % 4 = z := ⟨_, rfl⟩
      have hz4 : z < 4 := by rw [← hz]; exact Nat.mod_lt _ (by decide)
      have hand := and_three T (by omega)
      rw [hz] at hand
      have hsix : sixT a x0 = if (hxtext (a * 2 ^ z)).length = 1 then [48, 120, 49] ++ (112 :: itoaL (x0 + T)) else [48, 120, 49, 46] ++ (hxtext (a * 2 ^ z)).tail ++ (112 :: itoaL (x0 + T)) := by
        unfold sixT
        simp only [hTt, Nat.add_sub_cancel, hz]
      rw [HS9.out] at hsix
      have kb : Hid (Calls Tryz.prog 64 #[.pointer (some ⟨b, 0, none⟩)] wr fun e w' => e = .returned (.int .i64 ((T : Int) + 1)) ∧ Ext wr w') := by
        have := bi_BitLen b 0 (a : Int) X k l (by omega) wr hX
        rw [Int.natAbs_natCast, hTt] at this
        exact this
      have kI : Hid (∀ w', LxT w' → Calls Tryz.prog 31 #[.int .i64 (x0 + T)] w' fun e w'' => e = .returned (.string (bs (itoaL (x0 + T)))) ∧ Ext w' w'') := fun w' h => itoa_any (x0 + T) (by omega) w' h.pw
      have kS : Hid (∀ w', Ext wr w' → Calls Tryz.prog 61 #[.pointer (some ⟨b, 0, none⟩), .pointer (some ⟨b, 0, none⟩), .int .u64 (z : Int)] w' (IPost w' b 0 ((a * 2 ^ z : Nat) : Int))) := fun w' he => by
        have := bi_Lsh b 0 b 0 (a : Int) z X k l (by omega) (by omega) w' (hX.room.ext he) (hX.ext he)
        have e : (a : Int) * 2 ^ z = ((a * 2 ^ z : Nat) : Int) := by simp
        rwa [e] at this
      have hbig : (lim (a * 2 ^ z)).length ≤ 16385 := by
        have h0 : (lim (a * 2 ^ z)).length ≤ j + 1 := by
          refine lim_le (Nat.lt_of_lt_of_le (Nat.mul_lt_mul_of_lt_of_le (lim_lt a) (Nat.le_refl _) (Nat.pow_pos (by decide))) ?_)
          have h1 : 2 ^ z ≤ Bs := Nat.le_trans (Nat.pow_le_pow_right (by decide) (show z ≤ 4 by omega)) (by decide)
          refine Nat.le_trans (Nat.mul_le_mul_left _ h1) ?_
          rw [← Nat.pow_succ, hLL]
          exact Nat.le_refl _
        omega
      have HB := Lib.hid hbig
      have hx1 : -2000000000 ≤ x0 + (T : Int) ∧ x0 + (T : Int) ≤ 2000000000 := by omega
      obtain ⟨I, hI9⟩ : ∃ I, itoaL (x0 + T) = I := ⟨_, rfl⟩
      rw [hI9] at kI hsix
      obtain ⟨V, hV⟩ : ∃ V, a * 2 ^ z = V := ⟨_, rfl⟩
      rw [hV] at kS HB hsix
      have hTl : (T : Int) ≤ 600000 := by omega
      have hIl : I.length ≤ 100 := by rw [← hI9]; exact lx_itoa_len _ (by omega)
      have hzc : (z : Int) ≤ 4 := by omega
      clear hb0 hb1 hb2 hk hLL hbn hTt hz hbig hI9 hV hX hFr HA HZ HL HA0
      obtain ⟨t, ht9⟩ : ∃ t, hxtext V = t := ⟨_, rfl⟩
      have kT : Hid (∀ (w' : World) (X : Option Addr) (k l : Nat), IntIs w' b 0 ((V : Nat) : Int) X k l → Calls Tryz.prog 65 #[.pointer (some ⟨b, 0, none⟩), .int .i64 16] w' fun e w'' => e = .returned (.string (bs t)) ∧ Ext w' w'') := fun w' X k l h => by
        have := bi_Text16 b V X k l (by have := IntIs.lenNat h; have := HB.out; omega) w' h
        rwa [ht9] at this
      rw [ht9] at hsix
      have htl : t.length ≤ 1000000 := by rw [← ht9]; have := hxtext_len V 16385 HB.out; omega
      have htp : 1 ≤ t.length := by rw [← ht9]; exact hxtext_pos V
      have HSX := Lib.hid hsix
      clear ht9 hsix HS9
      have hfin : Hid (∀ w6 w7 w8 w9 : World, Ext wr w6 → Ext w6 w7 → Tch b w7 w8 → Ext w8 w9 → Ext w w9) := fun w6 w7 w8 w9 h1 h2 h3 h4 => ext_trans (h3.ext (ext_trans hE.out (ext_trans h1 h2)) HW1.out) h4
      by_cases h1 : t.length = 1
      · have hs9 := HSX.out
        rw [if_pos h1] at hs9
        have HS := Lib.hid hs9
        clear hs9 HSX
        have h1' : (t.length : Int) = 1 := by omega
        have H1 := Lib.hid h1
        clear h1
        go_wp2_with (first
          | (go_at_call 64; (with_reducible refine (kb.out).mono ?_); rintro e w6 ⟨rfl, xb6⟩; have y62 := (Below.cell (p := ⟨B0, 2, none⟩) xb6 yl).trans y2)
          | (go_at_call 31; (with_reducible refine (kI.out _ (HT.out.ext (ext_trans hE.out xb6))).mono ?_); rintro e w7 ⟨rfl, xb7⟩)
          | (go_at_call 61; (with_reducible refine (kS.out _ (ext_trans xb6 xb7)).mono ?_); rintro e w8 ⟨rfl, X8, k8, l8, hI8, hT8⟩)
          | (go_at_call 65; (with_reducible refine (kT.out _ _ _ _ hI8.out.1).mono ?_); rintro e w9 ⟨rfl, xb9⟩))
        have e0 : ({ data := #[112] } : ByteArray) ++ bs I = bs (112 :: I) := by show bs [112] ++ bs I = _; rw [bs_append]; rfl
        have e1 : ({ data := #[48, 120, 49] } : ByteArray) ++ bs (112 :: I) = bs S := by show bs [48, 120, 49] ++ bs (112 :: I) = _; rw [bs_append, HS.out]
        refine bodyPost_ret (v := .string (bs S)) ?h rfl ⟨rfl, hfin.out _ _ _ _ xb6 xb7 hT8 xb9⟩
        case h => simp [results, Tryz.results36, go_sem, e0, e1]
      · have hs9 := HSX.out
        rw [if_neg h1] at hs9
        have HS := Lib.hid hs9
        clear hs9 HSX
        have h1' : ¬ (t.length : Int) = 1 := by omega
        go_wp2_with (first
          | (go_at_call 64; (with_reducible refine (kb.out).mono ?_); rintro e w6 ⟨rfl, xb6⟩; have y62 := (Below.cell (p := ⟨B0, 2, none⟩) xb6 yl).trans y2)
          | (go_at_call 31; (with_reducible refine (kI.out _ (HT.out.ext (ext_trans hE.out xb6))).mono ?_); rintro e w7 ⟨rfl, xb7⟩)
          | (go_at_call 61; (with_reducible refine (kS.out _ (ext_trans xb6 xb7)).mono ?_); rintro e w8 ⟨rfl, X8, k8, l8, hI8, hT8⟩)
          | (go_at_call 65; (with_reducible refine (kT.out _ _ _ _ hI8.out.1).mono ?_); rintro e w9 ⟨rfl, xb9⟩))
        have e0 : ({ data := #[112] } : ByteArray) ++ bs I = bs (112 :: I) := by show bs [112] ++ bs I = _; rw [bs_append]; rfl
        have e1 : ({ data := #[48, 120, 49, 46] } : ByteArray) ++ bs t.tail = bs ([48, 120, 49, 46] ++ t.tail) := by show bs [48, 120, 49, 46] ++ bs t.tail = _; rw [bs_append]
        have e2 : bs (48 :: 120 :: 49 :: 46 :: (t.tail ++ 112 :: I)) = bs S := by rw [HS.out]; simp
        refine bodyPost_ret (v := .string (bs S)) ?h rfl ⟨rfl, hfin.out _ _ _ _ xb6 xb7 hT8 xb9⟩
        case h => simp [results, Tryz.results36, go_sem, e0, e1, e2]
end Go.Proofs.YtnkajjealkggdaaGreatDoor
end
