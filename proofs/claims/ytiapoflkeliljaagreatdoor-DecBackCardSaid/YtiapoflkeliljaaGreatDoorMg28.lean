/- Lemmas of this proof, laid together: Law10, CloseW. -/
import Derived.Test.YtiapoflkeliljaaGreatDoorMg25
import Derived.Lib.LaidTab
import Derived.LaidMore
import Derived.Test.YtiapoflkeliljaaGreatDoorMg12
import Derived.Deep.DeepCutAuto
import Derived.Deep.RegionWith
import Derived.Deep.LoopGhost
set_option linter.unusedSimpArgs false
set_option linter.unusedVariables false
section
/- What the rows say of the library's tables. -/
namespace Go.Proofs.YtiapoflkeliljaaGreatDoor
open Go.RowKit
set_option maxRecDepth 100000
/-- What the row says of a table that stands first on its list. -/
theorem tab_first {P : Program} {W : World} {name : String} {k : IntKind} {zs : List Int} {rest : List (String × DataW Unit)} {g : Nat} {t e : TypeId} {n : Nat}
    (hg : P.globalNamed name = some g) (hty : (P.globals[g]?).map (·.type) = some t) (ht : P.underlying t = some (.array n e)) (he : P.underlying e = some (.int k)) (hce : P.cellsOf e = 1) (hct : P.cellsOf t = n)
    (h : laidMet P ((name, Lib.tabData k zs) :: rest) W) : Lib.TabIs P W name k zs := by
  obtain ⟨ps, ⟨g', t', cs, fuel, p, q, hg', ht', hvar, hd, _, _⟩, _⟩ := h
  obtain rfl := Option.some.inj (hg.symm.trans hg')
  obtain rfl := Option.some.inj (hty.symm.trans ht')
  unfold Lib.TabIs
  rw [hvar, ← Lib.cells_of_tab ht he hce hct hd]
def tzTab : List Int := Lib.deBruijn32tab.map fun (n : Nat) => (n : Int)
theorem tz_met (rest : List (String × DataW Unit)) (w : World) (h : laidMet Tryz.prog (("math/bits.deBruijn32tab", Lib.tabData .u8 tzTab) :: rest) w) : Tz w := by
  have h1 := tab_first (g := 1) (t := 259) (e := 5) (n := 32) (by kernel_rfl) (by kernel_rfl) (by kernel_rfl) (by kernel_rfl) (by kernel_rfl) (by kernel_rfl) h
  intro j hj
  have h2 := h1.cell (g := 1) (by kernel_rfl) j (by simpa [tzTab] using hj)
  rw [h2]
  simp [tzTab, List.getD_eq_getElem?_getD, hj]
end Go.Proofs.YtiapoflkeliljaaGreatDoor
end
section
/- numerallaw10.close, with two bounds; same. -/
namespace Go.Proofs.YtiapoflkeliljaaGreatDoor
open Go.RowKit
attribute [local go_sem] bs_size bs_extract bs_get bs_append bs_toList const_get
attribute [local go_sem] sz2 sz3 sz4 sz5 sz6 sz7 sz8
set_option maxHeartbeats 4000000
set_option maxRecDepth 100000
attribute [local irreducible] Calls
theorem close_two (neg : Bool) (l : List UInt8) (exp : Int) (n k : Nat) (hl : l.length ≤ 9223372036854775807) (hn : n ≤ 100000) (hk : k ≤ 100000) (w : World) : Calls Tryz.prog 56 #[.agg #[.bool neg, .string (bs l), .int .i64 exp], .int .i64 (n : Int), .int .i64 (k : Int)] w fun x w' =>
    x = .returned (.bool (decide (dcE ⟨neg, l, exp⟩ = 0 ∧ l.length ≤ n ∧ exp ≤ k ∧ -(k : Int) ≤ exp))) ∧ Ext w w' := by
  have hc := fun w => check_any' ⟨neg, l, exp⟩ hl w
  by_cases h1 : dcE ⟨neg, l, exp⟩ = 0
  · rw [h1] at hc
    have e1 : decide (dcE ⟨neg, l, exp⟩ = 0 ∧ l.length ≤ n ∧ exp ≤ k ∧ -(k : Int) ≤ exp) = decide (l.length ≤ n ∧ exp ≤ k ∧ -(k : Int) ≤ exp) := by rw [decide_eq_decide]; simp [h1]
    rw [e1]
    clear e1 h1
    by_cases h2 : l.length ≤ n
    · by_cases h3 : exp ≤ k
      · by_cases h4 : -(k : Int) ≤ exp
        · have e1 : decide (l.length ≤ n ∧ exp ≤ k ∧ -(k : Int) ≤ exp) = true := decide_eq_true ⟨h2, h3, h4⟩
          rw [e1]
          clear e1
          go_enter Tryz.func56, Tryz.ntmps56
          go_wp2_with (first
            | (go_at_call 132; (with_reducible refine (hc _).mono ?_); rintro e w1 ⟨rfl, xb1⟩; obtain ⟨xc1, xf1, xl1, xz1⟩ := ext_use xb1; (try simp at xz1); obtain ⟨l1_0, gc, gf⟩ := kp xb1 (w.heap.size) (by first | omega | (simp; try omega)); have r1_0 := gc 0; have f1_0 := gf 0; have r1_0_1 := gc 1; have f1_0_1 := gf 1; have r1_0_2 := gc 2; have f1_0_2 := gf 2; clear gc gf)
           )
          refine bodyPost_ret (v := .bool true) ?h rfl ⟨rfl, ?_⟩
          case h => simp [results, Tryz.results56, go_sem]
          repeat (first | exact ext_refl _ | assumption | refine ext_setCell ?_ (by simp; try omega) _ | refine ext_alloc ?_ _ | refine ext_drew ?_ | refine ext_drewN ?_ _ | refine ext_trans ?_ (Aft.use _) | refine ext_trans ?_ (by assumption))
        · have e1 : decide (l.length ≤ n ∧ exp ≤ k ∧ -(k : Int) ≤ exp) = false := decide_eq_false (fun h => h4 h.2.2)
          rw [e1]
          clear e1
          have h4n : exp < -(k : Int) := by omega
          go_enter Tryz.func56, Tryz.ntmps56
          go_wp2_with (first
            | (go_at_call 132; (with_reducible refine (hc _).mono ?_); rintro e w1 ⟨rfl, xb1⟩; obtain ⟨xc1, xf1, xl1, xz1⟩ := ext_use xb1; (try simp at xz1); obtain ⟨l1_0, gc, gf⟩ := kp xb1 (w.heap.size) (by first | omega | (simp; try omega)); have r1_0 := gc 0; have f1_0 := gf 0; have r1_0_1 := gc 1; have f1_0_1 := gf 1; have r1_0_2 := gc 2; have f1_0_2 := gf 2; clear gc gf)
           )
          refine bodyPost_ret (v := .bool false) ?h rfl ⟨rfl, ?_⟩
          case h => simp [results, Tryz.results56, go_sem, h4n]
          repeat (first | exact ext_refl _ | assumption | refine ext_setCell ?_ (by simp; try omega) _ | refine ext_alloc ?_ _ | refine ext_drew ?_ | refine ext_drewN ?_ _ | refine ext_trans ?_ (Aft.use _) | refine ext_trans ?_ (by assumption))
      · have e1 : decide (l.length ≤ n ∧ exp ≤ k ∧ -(k : Int) ≤ exp) = false := decide_eq_false (fun h => h3 h.2.1)
        rw [e1]
        clear e1
        go_enter Tryz.func56, Tryz.ntmps56
        go_wp2_with (first
          | (go_at_call 132; (with_reducible refine (hc _).mono ?_); rintro e w1 ⟨rfl, xb1⟩; obtain ⟨xc1, xf1, xl1, xz1⟩ := ext_use xb1; (try simp at xz1); obtain ⟨l1_0, gc, gf⟩ := kp xb1 (w.heap.size) (by first | omega | (simp; try omega)); have r1_0 := gc 0; have f1_0 := gf 0; have r1_0_1 := gc 1; have f1_0_1 := gf 1; have r1_0_2 := gc 2; have f1_0_2 := gf 2; clear gc gf)
         )
        refine bodyPost_ret (v := .bool false) ?h rfl ⟨rfl, ?_⟩
        case h => simp [results, Tryz.results56, go_sem]
        repeat (first | exact ext_refl _ | assumption | refine ext_setCell ?_ (by simp; try omega) _ | refine ext_alloc ?_ _ | refine ext_drew ?_ | refine ext_drewN ?_ _ | refine ext_trans ?_ (Aft.use _) | refine ext_trans ?_ (by assumption))
    · have e1 : decide (l.length ≤ n ∧ exp ≤ k ∧ -(k : Int) ≤ exp) = false := decide_eq_false (fun h => h2 h.1)
      rw [e1]
      clear e1
      go_enter Tryz.func56, Tryz.ntmps56
      go_wp2_with (first
        | (go_at_call 132; (with_reducible refine (hc _).mono ?_); rintro e w1 ⟨rfl, xb1⟩; obtain ⟨xc1, xf1, xl1, xz1⟩ := ext_use xb1; (try simp at xz1); obtain ⟨l1_0, gc, gf⟩ := kp xb1 (w.heap.size) (by first | omega | (simp; try omega)); have r1_0 := gc 0; have f1_0 := gf 0; have r1_0_1 := gc 1; have f1_0_1 := gf 1; have r1_0_2 := gc 2; have f1_0_2 := gf 2; clear gc gf)
       )
      refine bodyPost_ret (v := .bool false) ?h rfl ⟨rfl, ?_⟩
      case h => simp [results, Tryz.results56, go_sem]
      repeat (first | exact ext_refl _ | assumption | refine ext_setCell ?_ (by simp; try omega) _ | refine ext_alloc ?_ _ | refine ext_drew ?_ | refine ext_drewN ?_ _ | refine ext_trans ?_ (Aft.use _) | refine ext_trans ?_ (by assumption))
  · have e1 : decide (dcE ⟨neg, l, exp⟩ = 0 ∧ l.length ≤ n ∧ exp ≤ k ∧ -(k : Int) ≤ exp) = false := decide_eq_false (fun h => h1 h.1)
    rw [e1]
    have hne : (dcE ⟨neg, l, exp⟩ == 0) = false := by rw [beq_eq_false_iff_ne]; exact h1
    generalize dcE ⟨neg, l, exp⟩ = E at hc hne
    clear e1 h1
    go_enter Tryz.func56, Tryz.ntmps56
    go_wp2_with (first
      | (go_at_call 132; (with_reducible refine (hc _).mono ?_); rintro e w1 ⟨rfl, xb1⟩; obtain ⟨xc1, xf1, xl1, xz1⟩ := ext_use xb1; (try simp at xz1); obtain ⟨l1_0, gc, gf⟩ := kp xb1 (w.heap.size) (by first | omega | (simp; try omega)); have r1_0 := gc 0; have f1_0 := gf 0; have r1_0_1 := gc 1; have f1_0_1 := gf 1; have r1_0_2 := gc 2; have f1_0_2 := gf 2; clear gc gf)
     )
    refine bodyPost_ret (v := .bool false) ?h rfl ⟨rfl, ?_⟩
    case h => simp [results, Tryz.results56, go_sem]
    repeat (first | exact ext_refl _ | assumption | refine ext_setCell ?_ (by simp; try omega) _ | refine ext_alloc ?_ _ | refine ext_drew ?_ | refine ext_drewN ?_ _ | refine ext_trans ?_ (Aft.use _) | refine ext_trans ?_ (by assumption))
theorem nsame (A B : Option Addr) (n c m d a : Nat) (w : World) (hA : Rd w A n c (lim a)) (hB : Rd w B m d (lim a)) :
    Calls Tryz.prog 143 #[natV A n c, natV B m d] w fun e w' => e = .returned (.bool true) ∧ Ext w w' := by
  obtain rfl : n = m := by rw [← hA.len, hB.len]
  have e : cmpN a a = 0 := by unfold cmpN; rw [if_neg (Nat.lt_irrefl _), if_neg (Nat.lt_irrefl _)]
  have kc : ∀ w', Ext w w' → Calls Tryz.prog 215 #[.slice A n c, .slice B n d] w' fun e w'' => e = .returned (.int .i64 0) ∧ Ext w' w'' := fun w' he => by
    have := rcmp_any A B n c n d a a w' (hA.ext he) (hB.ext he); rwa [e] at this
  clear hA hB e
  go_enter Tryz.func143, Tryz.ntmps143
  go_wp2_with (first
    | (go_at_call 215; (with_reducible refine (kc _ (by (repeat (first | exact ext_refl _ | assumption | refine ext_setCell ?_ (by simp; try omega) _ | refine ext_alloc ?_ _ | refine ext_drew ?_ | refine ext_drewN ?_ _ | refine ext_trans ?_ (Aft.use _) | refine ext_trans ?_ (by assumption))))).mono ?_); rintro e w1 ⟨rfl, xb1⟩)
   )
  refine bodyPost_ret (v := .bool true) ?h rfl ⟨rfl, ?_⟩
  case h => simp [results, Tryz.results143, go_sem]
  repeat (first | exact ext_refl _ | assumption | refine ext_setCell ?_ (by simp; try omega) _ | refine ext_alloc ?_ _ | refine ext_drew ?_ | refine ext_drewN ?_ _ | refine ext_trans ?_ (Aft.use _) | refine ext_trans ?_ (by assumption))
theorem same10 (s : Bool) (A B : Option Addr) (n c m d a : Nat) (C D : Option Addr) (p k q l b : Nat) (w : World) (hA : Rd w A n c (lim a)) (hC : Rd w C p k (lim b)) (hB : Rd w B m d (lim a)) (hD : Rd w D q l (lim b)) :
    Calls Tryz.prog 59 #[ratV s A n c C p k, ratV s B m d D q l] w fun e w' => e = .returned (.bool true) ∧ Ext w w' := by
  have k1 : ∀ w', Ext w w' → Calls Tryz.prog 143 #[natV A n c, natV B m d] w' fun e w'' => e = .returned (.bool true) ∧ Ext w' w'' := fun w' he => nsame A B n c m d a w' (hA.ext he) (hB.ext he)
  have k2 : ∀ w', Ext w w' → Calls Tryz.prog 143 #[natV C p k, natV D q l] w' fun e w'' => e = .returned (.bool true) ∧ Ext w' w'' := fun w' he => nsame C D p k q l b w' (hC.ext he) (hD.ext he)
  clear hA hB hC hD
  go_enter Tryz.func59, Tryz.ntmps59
  go_wp2_with (first
    | (go_at_call 143; (with_reducible refine (k1 _ (by (repeat (first | exact ext_refl _ | assumption | refine ext_setCell ?_ (by simp; try omega) _ | refine ext_alloc ?_ _ | refine ext_drew ?_ | refine ext_drewN ?_ _ | refine ext_trans ?_ (Aft.use _) | refine ext_trans ?_ (by assumption))))).mono ?_); rintro e w1 ⟨rfl, xb1⟩; obtain ⟨xc1, xf1, xl1, xz1⟩ := ext_use xb1; (try simp at xz1); obtain ⟨l1_0, gc, gf⟩ := kp xb1 (w.heap.size) (by first | omega | (simp; try omega)); have r1_0 := gc 0; have f1_0 := gf 0; have r1_0_1 := gc 1; have f1_0_1 := gf 1; have r1_0_2 := gc 2; have f1_0_2 := gf 2; clear gc gf; obtain ⟨l1_1, gc, gf⟩ := kp xb1 (w.heap.size + 1) (by first | omega | (simp; try omega)); have r1_1 := gc 0; have f1_1 := gf 0; have r1_1_1 := gc 1; have f1_1_1 := gf 1; have r1_1_2 := gc 2; have f1_1_2 := gf 2; clear gc gf)
    | (go_at_call 143; (with_reducible refine (k2 _ (by (repeat (first | exact ext_refl _ | assumption | refine ext_setCell ?_ (by simp; try omega) _ | refine ext_alloc ?_ _ | refine ext_drew ?_ | refine ext_drewN ?_ _ | refine ext_trans ?_ (Aft.use _) | refine ext_trans ?_ (by assumption))))).mono ?_); rintro e w2 ⟨rfl, xb2⟩; obtain ⟨xc2, xf2, xl2, xz2⟩ := ext_use xb2; (try simp at xz2); obtain ⟨l2_0, gc, gf⟩ := kp xb2 (w.heap.size) (by first | omega | (simp; try omega)); have r2_0 := gc 0; have f2_0 := gf 0; have r2_0_1 := gc 1; have f2_0_1 := gf 1; have r2_0_2 := gc 2; have f2_0_2 := gf 2; clear gc gf; obtain ⟨l2_1, gc, gf⟩ := kp xb2 (w.heap.size + 1) (by first | omega | (simp; try omega)); have r2_1 := gc 0; have f2_1 := gf 0; have r2_1_1 := gc 1; have f2_1_1 := gf 1; have r2_1_2 := gc 2; have f2_1_2 := gf 2; clear gc gf)
   )
  refine bodyPost_ret (v := .bool true) ?h rfl ⟨rfl, ?_⟩
  case h => simp [results, Tryz.results59, go_sem]
  repeat (first | exact ext_refl _ | assumption | refine ext_setCell ?_ (by simp; try omega) _ | refine ext_alloc ?_ _ | refine ext_drew ?_ | refine ext_drewN ?_ _ | refine ext_trans ?_ (Aft.use _) | refine ext_trans ?_ (by assumption))
end Go.Proofs.YtiapoflkeliljaaGreatDoor
end
