/- Lemmas of this proof, laid together: TabT, DecTextsW. -/
import Derived.Test.YtcpodagoheopgaaGreatDoorMg23
import Derived.Lib.LaidTab
import Derived.LaidMore
import Derived.Test.YtcpodagoheopgaaGreatDoorMg25
import Derived.Deep.DeepCutAuto
import Derived.Deep.RegionWith
import Derived.Deep.LoopGhost
set_option linter.unusedSimpArgs false
set_option linter.unusedVariables false
section
/- What the rows say of the library's tables: the third one. -/
namespace Go.Proofs.YtcpodagoheopgaaGreatDoor
open Go.RowKit
set_option maxRecDepth 100000
/-- What the row says of the table, told to the library's contract: it stands third on the list. -/
theorem tab_third' {P : Program} {W : World} {n1 n2 : String} {d1 d2 : DataW Unit} {name : String} {k : IntKind} {zs : List Int} {rest : List (String × DataW Unit)} {g : Nat} {t e : TypeId} {n : Nat}
    (hg : P.globalNamed name = some g) (hty : (P.globals[g]?).map (·.type) = some t) (ht : P.underlying t = some (.array n e)) (he : P.underlying e = some (.int k)) (hce : P.cellsOf e = 1) (hct : P.cellsOf t = n)
    (h : laidMet P ((n1, d1) :: (n2, d2) :: (name, Lib.tabData k zs) :: rest) W) : Lib.TabIs P W name k zs := by
  obtain ⟨ps, ⟨_, _, _, _, _, _, _, _, _, _, ⟨_, _, _, _, _, _, _, _, _, _, ⟨g', t', cs, fuel, p, q, hg', ht', hvar, hd, _, _⟩, _⟩, _⟩, _⟩ := h
  obtain rfl := Option.some.inj (hg.symm.trans hg')
  obtain rfl := Option.some.inj (hty.symm.trans ht')
  unfold Lib.TabIs
  rw [hvar, ← Lib.cells_of_tab ht he hce hct hd]
end Go.Proofs.YtcpodagoheopgaaGreatDoor
end
section
/- DecTexts: the walk. -/
namespace Go.Proofs.YtcpodagoheopgaaGreatDoor
open Go.RowKit
attribute [local go_sem] bs_size bs_extract bs_get bs_append bs_toList const_get
attribute [local go_sem] sz2 sz3 sz4 sz5 sz6 sz7 sz8
set_option maxHeartbeats 4000000
set_option maxRecDepth 100000
theorem tz_texts (w : World) (h : laidMetH Tryz.prog Rows.decTextsRow.laid w) : Tz w ∧ Pw w := by
  rw [MakeChecks.laidMetH_plain _ _ _ (by kernel_rfl)] at h
  have e : (Rows.decTextsRow.laid : List (String × DataW Unit)) = ("math/bits.deBruijn32tab", Lib.tabData .u8 tzTab) :: ("math/bits.deBruijn64tab", Rows.laid_math_bits_deBruijn64tab) :: ("internal/strconv.uint64pow10", Lib.tabData .u64 Lib.pow10Tab) :: ("unicode/utf8.acceptRanges", Rows.laid_unicode_utf8_acceptRanges) :: ("unicode/utf8.first", Rows.laid_unicode_utf8_first) :: [] := by kernel_rfl
  rw [e] at h
  exact ⟨tz_met _ w h, tab_third' (g := 4) (t := 203) (e := 73) (n := 20) (by kernel_rfl) (by kernel_rfl) (by kernel_rfl) (by kernel_rfl) (by kernel_rfl) (by kernel_rfl) h⟩
attribute [local irreducible] Calls
theorem close_any (neg : Bool) (l : List UInt8) (exp : Int) (k : Nat) (hl : l.length ≤ 9223372036854775807) (hk : k ≤ 100000) (w : World) : Calls Tryz.prog 18 #[.agg #[.bool neg, .string (bs l), .int .i64 exp], .int .i64 (k : Int), .int .i64 (k : Int)] w fun x w' =>
    x = .returned (.bool (decide (dcE ⟨neg, l, exp⟩ = 0 ∧ l.length ≤ k ∧ exp ≤ k ∧ -(k : Int) ≤ exp))) ∧ Ext w w' := by
  have hc := fun w => check_any' ⟨neg, l, exp⟩ hl w
  by_cases h1 : dcE ⟨neg, l, exp⟩ = 0
  · rw [h1] at hc
    have e1 : decide (dcE ⟨neg, l, exp⟩ = 0 ∧ l.length ≤ k ∧ exp ≤ k ∧ -(k : Int) ≤ exp) = decide (l.length ≤ k ∧ exp ≤ k ∧ -(k : Int) ≤ exp) := by rw [decide_eq_decide]; simp [h1]
    rw [e1]
    clear e1 h1
    by_cases h2 : l.length ≤ k
    · by_cases h3 : exp ≤ k
      · by_cases h4 : -(k : Int) ≤ exp
        · have e1 : decide (l.length ≤ k ∧ exp ≤ k ∧ -(k : Int) ≤ exp) = true := decide_eq_true ⟨h2, h3, h4⟩
          rw [e1]
          clear e1
          go_enter Tryz.func18, Tryz.ntmps18
          go_wp2_with (first
            | (go_at_call 17; (with_reducible refine (hc _).mono ?_); rintro e w1 ⟨rfl, xb1⟩; obtain ⟨xc1, xf1, xl1, xz1⟩ := ext_use xb1; (try simp at xz1); have l1_0 := xl1 (w.heap.size) (by first | omega | (simp; try omega)); have r1_0 := xc1 (w.heap.size) 0 (by first | omega | (simp; try omega)); have f1_0 := xf1 (w.heap.size) 0 (by first | omega | (simp; try omega)); have r1_0_1 := xc1 (w.heap.size) 1 (by first | omega | (simp; try omega)); have f1_0_1 := xf1 (w.heap.size) 1 (by first | omega | (simp; try omega)); have r1_0_2 := xc1 (w.heap.size) 2 (by first | omega | (simp; try omega)); have f1_0_2 := xf1 (w.heap.size) 2 (by first | omega | (simp; try omega)))
           )
          refine bodyPost_ret (v := .bool true) ?h rfl ⟨rfl, ?_⟩
          case h => simp [results, Tryz.results18, go_sem]
          repeat (first | exact ext_refl _ | assumption | refine ext_setCell ?_ (by simp; try omega) _ | refine ext_alloc ?_ _ | refine ext_drew ?_ | refine ext_drewN ?_ _ | refine ext_trans ?_ (Aft.use _) | refine ext_trans ?_ (by assumption))
        · have e1 : decide (l.length ≤ k ∧ exp ≤ k ∧ -(k : Int) ≤ exp) = false := decide_eq_false (fun h => h4 h.2.2)
          rw [e1]
          clear e1
          have h4n : exp < -(k : Int) := by omega
          go_enter Tryz.func18, Tryz.ntmps18
          go_wp2_with (first
            | (go_at_call 17; (with_reducible refine (hc _).mono ?_); rintro e w1 ⟨rfl, xb1⟩; obtain ⟨xc1, xf1, xl1, xz1⟩ := ext_use xb1; (try simp at xz1); have l1_0 := xl1 (w.heap.size) (by first | omega | (simp; try omega)); have r1_0 := xc1 (w.heap.size) 0 (by first | omega | (simp; try omega)); have f1_0 := xf1 (w.heap.size) 0 (by first | omega | (simp; try omega)); have r1_0_1 := xc1 (w.heap.size) 1 (by first | omega | (simp; try omega)); have f1_0_1 := xf1 (w.heap.size) 1 (by first | omega | (simp; try omega)); have r1_0_2 := xc1 (w.heap.size) 2 (by first | omega | (simp; try omega)); have f1_0_2 := xf1 (w.heap.size) 2 (by first | omega | (simp; try omega)))
           )
          refine bodyPost_ret (v := .bool false) ?h rfl ⟨rfl, ?_⟩
          case h => simp [results, Tryz.results18, go_sem, h4n]
          repeat (first | exact ext_refl _ | assumption | refine ext_setCell ?_ (by simp; try omega) _ | refine ext_alloc ?_ _ | refine ext_drew ?_ | refine ext_drewN ?_ _ | refine ext_trans ?_ (Aft.use _) | refine ext_trans ?_ (by assumption))
      · have e1 : decide (l.length ≤ k ∧ exp ≤ k ∧ -(k : Int) ≤ exp) = false := decide_eq_false (fun h => h3 h.2.1)
        rw [e1]
        clear e1
        go_enter Tryz.func18, Tryz.ntmps18
        go_wp2_with (first
          | (go_at_call 17; (with_reducible refine (hc _).mono ?_); rintro e w1 ⟨rfl, xb1⟩; obtain ⟨xc1, xf1, xl1, xz1⟩ := ext_use xb1; (try simp at xz1); have l1_0 := xl1 (w.heap.size) (by first | omega | (simp; try omega)); have r1_0 := xc1 (w.heap.size) 0 (by first | omega | (simp; try omega)); have f1_0 := xf1 (w.heap.size) 0 (by first | omega | (simp; try omega)); have r1_0_1 := xc1 (w.heap.size) 1 (by first | omega | (simp; try omega)); have f1_0_1 := xf1 (w.heap.size) 1 (by first | omega | (simp; try omega)); have r1_0_2 := xc1 (w.heap.size) 2 (by first | omega | (simp; try omega)); have f1_0_2 := xf1 (w.heap.size) 2 (by first | omega | (simp; try omega)))
         )
        refine bodyPost_ret (v := .bool false) ?h rfl ⟨rfl, ?_⟩
        case h => simp [results, Tryz.results18, go_sem]
        repeat (first | exact ext_refl _ | assumption | refine ext_setCell ?_ (by simp; try omega) _ | refine ext_alloc ?_ _ | refine ext_drew ?_ | refine ext_drewN ?_ _ | refine ext_trans ?_ (Aft.use _) | refine ext_trans ?_ (by assumption))
    · have e1 : decide (l.length ≤ k ∧ exp ≤ k ∧ -(k : Int) ≤ exp) = false := decide_eq_false (fun h => h2 h.1)
      rw [e1]
      clear e1
      go_enter Tryz.func18, Tryz.ntmps18
      go_wp2_with (first
        | (go_at_call 17; (with_reducible refine (hc _).mono ?_); rintro e w1 ⟨rfl, xb1⟩; obtain ⟨xc1, xf1, xl1, xz1⟩ := ext_use xb1; (try simp at xz1); have l1_0 := xl1 (w.heap.size) (by first | omega | (simp; try omega)); have r1_0 := xc1 (w.heap.size) 0 (by first | omega | (simp; try omega)); have f1_0 := xf1 (w.heap.size) 0 (by first | omega | (simp; try omega)); have r1_0_1 := xc1 (w.heap.size) 1 (by first | omega | (simp; try omega)); have f1_0_1 := xf1 (w.heap.size) 1 (by first | omega | (simp; try omega)); have r1_0_2 := xc1 (w.heap.size) 2 (by first | omega | (simp; try omega)); have f1_0_2 := xf1 (w.heap.size) 2 (by first | omega | (simp; try omega)))
       )
      refine bodyPost_ret (v := .bool false) ?h rfl ⟨rfl, ?_⟩
      case h => simp [results, Tryz.results18, go_sem]
      repeat (first | exact ext_refl _ | assumption | refine ext_setCell ?_ (by simp; try omega) _ | refine ext_alloc ?_ _ | refine ext_drew ?_ | refine ext_drewN ?_ _ | refine ext_trans ?_ (Aft.use _) | refine ext_trans ?_ (by assumption))
  · have e1 : decide (dcE ⟨neg, l, exp⟩ = 0 ∧ l.length ≤ k ∧ exp ≤ k ∧ -(k : Int) ≤ exp) = false := decide_eq_false (fun h => h1 h.1)
    rw [e1]
    have hne : (dcE ⟨neg, l, exp⟩ == 0) = false := by rw [beq_eq_false_iff_ne]; exact h1
    generalize dcE ⟨neg, l, exp⟩ = E at hc hne
    clear e1 h1
    go_enter Tryz.func18, Tryz.ntmps18
    go_wp2_with (first
      | (go_at_call 17; (with_reducible refine (hc _).mono ?_); rintro e w1 ⟨rfl, xb1⟩; obtain ⟨xc1, xf1, xl1, xz1⟩ := ext_use xb1; (try simp at xz1); have l1_0 := xl1 (w.heap.size) (by first | omega | (simp; try omega)); have r1_0 := xc1 (w.heap.size) 0 (by first | omega | (simp; try omega)); have f1_0 := xf1 (w.heap.size) 0 (by first | omega | (simp; try omega)); have r1_0_1 := xc1 (w.heap.size) 1 (by first | omega | (simp; try omega)); have f1_0_1 := xf1 (w.heap.size) 1 (by first | omega | (simp; try omega)); have r1_0_2 := xc1 (w.heap.size) 2 (by first | omega | (simp; try omega)); have f1_0_2 := xf1 (w.heap.size) 2 (by first | omega | (simp; try omega)))
     )
    refine bodyPost_ret (v := .bool false) ?h rfl ⟨rfl, ?_⟩
    case h => simp [results, Tryz.results18, go_sem]
    repeat (first | exact ext_refl _ | assumption | refine ext_setCell ?_ (by simp; try omega) _ | refine ext_alloc ?_ _ | refine ext_drew ?_ | refine ext_drewN ?_ _ | refine ext_trans ?_ (Aft.use _) | refine ext_trans ?_ (by assumption))
theorem walk_DecTexts (x0 : Bool) (x1 : ByteArray) (x2 : Int) (w : World) (hx1 : x1.size ≤ maxLen) (hx2 : -9223372036854775808 ≤ x2 ∧ x2 ≤ 9223372036854775807) (hL : laidMetH Tryz.prog Rows.decTextsRow.laid w) :
    Calls Tryz.prog 6 #[.agg #[.bool x0, .string x1, .int .i64 x2]] w fun e w' => e = .returned (.bool true) ∧ Ext w w' := by
  obtain ⟨l, rfl⟩ := bs_of x1
  rw [bs_size] at hx1
  unfold maxLen at hx1
  obtain ⟨hT, hP⟩ := tz_texts w hL
  have HT := Lib.hid hT
  have HP := Lib.hid hP
  clear hL hT hP
  have cl : ∀ w, Calls Tryz.prog 18 #[.agg #[.bool x0, .string (bs l), .int .i64 x2], .int .i64 3000, .int .i64 3000] w fun x w' => x = .returned (.bool (decide (dcE ⟨x0, l, x2⟩ = 0 ∧ l.length ≤ 3000 ∧ x2 ≤ 3000 ∧ -3000 ≤ x2))) ∧ Ext w w' := fun w => close_any x0 l x2 3000 hx1 (by decide) w
  by_cases hc : dcE ⟨x0, l, x2⟩ = 0 ∧ l.length ≤ 3000 ∧ x2 ≤ 3000 ∧ -3000 ≤ x2
  · rw [decide_eq_true hc] at cl
    obtain ⟨hE, hl3, he1, he2⟩ := hc
    have p1 := plain_any ⟨x0, l, x2⟩ hx1 hx2
    have p2 : ∀ w', Ext w w' → Calls Tryz.prog 24 #[dcV ⟨x0, l, x2⟩] w' fun e w'' => e = .returned (ttV (sciR ⟨x0, l, x2⟩)) ∧ Ext w' w'' := fun w' he => sci_any ⟨x0, l, x2⟩ hx1 hx2 w' (pw_ext HP.out he)
    by_cases h0 : l = []
    · subst h0
      obtain rfl : x2 = 0 := by
        unfold dcE at hE
        simp at hE
        exact hE
      have e1 : plnR ⟨x0, [], 0⟩ = ⟨prtL (minusL x0) [48] false [] [], 0⟩ := by cases x0 <;> kernel_rfl
      have e2 : sciR ⟨x0, [], 0⟩ = ⟨prtL (minusL x0) [48] false [] [101, 48], 0⟩ := by cases x0 <;> kernel_rfl
      have hpl : ∀ R : List UInt8, R.length ≤ 2 → (prtL (minusL x0) [48] false [] R).length ≤ 1000000 := fun R hR => by
        have := minus_len x0
        unfold prtL; simp; omega
      have q1 := parted_any x0 [48] false [] [] (by simp) (by decide) (by decide) (fun h => by cases h) (fun _ => rfl) (.inl rfl) (hpl _ (by decide))
      have q2 := parted_any x0 [48] false [] [101, 48] (by simp) (by decide) (by decide) (fun h => by cases h) (fun _ => rfl) (.inr ⟨_, rfl⟩) (hpl _ (by decide))
      rw [e1] at p1
      rw [e2] at p2
      have hmk : mkD x0 [48] 0 = ⟨x0, [], 0⟩ ∧ mkE [48] 0 = 0 ∧ mkD x0 [48] (-1) = ⟨x0, [], 0⟩ ∧ mkE [48] (-1) = 0 := by cases x0 <;> exact ⟨by kernel_rfl, by kernel_rfl, by kernel_rfl, by kernel_rfl⟩
      have m1 := make_any x0 [48] 0 (by decide)
      rw [hmk.1, hmk.2.1] at m1
      have m2 := make_any x0 [48] (-1) (by decide)
      rw [hmk.2.2.1, hmk.2.2.2] at m2
      generalize prtL (minusL x0) [48] false [] [] = S1 at p1 q1
      generalize prtL (minusL x0) [48] false [] [101, 48] = S2 at p2 q2
      have q1' : ∀ w, Calls Tryz.prog 25 #[.string (bs S1)] w fun e w' => e = .returned (.tuple #[.string (bs [48]), .int .i64 0, .bool true]) ∧ Ext w w' := q1
      have q2' : ∀ w, Calls Tryz.prog 25 #[.string (bs S2)] w fun e w' => e = .returned (.tuple #[.string (bs [48]), .int .i64 0, .bool true]) ∧ Ext w w' := q2
      clear hpl hmk e1 e2 hE hl3 he1 he2 hx1 hx2 q1 q2
      go_enter Tryz.func6, Tryz.ntmps6
      go_wp2_with (first
        | (go_at_call 16; (with_reducible refine (alive_any _ (HT.out.ext (by (repeat (first | exact ext_refl _ | assumption | refine ext_setCell ?_ (by simp; try omega) _ | refine ext_alloc ?_ _ | refine ext_drew ?_ | refine ext_drewN ?_ _ | refine ext_trans ?_ (Aft.use _) | refine ext_trans ?_ (by assumption)))))).mono ?_); rintro e w1 ⟨rfl, xb1⟩; obtain ⟨xc1, xf1, xl1, xz1⟩ := ext_use xb1; (try simp at xz1); have l1_0 := xl1 (w.heap.size) (by first | omega | (simp; try omega)); have r1_0 := xc1 (w.heap.size) 0 (by first | omega | (simp; try omega)); have f1_0 := xf1 (w.heap.size) 0 (by first | omega | (simp; try omega)); have r1_0_1 := xc1 (w.heap.size) 1 (by first | omega | (simp; try omega)); have f1_0_1 := xf1 (w.heap.size) 1 (by first | omega | (simp; try omega)); have r1_0_2 := xc1 (w.heap.size) 2 (by first | omega | (simp; try omega)); have f1_0_2 := xf1 (w.heap.size) 2 (by first | omega | (simp; try omega)))
        | (go_at_call 18; (with_reducible refine (cl _).mono ?_); rintro e w2 ⟨rfl, xb2⟩; obtain ⟨xc2, xf2, xl2, xz2⟩ := ext_use xb2; (try simp at xz2); have l2_0 := xl2 (w.heap.size) (by first | omega | (simp; try omega)); have r2_0 := xc2 (w.heap.size) 0 (by first | omega | (simp; try omega)); have f2_0 := xf2 (w.heap.size) 0 (by first | omega | (simp; try omega)); have r2_0_1 := xc2 (w.heap.size) 1 (by first | omega | (simp; try omega)); have f2_0_1 := xf2 (w.heap.size) 1 (by first | omega | (simp; try omega)); have r2_0_2 := xc2 (w.heap.size) 2 (by first | omega | (simp; try omega)); have f2_0_2 := xf2 (w.heap.size) 2 (by first | omega | (simp; try omega)))
        | (go_at_call 23; (with_reducible refine (p1 _).mono ?_); rintro e w3 ⟨rfl, xb3⟩; obtain ⟨xc3, xf3, xl3, xz3⟩ := ext_use xb3; (try simp at xz3); have l3_0 := xl3 (w.heap.size) (by first | omega | (simp; try omega)); have r3_0 := xc3 (w.heap.size) 0 (by first | omega | (simp; try omega)); have f3_0 := xf3 (w.heap.size) 0 (by first | omega | (simp; try omega)); have r3_0_1 := xc3 (w.heap.size) 1 (by first | omega | (simp; try omega)); have f3_0_1 := xf3 (w.heap.size) 1 (by first | omega | (simp; try omega)); have r3_0_2 := xc3 (w.heap.size) 2 (by first | omega | (simp; try omega)); have f3_0_2 := xf3 (w.heap.size) 2 (by first | omega | (simp; try omega)))
        | (go_at_call 24; (with_reducible refine (p2 _ (by (repeat (first | exact ext_refl _ | assumption | refine ext_setCell ?_ (by simp; try omega) _ | refine ext_alloc ?_ _ | refine ext_drew ?_ | refine ext_drewN ?_ _ | refine ext_trans ?_ (Aft.use _) | refine ext_trans ?_ (by assumption))))).mono ?_); rintro e w4 ⟨rfl, xb4⟩; obtain ⟨xc4, xf4, xl4, xz4⟩ := ext_use xb4; (try simp at xz4); have l4_0 := xl4 (w.heap.size) (by first | omega | (simp; try omega)); have r4_0 := xc4 (w.heap.size) 0 (by first | omega | (simp; try omega)); have f4_0 := xf4 (w.heap.size) 0 (by first | omega | (simp; try omega)); have r4_0_1 := xc4 (w.heap.size) 1 (by first | omega | (simp; try omega)); have f4_0_1 := xf4 (w.heap.size) 1 (by first | omega | (simp; try omega)); have r4_0_2 := xc4 (w.heap.size) 2 (by first | omega | (simp; try omega)); have f4_0_2 := xf4 (w.heap.size) 2 (by first | omega | (simp; try omega)))
        | (go_at_call 25; (with_reducible refine (q1' _).mono ?_); rintro e w5 ⟨rfl, xb5⟩; obtain ⟨xc5, xf5, xl5, xz5⟩ := ext_use xb5; (try simp at xz5); have l5_0 := xl5 (w.heap.size) (by first | omega | (simp; try omega)); have r5_0 := xc5 (w.heap.size) 0 (by first | omega | (simp; try omega)); have f5_0 := xf5 (w.heap.size) 0 (by first | omega | (simp; try omega)); have r5_0_1 := xc5 (w.heap.size) 1 (by first | omega | (simp; try omega)); have f5_0_1 := xf5 (w.heap.size) 1 (by first | omega | (simp; try omega)); have r5_0_2 := xc5 (w.heap.size) 2 (by first | omega | (simp; try omega)); have f5_0_2 := xf5 (w.heap.size) 2 (by first | omega | (simp; try omega)))
        | (go_at_call 25; (with_reducible refine (q2' _).mono ?_); rintro e w6 ⟨rfl, xb6⟩; obtain ⟨xc6, xf6, xl6, xz6⟩ := ext_use xb6; (try simp at xz6); have l6_0 := xl6 (w.heap.size) (by first | omega | (simp; try omega)); have r6_0 := xc6 (w.heap.size) 0 (by first | omega | (simp; try omega)); have f6_0 := xf6 (w.heap.size) 0 (by first | omega | (simp; try omega)); have r6_0_1 := xc6 (w.heap.size) 1 (by first | omega | (simp; try omega)); have f6_0_1 := xf6 (w.heap.size) 1 (by first | omega | (simp; try omega)); have r6_0_2 := xc6 (w.heap.size) 2 (by first | omega | (simp; try omega)); have f6_0_2 := xf6 (w.heap.size) 2 (by first | omega | (simp; try omega)))
        | (go_at_call 12; (with_reducible refine (m1 _).mono ?_); rintro e w7 ⟨rfl, xb7⟩; obtain ⟨xc7, xf7, xl7, xz7⟩ := ext_use xb7; (try simp at xz7); have l7_0 := xl7 (w.heap.size) (by first | omega | (simp; try omega)); have r7_0 := xc7 (w.heap.size) 0 (by first | omega | (simp; try omega)); have f7_0 := xf7 (w.heap.size) 0 (by first | omega | (simp; try omega)); have r7_0_1 := xc7 (w.heap.size) 1 (by first | omega | (simp; try omega)); have f7_0_1 := xf7 (w.heap.size) 1 (by first | omega | (simp; try omega)); have r7_0_2 := xc7 (w.heap.size) 2 (by first | omega | (simp; try omega)); have f7_0_2 := xf7 (w.heap.size) 2 (by first | omega | (simp; try omega)))
        | (go_at_call 12; (with_reducible refine (m2 _).mono ?_); rintro e w8 ⟨rfl, xb8⟩; obtain ⟨xc8, xf8, xl8, xz8⟩ := ext_use xb8; (try simp at xz8); have l8_0 := xl8 (w.heap.size) (by first | omega | (simp; try omega)); have r8_0 := xc8 (w.heap.size) 0 (by first | omega | (simp; try omega)); have f8_0 := xf8 (w.heap.size) 0 (by first | omega | (simp; try omega)); have r8_0_1 := xc8 (w.heap.size) 1 (by first | omega | (simp; try omega)); have f8_0_1 := xf8 (w.heap.size) 1 (by first | omega | (simp; try omega)); have r8_0_2 := xc8 (w.heap.size) 2 (by first | omega | (simp; try omega)); have f8_0_2 := xf8 (w.heap.size) 2 (by first | omega | (simp; try omega)); have l8_1 := xl8 (w7.heap.size) (by first | omega | (simp; try omega)); have r8_1 := xc8 (w7.heap.size) 0 (by first | omega | (simp; try omega)); have f8_1 := xf8 (w7.heap.size) 0 (by first | omega | (simp; try omega)); have r8_1_1 := xc8 (w7.heap.size) 1 (by first | omega | (simp; try omega)); have f8_1_1 := xf8 (w7.heap.size) 1 (by first | omega | (simp; try omega)); have r8_1_2 := xc8 (w7.heap.size) 2 (by first | omega | (simp; try omega)); have f8_1_2 := xf8 (w7.heap.size) 2 (by first | omega | (simp; try omega)))
       )
      refine bodyPost_ret (v := .bool true) ?h rfl ⟨rfl, ?_⟩
      case h => simp [results, Tryz.results6, go_sem]
      repeat (first | exact ext_refl _ | assumption | refine ext_setCell ?_ (by simp; try omega) _ | refine ext_alloc ?_ _ | refine ext_drew ?_ | refine ext_drewN ?_ _ | refine ext_trans ?_ (Aft.use _) | refine ext_trans ?_ (by assumption))
    · have hpos : 0 < l.length := List.length_pos_iff.2 h0
      have hok := dc_ok hE hpos
      have hle : l.isEmpty = false := by rw [List.isEmpty_eq_false_iff]; exact h0
      obtain ⟨A, pt, B, e1, ⟨a1, a2, a3, a4, a5⟩, a6, a7, ⟨a8, a9⟩, a10, a11⟩ := tx_plain x0 l x2 hok hE hl3 ⟨he2, he1⟩
      obtain ⟨A2, pt2, B2, R2, e2, ⟨b1, b2, b3, b4, b5⟩, b6, b7, b8, b9⟩ := tx_sci x0 l x2 hok hE hl3 ⟨he2, he1⟩
      have q1 := parted_any x0 A pt B [] a1 a2 a3 a4 a5 (.inl rfl) (by omega)
      have q2 := parted_any x0 A2 pt2 B2 R2 b1 b2 b3 b4 b5 (.inr b6) (by omega)
      rw [e1] at p1
      rw [e2] at p2
      rw [b8] at q2
      have m1 := make_any x0 (A ++ B) (-(B.length : Int)) (by omega)
      rw [a8, a9] at m1
      have hs := mk_self hok (dc_lastq hE hpos) 0 0 x2 (by omega) (by omega) (by omega)
      have hz : zerosL 0 ++ l ++ zerosL 0 = l := by simp [zerosL]
      rw [hz] at hs
      have m2 := make_any x0 l x2 hx1
      rw [hs.1, hs.2] at m2
      have ed : x2 + (l.length : Int) - 1 - (B2.length : Int) = x2 := by omega
      obtain ⟨n1, hn1⟩ : ∃ n, n = B.length := ⟨_, rfl⟩
      have epl : decide ((0 : Int) < (n1 : Int)) = decide (x2 < 0) := by rw [decide_eq_decide]; omega
      rw [← hn1] at q1 m1
      obtain ⟨n2, hn2⟩ : ∃ n, n = B2.length := ⟨_, rfl⟩
      rw [← hn2] at q2 ed
      generalize prtL (minusL x0) A pt B [] = S1 at p1 q1
      generalize prtL (minusL x0) A2 pt2 B2 R2 = S2 at p2 q2
      obtain ⟨Y, hY⟩ : ∃ Y, Y = A ++ B := ⟨_, rfl⟩
      rw [← hY] at q1 m1
      have hn1s : n1 ≤ 3000 := by omega
      have hn2s : n2 ≤ 3000 := by omega
      clear a1 a2 a3 a4 a5 a6 a7 a8 a9 a10 a11 b1 b2 b3 b4 b5 b6 b7 b8 b9 e1 e2 hs hz hn1 hn2 hY hok
      clear A B A2 B2 R2
      go_enter Tryz.func6, Tryz.ntmps6
      go_wp2_with (first
        | (go_at_call 16; (with_reducible refine (alive_any _ (HT.out.ext (by (repeat (first | exact ext_refl _ | assumption | refine ext_setCell ?_ (by simp; try omega) _ | refine ext_alloc ?_ _ | refine ext_drew ?_ | refine ext_drewN ?_ _ | refine ext_trans ?_ (Aft.use _) | refine ext_trans ?_ (by assumption)))))).mono ?_); rintro e w1 ⟨rfl, xb1⟩; obtain ⟨xc1, xf1, xl1, xz1⟩ := ext_use xb1; (try simp at xz1); have l1_0 := xl1 (w.heap.size) (by first | omega | (simp; try omega)); have r1_0 := xc1 (w.heap.size) 0 (by first | omega | (simp; try omega)); have f1_0 := xf1 (w.heap.size) 0 (by first | omega | (simp; try omega)); have r1_0_1 := xc1 (w.heap.size) 1 (by first | omega | (simp; try omega)); have f1_0_1 := xf1 (w.heap.size) 1 (by first | omega | (simp; try omega)); have r1_0_2 := xc1 (w.heap.size) 2 (by first | omega | (simp; try omega)); have f1_0_2 := xf1 (w.heap.size) 2 (by first | omega | (simp; try omega)))
        | (go_at_call 18; (with_reducible refine (cl _).mono ?_); rintro e w2 ⟨rfl, xb2⟩; obtain ⟨xc2, xf2, xl2, xz2⟩ := ext_use xb2; (try simp at xz2); have l2_0 := xl2 (w.heap.size) (by first | omega | (simp; try omega)); have r2_0 := xc2 (w.heap.size) 0 (by first | omega | (simp; try omega)); have f2_0 := xf2 (w.heap.size) 0 (by first | omega | (simp; try omega)); have r2_0_1 := xc2 (w.heap.size) 1 (by first | omega | (simp; try omega)); have f2_0_1 := xf2 (w.heap.size) 1 (by first | omega | (simp; try omega)); have r2_0_2 := xc2 (w.heap.size) 2 (by first | omega | (simp; try omega)); have f2_0_2 := xf2 (w.heap.size) 2 (by first | omega | (simp; try omega)))
        | (go_at_call 23; (with_reducible refine (p1 _).mono ?_); rintro e w3 ⟨rfl, xb3⟩; obtain ⟨xc3, xf3, xl3, xz3⟩ := ext_use xb3; (try simp at xz3); have l3_0 := xl3 (w.heap.size) (by first | omega | (simp; try omega)); have r3_0 := xc3 (w.heap.size) 0 (by first | omega | (simp; try omega)); have f3_0 := xf3 (w.heap.size) 0 (by first | omega | (simp; try omega)); have r3_0_1 := xc3 (w.heap.size) 1 (by first | omega | (simp; try omega)); have f3_0_1 := xf3 (w.heap.size) 1 (by first | omega | (simp; try omega)); have r3_0_2 := xc3 (w.heap.size) 2 (by first | omega | (simp; try omega)); have f3_0_2 := xf3 (w.heap.size) 2 (by first | omega | (simp; try omega)))
        | (go_at_call 24; (with_reducible refine (p2 _ (by (repeat (first | exact ext_refl _ | assumption | refine ext_setCell ?_ (by simp; try omega) _ | refine ext_alloc ?_ _ | refine ext_drew ?_ | refine ext_drewN ?_ _ | refine ext_trans ?_ (Aft.use _) | refine ext_trans ?_ (by assumption))))).mono ?_); rintro e w4 ⟨rfl, xb4⟩; obtain ⟨xc4, xf4, xl4, xz4⟩ := ext_use xb4; (try simp at xz4); have l4_0 := xl4 (w.heap.size) (by first | omega | (simp; try omega)); have r4_0 := xc4 (w.heap.size) 0 (by first | omega | (simp; try omega)); have f4_0 := xf4 (w.heap.size) 0 (by first | omega | (simp; try omega)); have r4_0_1 := xc4 (w.heap.size) 1 (by first | omega | (simp; try omega)); have f4_0_1 := xf4 (w.heap.size) 1 (by first | omega | (simp; try omega)); have r4_0_2 := xc4 (w.heap.size) 2 (by first | omega | (simp; try omega)); have f4_0_2 := xf4 (w.heap.size) 2 (by first | omega | (simp; try omega)))
        | (go_at_call 25; (with_reducible refine (q1 _).mono ?_); rintro e w5 ⟨rfl, xb5⟩; obtain ⟨xc5, xf5, xl5, xz5⟩ := ext_use xb5; (try simp at xz5); have l5_0 := xl5 (w.heap.size) (by first | omega | (simp; try omega)); have r5_0 := xc5 (w.heap.size) 0 (by first | omega | (simp; try omega)); have f5_0 := xf5 (w.heap.size) 0 (by first | omega | (simp; try omega)); have r5_0_1 := xc5 (w.heap.size) 1 (by first | omega | (simp; try omega)); have f5_0_1 := xf5 (w.heap.size) 1 (by first | omega | (simp; try omega)); have r5_0_2 := xc5 (w.heap.size) 2 (by first | omega | (simp; try omega)); have f5_0_2 := xf5 (w.heap.size) 2 (by first | omega | (simp; try omega)))
        | (go_at_call 25; (with_reducible refine (q2 _).mono ?_); rintro e w6 ⟨rfl, xb6⟩; obtain ⟨xc6, xf6, xl6, xz6⟩ := ext_use xb6; (try simp at xz6); have l6_0 := xl6 (w.heap.size) (by first | omega | (simp; try omega)); have r6_0 := xc6 (w.heap.size) 0 (by first | omega | (simp; try omega)); have f6_0 := xf6 (w.heap.size) 0 (by first | omega | (simp; try omega)); have r6_0_1 := xc6 (w.heap.size) 1 (by first | omega | (simp; try omega)); have f6_0_1 := xf6 (w.heap.size) 1 (by first | omega | (simp; try omega)); have r6_0_2 := xc6 (w.heap.size) 2 (by first | omega | (simp; try omega)); have f6_0_2 := xf6 (w.heap.size) 2 (by first | omega | (simp; try omega)))
        | (go_at_call 12; (with_reducible refine (m1 _).mono ?_); rintro e w7 ⟨rfl, xb7⟩; obtain ⟨xc7, xf7, xl7, xz7⟩ := ext_use xb7; (try simp at xz7); have l7_0 := xl7 (w.heap.size) (by first | omega | (simp; try omega)); have r7_0 := xc7 (w.heap.size) 0 (by first | omega | (simp; try omega)); have f7_0 := xf7 (w.heap.size) 0 (by first | omega | (simp; try omega)); have r7_0_1 := xc7 (w.heap.size) 1 (by first | omega | (simp; try omega)); have f7_0_1 := xf7 (w.heap.size) 1 (by first | omega | (simp; try omega)); have r7_0_2 := xc7 (w.heap.size) 2 (by first | omega | (simp; try omega)); have f7_0_2 := xf7 (w.heap.size) 2 (by first | omega | (simp; try omega)))
        | (go_at_call 12; (with_reducible refine (m2 _).mono ?_); rintro e w8 ⟨rfl, xb8⟩; obtain ⟨xc8, xf8, xl8, xz8⟩ := ext_use xb8; (try simp at xz8); have l8_0 := xl8 (w.heap.size) (by first | omega | (simp; try omega)); have r8_0 := xc8 (w.heap.size) 0 (by first | omega | (simp; try omega)); have f8_0 := xf8 (w.heap.size) 0 (by first | omega | (simp; try omega)); have r8_0_1 := xc8 (w.heap.size) 1 (by first | omega | (simp; try omega)); have f8_0_1 := xf8 (w.heap.size) 1 (by first | omega | (simp; try omega)); have r8_0_2 := xc8 (w.heap.size) 2 (by first | omega | (simp; try omega)); have f8_0_2 := xf8 (w.heap.size) 2 (by first | omega | (simp; try omega)); have l8_1 := xl8 (w7.heap.size) (by first | omega | (simp; try omega)); have r8_1 := xc8 (w7.heap.size) 0 (by first | omega | (simp; try omega)); have f8_1 := xf8 (w7.heap.size) 0 (by first | omega | (simp; try omega)); have r8_1_1 := xc8 (w7.heap.size) 1 (by first | omega | (simp; try omega)); have f8_1_1 := xf8 (w7.heap.size) 1 (by first | omega | (simp; try omega)); have r8_1_2 := xc8 (w7.heap.size) 2 (by first | omega | (simp; try omega)); have f8_1_2 := xf8 (w7.heap.size) 2 (by first | omega | (simp; try omega)))
       )
      have epl' : decide (0 < n1) = decide (x2 < 0) := by rw [← epl, decide_eq_decide]; omega
      refine bodyPost_ret (v := .bool true) ?h rfl ⟨rfl, ?_⟩
      case h => simp [results, Tryz.results6, go_sem, epl']
      repeat (first | exact ext_refl _ | assumption | refine ext_setCell ?_ (by simp; try omega) _ | refine ext_alloc ?_ _ | refine ext_drew ?_ | refine ext_drewN ?_ _ | refine ext_trans ?_ (Aft.use _) | refine ext_trans ?_ (by assumption))
  · rw [decide_eq_false hc] at cl
    clear hc
    go_enter Tryz.func6, Tryz.ntmps6
    go_wp2_with (first
      | (go_at_call 16; (with_reducible refine (alive_any _ (HT.out.ext (by (repeat (first | exact ext_refl _ | assumption | refine ext_setCell ?_ (by simp; try omega) _ | refine ext_alloc ?_ _ | refine ext_drew ?_ | refine ext_drewN ?_ _ | refine ext_trans ?_ (Aft.use _) | refine ext_trans ?_ (by assumption)))))).mono ?_); rintro e w1 ⟨rfl, xb1⟩; obtain ⟨xc1, xf1, xl1, xz1⟩ := ext_use xb1; (try simp at xz1); have l1_0 := xl1 (w.heap.size) (by first | omega | (simp; try omega)); have r1_0 := xc1 (w.heap.size) 0 (by first | omega | (simp; try omega)); have f1_0 := xf1 (w.heap.size) 0 (by first | omega | (simp; try omega)); have r1_0_1 := xc1 (w.heap.size) 1 (by first | omega | (simp; try omega)); have f1_0_1 := xf1 (w.heap.size) 1 (by first | omega | (simp; try omega)); have r1_0_2 := xc1 (w.heap.size) 2 (by first | omega | (simp; try omega)); have f1_0_2 := xf1 (w.heap.size) 2 (by first | omega | (simp; try omega)))
      | (go_at_call 18; (with_reducible refine (cl _).mono ?_); rintro e w2 ⟨rfl, xb2⟩; obtain ⟨xc2, xf2, xl2, xz2⟩ := ext_use xb2; (try simp at xz2); have l2_0 := xl2 (w.heap.size) (by first | omega | (simp; try omega)); have r2_0 := xc2 (w.heap.size) 0 (by first | omega | (simp; try omega)); have f2_0 := xf2 (w.heap.size) 0 (by first | omega | (simp; try omega)); have r2_0_1 := xc2 (w.heap.size) 1 (by first | omega | (simp; try omega)); have f2_0_1 := xf2 (w.heap.size) 1 (by first | omega | (simp; try omega)); have r2_0_2 := xc2 (w.heap.size) 2 (by first | omega | (simp; try omega)); have f2_0_2 := xf2 (w.heap.size) 2 (by first | omega | (simp; try omega)))
     )
    refine bodyPost_ret (v := .bool true) ?h rfl ⟨rfl, ?_⟩
    case h => simp [results, Tryz.results6, go_sem]
    repeat (first | exact ext_refl _ | assumption | refine ext_setCell ?_ (by simp; try omega) _ | refine ext_alloc ?_ _ | refine ext_drew ?_ | refine ext_drewN ?_ _ | refine ext_trans ?_ (Aft.use _) | refine ext_trans ?_ (by assumption))
end Go.Proofs.YtcpodagoheopgaaGreatDoor
end
