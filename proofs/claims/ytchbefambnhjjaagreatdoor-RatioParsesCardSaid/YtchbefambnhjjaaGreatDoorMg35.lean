/- Lemmas of this proof, laid together: RatioParsesW. -/
import Derived.Test.YtchbefambnhjjaaGreatDoorMg32
import Derived.Test.YtchbefambnhjjaaGreatDoorMg34
import Derived.Test.YtchbefambnhjjaaGreatDoorMg29
import Derived.Deep.DeepCutAuto
import Derived.Deep.RegionWith
set_option linter.unusedSimpArgs false
set_option linter.unusedVariables false
section
/- RatioParses: the walk. -/
namespace Go.Proofs.YtchbefambnhjjaaGreatDoor
open Go.RowKit
attribute [local go_sem] bs_size bs_extract bs_get bs_append bs_toList const_get
attribute [local go_sem] sz2 sz3 sz4 sz5 sz6 sz7 sz8
set_option maxHeartbeats 8000000
set_option maxRecDepth 100000
attribute [local irreducible] Calls
theorem parses_skip (l : List UInt8) (h1 : 3000 < l.length) (h2 : l.length ≤ 65536) (w : World) (kL : ∀ w', Ext w w' → Calls Tryz.prog 9 #[] w' fun e w'' => e = .returned (.bool true) ∧ Ext w' w'') :
    Calls Tryz.prog 3 #[.string (bs l)] w fun e w' => e = .returned (.bool true) ∧ Ext w w' := by
  have g1 : decide ((3000 : Int) < (l.length : Int)) = true := decide_eq_true (by omega)
  have g2 : decide ((l.length : Int) ≤ 65536) = true := decide_eq_true (by omega)
  go_enter Tryz.func3, Tryz.ntmps3
  go_wp2_with (first
    | (go_at_call 9; (with_reducible refine (kL _ (by (repeat (first | exact ext_refl _ | assumption | refine ext_setCell ?_ (by simp; try omega) _ | refine ext_alloc ?_ _ | refine ext_drew ?_ | refine ext_drewN ?_ _ | refine ext_trans ?_ (Aft.use _) | refine ext_trans ?_ (by assumption))))).mono ?_); rintro e w1 ⟨rfl, xb1⟩; obtain ⟨xc1, xf1, xl1, xz1⟩ := ext_use xb1; (try simp at xz1))
   )
  refine bodyPost_ret (v := .bool true) ?h rfl ⟨rfl, ?_⟩
  case h => simp [results, Tryz.results3, go_sem]
  repeat (first | exact ext_refl _ | assumption | refine ext_setCell ?_ (by simp; try omega) _ | refine ext_alloc ?_ _ | refine ext_drew ?_ | refine ext_drewN ?_ _ | refine ext_trans ?_ (Aft.use _) | refine ext_trans ?_ (by assumption))
theorem parses_core (l : List UInt8) (s : Bool) (xs ys : List Nat) (a E : Int) (hx : xs.length ≤ 1000000) (hy : ys.length ≤ 1000000) (hl : l.length ≤ 3000 ∨ 65536 < l.length) (hm : l.length ≤ 9223372036854775807) (w : World) (hT : Tz w)
    (kL : ∀ w', Ext w w' → Calls Tryz.prog 9 #[] w' fun e w'' => e = .returned (.bool true) ∧ Ext w' w'')
    (kD : ∀ w, Tz w → Calls Tryz.prog 10 #[.string (bs l)] w (DcPost w s xs ys a E))
    (kP : ∀ w, Tz w → Calls Tryz.prog 11 #[.string (bs l)] w (OwPost w s xs ys a E)) :
    Calls Tryz.prog 3 #[.string (bs l)] w fun e w' => e = .returned (.bool true) ∧ Ext w w' := by
  have HT := Lib.hid hT
  clear hT
  have hg : (decide ((3000 : Int) < (l.length : Int)) = false ∧ True) ∨ (decide ((3000 : Int) < (l.length : Int)) = true ∧ decide ((l.length : Int) ≤ 65536) = false) := by
    rcases hl with hl | hl
    · exact .inl ⟨decide_eq_false (by omega), trivial⟩
    · exact .inr ⟨decide_eq_true (by omega), decide_eq_false (by omega)⟩
  rcases hg with ⟨g1, g2⟩ | ⟨g1, g2⟩
  all_goals
    clear hl
    go_enter Tryz.func3, Tryz.ntmps3
    go_upto_region 5 with (first
      | (go_at_call 9; (with_reducible refine (kL _ (by (repeat (first | exact ext_refl _ | assumption | refine ext_setCell ?_ (by simp; try omega) _ | refine ext_alloc ?_ _ | refine ext_drew ?_ | refine ext_drewN ?_ _ | refine ext_trans ?_ (Aft.use _) | refine ext_trans ?_ (by assumption))))).mono ?_); rintro e w1 ⟨rfl, xb1⟩; obtain ⟨xc1, xf1, xl1, xz1⟩ := ext_use xb1; (try simp at xz1))
     )
    have hB0 := Lib.hid (Bk.new w1 27)
    have hs0 : (w1.alloc (Obj.cells #[.slice none 0 0, .slice none 0 0, .slice none 0 0, .bool false] 27)).heap.size = w1.heap.size + 1 := by simp
    go_upto_region 6 with (first
      | (go_at_call 10; (with_reducible refine (kD _ (HT.out.ext (by (repeat (first | exact ext_refl _ | assumption | refine ext_setCell ?_ (by simp; try omega) _ | refine ext_alloc ?_ _ | refine ext_drew ?_ | refine ext_drewN ?_ _ | refine ext_trans ?_ (Aft.use _) | refine ext_trans ?_ (by assumption)))))).mono ?_); rintro e w2 ⟨F2, rfl, hR2, xb2⟩; obtain ⟨xc2, xf2, xl2, xz2⟩ := ext_use xb2; (try simp at xz2))
     )
    go_upto_region 7 with (first
      | (go_at_call 11; (with_reducible refine (kP _ (HT.out.ext (by (repeat (first | exact ext_refl _ | assumption | refine ext_setCell ?_ (by simp; try omega) _ | refine ext_alloc ?_ _ | refine ext_drew ?_ | refine ext_drewN ?_ _ | refine ext_trans ?_ (Aft.use _) | refine ext_trans ?_ (by assumption)))))).mono ?_); rintro e w3 ⟨F3, rfl, hR3, xb3⟩; obtain ⟨xc3, xf3, xl3, xz3⟩ := ext_use xb3; (try simp at xz3); obtain ⟨l3_0, gc, gf⟩ := kp xb3 (w2.heap.size) (by first | omega | (simp; try omega)); have r3_0 := gc 0; have f3_0 := gf 0; have r3_0_1 := gc 1; have f3_0_1 := gf 1; have r3_0_2 := gc 2; have f3_0_2 := gf 2; clear gc gf)
     )
    have hal3 := ext_alloc (ext_refl w3) (Obj.cells #[.bool s, .slice F3.A F3.n F3.c, .slice F3.D F3.m F3.k] 32)
    have hz2 := ext_size xb2
    have hz3 := ext_size xb3
    rw [hs0] at hz2
    have hs2 : (w2.alloc (Obj.cells #[.bool s, .slice F2.A F2.n F2.c, .slice F2.D F2.m F2.k] 32)).heap.size = w2.heap.size + 1 := by simp
    rw [hs2] at hz3
    have fA3 : ∀ a, F3.A = some a → (w1.alloc (Obj.cells #[.slice none 0 0, .slice none 0 0, .slice none 0 0, .bool false] 27)).heap.size ≤ a.block := fun a ha => by have := hR3.out.2.1 a ha; rw [hs2] at this; rw [hs0]; omega
    have fD3 : ∀ a, F3.D = some a → (w1.alloc (Obj.cells #[.slice none 0 0, .slice none 0 0, .slice none 0 0, .bool false] 27)).heap.size ≤ a.block := fun a ha => by have := hR3.out.2.2.2 a ha; rw [hs2] at this; rw [hs0]; omega
    have hE23 : Ext w2 (w3.alloc (Obj.cells #[.bool s, .slice F3.A F3.n F3.c, .slice F3.D F3.m F3.k] 32)) := by (repeat (first | exact ext_refl _ | assumption | refine ext_setCell ?_ (by simp; try omega) _ | refine ext_alloc ?_ _ | refine ext_drew ?_ | refine ext_drewN ?_ _ | refine ext_trans ?_ (Aft.use _) | refine ext_trans ?_ (by assumption)))
    have hE03 := Lib.hid (ext_trans xb2 hE23)
    have hEw3 : Ext w (w3.alloc (Obj.cells #[.bool s, .slice F3.A F3.n F3.c, .slice F3.D F3.m F3.k] 32)) := by (repeat (first | exact ext_refl _ | assumption | refine ext_setCell ?_ (by simp; try omega) _ | refine ext_alloc ?_ _ | refine ext_drew ?_ | refine ext_drewN ?_ _ | refine ext_trans ?_ (Aft.use _) | refine ext_trans ?_ (by assumption)))
    have hEw3' := Lib.hid hEw3
    have wA3 := Lib.hid (Want.of hB0.out (hR2.out.1.ext hE23) hR2.out.2.2.1 (Nat.le_refl _))
    have wD3 := Lib.hid (Want.of hB0.out (hR2.out.2.1.ext hE23) hR2.out.2.2.2 (Nat.le_refl _))
    have hl3 := hR3.out.1.len
    have hm3 := hR3.out.2.2.1.len
    have hk4 := adds_step hB0.out hE03.out ⟨s, F3, F2, xs, ys⟩ (hR3.out.1.ext hal3) (hR3.out.2.2.1.ext hal3) fA3 fD3 wA3.out wD3.out (by show F3.n ≤ 1000000; omega) (by show F3.m ≤ 1000000; omega) E (by simp) (by simp) (by rw [hs0]; omega)
    have off2 : ¬ InBk w1.heap.size ⟨none, none, none, 0, 0, 0⟩ w2.heap.size := hB0.out.off (by rw [hs0]; omega)
    have lt2 : w2.heap.size < (w3.alloc (Obj.cells #[.bool s, .slice F3.A F3.n F3.c, .slice F3.D F3.m F3.k] 32)).heap.size := by simp; omega
    have d0 : (w3.alloc (Obj.cells #[.bool s, .slice F3.A F3.n F3.c, .slice F3.D F3.m F3.k] 32)).cell? ⟨w2.heap.size, 0, none⟩ = some (.bool s) := by simp [go_sem, *]
    have d1 : (w3.alloc (Obj.cells #[.bool s, .slice F3.A F3.n F3.c, .slice F3.D F3.m F3.k] 32)).cell? ⟨w2.heap.size, 1, none⟩ = some (.slice F2.A F2.n F2.c) := by simp [go_sem, *]
    have d2 : (w3.alloc (Obj.cells #[.bool s, .slice F3.A F3.n F3.c, .slice F3.D F3.m F3.k] 32)).cell? ⟨w2.heap.size, 2, none⟩ = some (.slice F2.D F2.m F2.k) := by simp [go_sem, *]
    clear fA3 fD3 hE23 hEw3 hal3 hl3 hm3
    go_upto_region 8 with (first
      | (go_at_call 12; (with_reducible refine hk4.mono ?_); rintro e w4 ⟨rfl, H4, hB4, hT4⟩)
     )
    obtain ⟨cc, _, l4, off4⟩ := hT4.out.cell lt2 off2
    have d0' := (cc 0).trans d0
    have d1' := (cc 1).trans d1
    have d2' := (cc 2).trans d2
    have hz4 := hT4.out.1.size
    have lt0 : w.heap.size ≤ w1.heap.size := ext_size xb1
    have xe4 : Ext w w4 := hT4.out.ext (hB0.out.ext hE03.out) hEw3'.out lt0
    have wA4 := Lib.hid (wA3.out.turn hT4.out)
    have wD4 := Lib.hid (wD3.out.turn hT4.out)
    have hz4' : w1.heap.size ≤ w4.heap.size := by simp at hz4; omega
    clear d0 d1 d2 cc hk4 hT4 hz4 lt2 off2 hE03 hEw3' wA3 wD3 hR2 hR3 hB0 xb2 xb3 xb1
    go_upto_region 9 with (first
      | (go_at_call 11; (with_reducible refine (kP _ (HT.out.ext (by (repeat (first | exact ext_refl _ | assumption | refine ext_setCell ?_ (by simp; try omega) _ | refine ext_alloc ?_ _ | refine ext_drew ?_ | refine ext_drewN ?_ _ | refine ext_trans ?_ (Aft.use _) | refine ext_trans ?_ (by assumption)))))).mono ?_); rintro e w5 ⟨F5, rfl, hR5, xb5⟩; obtain ⟨xc5, xf5, xl5, xz5⟩ := ext_use xb5; (try simp at xz5); obtain ⟨l5_0, gc, gf⟩ := kp xb5 (w2.heap.size) (by first | omega | (simp; try omega)); have r5_0 := gc 0; have f5_0 := gf 0; have r5_0_1 := gc 1; have f5_0_1 := gf 1; have r5_0_2 := gc 2; have f5_0_2 := gf 2; clear gc gf)
     )
    have hal5 := ext_alloc (ext_refl w5) (Obj.cells #[.bool s, .slice F5.A F5.n F5.c, .slice F5.D F5.m F5.k] 32)
    have hE45 : Ext w4 (w5.alloc (Obj.cells #[.bool s, .slice F5.A F5.n F5.c, .slice F5.D F5.m F5.k] 32)) := by (repeat (first | exact ext_refl _ | assumption | refine ext_setCell ?_ (by simp; try omega) _ | refine ext_alloc ?_ _ | refine ext_drew ?_ | refine ext_drewN ?_ _ | refine ext_trans ?_ (Aft.use _) | refine ext_trans ?_ (by assumption)))
    have hEw5 := Lib.hid (ext_trans xe4 hE45)
    have hE45' := Lib.hid hE45
    have hl5 := hR5.out.1.len
    have hm5 := hR5.out.2.2.1.len
    have hk6 := adds_step hB4.out hE45 ⟨s, F5, F2, xs, ys⟩ (hR5.out.1.ext hal5) (hR5.out.2.2.1.ext hal5) hR5.out.2.1 hR5.out.2.2.2 (wA4.out.ext hE45) (wD4.out.ext hE45) (by show F5.n ≤ 1000000; omega) (by show F5.m ≤ 1000000; omega) E (by simp) (by simp) hz4'
    clear hE45 hal5 hl5 hm5
    go_upto_region 10 with (first
      | (go_at_call 12; (with_reducible refine hk6.mono ?_); rintro e w6 ⟨rfl, H6, hB6, hT6⟩)
     )
    have xe6 := Lib.hid (hT6.out.ext (hB4.out.ext hE45'.out) hEw5.out lt0)
    have hk7 := stands_step hB6.out (by simp) (by simp)
    clear hk6 hT6 hR5 wA4 wD4 d0' d1' d2' xb5 hB4 hB6
    go_wp2_with (first
      | (go_at_call 13; (with_reducible refine hk7.mono ?_); rintro e w7 ⟨rfl, h7⟩)
     )
    refine bodyPost_ret (v := .bool true) ?h rfl ⟨rfl, h7.out w xe6.out lt0⟩
    case h => simp [results, Tryz.results3, go_sem]
theorem walk_RatioParses (x0 : ByteArray) (w : World) (hx0 : x0.size ≤ maxLen) (hL : laidMetH Tryz.prog Rows.ratioParsesRow.laid w) :
    Calls Tryz.prog 3 #[.string x0] w fun e w' => e = .returned (.bool true) ∧ Ext w w' := by
  have hT : Tz w := tz_row w hL (fun w => MakeChecks.laidMetH_plain _ _ _ (by kernel_rfl)) (rest := [("unicode/utf8.acceptRanges", Rows.laid_unicode_utf8_acceptRanges), ("unicode/utf8.first", Rows.laid_unicode_utf8_first)]) (by kernel_rfl)
  clear hL
  obtain ⟨l, rfl⟩ : ∃ l, x0 = bs l := bs_of x0
  have hm : l.length ≤ 9223372036854775807 := by have := hx0; rw [bs_size] at this; unfold maxLen at this; omega
  have kL : ∀ w', Ext w w' → Calls Tryz.prog 9 #[] w' fun e w'' => e = .returned (.bool true) ∧ Ext w' w'' := fun w' he => alive2_any w' (hT.ext he)
  by_cases h1 : l.length ≤ 3000 ∨ 65536 < l.length
  · obtain ⟨s, xs, ys, a, E, hx, hy, hD, hP⟩ := parse_both l (Nat.lt_or_ge 65536 l.length |>.symm) hm
    exact parses_core l s xs ys a E hx hy h1 hm w hT kL hD hP
  · exact parses_skip l (by omega) (by omega) w kL
end Go.Proofs.YtchbefambnhjjaaGreatDoor
end
