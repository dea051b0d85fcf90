/- Lemmas of this proof, laid together: QkX. -/
import Derived.Test.YtchchnohmmncfaaGreatDoorMg35
import Derived.Test.YtchchnohmmncfaaGreatDoorMg34
import Derived.Deep.DeepCutAuto
import Derived.Deep.RegionWith
set_option linter.unusedSimpArgs false
set_option linter.unusedVariables false
section
/- quick: texts that are no whole numbers. -/
namespace Go.Proofs.YtchchnohmmncfaaGreatDoor
open Go.RowKit Go.ChangeShapes
attribute [local go_sem] bs_size bs_extract bs_get bs_append bs_toList const_get
attribute [local go_sem] sz2 sz3 sz4 sz5 sz6 sz7 sz8
set_option maxHeartbeats 8000000
set_option maxRecDepth 100000
attribute [local irreducible] Calls
/-- The error for what is no number stands. -/
def Es (w : World) : Prop := ∃ te pe, w.cell? ⟨1, 0, none⟩ = some (.iface te pe)
theorem Es.ext {w w' : World} (h : Es w) (he : Ext w w') : Es w' := by
  obtain ⟨te, pe, h⟩ := h
  exact ⟨te, pe, (Below.cell (p := ⟨1, 0, none⟩) he (Lib.lt_of_cell h)).trans h⟩
theorem es_met {r : List (String × DataW Unit)} {w : World} (h : laidMet Tryz.prog (("strconv.ErrSyntax", Rows.laid_strconv_ErrSyntax) :: r) w) : Es w := by
  obtain ⟨a, s, hv, -⟩ := laid_sentinel (te := 160) (ts := 9) (tp := 158) h (g := 1) (by kernel_rfl) (ti := 64) (by kernel_rfl) Tryz.underlying64 row_es (by kernel_rfl) Tryz.underlying160 rfl rfl (by kernel_rfl) (by kernel_rfl) (by kernel_rfl)
  exact ⟨_, _, World.var?_cell (g := 1) (by kernel_rfl) hv 0⟩
theorem es_short (L : List (String × DataW Unit)) (hL : L = ("math/bits.deBruijn32tab", Lib.tabData .u8 tzTab) :: ("math/bits.deBruijn64tab", Rows.laid_math_bits_deBruijn64tab) :: ("internal/strconv.uint64pow10", Lib.tabData .u64 Lib.pow10Tab) :: ("strconv.ErrRange", Rows.laid_strconv_ErrRange) :: ("strconv.ErrSyntax", Rows.laid_strconv_ErrSyntax) :: []) (w : World) (h : laidMet Tryz.prog L w) : Es w := by
  subst hL
  exact es_met h.tail.tail.tail.tail
theorem pu_not (l : List UInt8) (h : digsB l = false) : ∀ acc u, Lib.parseUint10 acc l ≠ .ok u := by
  induction l with
  | nil => cases h
  | cons c r ih =>
    intro acc u q
    simp only [Lib.parseUint10] at q
    split at q
    · rename_i hc
      have hr : digsB r = false := by
        cases g : digsB r with
        | false => rfl
        | true =>
          have e : digsB (c :: r) = true := by
            have hi : isD c = true := by
              cases gc : isD c with
              | true => rfl
              | false => have := isD_cases c gc; omega
            simp only [digsB, List.all_cons, Bool.and_eq_true]
            exact ⟨hi, by simpa [digsB] using g⟩
          rw [e] at h
          cases h
      split at q
      · cases q
      · split at q
        · cases q
        · exact ih hr _ _ q
    · cases q
theorem pu_bad (l : List UInt8) (h : digsB l = false) (u : Nat) : Lib.parseUintB 64 l ≠ .ok u := by
  rw [Lib.parseUintB_64]
  unfold Lib.parseMag
  split
  · intro q; cases q
  · exact pu_not l h 0 u
theorem qk_number_bad (l : List UInt8) (hd : digsB l = false) (hl : l.length ≤ 65536) (w : World) (hE : Er w) (hS : Es w) :
    Calls Tryz.prog 15 #[.string (bs l)] w fun e w' => ∃ v : Int, e = .returned (.tuple #[.int .u64 v, .bool false]) ∧ Ext w w' := by
  have hs : (bs l).size = l.length := bs_size l
  have k : Hid (∀ w, Er w → Es w → Calls Tryz.prog 28 #[.string (bs l), .int .i64 10, .int .i64 64] w fun e w' => ∃ v t N, e = .returned (.tuple #[.int .u64 v, .iface t (.pointer (some ⟨N, 0, none⟩))]) ∧ Ext w w') := Lib.hid fun w ⟨te, pe, hc⟩ ⟨te2, pe2, hc2⟩ => by
    cases h : Lib.parseUintB 64 l with
    | ok u => exact absurd h (pu_bad l hd u)
    | range => exact (Tryz.strconv_ParseUint_10_at64_range (bs l) (by omega) h _ w hc (.inr ⟨te, pe, rfl⟩)).mono fun e w' ⟨N, h1, _, _, h2⟩ => ⟨_, _, N, h1, h2⟩
    | _ => exact (Any.strconv_ParseUint_10_at64_syntax Tryz.laysPu14 (bs l) (by omega) h _ w hc2 (.inr ⟨te2, pe2, rfl⟩)).mono fun e w' ⟨N, h1, _, _, h2⟩ => ⟨_, _, N, h1, h2⟩
  have HE := Lib.hid hE
  have HS := Lib.hid hS
  clear hd hl hs hE hS
  go_enter Tryz.func15, Tryz.ntmps15
  go_wp2_with (first
    | (go_at_call 28; (with_reducible refine (k.out _ (HE.out.ext (by (repeat (first | exact ext_refl _ | assumption | refine ext_setCell ?_ (by simp; try omega) _ | refine ext_alloc ?_ _ | refine ext_drew ?_ | refine ext_drewN ?_ _ | refine ext_trans ?_ (Aft.use _) | refine ext_trans ?_ (by assumption))))) (HS.out.ext (by (repeat (first | exact ext_refl _ | assumption | refine ext_setCell ?_ (by simp; try omega) _ | refine ext_alloc ?_ _ | refine ext_drew ?_ | refine ext_drewN ?_ _ | refine ext_trans ?_ (Aft.use _) | refine ext_trans ?_ (by assumption)))))).mono ?_); rintro e w1 ⟨v, t, N, rfl, xb1⟩))
  go_region
  go_wp2
  all_goals
    refine bodyPost_ret (v := .tuple #[.int .u64 v, .bool false]) ?h rfl ⟨v, rfl, ?_⟩
    case h => simp [results, Tryz.results15, go_sem]
    repeat (first | exact ext_refl _ | assumption | refine ext_setCell ?_ (by simp; try omega) _ | refine ext_alloc ?_ _ | refine ext_drew ?_ | refine ext_drewN ?_ _ | refine ext_trans ?_ (Aft.use _) | refine ext_trans ?_ (by assumption))
theorem qk_Whole_no (l : List UInt8) (hl : l.length ≤ 9223372036854775807) (hno : l = [] ∨ 19 < l.length ∨ digsB l = false) (w : World) (hE : Er w) (hS : Es w) :
    Calls Tryz.prog 6 #[.string (bs l)] w fun e w' => e = .returned (.tuple #[.float .f64 0, .bool false]) ∧ Ext w w' := by
  by_cases h0 : l.length = 0
  · obtain rfl : l = [] := List.eq_nil_of_length_eq_zero h0
    clear hno hE hS
    go_enter Tryz.func6, Tryz.ntmps6
    go_wp2
    refine bodyPost_ret (v := .tuple #[.float .f64 0, .bool false]) ?h rfl ⟨rfl, ext_refl _⟩
    case h => simp [results, Tryz.results6, go_sem]
  have hem : l.isEmpty = false := by
    cases l with
    | nil => simp at h0
    | cons a t => rfl
  have hne : (l == []) = false := by rw [beq_eq_false_iff_ne]; intro e; subst e; simp at h0
  by_cases h1 : 19 < l.length
  · have hlI : (19 : Int) < (l.length : Int) := by omega
    have hlD : decide ((19 : Int) < (l.length : Int)) = true := decide_eq_true hlI
    clear hno hE hS
    go_enter Tryz.func6, Tryz.ntmps6
    go_wp2
    refine bodyPost_ret (v := .tuple #[.float .f64 0, .bool false]) ?h rfl ⟨rfl, ext_refl _⟩
    case h => simp [results, Tryz.results6, go_sem]
  have hlI : ¬ (19 : Int) < (l.length : Int) := by omega
  have hlD : decide ((19 : Int) < (l.length : Int)) = false := decide_eq_false hlI
  have hpI : (0 : Int) < (l.length : Int) := by omega
  have hlp : 0 < l.length := by omega
  have hd : digsB l = false := by
    rcases hno with h | h | h
    · subst h; simp at h0
    · omega
    · exact h
  by_cases h4 : l[0] = 43
  · have hc : ((l[0].toNat : Int) == 43) = true := by rw [h4]; rfl
    have hc2 : (l[0].toNat : Int) = 43 := by rw [h4]; rfl
    clear hno hE hS hd h4
    go_enter Tryz.func6, Tryz.ntmps6
    go_wp2
    refine bodyPost_ret (v := .tuple #[.float .f64 0, .bool false]) ?h rfl ⟨rfl, ext_refl _⟩
    case h => simp [results, Tryz.results6, go_sem]
  · have hc2 : ¬ (l[0].toNat : Int) = 43 := fun q => h4 (UInt8.toNat_inj.1 (show l[0].toNat = 43 by omega))
    have hc : ((l[0].toNat : Int) == 43) = false := by rw [beq_eq_false_iff_ne]; exact hc2
    have k1 := Lib.hid (fun w' (he : Ext w w') => qk_number_bad l hd (by omega) w' (hE.ext he) (hS.ext he))
    clear hno hE hS hd h4
    go_enter Tryz.func6, Tryz.ntmps6
    go_wp2_with (first
      | (go_at_call 15; (with_reducible refine (k1.out _ (by (repeat (first | exact ext_refl _ | assumption | refine ext_setCell ?_ (by simp; try omega) _ | refine ext_alloc ?_ _ | refine ext_drew ?_ | refine ext_drewN ?_ _ | refine ext_trans ?_ (Aft.use _) | refine ext_trans ?_ (by assumption))))).mono ?_); rintro e w1 ⟨v, rfl, xb1⟩))
    refine bodyPost_ret (v := .tuple #[.float .f64 0, .bool false]) ?h rfl ⟨rfl, ?_⟩
    case h => simp [results, Tryz.results6, go_sem]
    repeat (first | exact ext_refl _ | assumption | refine ext_setCell ?_ (by simp; try omega) _ | refine ext_alloc ?_ _ | refine ext_drew ?_ | refine ext_drewN ?_ _ | refine ext_trans ?_ (Aft.use _) | refine ext_trans ?_ (by assumption))
end Go.Proofs.YtchchnohmmncfaaGreatDoor
end
