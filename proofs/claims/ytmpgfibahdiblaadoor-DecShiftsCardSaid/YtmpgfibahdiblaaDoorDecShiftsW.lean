/- DecShifts: the walk. -/
import Derived.Test.YtmpgfibahdiblaaDoorDecX
import Derived.Test.YtmpgfibahdiblaaDoorDecMakesW
import Derived.Lib.LaidTab
import Derived.LaidMore
namespace Go.Proofs.YtmpgfibahdiblaaDoor
open Go.RowKit
attribute [local go_sem] bs_size bs_extract bs_get bs_append bs_toList const_get
attribute [local go_sem] sz2 sz3 sz4 sz5 sz6 sz7 sz8
set_option maxHeartbeats 4000000
set_option maxRecDepth 100000
/-- What the row says of the table, told to the library's contract: it stands third on the list. -/
theorem tab_third {P : Program} {W : World} {n1 n2 : String} {d1 d2 : DataW Unit} {name : String} {k : IntKind} {zs : List Int} {rest : List (String × DataW Unit)} {g : Nat} {t e : TypeId} {n : Nat}
    (hg : P.globalNamed name = some g) (hty : (P.globals[g]?).map (·.type) = some t) (ht : P.underlying t = some (.array n e)) (he : P.underlying e = some (.int k)) (hce : P.cellsOf e = 1) (hct : P.cellsOf t = n)
    (h : laidMet P ((n1, d1) :: (n2, d2) :: (name, Lib.tabData k zs) :: rest) W) : Lib.TabIs P W name k zs := by
  obtain ⟨ps, ⟨_, _, _, _, _, _, _, _, _, _, ⟨_, _, _, _, _, _, _, _, _, _, ⟨g', t', cs, fuel, p, q, hg', ht', hvar, hd, _, _⟩, _⟩, _⟩, _⟩ := h
  obtain rfl := Option.some.inj (hg.symm.trans hg')
  obtain rfl := Option.some.inj (hty.symm.trans ht')
  unfold Lib.TabIs
  rw [hvar, ← Lib.cells_of_tab ht he hce hct hd]
theorem pw_of (w : World) (h : laidMetH Tryd.prog Rows.decShiftsRow.laid w) : Pw w := by
  rw [MakeChecks.laidMetH_plain _ _ _ (by kernel_rfl)] at h
  have e : (Rows.decShiftsRow.laid : List (String × DataW Unit)) = ("math/bits.deBruijn32tab", Rows.laid_math_bits_deBruijn32tab) :: ("math/bits.deBruijn64tab", Rows.laid_math_bits_deBruijn64tab) :: ("internal/strconv.uint64pow10", Lib.tabData .u64 Lib.pow10Tab) :: [] := by kernel_rfl
  rw [e] at h
  exact tab_third (g := 3) (t := 122) (e := 65) (n := 20) (by kernel_rfl) (by kernel_rfl) (by kernel_rfl) (by kernel_rfl) (by kernel_rfl) (by kernel_rfl) h
attribute [local irreducible] Calls
theorem walk_DecShifts (x0 : Bool) (x1 : ByteArray) (x2 : Int) (x3 : Int) (w : World) (hx1 : x1.size ≤ maxLen) (hx2 : -9223372036854775808 ≤ x2 ∧ x2 ≤ 9223372036854775807) (hx3 : -9223372036854775808 ≤ x3 ∧ x3 ≤ 9223372036854775807) (hL : laidMetH Tryd.prog Rows.decShiftsRow.laid w) :
    Calls Tryd.prog 5 #[.agg #[.bool x0, .string x1, .int .i64 x2], .int .i64 x3] w fun e w' => e = .returned (.bool true) ∧ Ext w w' := by
  obtain ⟨l, rfl⟩ := bs_of x1
  rw [bs_size] at hx1
  unfold maxLen at hx1
  have hp := pw_of w hL
  have c1 := plain_any ⟨x0, l, x2⟩ hx1 hx2
  have c2 := rplain_any ⟨x0, l, x2⟩ hx1 hx2
  have c3 : ∀ w', Hid (Ext w w') → Calls Tryd.prog 16 #[dcV ⟨x0, l, x2⟩] w' fun e w'' => e = .returned (ttV (sciR ⟨x0, l, x2⟩)) ∧ Ext w' w'' := fun w' he => sci_any ⟨x0, l, x2⟩ hx1 hx2 w' (pw_ext hp he.out)
  have c4 := rsci_any ⟨x0, l, x2⟩ hx1 hx2
  have c5 := shift_any ⟨x0, l, x2⟩ x3 hx1 hx2 hx3
  have c6 := rshift_any ⟨x0, l, x2⟩ x3 hx1 hx2 hx3
  generalize plnR ⟨x0, l, x2⟩ = R at c1 c2
  generalize sciR ⟨x0, l, x2⟩ = S at c3 c4
  generalize shfR ⟨x0, l, x2⟩ x3 = T at c5 c6
  obtain ⟨rs, re⟩ := R
  obtain ⟨ss, se⟩ := S
  obtain ⟨⟨tn, tl, te⟩, tE⟩ := T
  clear hx1 hx2 hx3 hL hp
  go_enter Tryd.func5, Tryd.ntmps5
  go_wp2_with (first
    | (go_at_call 14; (with_reducible refine (c1 _).mono ?_); rintro e w1 ⟨rfl, xb1⟩; obtain ⟨xc1, xf1, xl1, xz1⟩ := ext_use xb1; (try simp at xz1); have l1_0 := xl1 (w.heap.size) (by first | omega | (simp; try omega)); have r1_0 := xc1 (w.heap.size) 0 (by first | omega | (simp; try omega)); have f1_0 := xf1 (w.heap.size) 0 (by first | omega | (simp; try omega)); have r1_0_1 := xc1 (w.heap.size) 1 (by first | omega | (simp; try omega)); have f1_0_1 := xf1 (w.heap.size) 1 (by first | omega | (simp; try omega)); have r1_0_2 := xc1 (w.heap.size) 2 (by first | omega | (simp; try omega)); have f1_0_2 := xf1 (w.heap.size) 2 (by first | omega | (simp; try omega)))
    | (go_at_call 15; (with_reducible refine (c2 _).mono ?_); rintro e w2 ⟨rfl, xb2⟩; obtain ⟨xc2, xf2, xl2, xz2⟩ := ext_use xb2; (try simp at xz2); have l2_0 := xl2 (w.heap.size) (by first | omega | (simp; try omega)); have r2_0 := xc2 (w.heap.size) 0 (by first | omega | (simp; try omega)); have f2_0 := xf2 (w.heap.size) 0 (by first | omega | (simp; try omega)); have r2_0_1 := xc2 (w.heap.size) 1 (by first | omega | (simp; try omega)); have f2_0_1 := xf2 (w.heap.size) 1 (by first | omega | (simp; try omega)); have r2_0_2 := xc2 (w.heap.size) 2 (by first | omega | (simp; try omega)); have f2_0_2 := xf2 (w.heap.size) 2 (by first | omega | (simp; try omega)))
    | (go_at_call 16; (with_reducible refine (c3 _ (Lib.hid (by (repeat (first | exact ext_refl _ | assumption | refine ext_setCell ?_ (by simp; try omega) _ | refine ext_alloc ?_ _ | refine ext_drew ?_ | refine ext_drewN ?_ _ | refine ext_trans ?_ (Aft.use _) | refine ext_trans ?_ (by assumption)))))).mono ?_); rintro e w3 ⟨rfl, xb3⟩; obtain ⟨xc3, xf3, xl3, xz3⟩ := ext_use xb3; (try simp at xz3); have l3_0 := xl3 (w.heap.size) (by first | omega | (simp; try omega)); have r3_0 := xc3 (w.heap.size) 0 (by first | omega | (simp; try omega)); have f3_0 := xf3 (w.heap.size) 0 (by first | omega | (simp; try omega)); have r3_0_1 := xc3 (w.heap.size) 1 (by first | omega | (simp; try omega)); have f3_0_1 := xf3 (w.heap.size) 1 (by first | omega | (simp; try omega)); have r3_0_2 := xc3 (w.heap.size) 2 (by first | omega | (simp; try omega)); have f3_0_2 := xf3 (w.heap.size) 2 (by first | omega | (simp; try omega)))
    | (go_at_call 17; (with_reducible refine (c4 _).mono ?_); rintro e w4 ⟨rfl, xb4⟩; obtain ⟨xc4, xf4, xl4, xz4⟩ := ext_use xb4; (try simp at xz4); have l4_0 := xl4 (w.heap.size) (by first | omega | (simp; try omega)); have r4_0 := xc4 (w.heap.size) 0 (by first | omega | (simp; try omega)); have f4_0 := xf4 (w.heap.size) 0 (by first | omega | (simp; try omega)); have r4_0_1 := xc4 (w.heap.size) 1 (by first | omega | (simp; try omega)); have f4_0_1 := xf4 (w.heap.size) 1 (by first | omega | (simp; try omega)); have r4_0_2 := xc4 (w.heap.size) 2 (by first | omega | (simp; try omega)); have f4_0_2 := xf4 (w.heap.size) 2 (by first | omega | (simp; try omega)))
   )
  refine wp_aft (by kernel_rfl) (by kernel_rfl) (fun hq hqf => ?_)
  repeat (go_big_quiet_step (first
    | (go_at_call 18; exact aft_of (c5 _))
    | (go_at_call 19; exact aft_of (c6 _))
    | (go_at_call 6; exact aft_of (two_any _ _ _ _ _))
    ))
  refine wpQuiet_nil ?_
  rintro _ ⟨nq, rfl⟩
  have xl := ext_lt nq.use
  have xz := ext_size nq.use
  try simp at xz
  go_wp2
  go_ret
  refine ⟨rfl, ?_⟩
  repeat (first | exact ext_refl _ | assumption | refine ext_setCell ?_ (by simp; try omega) _ | refine ext_alloc ?_ _ | refine ext_drew ?_ | refine ext_drewN ?_ _ | refine ext_trans ?_ (Aft.use _) | refine ext_trans ?_ (by assumption))
end Go.Proofs.YtmpgfibahdiblaaDoor
