/- Lemmas of this proof, laid together: Law10, NamP, DecNamesW. -/
import Derived.Test.YtcpodagoheopgaaGreatDoorMg22
import Derived.Lib.LaidTab
import Derived.LaidMore
import Derived.Deep.DeepCutAuto
import Derived.Deep.RegionWith
import Derived.Deep.LoopGhost
set_option linter.unusedSimpArgs false
set_option linter.unusedVariables false
section
/- What the rows say of the library's tables. -/
namespace Go.Proofs.YtcpodagoheopgaaGreatDoor
open Go.RowKit
set_option maxRecDepth 100000
/-- What the row says of a table that stands first on its list. -/
theorem tab_first {P : Program} {W : World} {name : String} {k : IntKind} {zs : List Int} {rest : List (String × DataW Unit)} {g : Nat} {t e : TypeId} {n : Nat}
    (hg : P.globalNamed name = some g) (hty : (P.globals[g]?).map (·.type) = some t) (ht : P.underlying t = some (.array n e)) (he : P.underlying e = some (.int k)) (hce : P.cellsOf e = 1) (hct : P.cellsOf t = n)
    (h : laidMet P ((name, Lib.tabData k zs) :: rest) W) : Lib.TabIs P W name k zs := by
  obtain ⟨ps, ⟨g', t', cs, fuel, p, q, hg', ht', hvar, hd, _, _⟩, _⟩ := h
  obtain rfl := Option.some.inj (hg.symm.trans hg')
  obtain rfl := Option.some.inj (hty.symm.trans ht')
  unfold Lib.TabIs
  rw [hvar, ← Lib.cells_of_tab ht he hce hct hd]
def tzTab : List Int := Lib.deBruijn32tab.map fun (n : Nat) => (n : Int)
theorem tz_met (rest : List (String × DataW Unit)) (w : World) (h : laidMet Tryz.prog (("math/bits.deBruijn32tab", Lib.tabData .u8 tzTab) :: rest) w) : Tz w := by
  have h1 := tab_first (g := 5) (t := 207) (e := 5) (n := 32) (by kernel_rfl) (by kernel_rfl) (by kernel_rfl) (by kernel_rfl) (by kernel_rfl) (by kernel_rfl) h
  intro j hj
  have h2 := h1.cell (g := 5) (by kernel_rfl) j (by simpa [tzTab] using hj)
  rw [h2]
  simp [tzTab, List.getD_eq_getElem?_getD, hj]
end Go.Proofs.YtcpodagoheopgaaGreatDoor
end
section
/- DecNames: the plain part. -/
namespace Go.Proofs.YtcpodagoheopgaaGreatDoor
set_option maxRecDepth 100000
def farL (n : Nat) : List UInt8 := 49 :: (zerosL (n - 1) ++ [49])
theorem farL_len (n : Nat) (h : 1 ≤ n) : (farL n).length = n + 1 := by simp [farL, zerosL]; omega
theorem dval_zeros (n : Nat) : dval (zerosL n) = 0 := dval_noughts n
theorem up_one' (n : Nat) : upV [49] n = 10 ^ n := by
  unfold upV
  rw [dval_append, dval_zeros]; simp [dval, zerosL]
theorem farL_val (n : Nat) (h : 1 ≤ n) : dval (farL n) = 10 ^ n + 1 := by
  have e : farL n = ([49] ++ zerosL (n - 1)) ++ [49] := rfl
  have e2 : dval ([49] ++ zerosL (n - 1)) = 10 ^ (n - 1) := up_one' (n - 1)
  rw [e, dval_snoc, e2]
  have : 10 ^ n = 10 * 10 ^ (n - 1) := by rw [← Nat.pow_succ']; congr 1; omega
  rw [this]; rfl
theorem farL_digs (n : Nat) : digsB (farL n) = true := by
  unfold farL digsB
  rw [List.all_cons, List.all_append]
  have := digs_noughts (n - 1)
  unfold digsB at this
  have e : zerosL (n - 1) = List.replicate (n - 1) 48 := rfl
  rw [e, this]; decide
theorem farL_text (n : Nat) (h : 1 ≤ n) : dtext (10 ^ n + 1) = farL n := by
  rw [← farL_val n h, dtext_dval (farL_digs n) (by intro x hx; simp [farL] at hx; subst hx; decide), if_neg (by simp [farL])]
theorem farL_mk (n : Nat) (h : 1 ≤ n) : mkDig (farL n) = farL n ∧ mkN (farL n) = 0 := by
  have hl := farL_len n h
  have h1 : ∀ (j : Nat) (hj : j < (farL n).length), j = n → (farL n)[j] = 49 := fun j hj e => by
    subst e
    have e2 : farL j = ([49] ++ zerosL (j - 1)) ++ [49] := rfl
    have e3 : ([49] ++ zerosL (j - 1)).length = j := by simp [zerosL]; omega
    simp only [e2]
    rw [List.getElem_append_right (by omega)]
    simp [e3]
  have := mk_between (farL n) 0 (farL n).length (by omega) (Nat.le_refl _) (fun i _ hi => by omega) (fun i hi h2 => by omega) (by simp [farL]) (by rw [h1 _ _ (by omega)]; decide)
  rw [List.take_length, List.drop_zero] at this
  exact ⟨this.1, by rw [this.2]; omega⟩
theorem nm_add (n : Nat) (h : 1 ≤ n) (hn : n ≤ 65535) : addR ⟨false, [49], n⟩ ⟨false, [49], 0⟩ = ⟨⟨false, farL n, 0⟩, 0⟩ := by
  have hc : chkD ⟨false, [49], n⟩ ⟨false, [49], 0⟩ = 0 := by
    have h1 : dcE ⟨false, [49], (n : Int)⟩ = 0 := by
      have hf : far (n : Int) = false := by unfold far; simp; omega
      unfold dcE
      rw [if_neg (by simp), if_neg (by simp), if_neg (show ¬ digsB [49] = false by decide), if_neg]
      rintro (h1 | h1 | h1)
      · simp at h1
      · simp at h1
      · rw [hf] at h1; cases h1
    have h2 : dcE ⟨false, [49], 0⟩ = 0 := by kernel_rfl
    unfold chkD
    rw [h1, h2]; rfl
  have hmin : min (n : Int) 0 = 0 := by omega
  unfold addR
  rw [if_neg (by rw [hc]; simp), if_neg (by simp), if_neg (by simp), if_neg (by simp), if_neg (by simp only [hmin]; simp; omega)]
  simp only [hmin, Int.sub_zero, Int.toNat_natCast, Int.toNat_zero]
  rw [up_one', up_one', Nat.pow_zero]
  have e1 : sumNeg false false (10 ^ n) 1 = false := rfl
  have e2 : sumAbs false false (10 ^ n) 1 = 10 ^ n + 1 := rfl
  rw [e1, e2, farL_text n h]
  obtain ⟨m1, m2⟩ := farL_mk n h
  have he : mkE (farL n) 0 = 0 := by
    unfold mkE
    rw [if_neg (by rw [farL_len n h]; omega), if_neg (by rw [farL_digs]; simp), m1, if_neg (by simp [farL]), m2, if_neg]
    rintro (h1 | h1 | h1)
    · simp at h1
    · simp at h1
    · exact absurd h1 (by decide)
  have hd : mkD false (farL n) 0 = ⟨false, farL n, 0⟩ := by
    unfold mkD
    rw [if_pos he, m1, if_neg (by simp [farL]), m2]; rfl
  rw [he, hd]
end Go.Proofs.YtcpodagoheopgaaGreatDoor
end
section
/- DecNames: the walk. -/
namespace Go.Proofs.YtcpodagoheopgaaGreatDoor
open Go.RowKit
attribute [local go_sem] bs_size bs_extract bs_get bs_append bs_toList const_get
attribute [local go_sem] sz2 sz3 sz4 sz5 sz6 sz7 sz8
set_option maxHeartbeats 4000000
set_option maxRecDepth 100000
theorem tz_names (w : World) (h : laidMetH Tryz.prog Rows.decNamesRow.laid w) : Tz w := by
  rw [MakeChecks.laidMetH_plain _ _ _ (by kernel_rfl)] at h
  have e : (Rows.decNamesRow.laid : List (String × DataW Unit)) = ("math/bits.deBruijn32tab", Lib.tabData .u8 tzTab) :: ("unicode/utf8.acceptRanges", Rows.laid_unicode_utf8_acceptRanges) :: ("unicode/utf8.first", Rows.laid_unicode_utf8_first) :: [] := by kernel_rfl
  rw [e] at h
  exact tz_met _ w h
attribute [local irreducible] Calls
theorem nm_sh : shfR ⟨false, [49], 1073741824⟩ 1 = ⟨Dc.zero, 4⟩ := by kernel_rfl
theorem nm_rnd : rndR ⟨false, [57, 57], 1073741824⟩ 1 3 = ⟨Dc.zero, false, 4⟩ := by kernel_rfl
theorem nm_r0 : rndR ⟨false, [49], 0⟩ 0 9 = ⟨Dc.zero, false, 101⟩ := by kernel_rfl
theorem nm_r1 : plcR ⟨false, [49], 0⟩ 2001 9 = ⟨Dc.zero, false, 101⟩ := by kernel_rfl
theorem nm_r2 : rndR ⟨false, [49], 0⟩ 2000 5 = ⟨Dc.zero, false, 7⟩ := by kernel_rfl
theorem nm_add2 : addR ⟨false, [49], 65536⟩ ⟨false, [49], 0⟩ = ⟨Dc.zero, 4⟩ := by kernel_rfl
theorem nm_mk : mkD false [49] 1073741824 = ⟨false, [49], 1073741824⟩ ∧ mkE [49] 1073741824 = 0 := ⟨by kernel_rfl, by kernel_rfl⟩
theorem walk_DecNames (w : World) (hL : laidMetH Tryz.prog Rows.decNamesRow.laid w) :
    Calls Tryz.prog 3 #[] w fun e w' => e = .returned (.bool true) ∧ Ext w w' := by
  have HT := Lib.hid (tz_names w hL)
  clear hL
  obtain ⟨L, hLe⟩ : ∃ L, L = farL 65535 := ⟨_, rfl⟩
  have hlen : L.length = 65536 := by rw [hLe]; exact farL_len _ (by decide)
  have k1 : ∀ w, Calls Tryz.prog 9 #[.agg #[.bool false, .string { data := #[49] }, .int .i64 65535], .agg #[.bool false, .string { data := #[49] }, .int .i64 0]] w fun x w' => x = .returned (.tuple #[.agg #[.bool false, .string (bs L), .int .i64 0], .int .i64 0]) ∧ Ext w w' := fun w => by
    have := dadd_any ⟨false, [49], (65535 : Nat)⟩ ⟨false, [49], 0⟩ (by decide) (by decide) w; rw [nm_add 65535 (by decide) (by decide), ← hLe] at this; exact this
  clear hLe
  have k2 : ∀ w, Calls Tryz.prog 9 #[.agg #[.bool false, .string { data := #[49] }, .int .i64 65536], .agg #[.bool false, .string { data := #[49] }, .int .i64 0]] w fun x w' => x = .returned (.tuple #[.agg #[.bool false, .string { data := #[] }, .int .i64 0], .int .i64 4]) ∧ Ext w w' := fun w => by
    have := dadd_any ⟨false, [49], 65536⟩ ⟨false, [49], 0⟩ (by decide) (by decide) w; rw [nm_add2] at this; exact this
  have k3 : ∀ w, Calls Tryz.prog 11 #[.agg #[.bool false, .string { data := #[49] }, .int .i64 1073741824], .int .i64 1] w fun x w' => x = .returned (.tuple #[.agg #[.bool false, .string { data := #[] }, .int .i64 0], .int .i64 4]) ∧ Ext w w' := fun w => by
    have := shift_any ⟨false, [49], 1073741824⟩ 1 (by decide) (by decide) (by decide) w; rw [nm_sh] at this; exact this
  have k4 : ∀ w, Calls Tryz.prog 12 #[.bool false, .string { data := #[49] }, .int .i64 1073741824] w fun x w' => x = .returned (.tuple #[.agg #[.bool false, .string { data := #[49] }, .int .i64 1073741824], .int .i64 0]) ∧ Ext w w' := fun w => by
    have := make_any false [49] 1073741824 (by decide) w; rw [nm_mk.1, nm_mk.2] at this; exact this
  have k5 : ∀ w, Calls Tryz.prog 14 #[.agg #[.bool false, .string { data := #[57, 57] }, .int .i64 1073741824], .int .i64 1, .int .u8 3] w fun x w' => x = .returned (.tuple #[.agg #[.bool false, .string { data := #[] }, .int .i64 0], .bool false, .int .i64 4]) ∧ Ext w w' := fun w => by
    have := round_any ⟨false, [57, 57], 1073741824⟩ 1 3 (by decide) (by decide) (by decide) w; rw [nm_rnd] at this; exact this
  have k6 : ∀ w, Calls Tryz.prog 14 #[.agg #[.bool false, .string { data := #[49] }, .int .i64 0], .int .i64 0, .int .u8 9] w fun x w' => x = .returned (.tuple #[.agg #[.bool false, .string { data := #[] }, .int .i64 0], .bool false, .int .i64 101]) ∧ Ext w w' := fun w => by
    have := round_any ⟨false, [49], 0⟩ 0 9 (by decide) (by decide) (by decide) w; rw [nm_r0] at this; exact this
  have k7 : ∀ w, Calls Tryz.prog 15 #[.agg #[.bool false, .string { data := #[49] }, .int .i64 0], .int .i64 2001, .int .u8 9] w fun x w' => x = .returned (.tuple #[.agg #[.bool false, .string { data := #[] }, .int .i64 0], .bool false, .int .i64 101]) ∧ Ext w w' := fun w => by
    have := places_any ⟨false, [49], 0⟩ 2001 9 (by decide) (by decide) (by decide) w; rw [nm_r1] at this; exact this
  have k8 : ∀ w, Calls Tryz.prog 14 #[.agg #[.bool false, .string { data := #[49] }, .int .i64 0], .int .i64 2000, .int .u8 5] w fun x w' => x = .returned (.tuple #[.agg #[.bool false, .string { data := #[] }, .int .i64 0], .bool false, .int .i64 7]) ∧ Ext w w' := fun w => by
    have := round_any ⟨false, [49], 0⟩ 2000 5 (by decide) (by decide) (by decide) w; rw [nm_r2] at this; exact this
  have c1 : ∀ w, Calls Tryz.prog 17 #[.agg #[.bool false, .string { data := #[49, 48] }, .int .i64 0]] w fun x w' => x = .returned (.int .i64 100) ∧ Ext w w' := fun w => check_any' ⟨false, [49, 48], 0⟩ (by decide) w
  have c2 : ∀ w, Calls Tryz.prog 17 #[.agg #[.bool true, .string { data := #[] }, .int .i64 0]] w fun x w' => x = .returned (.int .i64 0) ∧ Ext w w' := fun w => check_any' ⟨true, [], 0⟩ (by decide) w
  have c3 : ∀ w, Calls Tryz.prog 17 #[.agg #[.bool false, .string { data := #[] }, .int .i64 1]] w fun x w' => x = .returned (.int .i64 100) ∧ Ext w w' := fun w => check_any' ⟨false, [], 1⟩ (by decide) w
  go_enter Tryz.func3, Tryz.ntmps3
  go_wp2_with (first
    | (go_at_call 10; (with_reducible refine (ld_any _ _ _ _).mono ?_); rintro e w1 ⟨rfl, xb1⟩; obtain ⟨xc1, xf1, xl1, xz1⟩ := ext_use xb1; (try simp at xz1))
    | (go_at_call 8; (with_reducible refine (ltwo_any _ _ _ _ _).mono ?_); rintro e w1 ⟨rfl, xb1⟩; obtain ⟨xc1, xf1, xl1, xz1⟩ := ext_use xb1; (try simp at xz1))
    | (go_at_call 13; (with_reducible refine (lthree_any _ _ _ _ _ _).mono ?_); rintro e w1 ⟨rfl, xb1⟩; obtain ⟨xc1, xf1, xl1, xz1⟩ := ext_use xb1; (try simp at xz1))
    | (go_at_call 9; (with_reducible refine (k1 _).mono ?_); rintro e w1 ⟨rfl, xb1⟩; obtain ⟨xc1, xf1, xl1, xz1⟩ := ext_use xb1; (try simp at xz1))
    | (go_at_call 9; (with_reducible refine (k2 _).mono ?_); rintro e w1 ⟨rfl, xb1⟩; obtain ⟨xc1, xf1, xl1, xz1⟩ := ext_use xb1; (try simp at xz1))
    | (go_at_call 11; (with_reducible refine (k3 _).mono ?_); rintro e w1 ⟨rfl, xb1⟩; obtain ⟨xc1, xf1, xl1, xz1⟩ := ext_use xb1; (try simp at xz1))
    | (go_at_call 12; (with_reducible refine (k4 _).mono ?_); rintro e w1 ⟨rfl, xb1⟩; obtain ⟨xc1, xf1, xl1, xz1⟩ := ext_use xb1; (try simp at xz1))
    | (go_at_call 14; (with_reducible refine (k5 _).mono ?_); rintro e w1 ⟨rfl, xb1⟩; obtain ⟨xc1, xf1, xl1, xz1⟩ := ext_use xb1; (try simp at xz1))
    | (go_at_call 14; (with_reducible refine (k6 _).mono ?_); rintro e w1 ⟨rfl, xb1⟩; obtain ⟨xc1, xf1, xl1, xz1⟩ := ext_use xb1; (try simp at xz1))
    | (go_at_call 14; (with_reducible refine (k8 _).mono ?_); rintro e w1 ⟨rfl, xb1⟩; obtain ⟨xc1, xf1, xl1, xz1⟩ := ext_use xb1; (try simp at xz1))
    | (go_at_call 15; (with_reducible refine (k7 _).mono ?_); rintro e w1 ⟨rfl, xb1⟩; obtain ⟨xc1, xf1, xl1, xz1⟩ := ext_use xb1; (try simp at xz1))
    | (go_at_call 16; (with_reducible refine (alive_any _ (HT.out.ext (by (repeat (first | exact ext_refl _ | assumption | refine ext_setCell ?_ (by simp; try omega) _ | refine ext_alloc ?_ _ | refine ext_drew ?_ | refine ext_drewN ?_ _ | refine ext_trans ?_ (Aft.use _) | refine ext_trans ?_ (by assumption)))))).mono ?_); rintro e w1 ⟨rfl, xb1⟩; obtain ⟨xc1, xf1, xl1, xz1⟩ := ext_use xb1; (try simp at xz1))
    | (go_at_call 17; (with_reducible refine (c1 _).mono ?_); rintro e w1 ⟨rfl, xb1⟩; obtain ⟨xc1, xf1, xl1, xz1⟩ := ext_use xb1; (try simp at xz1))
    | (go_at_call 17; (with_reducible refine (c2 _).mono ?_); rintro e w1 ⟨rfl, xb1⟩; obtain ⟨xc1, xf1, xl1, xz1⟩ := ext_use xb1; (try simp at xz1))
    | (go_at_call 17; (with_reducible refine (c3 _).mono ?_); rintro e w1 ⟨rfl, xb1⟩; obtain ⟨xc1, xf1, xl1, xz1⟩ := ext_use xb1; (try simp at xz1))
   )
  refine bodyPost_ret (v := .bool true) ?h rfl ⟨rfl, ?_⟩
  case h => simp [results, Tryz.results3, go_sem]
  repeat (first | exact ext_refl _ | assumption | refine ext_setCell ?_ (by simp; try omega) _ | refine ext_alloc ?_ _ | refine ext_drew ?_ | refine ext_drewN ?_ _ | refine ext_trans ?_ (Aft.use _) | refine ext_trans ?_ (by assumption))
end Go.Proofs.YtcpodagoheopgaaGreatDoor
end
