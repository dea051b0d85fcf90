/- Lemmas of this proof, laid together: AvB, AvC, MarksAcrossW. -/
import Derived.Test.YtebgmicpecekgaaDoorMg15
import Derived.Test.YtebgmicpecekgaaDoorMg18
import Derived.Test.YtebgmicpecekgaaDoorMg16
set_option linter.unusedSimpArgs false
set_option linter.unusedVariables false
section
/- Marks: marks of some places of the world; how many runes a text has. -/
namespace Go.Proofs.YtebgmicpecekgaaDoor
open Go.RowKit
attribute [local go_sem] bs_size bs_extract bs_get bs_append bs_toList const_get
attribute [local irreducible] Calls
set_option maxHeartbeats 4000000
set_option maxRecDepth 100000
theorem rdI_lit {w : World} (xs : List Int) {n : Nat} (hn : n = xs.length) (h0 : n ≤ 1000) {arr : Array Value} (harr : arr.toList = xs.map (fun x => Value.int .i64 x)) (hI : I64 xs) {H : Nat} (hH : H = w.heap.size) : RdI (w.alloc (.cells arr 3)) (some ⟨H, 0, none⟩) n n xs := by
  subst hH hn
  refine ⟨rfl, Nat.le_refl _, by omega, hI, (fun e => by cases e), (fun a e => by cases e; rfl), fun b off e i hi => ?_⟩
  cases e
  refine ⟨by simp, ?_⟩
  have hs : arr.size = xs.length := by rw [← Array.length_toList, harr, List.length_map]
  rw [Nat.zero_add]
  have h2 : arr[i]? = some (.int .i64 xs[i]) := by rw [← Array.getElem?_toList, harr]; simp [hi]
  simp [go_sem, h2]
theorem av_german (w : World) : Calls Tryd.prog 16 #[] w fun e w' => ∃ A, e = .returned (mkV 44 46 45 48 A 1 1) ∧ Ext w w' ∧ Hid (RdI w' A 1 1 [3]) := by
  go_enter Tryd.func16, Tryd.ntmps16
  go_wp2
  refine bodyPost_ret (v := mkV 44 46 45 48 (some ⟨w.heap.size + 1, 0, none⟩) 1 1) ?h rfl ⟨_, rfl, ?_, ?_⟩
  case h => simp [results, Tryd.results16, go_sem]
  · skip
    repeat (first | exact ext_refl _ | assumption | refine ext_setCell ?_ (by simp; try omega) _ | refine ext_alloc ?_ _ | refine ext_drew ?_ | refine ext_drewN ?_ _ | refine ext_trans ?_ (Aft.use _) | refine ext_trans ?_ (by assumption))
  · exact rdI_lit [3] rfl (by decide) rfl (by intro x hx; simp at hx; subst hx; omega) (by simp)
theorem av_indian (w : World) : Calls Tryd.prog 17 #[] w fun e w' => ∃ A, e = .returned (mkV 46 44 8722 2406 A 2 2) ∧ Ext w w' ∧ Hid (RdI w' A 2 2 [3, 2]) := by
  go_enter Tryd.func17, Tryd.ntmps17
  go_wp2
  refine bodyPost_ret (v := mkV 46 44 8722 2406 (some ⟨w.heap.size + 1, 0, none⟩) 2 2) ?h rfl ⟨_, rfl, ?_, ?_⟩
  case h => simp [results, Tryd.results17, go_sem]
  · skip
    repeat (first | exact ext_refl _ | assumption | refine ext_setCell ?_ (by simp; try omega) _ | refine ext_alloc ?_ _ | refine ext_drew ?_ | refine ext_drewN ?_ _ | refine ext_trans ?_ (Aft.use _) | refine ext_trans ?_ (by assumption))
  · exact rdI_lit [3, 2] rfl (by decide) rfl (by intro x hx; simp at hx; rcases hx with rfl | rfl <;> omega) (by simp)
theorem mk_Width (s : ByteArray) (w : World) (hs : s.size < 9223372036854775807) : Calls Tryd.prog 18 #[.string s] w fun e w' => e = .returned (.int .i64 (Lib.runeCount s)) ∧ Ext w w' := by
  have k := Lib.hid (fun w' => Tryd.utf8_RuneCountInString s w' hs)
  go_enter Tryd.func18, Tryd.ntmps18
  go_wp2_with (first
    | (go_at_call 32; (with_reducible refine (k.out _).mono ?_); rintro e w1 ⟨rfl, pos, rfl⟩))
  refine bodyPost_ret (v := .int .i64 ↑(Lib.runeCount s)) ?h rfl ⟨rfl, ?_⟩
  case h => simp [results, Tryd.results18, go_sem]
  unfold World.iter
  repeat (first | exact ext_refl _ | assumption | refine ext_setCell ?_ (by simp; try omega) _ | refine ext_alloc ?_ _ | refine ext_drew ?_ | refine ext_drewN ?_ _ | refine ext_trans ?_ (Aft.use _) | refine ext_trans ?_ (by assumption))
end Go.Proofs.YtebgmicpecekgaaDoor
end
section
/- Marks: alive. -/
namespace Go.Proofs.YtebgmicpecekgaaDoor
open Go.RowKit
attribute [local go_sem] bs_size bs_extract bs_get bs_append bs_toList const_get
attribute [local irreducible] Calls
set_option maxHeartbeats 4000000
set_option maxRecDepth 100000
theorem lw_Take (P G M N : Int) (A : Option Addr) (k c : Nat) (xs : List Int) (l : List UInt8) (w : World) (hL : LwT w) (hA : RdI w A k c xs) :
    Calls Tryd.prog 14 #[mkV P G M N A k c, .string (bs l)] w fun e w' => ∃ v, e = .returned (.tuple #[.string (bs (takeV P G M N xs l).1), v]) ∧ Ext w w' ∧ Hid (ErrIs w' v (takeV P G M N xs l).2.1 (takeV P G M N xs l).2.2) := mk_Take P G M N A k c xs l w hL.tabs hL.sz hA
theorem av_alive (w : World) (hL : LwT w) : Calls Tryd.prog 7 #[] w fun e w' => e = .returned (.bool true) ∧ Ext w w' := by
  have k1 := Lib.hid (fun (A : Option Addr) (w' : World) (hE : Ext w w') (hA : RdI w' A 1 1 [3]) => show Calls Tryd.prog 12 #[mkV 44 46 45 48 A 1 1, .string ⟨#[45, 49, 50, 51, 52, 53, 54, 55, 46, 50, 53]⟩] w' (fun e w'' => ∃ v, e = .returned (.tuple #[.string (bs [45, 49, 46, 50, 51, 52, 46, 53, 54, 55, 44, 50, 53]), v]) ∧ Ext w' w'' ∧ Hid (ErrIs w'' v 0 0)) from by
    have h := mk_Put 44 46 45 48 A 1 1 [3] [45, 49, 50, 51, 52, 53, 54, 55, 46, 50, 53] w'  hA
    rw [av_p1] at h
    exact h)
  have k2 := Lib.hid (fun (A : Option Addr) (w' : World) (hE : Ext w w') (hA : RdI w' A 1 1 [3]) => show Calls Tryd.prog 14 #[mkV 44 46 45 48 A 1 1, .string (bs [45, 49, 46, 50, 51, 52, 46, 53, 54, 55, 44, 50, 53])] w' (fun e w'' => ∃ v, e = .returned (.tuple #[.string (bs [45, 49, 50, 51, 52, 53, 54, 55, 46, 50, 53]), v]) ∧ Ext w' w'' ∧ Hid (ErrIs w'' v 0 0)) from by
    have h := lw_Take 44 46 45 48 A 1 1 [3] [45, 49, 46, 50, 51, 52, 46, 53, 54, 55, 44, 50, 53] w' (hL.ext hE) hA
    rw [av_t1] at h
    exact h)
  have k3 := Lib.hid (fun (A : Option Addr) (w' : World) (hE : Ext w w') (hA : RdI w' A 2 2 [3, 2]) => show Calls Tryd.prog 12 #[mkV 46 44 8722 2406 A 2 2, .string ⟨#[49, 50, 51, 52, 53, 54, 55, 56, 46, 57]⟩] w' (fun e w'' => ∃ v, e = .returned (.tuple #[.string (bs [224, 165, 167, 44, 224, 165, 168, 224, 165, 169, 44, 224, 165, 170, 224, 165, 171, 44, 224, 165, 172, 224, 165, 173, 224, 165, 174, 46, 224, 165, 175]), v]) ∧ Ext w' w'' ∧ Hid (ErrIs w'' v 0 0)) from by
    have h := mk_Put 46 44 8722 2406 A 2 2 [3, 2] [49, 50, 51, 52, 53, 54, 55, 56, 46, 57] w'  hA
    rw [av_p2] at h
    exact h)
  have k4 := Lib.hid (fun (A : Option Addr) (w' : World) (hE : Ext w w') (hA : RdI w' A 1 1 [3]) => show Calls Tryd.prog 14 #[mkV 44 46 45 48 A 1 1, .string ⟨#[49, 46, 50, 51, 52, 46]⟩] w' (fun e w'' => ∃ v, e = .returned (.tuple #[.string (bs []), v]) ∧ Ext w' w'' ∧ Hid (ErrIs w'' v 231 5)) from by
    have h := lw_Take 44 46 45 48 A 1 1 [3] [49, 46, 50, 51, 52, 46] w' (hL.ext hE) hA
    rw [av_t2] at h
    exact h)
  have k5 := Lib.hid (fun (w' : World) => show Calls Tryd.prog 18 #[.string ⟨#[97, 224, 165, 166, 255]⟩] w' (fun e w'' => e = .returned (.int .i64 3) ∧ Ext w' w'') from by
    have h := mk_Width (bs [97, 224, 165, 166, 255]) w' (by decide)
    rw [av_w] at h
    exact h)
  go_enter Tryd.func7, Tryd.ntmps7
  go_upto_region 2 with (first
    | (go_at_call 16; (with_reducible refine (av_german _).mono ?_); rintro e w1 ⟨A1, rfl, hE1, hA1⟩)
    | (go_at_call 12; (with_reducible refine (k1.out A1 _ (hE1) hA1.out).mono ?_); rintro e w2 ⟨v2, rfl, hE2, hV2⟩))
  obtain rfl := errV_no hV2.out
  go_upto_region 3 with (first
    | (go_at_call 16; (with_reducible refine (av_german _).mono ?_); rintro e w3 ⟨A3, rfl, hE3, hA3⟩)
    | (go_at_call 14; (with_reducible refine (k2.out A3 _ (ext_trans hE1 (ext_trans hE2 (hE3))) hA3.out).mono ?_); rintro e w4 ⟨v4, rfl, hE4, hV4⟩))
  obtain rfl := errV_no hV4.out
  go_upto_region 4 with (first
    | (go_at_call 17; (with_reducible refine (av_indian _).mono ?_); rintro e w5 ⟨A5, rfl, hE5, hA5⟩)
    | (go_at_call 12; (with_reducible refine (k3.out A5 _ (ext_trans hE1 (ext_trans hE2 (ext_trans hE3 (ext_trans hE4 (hE5))))) hA5.out).mono ?_); rintro e w6 ⟨v6, rfl, hE6, hV6⟩))
  obtain rfl := errV_no hV6.out
  go_upto_region 5 with (first
    | (go_at_call 16; (with_reducible refine (av_german _).mono ?_); rintro e w7 ⟨A7, rfl, hE7, hA7⟩)
    | (go_at_call 14; (with_reducible refine (k4.out A7 _ (ext_trans hE1 (ext_trans hE2 (ext_trans hE3 (ext_trans hE4 (ext_trans hE5 (ext_trans hE6 (hE7))))))) hA7.out).mono ?_); rintro e w8 ⟨v8, rfl, hE8, hV8⟩))
  have kf := Lib.hid (fa_fault v8 231 5 w8 (hL.ext (ext_trans hE1 (ext_trans hE2 (ext_trans hE3 (ext_trans hE4 (ext_trans hE5 (ext_trans hE6 (ext_trans hE7 (hE8))))))))) hV8.out (by decide))
  obtain ⟨b, rfl, hb⟩ := errV_of hV8.out (by decide)
  go_upto_region 6 with (first
    | (go_at_call 13; (with_reducible refine (kf.out).mono ?_); rintro e w9 ⟨rfl, hE9⟩))
  go_wp2_with (first
    | (go_at_call 18; (with_reducible refine (k5.out _).mono ?_); rintro e w10 ⟨rfl, hE10⟩))
  refine bodyPost_ret (v := .bool true) ?h rfl ⟨rfl, (ext_trans hE1 (ext_trans hE2 (ext_trans hE3 (ext_trans hE4 (ext_trans hE5 (ext_trans hE6 (ext_trans hE7 (ext_trans hE8 ((ext_trans hE9 (ext_trans (ext_alloc (ext_refl _) _) hE10)))))))))))⟩
  case h => simp [results, Tryd.results7, go_sem]
end Go.Proofs.YtebgmicpecekgaaDoor
end
section
/- Marks: from one place's marks to another one's and back: the walk. -/
namespace Go.Proofs.YtebgmicpecekgaaDoor
open Go.RowKit
attribute [local go_sem] bs_size bs_extract bs_get bs_append bs_toList const_get
attribute [local irreducible] Calls
set_option maxHeartbeats 4000000
set_option maxRecDepth 100000
theorem putV_zero (P G M N : Int) (xs : List Int) (l : List UInt8) : (putV P G M N xs l).2.1 = 0 → (putV P G M N xs l).2.2 = 0 := by
  unfold putV
  split
  · intro _; rfl
  · split
    · intro h; simp at h
    · split
      · intro _; rfl
      · intro _; rfl
theorem across_err {P G M N P2 G2 M2 N2 : Int} {xs ys : List Int} {l : List UInt8} (ha : ckv P G M N xs = 0) (hb : ckv P2 G2 M2 N2 ys = 0) (hl : l.length ≤ 3000) {t u : List UInt8} {c d z y : Int} (h1 : putV P G M N xs l = (t, c, z)) (h2 : putV P2 G2 M2 N2 ys l = (u, d, y)) (h : c ≠ 0 ∨ d ≠ 0) :
    (c = d ∧ z = y) ∨ c = 4 ∨ d = 4 := by
  have r1 : rdy P G M N xs l.length = 0 := by unfold rdy; rw [if_neg (fun q => q ha), if_neg (by omega)]
  have r2 : rdy P2 G2 M2 N2 ys l.length = 0 := by unfold rdy; rw [if_neg (fun q => q hb), if_neg (by omega)]
  unfold putV at h1 h2
  rw [if_neg (fun q => q r1)] at h1
  rw [if_neg (fun q => q r2)] at h2
  by_cases hs : 0 ≤ (shpB l).1
  · rw [if_pos hs] at h1 h2
    simp only [Prod.mk.injEq] at h1 h2
    left; omega
  · rw [if_neg hs] at h1 h2
    split at h1
    · simp only [Prod.mk.injEq] at h1; right; left; omega
    · split at h2
      · simp only [Prod.mk.injEq] at h2; right; right; omega
      · simp only [Prod.mk.injEq] at h1 h2; omega
theorem cell_new0 (w : World) (a b : Value) (t : TypeId) : (w.alloc (.cells #[a, b] t)).cell? ⟨w.heap.size, 0, none⟩ = some a := by simp [go_sem]
theorem cell_new1 (w : World) (a b : Value) (t : TypeId) : (w.alloc (.cells #[a, b] t)).cell? ⟨w.heap.size, 1, none⟩ = some b := by simp [go_sem]
theorem lt_new {w w' : World} {o : Obj} (h : Ext (w.alloc o) w') : w.heap.size < w'.heap.size := Nat.lt_of_lt_of_le (by simp) (ext_size h)
theorem errIs_nil (w : World) : ErrIs w .nilIface 0 0 := .inl ⟨rfl, rfl⟩
theorem ac_out (P G M N : Int) (A : Option Addr) (k c : Nat) (P2 G2 M2 N2 : Int) (B : Option Addr) (m d : Nat) (xs ys : List Int) (l : List UInt8) (w : World) (hL : LwT w) (hA : RdI w A k c xs) (hB : RdI w B m d ys) (h : 3000 < l.length ∨ ckv P G M N xs ≠ 0 ∨ ckv P2 G2 M2 N2 ys ≠ 0) :
    Calls Tryd.prog 4 #[mkV P G M N A k c, mkV P2 G2 M2 N2 B m d, .string (bs l)] w fun e w' => e = .returned (.bool true) ∧ Ext w w' := by
  have ka := Lib.hid (fun w' (h : Ext w w') => av_alive w' (hL.ext h))
  have kc := Lib.hid (fun w' (h : Ext w w') => mk_Check P G M N A k c xs w' (hA.ext h))
  have kd := Lib.hid (fun w' (h : Ext w w') => mk_Check P2 G2 M2 N2 B m d ys w' (hB.ext h))
  have e0 : Hid (Ext w ((w.alloc (BoxM P G M N A k c)).alloc (BoxM P2 G2 M2 N2 B m d))) := ext_alloc (ext_alloc (ext_refl w) _) _
  have b1 := Lib.hid (show MkAt ((w.alloc (BoxM P G M N A k c)).alloc (BoxM P2 G2 M2 N2 B m d)) w.heap.size P G M N A k c from (MkAt.made w P G M N A k c).ext (ext_alloc (ext_refl _) _))
  have b2 := Lib.hid (show MkAt ((w.alloc (BoxM P G M N A k c)).alloc (BoxM P2 G2 M2 N2 B m d)) (w.heap.size + 1) P2 G2 M2 N2 B m d from by have := MkAt.made (w.alloc (BoxM P G M N A k c)) P2 G2 M2 N2 B m d; rw [show (w.alloc (BoxM P G M N A k c)).heap.size = w.heap.size + 1 by simp] at this; exact this)
  by_cases h1 : 3000 < l.length
  · have hl2 : (3000 : Int) < (l.length : Int) := by omega
    go_enter Tryd.func4, Tryd.ntmps4
    go_wp2_with (first
      | (go_at_call 7; (with_reducible refine (ka.out _ (by (repeat (first | exact ext_refl _ | assumption | refine ext_setCell ?_ (by simp; try omega) _ | refine ext_alloc ?_ _ | refine ext_drew ?_ | refine ext_drewN ?_ _ | refine ext_trans ?_ (Aft.use _) | refine ext_trans ?_ (by assumption))))).mono ?_); rintro e w1 ⟨rfl, hE1⟩; have hX1 := hE1; obtain ⟨p0, p1, p2, p3, p4, pl⟩ := b1.out.ext hX1; obtain ⟨q0, q1, q2, q3, q4, ql⟩ := b2.out.ext hX1))
    refine bodyPost_ret (v := .bool true) ?h rfl ⟨rfl, ext_trans e0.out hX1⟩
    case h => simp [results, Tryd.results4, go_sem]
  · have hl2 : ¬ (3000 : Int) < (l.length : Int) := by omega
    obtain ⟨ca, hca⟩ : ∃ ca, ckv P G M N xs = ca := ⟨_, rfl⟩
    obtain ⟨cb, hcb⟩ : ∃ cb, ckv P2 G2 M2 N2 ys = cb := ⟨_, rfl⟩
    rw [hca] at kc h
    rw [hcb] at kd h
    clear hca hcb
    by_cases h2 : ca = 0
    · have h3 : cb ≠ 0 := by omega
      have h3' : (cb != 0) = true := by simpa using h3
      subst h2
      clear h h1
      go_enter Tryd.func4, Tryd.ntmps4
      go_wp2_with (first
        | (go_at_call 7; (with_reducible refine (ka.out _ (by (repeat (first | exact ext_refl _ | assumption | refine ext_setCell ?_ (by simp; try omega) _ | refine ext_alloc ?_ _ | refine ext_drew ?_ | refine ext_drewN ?_ _ | refine ext_trans ?_ (Aft.use _) | refine ext_trans ?_ (by assumption))))).mono ?_); rintro e w1 ⟨rfl, hE1⟩; have hX1 := hE1; obtain ⟨p0, p1, p2, p3, p4, pl⟩ := b1.out.ext hX1; obtain ⟨q0, q1, q2, q3, q4, ql⟩ := b2.out.ext hX1)
        | (go_at_call 9; (with_reducible refine (kc.out _ (by (repeat (first | exact ext_refl _ | assumption | refine ext_setCell ?_ (by simp; try omega) _ | refine ext_alloc ?_ _ | refine ext_drew ?_ | refine ext_drewN ?_ _ | refine ext_trans ?_ (Aft.use _) | refine ext_trans ?_ (by assumption))))).mono ?_); rintro e w2 ⟨rfl, hE2⟩; have hX2 := ext_trans hX1 hE2; obtain ⟨p0, p1, p2, p3, p4, pl⟩ := b1.out.ext hX2; obtain ⟨q0, q1, q2, q3, q4, ql⟩ := b2.out.ext hX2)
        | (go_at_call 9; (with_reducible refine (kd.out _ (by (repeat (first | exact ext_refl _ | assumption | refine ext_setCell ?_ (by simp; try omega) _ | refine ext_alloc ?_ _ | refine ext_drew ?_ | refine ext_drewN ?_ _ | refine ext_trans ?_ (Aft.use _) | refine ext_trans ?_ (by assumption))))).mono ?_); rintro e w3 ⟨rfl, hE3⟩; have hX3 := ext_trans hX2 hE3; obtain ⟨p0, p1, p2, p3, p4, pl⟩ := b1.out.ext hX3; obtain ⟨q0, q1, q2, q3, q4, ql⟩ := b2.out.ext hX3))
      refine bodyPost_ret (v := .bool true) ?h rfl ⟨rfl, ext_trans e0.out hX3⟩
      case h => simp [results, Tryd.results4, go_sem]
    · have h2' : (ca != 0) = true := by simpa using h2
      clear h h1
      go_enter Tryd.func4, Tryd.ntmps4
      go_wp2_with (first
        | (go_at_call 7; (with_reducible refine (ka.out _ (by (repeat (first | exact ext_refl _ | assumption | refine ext_setCell ?_ (by simp; try omega) _ | refine ext_alloc ?_ _ | refine ext_drew ?_ | refine ext_drewN ?_ _ | refine ext_trans ?_ (Aft.use _) | refine ext_trans ?_ (by assumption))))).mono ?_); rintro e w1 ⟨rfl, hE1⟩; have hX1 := hE1; obtain ⟨p0, p1, p2, p3, p4, pl⟩ := b1.out.ext hX1; obtain ⟨q0, q1, q2, q3, q4, ql⟩ := b2.out.ext hX1)
        | (go_at_call 9; (with_reducible refine (kc.out _ (by (repeat (first | exact ext_refl _ | assumption | refine ext_setCell ?_ (by simp; try omega) _ | refine ext_alloc ?_ _ | refine ext_drew ?_ | refine ext_drewN ?_ _ | refine ext_trans ?_ (Aft.use _) | refine ext_trans ?_ (by assumption))))).mono ?_); rintro e w2 ⟨rfl, hE2⟩; have hX2 := ext_trans hX1 hE2; obtain ⟨p0, p1, p2, p3, p4, pl⟩ := b1.out.ext hX2; obtain ⟨q0, q1, q2, q3, q4, ql⟩ := b2.out.ext hX2))
      refine bodyPost_ret (v := .bool true) ?h rfl ⟨rfl, ext_trans e0.out hX2⟩
      case h => simp [results, Tryd.results4, go_sem]
theorem ac_err1 (P G M N : Int) (A : Option Addr) (k c : Nat) (P2 G2 M2 N2 : Int) (B : Option Addr) (m d : Nat) (xs ys : List Int) (l : List UInt8) (w : World) (hL : LwT w) (hA : RdI w A k c xs) (hB : RdI w B m d ys) (h1 : l.length ≤ 3000) (h2 : ckv P G M N xs = 0) (h3 : ckv P2 G2 M2 N2 ys = 0) (t u : List UInt8) (ce cf z y : Int) (hp : putV P G M N xs l = (t, ce, z)) (hq : putV P2 G2 M2 N2 ys l = (u, cf, y)) (c0 : ce ≠ 0) (c1 : cf ≠ 0) (he : ce = cf ∧ z = y) :
    Calls Tryd.prog 4 #[mkV P G M N A k c, mkV P2 G2 M2 N2 B m d, .string (bs l)] w fun e w' => e = .returned (.bool true) ∧ Ext w w' := by
  have ka := Lib.hid (fun w' (h : Ext w w') => av_alive w' (hL.ext h))
  have kc := Lib.hid (fun w' (h : Ext w w') => mk_Check P G M N A k c xs w' (hA.ext h))
  have kd := Lib.hid (fun w' (h : Ext w w') => mk_Check P2 G2 M2 N2 B m d ys w' (hB.ext h))
  have kp := Lib.hid (fun w' (h : Ext w w') => mk_Put P G M N A k c xs l w' (hA.ext h))
  have kq := Lib.hid (fun w' (h : Ext w w') => mk_Put P2 G2 M2 N2 B m d ys l w' (hB.ext h))
  have e0 : Hid (Ext w ((w.alloc (BoxM P G M N A k c)).alloc (BoxM P2 G2 M2 N2 B m d))) := ext_alloc (ext_alloc (ext_refl w) _) _
  have b1 := Lib.hid (show MkAt ((w.alloc (BoxM P G M N A k c)).alloc (BoxM P2 G2 M2 N2 B m d)) w.heap.size P G M N A k c from (MkAt.made w P G M N A k c).ext (ext_alloc (ext_refl _) _))
  have b2 := Lib.hid (show MkAt ((w.alloc (BoxM P G M N A k c)).alloc (BoxM P2 G2 M2 N2 B m d)) (w.heap.size + 1) P2 G2 M2 N2 B m d from by have := MkAt.made (w.alloc (BoxM P G M N A k c)) P2 G2 M2 N2 B m d; rw [show (w.alloc (BoxM P G M N A k c)).heap.size = w.heap.size + 1 by simp] at this; exact this)
  have hl2 : ¬ (3000 : Int) < (l.length : Int) := by omega
  rw [h2] at kc
  rw [h3] at kd
  have hz := putV_zero P G M N xs l
  have hy := putV_zero P2 G2 M2 N2 ys l
  rw [hp] at kp hz
  rw [hq] at kq hy
  simp only at kp kq hz hy
  obtain ⟨rfl, rfl⟩ := he
  go_enter Tryd.func4, Tryd.ntmps4
  go_wp2_with (first
    | (go_at_call 7; (with_reducible refine (ka.out _ (by (repeat (first | exact ext_refl _ | assumption | refine ext_setCell ?_ (by simp; try omega) _ | refine ext_alloc ?_ _ | refine ext_drew ?_ | refine ext_drewN ?_ _ | refine ext_trans ?_ (Aft.use _) | refine ext_trans ?_ (by assumption))))).mono ?_); rintro e w1 ⟨rfl, hE1⟩; have hX1 := hE1; obtain ⟨p0, p1, p2, p3, p4, pl⟩ := b1.out.ext hX1; obtain ⟨q0, q1, q2, q3, q4, ql⟩ := b2.out.ext hX1)
    | (go_at_call 9; (with_reducible refine (kc.out _ (by (repeat (first | exact ext_refl _ | assumption | refine ext_setCell ?_ (by simp; try omega) _ | refine ext_alloc ?_ _ | refine ext_drew ?_ | refine ext_drewN ?_ _ | refine ext_trans ?_ (Aft.use _) | refine ext_trans ?_ (by assumption))))).mono ?_); rintro e w2 ⟨rfl, hE2⟩; have hX2 := ext_trans hX1 hE2; obtain ⟨p0, p1, p2, p3, p4, pl⟩ := b1.out.ext hX2; obtain ⟨q0, q1, q2, q3, q4, ql⟩ := b2.out.ext hX2)
    | (go_at_call 9; (with_reducible refine (kd.out _ (by (repeat (first | exact ext_refl _ | assumption | refine ext_setCell ?_ (by simp; try omega) _ | refine ext_alloc ?_ _ | refine ext_drew ?_ | refine ext_drewN ?_ _ | refine ext_trans ?_ (Aft.use _) | refine ext_trans ?_ (by assumption))))).mono ?_); rintro e w3 ⟨rfl, hE3⟩; have hX3 := ext_trans hX2 hE3; obtain ⟨p0, p1, p2, p3, p4, pl⟩ := b1.out.ext hX3; obtain ⟨q0, q1, q2, q3, q4, ql⟩ := b2.out.ext hX3)
    | (go_at_call 12; (with_reducible refine (kp.out _ (by (repeat (first | exact ext_refl _ | assumption | refine ext_setCell ?_ (by simp; try omega) _ | refine ext_alloc ?_ _ | refine ext_drew ?_ | refine ext_drewN ?_ _ | refine ext_trans ?_ (Aft.use _) | refine ext_trans ?_ (by assumption))))).mono ?_); rintro e w4 ⟨v4, rfl, hE4, hV4⟩; have hX4 := ext_trans hX3 hE4; obtain ⟨p0, p1, p2, p3, p4, pl⟩ := b1.out.ext hX4; obtain ⟨q0, q1, q2, q3, q4, ql⟩ := b2.out.ext hX4; obtain ⟨b4, rfl, _⟩ := errV_of hV4.out c0)
    | (go_at_call 12; (with_reducible refine (kq.out _ (by (repeat (first | exact ext_refl _ | assumption | refine ext_setCell ?_ (by simp; try omega) _ | refine ext_alloc ?_ _ | refine ext_drew ?_ | refine ext_drewN ?_ _ | refine ext_trans ?_ (Aft.use _) | refine ext_trans ?_ (by assumption))))).mono ?_); rintro e w5 ⟨v5, rfl, hE5, hV5⟩; have hX5 := ext_trans hX4 hE5; obtain ⟨p0, p1, p2, p3, p4, pl⟩ := b1.out.ext hX5; obtain ⟨q0, q1, q2, q3, q4, ql⟩ := b2.out.ext hX5; obtain ⟨b5, rfl, _⟩ := errV_of hV5.out c1; have hY5 := ext_trans e0.out hX5)
    | (go_at_call 13; (with_reducible refine (fa_fault _ ce z _ (hL.ext (by (repeat (first | exact ext_refl _ | assumption | refine ext_setCell ?_ (by simp; try omega) _ | refine ext_alloc ?_ _ | refine ext_drew ?_ | refine ext_drewN ?_ _ | refine ext_trans ?_ (Aft.use _) | refine ext_trans ?_ (by assumption))))) (hV4.out.ext (by (repeat (first | exact ext_refl _ | assumption | refine ext_setCell ?_ (by simp; try omega) _ | refine ext_alloc ?_ _ | refine ext_drew ?_ | refine ext_drewN ?_ _ | refine ext_trans ?_ (Aft.use _) | refine ext_trans ?_ (by assumption))))) hz).mono ?_); rintro e w6 ⟨rfl, hE6⟩)
    | (go_at_call 13; (with_reducible refine (fa_fault _ ce z _ (hL.ext (by (repeat (first | exact ext_refl _ | assumption | refine ext_setCell ?_ (by simp; try omega) _ | refine ext_alloc ?_ _ | refine ext_drew ?_ | refine ext_drewN ?_ _ | refine ext_trans ?_ (Aft.use _) | refine ext_trans ?_ (by assumption))))) (hV5.out.ext (by (repeat (first | exact ext_refl _ | assumption | refine ext_setCell ?_ (by simp; try omega) _ | refine ext_alloc ?_ _ | refine ext_drew ?_ | refine ext_drewN ?_ _ | refine ext_trans ?_ (Aft.use _) | refine ext_trans ?_ (by assumption))))) hy).mono ?_); rintro e w7 ⟨rfl, hE7⟩; have d0 := (Below.cell (p := ⟨w6.heap.size, 0, none⟩) hE7 (by simp)).trans (cell_new0 w6 _ _ _); have d1 := (Below.cell (p := ⟨w6.heap.size, 1, none⟩) hE7 (by simp)).trans (cell_new1 w6 _ _ _); have ls := lt_new hE7))
  all_goals
    refine bodyPost_ret (v := .bool true) ?h rfl ⟨rfl, ?_⟩
    case h => simp [results, Tryd.results4, go_sem]
    repeat (first | exact ext_refl _ | assumption | refine ext_setCell ?_ (by simp; try omega) _ | refine ext_alloc ?_ _ | refine ext_drew ?_ | refine ext_drewN ?_ _ | refine ext_trans ?_ (Aft.use _) | refine ext_trans ?_ (by assumption))
theorem ac_err2 (P G M N : Int) (A : Option Addr) (k c : Nat) (P2 G2 M2 N2 : Int) (B : Option Addr) (m d : Nat) (xs ys : List Int) (l : List UInt8) (w : World) (hL : LwT w) (hA : RdI w A k c xs) (hB : RdI w B m d ys) (h1 : l.length ≤ 3000) (h2 : ckv P G M N xs = 0) (h3 : ckv P2 G2 M2 N2 ys = 0) (t u : List UInt8) (ce cf z y : Int) (hp : putV P G M N xs l = (t, ce, z)) (hq : putV P2 G2 M2 N2 ys l = (u, cf, y)) (c0 : ce ≠ 0) (c1 : cf ≠ 0) (he : ce = 4) :
    Calls Tryd.prog 4 #[mkV P G M N A k c, mkV P2 G2 M2 N2 B m d, .string (bs l)] w fun e w' => e = .returned (.bool true) ∧ Ext w w' := by
  have ka := Lib.hid (fun w' (h : Ext w w') => av_alive w' (hL.ext h))
  have kc := Lib.hid (fun w' (h : Ext w w') => mk_Check P G M N A k c xs w' (hA.ext h))
  have kd := Lib.hid (fun w' (h : Ext w w') => mk_Check P2 G2 M2 N2 B m d ys w' (hB.ext h))
  have kp := Lib.hid (fun w' (h : Ext w w') => mk_Put P G M N A k c xs l w' (hA.ext h))
  have kq := Lib.hid (fun w' (h : Ext w w') => mk_Put P2 G2 M2 N2 B m d ys l w' (hB.ext h))
  have e0 : Hid (Ext w ((w.alloc (BoxM P G M N A k c)).alloc (BoxM P2 G2 M2 N2 B m d))) := ext_alloc (ext_alloc (ext_refl w) _) _
  have b1 := Lib.hid (show MkAt ((w.alloc (BoxM P G M N A k c)).alloc (BoxM P2 G2 M2 N2 B m d)) w.heap.size P G M N A k c from (MkAt.made w P G M N A k c).ext (ext_alloc (ext_refl _) _))
  have b2 := Lib.hid (show MkAt ((w.alloc (BoxM P G M N A k c)).alloc (BoxM P2 G2 M2 N2 B m d)) (w.heap.size + 1) P2 G2 M2 N2 B m d from by have := MkAt.made (w.alloc (BoxM P G M N A k c)) P2 G2 M2 N2 B m d; rw [show (w.alloc (BoxM P G M N A k c)).heap.size = w.heap.size + 1 by simp] at this; exact this)
  have hl2 : ¬ (3000 : Int) < (l.length : Int) := by omega
  rw [h2] at kc
  rw [h3] at kd
  have hz := putV_zero P G M N xs l
  have hy := putV_zero P2 G2 M2 N2 ys l
  rw [hp] at kp hz
  rw [hq] at kq hy
  simp only at kp kq hz hy
  subst he
  go_enter Tryd.func4, Tryd.ntmps4
  go_wp2_with (first
    | (go_at_call 7; (with_reducible refine (ka.out _ (by (repeat (first | exact ext_refl _ | assumption | refine ext_setCell ?_ (by simp; try omega) _ | refine ext_alloc ?_ _ | refine ext_drew ?_ | refine ext_drewN ?_ _ | refine ext_trans ?_ (Aft.use _) | refine ext_trans ?_ (by assumption))))).mono ?_); rintro e w1 ⟨rfl, hE1⟩; have hX1 := hE1; obtain ⟨p0, p1, p2, p3, p4, pl⟩ := b1.out.ext hX1; obtain ⟨q0, q1, q2, q3, q4, ql⟩ := b2.out.ext hX1)
    | (go_at_call 9; (with_reducible refine (kc.out _ (by (repeat (first | exact ext_refl _ | assumption | refine ext_setCell ?_ (by simp; try omega) _ | refine ext_alloc ?_ _ | refine ext_drew ?_ | refine ext_drewN ?_ _ | refine ext_trans ?_ (Aft.use _) | refine ext_trans ?_ (by assumption))))).mono ?_); rintro e w2 ⟨rfl, hE2⟩; have hX2 := ext_trans hX1 hE2; obtain ⟨p0, p1, p2, p3, p4, pl⟩ := b1.out.ext hX2; obtain ⟨q0, q1, q2, q3, q4, ql⟩ := b2.out.ext hX2)
    | (go_at_call 9; (with_reducible refine (kd.out _ (by (repeat (first | exact ext_refl _ | assumption | refine ext_setCell ?_ (by simp; try omega) _ | refine ext_alloc ?_ _ | refine ext_drew ?_ | refine ext_drewN ?_ _ | refine ext_trans ?_ (Aft.use _) | refine ext_trans ?_ (by assumption))))).mono ?_); rintro e w3 ⟨rfl, hE3⟩; have hX3 := ext_trans hX2 hE3; obtain ⟨p0, p1, p2, p3, p4, pl⟩ := b1.out.ext hX3; obtain ⟨q0, q1, q2, q3, q4, ql⟩ := b2.out.ext hX3)
    | (go_at_call 12; (with_reducible refine (kp.out _ (by (repeat (first | exact ext_refl _ | assumption | refine ext_setCell ?_ (by simp; try omega) _ | refine ext_alloc ?_ _ | refine ext_drew ?_ | refine ext_drewN ?_ _ | refine ext_trans ?_ (Aft.use _) | refine ext_trans ?_ (by assumption))))).mono ?_); rintro e w4 ⟨v4, rfl, hE4, hV4⟩; have hX4 := ext_trans hX3 hE4; obtain ⟨p0, p1, p2, p3, p4, pl⟩ := b1.out.ext hX4; obtain ⟨q0, q1, q2, q3, q4, ql⟩ := b2.out.ext hX4; obtain ⟨b4, rfl, _⟩ := errV_of hV4.out c0)
    | (go_at_call 12; (with_reducible refine (kq.out _ (by (repeat (first | exact ext_refl _ | assumption | refine ext_setCell ?_ (by simp; try omega) _ | refine ext_alloc ?_ _ | refine ext_drew ?_ | refine ext_drewN ?_ _ | refine ext_trans ?_ (Aft.use _) | refine ext_trans ?_ (by assumption))))).mono ?_); rintro e w5 ⟨v5, rfl, hE5, hV5⟩; have hX5 := ext_trans hX4 hE5; obtain ⟨p0, p1, p2, p3, p4, pl⟩ := b1.out.ext hX5; obtain ⟨q0, q1, q2, q3, q4, ql⟩ := b2.out.ext hX5; obtain ⟨b5, rfl, _⟩ := errV_of hV5.out c1; have hY5 := ext_trans e0.out hX5)
    | (go_at_call 13; (with_reducible refine (fa_fault _ 4 z _ (hL.ext (by (repeat (first | exact ext_refl _ | assumption | refine ext_setCell ?_ (by simp; try omega) _ | refine ext_alloc ?_ _ | refine ext_drew ?_ | refine ext_drewN ?_ _ | refine ext_trans ?_ (Aft.use _) | refine ext_trans ?_ (by assumption))))) (hV4.out.ext (by (repeat (first | exact ext_refl _ | assumption | refine ext_setCell ?_ (by simp; try omega) _ | refine ext_alloc ?_ _ | refine ext_drew ?_ | refine ext_drewN ?_ _ | refine ext_trans ?_ (Aft.use _) | refine ext_trans ?_ (by assumption))))) hz).mono ?_); rintro e w6 ⟨rfl, hE6⟩)
    | (go_at_call 13; (with_reducible refine (fa_fault _ cf y _ (hL.ext (by (repeat (first | exact ext_refl _ | assumption | refine ext_setCell ?_ (by simp; try omega) _ | refine ext_alloc ?_ _ | refine ext_drew ?_ | refine ext_drewN ?_ _ | refine ext_trans ?_ (Aft.use _) | refine ext_trans ?_ (by assumption))))) (hV5.out.ext (by (repeat (first | exact ext_refl _ | assumption | refine ext_setCell ?_ (by simp; try omega) _ | refine ext_alloc ?_ _ | refine ext_drew ?_ | refine ext_drewN ?_ _ | refine ext_trans ?_ (Aft.use _) | refine ext_trans ?_ (by assumption))))) hy).mono ?_); rintro e w7 ⟨rfl, hE7⟩; have d0 := (Below.cell (p := ⟨w6.heap.size, 0, none⟩) hE7 (by simp)).trans (cell_new0 w6 _ _ _); have d1 := (Below.cell (p := ⟨w6.heap.size, 1, none⟩) hE7 (by simp)).trans (cell_new1 w6 _ _ _); have ls := lt_new hE7))
  all_goals
    refine bodyPost_ret (v := .bool true) ?h rfl ⟨rfl, ?_⟩
    case h => simp [results, Tryd.results4, go_sem]
    repeat (first | exact ext_refl _ | assumption | refine ext_setCell ?_ (by simp; try omega) _ | refine ext_alloc ?_ _ | refine ext_drew ?_ | refine ext_drewN ?_ _ | refine ext_trans ?_ (Aft.use _) | refine ext_trans ?_ (by assumption))
theorem ac_err3 (P G M N : Int) (A : Option Addr) (k c : Nat) (P2 G2 M2 N2 : Int) (B : Option Addr) (m d : Nat) (xs ys : List Int) (l : List UInt8) (w : World) (hL : LwT w) (hA : RdI w A k c xs) (hB : RdI w B m d ys) (h1 : l.length ≤ 3000) (h2 : ckv P G M N xs = 0) (h3 : ckv P2 G2 M2 N2 ys = 0) (t u : List UInt8) (ce cf z y : Int) (hp : putV P G M N xs l = (t, ce, z)) (hq : putV P2 G2 M2 N2 ys l = (u, cf, y)) (c0 : ce ≠ 0) (c1 : cf ≠ 0) (he : cf = 4) :
    Calls Tryd.prog 4 #[mkV P G M N A k c, mkV P2 G2 M2 N2 B m d, .string (bs l)] w fun e w' => e = .returned (.bool true) ∧ Ext w w' := by
  have ka := Lib.hid (fun w' (h : Ext w w') => av_alive w' (hL.ext h))
  have kc := Lib.hid (fun w' (h : Ext w w') => mk_Check P G M N A k c xs w' (hA.ext h))
  have kd := Lib.hid (fun w' (h : Ext w w') => mk_Check P2 G2 M2 N2 B m d ys w' (hB.ext h))
  have kp := Lib.hid (fun w' (h : Ext w w') => mk_Put P G M N A k c xs l w' (hA.ext h))
  have kq := Lib.hid (fun w' (h : Ext w w') => mk_Put P2 G2 M2 N2 B m d ys l w' (hB.ext h))
  have e0 : Hid (Ext w ((w.alloc (BoxM P G M N A k c)).alloc (BoxM P2 G2 M2 N2 B m d))) := ext_alloc (ext_alloc (ext_refl w) _) _
  have b1 := Lib.hid (show MkAt ((w.alloc (BoxM P G M N A k c)).alloc (BoxM P2 G2 M2 N2 B m d)) w.heap.size P G M N A k c from (MkAt.made w P G M N A k c).ext (ext_alloc (ext_refl _) _))
  have b2 := Lib.hid (show MkAt ((w.alloc (BoxM P G M N A k c)).alloc (BoxM P2 G2 M2 N2 B m d)) (w.heap.size + 1) P2 G2 M2 N2 B m d from by have := MkAt.made (w.alloc (BoxM P G M N A k c)) P2 G2 M2 N2 B m d; rw [show (w.alloc (BoxM P G M N A k c)).heap.size = w.heap.size + 1 by simp] at this; exact this)
  have hl2 : ¬ (3000 : Int) < (l.length : Int) := by omega
  rw [h2] at kc
  rw [h3] at kd
  have hz := putV_zero P G M N xs l
  have hy := putV_zero P2 G2 M2 N2 ys l
  rw [hp] at kp hz
  rw [hq] at kq hy
  simp only at kp kq hz hy
  subst he
  go_enter Tryd.func4, Tryd.ntmps4
  go_wp2_with (first
    | (go_at_call 7; (with_reducible refine (ka.out _ (by (repeat (first | exact ext_refl _ | assumption | refine ext_setCell ?_ (by simp; try omega) _ | refine ext_alloc ?_ _ | refine ext_drew ?_ | refine ext_drewN ?_ _ | refine ext_trans ?_ (Aft.use _) | refine ext_trans ?_ (by assumption))))).mono ?_); rintro e w1 ⟨rfl, hE1⟩; have hX1 := hE1; obtain ⟨p0, p1, p2, p3, p4, pl⟩ := b1.out.ext hX1; obtain ⟨q0, q1, q2, q3, q4, ql⟩ := b2.out.ext hX1)
    | (go_at_call 9; (with_reducible refine (kc.out _ (by (repeat (first | exact ext_refl _ | assumption | refine ext_setCell ?_ (by simp; try omega) _ | refine ext_alloc ?_ _ | refine ext_drew ?_ | refine ext_drewN ?_ _ | refine ext_trans ?_ (Aft.use _) | refine ext_trans ?_ (by assumption))))).mono ?_); rintro e w2 ⟨rfl, hE2⟩; have hX2 := ext_trans hX1 hE2; obtain ⟨p0, p1, p2, p3, p4, pl⟩ := b1.out.ext hX2; obtain ⟨q0, q1, q2, q3, q4, ql⟩ := b2.out.ext hX2)
    | (go_at_call 9; (with_reducible refine (kd.out _ (by (repeat (first | exact ext_refl _ | assumption | refine ext_setCell ?_ (by simp; try omega) _ | refine ext_alloc ?_ _ | refine ext_drew ?_ | refine ext_drewN ?_ _ | refine ext_trans ?_ (Aft.use _) | refine ext_trans ?_ (by assumption))))).mono ?_); rintro e w3 ⟨rfl, hE3⟩; have hX3 := ext_trans hX2 hE3; obtain ⟨p0, p1, p2, p3, p4, pl⟩ := b1.out.ext hX3; obtain ⟨q0, q1, q2, q3, q4, ql⟩ := b2.out.ext hX3)
    | (go_at_call 12; (with_reducible refine (kp.out _ (by (repeat (first | exact ext_refl _ | assumption | refine ext_setCell ?_ (by simp; try omega) _ | refine ext_alloc ?_ _ | refine ext_drew ?_ | refine ext_drewN ?_ _ | refine ext_trans ?_ (Aft.use _) | refine ext_trans ?_ (by assumption))))).mono ?_); rintro e w4 ⟨v4, rfl, hE4, hV4⟩; have hX4 := ext_trans hX3 hE4; obtain ⟨p0, p1, p2, p3, p4, pl⟩ := b1.out.ext hX4; obtain ⟨q0, q1, q2, q3, q4, ql⟩ := b2.out.ext hX4; obtain ⟨b4, rfl, _⟩ := errV_of hV4.out c0)
    | (go_at_call 12; (with_reducible refine (kq.out _ (by (repeat (first | exact ext_refl _ | assumption | refine ext_setCell ?_ (by simp; try omega) _ | refine ext_alloc ?_ _ | refine ext_drew ?_ | refine ext_drewN ?_ _ | refine ext_trans ?_ (Aft.use _) | refine ext_trans ?_ (by assumption))))).mono ?_); rintro e w5 ⟨v5, rfl, hE5, hV5⟩; have hX5 := ext_trans hX4 hE5; obtain ⟨p0, p1, p2, p3, p4, pl⟩ := b1.out.ext hX5; obtain ⟨q0, q1, q2, q3, q4, ql⟩ := b2.out.ext hX5; obtain ⟨b5, rfl, _⟩ := errV_of hV5.out c1; have hY5 := ext_trans e0.out hX5)
    | (go_at_call 13; (with_reducible refine (fa_fault _ ce z _ (hL.ext (by (repeat (first | exact ext_refl _ | assumption | refine ext_setCell ?_ (by simp; try omega) _ | refine ext_alloc ?_ _ | refine ext_drew ?_ | refine ext_drewN ?_ _ | refine ext_trans ?_ (Aft.use _) | refine ext_trans ?_ (by assumption))))) (hV4.out.ext (by (repeat (first | exact ext_refl _ | assumption | refine ext_setCell ?_ (by simp; try omega) _ | refine ext_alloc ?_ _ | refine ext_drew ?_ | refine ext_drewN ?_ _ | refine ext_trans ?_ (Aft.use _) | refine ext_trans ?_ (by assumption))))) hz).mono ?_); rintro e w6 ⟨rfl, hE6⟩)
    | (go_at_call 13; (with_reducible refine (fa_fault _ 4 y _ (hL.ext (by (repeat (first | exact ext_refl _ | assumption | refine ext_setCell ?_ (by simp; try omega) _ | refine ext_alloc ?_ _ | refine ext_drew ?_ | refine ext_drewN ?_ _ | refine ext_trans ?_ (Aft.use _) | refine ext_trans ?_ (by assumption))))) (hV5.out.ext (by (repeat (first | exact ext_refl _ | assumption | refine ext_setCell ?_ (by simp; try omega) _ | refine ext_alloc ?_ _ | refine ext_drew ?_ | refine ext_drewN ?_ _ | refine ext_trans ?_ (Aft.use _) | refine ext_trans ?_ (by assumption))))) hy).mono ?_); rintro e w7 ⟨rfl, hE7⟩; have d0 := (Below.cell (p := ⟨w6.heap.size, 0, none⟩) hE7 (by simp)).trans (cell_new0 w6 _ _ _); have d1 := (Below.cell (p := ⟨w6.heap.size, 1, none⟩) hE7 (by simp)).trans (cell_new1 w6 _ _ _); have ls := lt_new hE7))
  all_goals
    refine bodyPost_ret (v := .bool true) ?h rfl ⟨rfl, ?_⟩
    case h => simp [results, Tryd.results4, go_sem]
    repeat (first | exact ext_refl _ | assumption | refine ext_setCell ?_ (by simp; try omega) _ | refine ext_alloc ?_ _ | refine ext_drew ?_ | refine ext_drewN ?_ _ | refine ext_trans ?_ (Aft.use _) | refine ext_trans ?_ (by assumption))
theorem ac_err4 (P G M N : Int) (A : Option Addr) (k c : Nat) (P2 G2 M2 N2 : Int) (B : Option Addr) (m d : Nat) (xs ys : List Int) (l : List UInt8) (w : World) (hL : LwT w) (hA : RdI w A k c xs) (hB : RdI w B m d ys) (h1 : l.length ≤ 3000) (h2 : ckv P G M N xs = 0) (h3 : ckv P2 G2 M2 N2 ys = 0) (t u : List UInt8) (ce cf z y : Int) (hp : putV P G M N xs l = (t, ce, z)) (hq : putV P2 G2 M2 N2 ys l = (u, cf, y)) (c0 : ce ≠ 0) (c1 : cf = 0) (he : ce = 4) :
    Calls Tryd.prog 4 #[mkV P G M N A k c, mkV P2 G2 M2 N2 B m d, .string (bs l)] w fun e w' => e = .returned (.bool true) ∧ Ext w w' := by
  have ka := Lib.hid (fun w' (h : Ext w w') => av_alive w' (hL.ext h))
  have kc := Lib.hid (fun w' (h : Ext w w') => mk_Check P G M N A k c xs w' (hA.ext h))
  have kd := Lib.hid (fun w' (h : Ext w w') => mk_Check P2 G2 M2 N2 B m d ys w' (hB.ext h))
  have kp := Lib.hid (fun w' (h : Ext w w') => mk_Put P G M N A k c xs l w' (hA.ext h))
  have kq := Lib.hid (fun w' (h : Ext w w') => mk_Put P2 G2 M2 N2 B m d ys l w' (hB.ext h))
  have e0 : Hid (Ext w ((w.alloc (BoxM P G M N A k c)).alloc (BoxM P2 G2 M2 N2 B m d))) := ext_alloc (ext_alloc (ext_refl w) _) _
  have b1 := Lib.hid (show MkAt ((w.alloc (BoxM P G M N A k c)).alloc (BoxM P2 G2 M2 N2 B m d)) w.heap.size P G M N A k c from (MkAt.made w P G M N A k c).ext (ext_alloc (ext_refl _) _))
  have b2 := Lib.hid (show MkAt ((w.alloc (BoxM P G M N A k c)).alloc (BoxM P2 G2 M2 N2 B m d)) (w.heap.size + 1) P2 G2 M2 N2 B m d from by have := MkAt.made (w.alloc (BoxM P G M N A k c)) P2 G2 M2 N2 B m d; rw [show (w.alloc (BoxM P G M N A k c)).heap.size = w.heap.size + 1 by simp] at this; exact this)
  have hl2 : ¬ (3000 : Int) < (l.length : Int) := by omega
  rw [h2] at kc
  rw [h3] at kd
  have hz := putV_zero P G M N xs l
  have hy := putV_zero P2 G2 M2 N2 ys l
  rw [hp] at kp hz
  rw [hq] at kq hy
  simp only at kp kq hz hy
  subst he c1
  obtain rfl := hy rfl
  go_enter Tryd.func4, Tryd.ntmps4
  go_wp2_with (first
    | (go_at_call 7; (with_reducible refine (ka.out _ (by (repeat (first | exact ext_refl _ | assumption | refine ext_setCell ?_ (by simp; try omega) _ | refine ext_alloc ?_ _ | refine ext_drew ?_ | refine ext_drewN ?_ _ | refine ext_trans ?_ (Aft.use _) | refine ext_trans ?_ (by assumption))))).mono ?_); rintro e w1 ⟨rfl, hE1⟩; have hX1 := hE1; obtain ⟨p0, p1, p2, p3, p4, pl⟩ := b1.out.ext hX1; obtain ⟨q0, q1, q2, q3, q4, ql⟩ := b2.out.ext hX1)
    | (go_at_call 9; (with_reducible refine (kc.out _ (by (repeat (first | exact ext_refl _ | assumption | refine ext_setCell ?_ (by simp; try omega) _ | refine ext_alloc ?_ _ | refine ext_drew ?_ | refine ext_drewN ?_ _ | refine ext_trans ?_ (Aft.use _) | refine ext_trans ?_ (by assumption))))).mono ?_); rintro e w2 ⟨rfl, hE2⟩; have hX2 := ext_trans hX1 hE2; obtain ⟨p0, p1, p2, p3, p4, pl⟩ := b1.out.ext hX2; obtain ⟨q0, q1, q2, q3, q4, ql⟩ := b2.out.ext hX2)
    | (go_at_call 9; (with_reducible refine (kd.out _ (by (repeat (first | exact ext_refl _ | assumption | refine ext_setCell ?_ (by simp; try omega) _ | refine ext_alloc ?_ _ | refine ext_drew ?_ | refine ext_drewN ?_ _ | refine ext_trans ?_ (Aft.use _) | refine ext_trans ?_ (by assumption))))).mono ?_); rintro e w3 ⟨rfl, hE3⟩; have hX3 := ext_trans hX2 hE3; obtain ⟨p0, p1, p2, p3, p4, pl⟩ := b1.out.ext hX3; obtain ⟨q0, q1, q2, q3, q4, ql⟩ := b2.out.ext hX3)
    | (go_at_call 12; (with_reducible refine (kp.out _ (by (repeat (first | exact ext_refl _ | assumption | refine ext_setCell ?_ (by simp; try omega) _ | refine ext_alloc ?_ _ | refine ext_drew ?_ | refine ext_drewN ?_ _ | refine ext_trans ?_ (Aft.use _) | refine ext_trans ?_ (by assumption))))).mono ?_); rintro e w4 ⟨v4, rfl, hE4, hV4⟩; have hX4 := ext_trans hX3 hE4; obtain ⟨p0, p1, p2, p3, p4, pl⟩ := b1.out.ext hX4; obtain ⟨q0, q1, q2, q3, q4, ql⟩ := b2.out.ext hX4; obtain ⟨b4, rfl, _⟩ := errV_of hV4.out c0)
    | (go_at_call 12; (with_reducible refine (kq.out _ (by (repeat (first | exact ext_refl _ | assumption | refine ext_setCell ?_ (by simp; try omega) _ | refine ext_alloc ?_ _ | refine ext_drew ?_ | refine ext_drewN ?_ _ | refine ext_trans ?_ (Aft.use _) | refine ext_trans ?_ (by assumption))))).mono ?_); rintro e w5 ⟨v5, rfl, hE5, hV5⟩; have hX5 := ext_trans hX4 hE5; obtain ⟨p0, p1, p2, p3, p4, pl⟩ := b1.out.ext hX5; obtain ⟨q0, q1, q2, q3, q4, ql⟩ := b2.out.ext hX5; obtain rfl := errV_no hV5.out; have hY5 := ext_trans e0.out hX5)
    | (go_at_call 13; (with_reducible refine (fa_fault _ 4 z _ (hL.ext (by (repeat (first | exact ext_refl _ | assumption | refine ext_setCell ?_ (by simp; try omega) _ | refine ext_alloc ?_ _ | refine ext_drew ?_ | refine ext_drewN ?_ _ | refine ext_trans ?_ (Aft.use _) | refine ext_trans ?_ (by assumption))))) (hV4.out.ext (by (repeat (first | exact ext_refl _ | assumption | refine ext_setCell ?_ (by simp; try omega) _ | refine ext_alloc ?_ _ | refine ext_drew ?_ | refine ext_drewN ?_ _ | refine ext_trans ?_ (Aft.use _) | refine ext_trans ?_ (by assumption))))) hz).mono ?_); rintro e w6 ⟨rfl, hE6⟩)
    | (go_at_call 13; (with_reducible refine (fa_fault _ 0 0 _ (hL.ext (by (repeat (first | exact ext_refl _ | assumption | refine ext_setCell ?_ (by simp; try omega) _ | refine ext_alloc ?_ _ | refine ext_drew ?_ | refine ext_drewN ?_ _ | refine ext_trans ?_ (Aft.use _) | refine ext_trans ?_ (by assumption))))) (errIs_nil _) (fun _ => rfl)).mono ?_); rintro e w7 ⟨rfl, hE7⟩; have d0 := (Below.cell (p := ⟨w6.heap.size, 0, none⟩) hE7 (by simp)).trans (cell_new0 w6 _ _ _); have d1 := (Below.cell (p := ⟨w6.heap.size, 1, none⟩) hE7 (by simp)).trans (cell_new1 w6 _ _ _); have ls := lt_new hE7))
  all_goals
    refine bodyPost_ret (v := .bool true) ?h rfl ⟨rfl, ?_⟩
    case h => simp [results, Tryd.results4, go_sem]
    repeat (first | exact ext_refl _ | assumption | refine ext_setCell ?_ (by simp; try omega) _ | refine ext_alloc ?_ _ | refine ext_drew ?_ | refine ext_drewN ?_ _ | refine ext_trans ?_ (Aft.use _) | refine ext_trans ?_ (by assumption))
theorem ac_err5 (P G M N : Int) (A : Option Addr) (k c : Nat) (P2 G2 M2 N2 : Int) (B : Option Addr) (m d : Nat) (xs ys : List Int) (l : List UInt8) (w : World) (hL : LwT w) (hA : RdI w A k c xs) (hB : RdI w B m d ys) (h1 : l.length ≤ 3000) (h2 : ckv P G M N xs = 0) (h3 : ckv P2 G2 M2 N2 ys = 0) (t u : List UInt8) (ce cf z y : Int) (hp : putV P G M N xs l = (t, ce, z)) (hq : putV P2 G2 M2 N2 ys l = (u, cf, y)) (c0 : ce = 0) (c1 : cf ≠ 0) (he : cf = 4) :
    Calls Tryd.prog 4 #[mkV P G M N A k c, mkV P2 G2 M2 N2 B m d, .string (bs l)] w fun e w' => e = .returned (.bool true) ∧ Ext w w' := by
  have ka := Lib.hid (fun w' (h : Ext w w') => av_alive w' (hL.ext h))
  have kc := Lib.hid (fun w' (h : Ext w w') => mk_Check P G M N A k c xs w' (hA.ext h))
  have kd := Lib.hid (fun w' (h : Ext w w') => mk_Check P2 G2 M2 N2 B m d ys w' (hB.ext h))
  have kp := Lib.hid (fun w' (h : Ext w w') => mk_Put P G M N A k c xs l w' (hA.ext h))
  have kq := Lib.hid (fun w' (h : Ext w w') => mk_Put P2 G2 M2 N2 B m d ys l w' (hB.ext h))
  have e0 : Hid (Ext w ((w.alloc (BoxM P G M N A k c)).alloc (BoxM P2 G2 M2 N2 B m d))) := ext_alloc (ext_alloc (ext_refl w) _) _
  have b1 := Lib.hid (show MkAt ((w.alloc (BoxM P G M N A k c)).alloc (BoxM P2 G2 M2 N2 B m d)) w.heap.size P G M N A k c from (MkAt.made w P G M N A k c).ext (ext_alloc (ext_refl _) _))
  have b2 := Lib.hid (show MkAt ((w.alloc (BoxM P G M N A k c)).alloc (BoxM P2 G2 M2 N2 B m d)) (w.heap.size + 1) P2 G2 M2 N2 B m d from by have := MkAt.made (w.alloc (BoxM P G M N A k c)) P2 G2 M2 N2 B m d; rw [show (w.alloc (BoxM P G M N A k c)).heap.size = w.heap.size + 1 by simp] at this; exact this)
  have hl2 : ¬ (3000 : Int) < (l.length : Int) := by omega
  rw [h2] at kc
  rw [h3] at kd
  have hz := putV_zero P G M N xs l
  have hy := putV_zero P2 G2 M2 N2 ys l
  rw [hp] at kp hz
  rw [hq] at kq hy
  simp only at kp kq hz hy
  subst he c0
  obtain rfl := hz rfl
  go_enter Tryd.func4, Tryd.ntmps4
  go_wp2_with (first
    | (go_at_call 7; (with_reducible refine (ka.out _ (by (repeat (first | exact ext_refl _ | assumption | refine ext_setCell ?_ (by simp; try omega) _ | refine ext_alloc ?_ _ | refine ext_drew ?_ | refine ext_drewN ?_ _ | refine ext_trans ?_ (Aft.use _) | refine ext_trans ?_ (by assumption))))).mono ?_); rintro e w1 ⟨rfl, hE1⟩; have hX1 := hE1; obtain ⟨p0, p1, p2, p3, p4, pl⟩ := b1.out.ext hX1; obtain ⟨q0, q1, q2, q3, q4, ql⟩ := b2.out.ext hX1)
    | (go_at_call 9; (with_reducible refine (kc.out _ (by (repeat (first | exact ext_refl _ | assumption | refine ext_setCell ?_ (by simp; try omega) _ | refine ext_alloc ?_ _ | refine ext_drew ?_ | refine ext_drewN ?_ _ | refine ext_trans ?_ (Aft.use _) | refine ext_trans ?_ (by assumption))))).mono ?_); rintro e w2 ⟨rfl, hE2⟩; have hX2 := ext_trans hX1 hE2; obtain ⟨p0, p1, p2, p3, p4, pl⟩ := b1.out.ext hX2; obtain ⟨q0, q1, q2, q3, q4, ql⟩ := b2.out.ext hX2)
    | (go_at_call 9; (with_reducible refine (kd.out _ (by (repeat (first | exact ext_refl _ | assumption | refine ext_setCell ?_ (by simp; try omega) _ | refine ext_alloc ?_ _ | refine ext_drew ?_ | refine ext_drewN ?_ _ | refine ext_trans ?_ (Aft.use _) | refine ext_trans ?_ (by assumption))))).mono ?_); rintro e w3 ⟨rfl, hE3⟩; have hX3 := ext_trans hX2 hE3; obtain ⟨p0, p1, p2, p3, p4, pl⟩ := b1.out.ext hX3; obtain ⟨q0, q1, q2, q3, q4, ql⟩ := b2.out.ext hX3)
    | (go_at_call 12; (with_reducible refine (kp.out _ (by (repeat (first | exact ext_refl _ | assumption | refine ext_setCell ?_ (by simp; try omega) _ | refine ext_alloc ?_ _ | refine ext_drew ?_ | refine ext_drewN ?_ _ | refine ext_trans ?_ (Aft.use _) | refine ext_trans ?_ (by assumption))))).mono ?_); rintro e w4 ⟨v4, rfl, hE4, hV4⟩; have hX4 := ext_trans hX3 hE4; obtain ⟨p0, p1, p2, p3, p4, pl⟩ := b1.out.ext hX4; obtain ⟨q0, q1, q2, q3, q4, ql⟩ := b2.out.ext hX4; obtain rfl := errV_no hV4.out)
    | (go_at_call 12; (with_reducible refine (kq.out _ (by (repeat (first | exact ext_refl _ | assumption | refine ext_setCell ?_ (by simp; try omega) _ | refine ext_alloc ?_ _ | refine ext_drew ?_ | refine ext_drewN ?_ _ | refine ext_trans ?_ (Aft.use _) | refine ext_trans ?_ (by assumption))))).mono ?_); rintro e w5 ⟨v5, rfl, hE5, hV5⟩; have hX5 := ext_trans hX4 hE5; obtain ⟨p0, p1, p2, p3, p4, pl⟩ := b1.out.ext hX5; obtain ⟨q0, q1, q2, q3, q4, ql⟩ := b2.out.ext hX5; obtain ⟨b5, rfl, _⟩ := errV_of hV5.out c1; have hY5 := ext_trans e0.out hX5)
    | (go_at_call 13; (with_reducible refine (fa_fault _ 0 0 _ (hL.ext (by (repeat (first | exact ext_refl _ | assumption | refine ext_setCell ?_ (by simp; try omega) _ | refine ext_alloc ?_ _ | refine ext_drew ?_ | refine ext_drewN ?_ _ | refine ext_trans ?_ (Aft.use _) | refine ext_trans ?_ (by assumption))))) (errIs_nil _) (fun _ => rfl)).mono ?_); rintro e w6 ⟨rfl, hE6⟩)
    | (go_at_call 13; (with_reducible refine (fa_fault _ 4 y _ (hL.ext (by (repeat (first | exact ext_refl _ | assumption | refine ext_setCell ?_ (by simp; try omega) _ | refine ext_alloc ?_ _ | refine ext_drew ?_ | refine ext_drewN ?_ _ | refine ext_trans ?_ (Aft.use _) | refine ext_trans ?_ (by assumption))))) (hV5.out.ext (by (repeat (first | exact ext_refl _ | assumption | refine ext_setCell ?_ (by simp; try omega) _ | refine ext_alloc ?_ _ | refine ext_drew ?_ | refine ext_drewN ?_ _ | refine ext_trans ?_ (Aft.use _) | refine ext_trans ?_ (by assumption))))) hy).mono ?_); rintro e w7 ⟨rfl, hE7⟩; have d0 := (Below.cell (p := ⟨w6.heap.size, 0, none⟩) hE7 (by simp)).trans (cell_new0 w6 _ _ _); have d1 := (Below.cell (p := ⟨w6.heap.size, 1, none⟩) hE7 (by simp)).trans (cell_new1 w6 _ _ _); have ls := lt_new hE7))
  all_goals
    refine bodyPost_ret (v := .bool true) ?h rfl ⟨rfl, ?_⟩
    case h => simp [results, Tryd.results4, go_sem]
    repeat (first | exact ext_refl _ | assumption | refine ext_setCell ?_ (by simp; try omega) _ | refine ext_alloc ?_ _ | refine ext_drew ?_ | refine ext_drewN ?_ _ | refine ext_trans ?_ (Aft.use _) | refine ext_trans ?_ (by assumption))
theorem ac_good (P G M N : Int) (A : Option Addr) (k c : Nat) (P2 G2 M2 N2 : Int) (B : Option Addr) (m d : Nat) (xs ys : List Int) (l : List UInt8) (w : World) (hL : LwT w) (hA : RdI w A k c xs) (hB : RdI w B m d ys) (h1 : l.length ≤ 3000) (h2 : ckv P G M N xs = 0) (h3 : ckv P2 G2 M2 N2 ys = 0) (t u : List UInt8) (z y : Int) (hp : putV P G M N xs l = (t, 0, z)) (hq : putV P2 G2 M2 N2 ys l = (u, 0, y)) :
    Calls Tryd.prog 4 #[mkV P G M N A k c, mkV P2 G2 M2 N2 B m d, .string (bs l)] w fun e w' => e = .returned (.bool true) ∧ Ext w w' := by
  have ka := Lib.hid (fun w' (h : Ext w w') => av_alive w' (hL.ext h))
  have kc := Lib.hid (fun w' (h : Ext w w') => mk_Check P G M N A k c xs w' (hA.ext h))
  have kd := Lib.hid (fun w' (h : Ext w w') => mk_Check P2 G2 M2 N2 B m d ys w' (hB.ext h))
  have kp := Lib.hid (fun w' (h : Ext w w') => mk_Put P G M N A k c xs l w' (hA.ext h))
  have kq := Lib.hid (fun w' (h : Ext w w') => mk_Put P2 G2 M2 N2 B m d ys l w' (hB.ext h))
  have e0 : Hid (Ext w ((w.alloc (BoxM P G M N A k c)).alloc (BoxM P2 G2 M2 N2 B m d))) := ext_alloc (ext_alloc (ext_refl w) _) _
  have b1 := Lib.hid (show MkAt ((w.alloc (BoxM P G M N A k c)).alloc (BoxM P2 G2 M2 N2 B m d)) w.heap.size P G M N A k c from (MkAt.made w P G M N A k c).ext (ext_alloc (ext_refl _) _))
  have b2 := Lib.hid (show MkAt ((w.alloc (BoxM P G M N A k c)).alloc (BoxM P2 G2 M2 N2 B m d)) (w.heap.size + 1) P2 G2 M2 N2 B m d from by have := MkAt.made (w.alloc (BoxM P G M N A k c)) P2 G2 M2 N2 B m d; rw [show (w.alloc (BoxM P G M N A k c)).heap.size = w.heap.size + 1 by simp] at this; exact this)
  have hl2 : ¬ (3000 : Int) < (l.length : Int) := by omega
  rw [h2] at kc
  rw [h3] at kd
  have hz := putV_zero P G M N xs l
  have hy := putV_zero P2 G2 M2 N2 ys l
  rw [hp] at kp hz
  rw [hq] at kq hy
  simp only at kp kq hz hy
  have kt := Lib.hid (fun w' (h : Ext w w') => lw_Take P G M N A k c xs t w' (hL.ext h) (hA.ext h))
  have ku := Lib.hid (fun w' (h : Ext w w') => lw_Take P2 G2 M2 N2 B m d ys u w' (hL.ext h) (hB.ext h))
  rw [take_put hp] at kt
  rw [take_put hq] at ku
  simp only at kt ku
  go_enter Tryd.func4, Tryd.ntmps4
  go_wp2_with (first
    | (go_at_call 7; (with_reducible refine (ka.out _ (by (repeat (first | exact ext_refl _ | assumption | refine ext_setCell ?_ (by simp; try omega) _ | refine ext_alloc ?_ _ | refine ext_drew ?_ | refine ext_drewN ?_ _ | refine ext_trans ?_ (Aft.use _) | refine ext_trans ?_ (by assumption))))).mono ?_); rintro e w1 ⟨rfl, hE1⟩; have hX1 := hE1; obtain ⟨p0, p1, p2, p3, p4, pl⟩ := b1.out.ext hX1; obtain ⟨q0, q1, q2, q3, q4, ql⟩ := b2.out.ext hX1)
    | (go_at_call 9; (with_reducible refine (kc.out _ (by (repeat (first | exact ext_refl _ | assumption | refine ext_setCell ?_ (by simp; try omega) _ | refine ext_alloc ?_ _ | refine ext_drew ?_ | refine ext_drewN ?_ _ | refine ext_trans ?_ (Aft.use _) | refine ext_trans ?_ (by assumption))))).mono ?_); rintro e w2 ⟨rfl, hE2⟩; have hX2 := ext_trans hX1 hE2; obtain ⟨p0, p1, p2, p3, p4, pl⟩ := b1.out.ext hX2; obtain ⟨q0, q1, q2, q3, q4, ql⟩ := b2.out.ext hX2)
    | (go_at_call 9; (with_reducible refine (kd.out _ (by (repeat (first | exact ext_refl _ | assumption | refine ext_setCell ?_ (by simp; try omega) _ | refine ext_alloc ?_ _ | refine ext_drew ?_ | refine ext_drewN ?_ _ | refine ext_trans ?_ (Aft.use _) | refine ext_trans ?_ (by assumption))))).mono ?_); rintro e w3 ⟨rfl, hE3⟩; have hX3 := ext_trans hX2 hE3; obtain ⟨p0, p1, p2, p3, p4, pl⟩ := b1.out.ext hX3; obtain ⟨q0, q1, q2, q3, q4, ql⟩ := b2.out.ext hX3)
    | (go_at_call 12; (with_reducible refine (kp.out _ (by (repeat (first | exact ext_refl _ | assumption | refine ext_setCell ?_ (by simp; try omega) _ | refine ext_alloc ?_ _ | refine ext_drew ?_ | refine ext_drewN ?_ _ | refine ext_trans ?_ (Aft.use _) | refine ext_trans ?_ (by assumption))))).mono ?_); rintro e w4 ⟨v4, rfl, hE4, hV4⟩; have hX4 := ext_trans hX3 hE4; obtain ⟨p0, p1, p2, p3, p4, pl⟩ := b1.out.ext hX4; obtain ⟨q0, q1, q2, q3, q4, ql⟩ := b2.out.ext hX4; obtain rfl := errV_no hV4.out)
    | (go_at_call 12; (with_reducible refine (kq.out _ (by (repeat (first | exact ext_refl _ | assumption | refine ext_setCell ?_ (by simp; try omega) _ | refine ext_alloc ?_ _ | refine ext_drew ?_ | refine ext_drewN ?_ _ | refine ext_trans ?_ (Aft.use _) | refine ext_trans ?_ (by assumption))))).mono ?_); rintro e w5 ⟨v5, rfl, hE5, hV5⟩; have hX5 := ext_trans hX4 hE5; obtain ⟨p0, p1, p2, p3, p4, pl⟩ := b1.out.ext hX5; obtain ⟨q0, q1, q2, q3, q4, ql⟩ := b2.out.ext hX5; obtain rfl := errV_no hV5.out)
    | (go_at_call 14; (with_reducible refine (kt.out _ (by (repeat (first | exact ext_refl _ | assumption | refine ext_setCell ?_ (by simp; try omega) _ | refine ext_alloc ?_ _ | refine ext_drew ?_ | refine ext_drewN ?_ _ | refine ext_trans ?_ (Aft.use _) | refine ext_trans ?_ (by assumption))))).mono ?_); rintro e w6 ⟨v6, rfl, hE6, hV6⟩; have hX6 := ext_trans hX5 hE6; obtain ⟨p0, p1, p2, p3, p4, pl⟩ := b1.out.ext hX6; obtain ⟨q0, q1, q2, q3, q4, ql⟩ := b2.out.ext hX6; obtain rfl := errV_no hV6.out)
    | (go_at_call 12; (with_reducible refine (kq.out _ (by (repeat (first | exact ext_refl _ | assumption | refine ext_setCell ?_ (by simp; try omega) _ | refine ext_alloc ?_ _ | refine ext_drew ?_ | refine ext_drewN ?_ _ | refine ext_trans ?_ (Aft.use _) | refine ext_trans ?_ (by assumption))))).mono ?_); rintro e w7 ⟨v7, rfl, hE7, hV7⟩; have hX7 := ext_trans hX6 hE7; obtain ⟨p0, p1, p2, p3, p4, pl⟩ := b1.out.ext hX7; obtain ⟨q0, q1, q2, q3, q4, ql⟩ := b2.out.ext hX7; obtain rfl := errV_no hV7.out)
    | (go_at_call 14; (with_reducible refine (ku.out _ (by (repeat (first | exact ext_refl _ | assumption | refine ext_setCell ?_ (by simp; try omega) _ | refine ext_alloc ?_ _ | refine ext_drew ?_ | refine ext_drewN ?_ _ | refine ext_trans ?_ (Aft.use _) | refine ext_trans ?_ (by assumption))))).mono ?_); rintro e w8 ⟨v8, rfl, hE8, hV8⟩; have hX8 := ext_trans hX7 hE8; obtain ⟨p0, p1, p2, p3, p4, pl⟩ := b1.out.ext hX8; obtain ⟨q0, q1, q2, q3, q4, ql⟩ := b2.out.ext hX8; obtain rfl := errV_no hV8.out)
    | (go_at_call 12; (with_reducible refine (kp.out _ (by (repeat (first | exact ext_refl _ | assumption | refine ext_setCell ?_ (by simp; try omega) _ | refine ext_alloc ?_ _ | refine ext_drew ?_ | refine ext_drewN ?_ _ | refine ext_trans ?_ (Aft.use _) | refine ext_trans ?_ (by assumption))))).mono ?_); rintro e w9 ⟨v9, rfl, hE9, hV9⟩; have hX9 := ext_trans hX8 hE9; obtain ⟨p0, p1, p2, p3, p4, pl⟩ := b1.out.ext hX9; obtain ⟨q0, q1, q2, q3, q4, ql⟩ := b2.out.ext hX9; obtain rfl := errV_no hV9.out))
  all_goals
    refine bodyPost_ret (v := .bool true) ?h rfl ⟨rfl, ?_⟩
    case h => simp [results, Tryd.results4, go_sem]
    repeat (first | exact ext_refl _ | assumption | refine ext_setCell ?_ (by simp; try omega) _ | refine ext_alloc ?_ _ | refine ext_drew ?_ | refine ext_drewN ?_ _ | refine ext_trans ?_ (Aft.use _) | refine ext_trans ?_ (by assumption))
theorem walk_MarksAcross (x0 : Int) (x1 : Int) (x2 : Int) (x3 : Int) (x4A : Option Addr) (x4l x4c : Nat) (x4 : List Int) (x5 : Int) (x6 : Int) (x7 : Int) (x8 : Int) (x9A : Option Addr) (x9l x9c : Nat) (x9 : List Int) (x10 : ByteArray) (w : World) (_hx0 : -2147483648 ≤ x0 ∧ x0 ≤ 2147483647) (_hx1 : -2147483648 ≤ x1 ∧ x1 ≤ 2147483647) (_hx2 : -2147483648 ≤ x2 ∧ x2 ≤ 2147483647) (_hx3 : -2147483648 ≤ x3 ∧ x3 ≤ 2147483647) (hx4 : RdI w x4A x4l x4c x4) (_hx5 : -2147483648 ≤ x5 ∧ x5 ≤ 2147483647) (_hx6 : -2147483648 ≤ x6 ∧ x6 ≤ 2147483647) (_hx7 : -2147483648 ≤ x7 ∧ x7 ≤ 2147483647) (_hx8 : -2147483648 ≤ x8 ∧ x8 ≤ 2147483647) (hx9 : RdI w x9A x9l x9c x9) (_hx10 : x10.size ≤ maxLen) (hL : LwT w) :
    Calls Tryd.prog 4 #[.agg #[.int .i32 x0, .int .i32 x1, .int .i32 x2, .int .i32 x3, .slice x4A x4l x4c], .agg #[.int .i32 x5, .int .i32 x6, .int .i32 x7, .int .i32 x8, .slice x9A x9l x9c], .string x10] w fun e w' => e = .returned (.bool true) ∧ Ext w w' := by
  obtain ⟨l, rfl⟩ := bs_of x10
  by_cases h : 3000 < l.length ∨ ckv x0 x1 x2 x3 x4 ≠ 0 ∨ ckv x5 x6 x7 x8 x9 ≠ 0
  · exact ac_out x0 x1 x2 x3 x4A x4l x4c x5 x6 x7 x8 x9A x9l x9c x4 x9 l w hL hx4 hx9 h
  have h1 : l.length ≤ 3000 := by omega
  have h2 : ckv x0 x1 x2 x3 x4 = 0 := by omega
  have h3 : ckv x5 x6 x7 x8 x9 = 0 := by omega
  obtain ⟨t, ce, z, hp⟩ : ∃ t ce z, putV x0 x1 x2 x3 x4 l = (t, ce, z) := ⟨_, _, _, rfl⟩
  obtain ⟨u, cf, y, hq⟩ : ∃ u cf y, putV x5 x6 x7 x8 x9 l = (u, cf, y) := ⟨_, _, _, rfl⟩
  by_cases c0 : ce = 0
  · by_cases c1 : cf = 0
    · subst c0 c1
      exact ac_good x0 x1 x2 x3 x4A x4l x4c x5 x6 x7 x8 x9A x9l x9c x4 x9 l w hL hx4 hx9 h1 h2 h3 t u z y hp hq
    · have he := across_err h2 h3 h1 hp hq (.inr c1)
      exact ac_err5 x0 x1 x2 x3 x4A x4l x4c x5 x6 x7 x8 x9A x9l x9c x4 x9 l w hL hx4 hx9 h1 h2 h3 t u ce cf z y hp hq c0 c1 (by omega)
  · have he := across_err h2 h3 h1 hp hq (.inl c0)
    by_cases c1 : cf = 0
    · exact ac_err4 x0 x1 x2 x3 x4A x4l x4c x5 x6 x7 x8 x9A x9l x9c x4 x9 l w hL hx4 hx9 h1 h2 h3 t u ce cf z y hp hq c0 c1 (by omega)
    · rcases he with he | he | he
      · exact ac_err1 x0 x1 x2 x3 x4A x4l x4c x5 x6 x7 x8 x9A x9l x9c x4 x9 l w hL hx4 hx9 h1 h2 h3 t u ce cf z y hp hq c0 c1 he
      · exact ac_err2 x0 x1 x2 x3 x4A x4l x4c x5 x6 x7 x8 x9A x9l x9c x4 x9 l w hL hx4 hx9 h1 h2 h3 t u ce cf z y hp hq c0 c1 he
      · exact ac_err3 x0 x1 x2 x3 x4A x4l x4c x5 x6 x7 x8 x9A x9l x9c x4 x9 l w hL hx4 hx9 h1 h2 h3 t u ce cf z y hp hq c0 c1 he
end Go.Proofs.YtebgmicpecekgaaDoor
end
