/- Lemmas of this proof, laid together: ParA, ParB, ParC. -/
import Derived.Test.YtkhkoeibpkglkaaGreatDoorMg05
import Derived.Test.YtkhkoeibpkglkaaGreatDoorMg01
import Derived.Test.YtkhkoeibpkglkaaGreatDoorMg24
import Derived.Test.YtkhkoeibpkglkaaGreatDoorMg35
import Derived.Test.YtkhkoeibpkglkaaGreatDoorMg26
import Derived.Test.YtkhkoeibpkglkaaGreatDoorMg17
import Derived.Deep.DeepCutAuto
import Derived.Shelf.Strings.SlTrimAscii
import Derived.Test.YtkhkoeibpkglkaaGreatDoorMg18
import Derived.Test.YtkhkoeibpkglkaaGreatDoorShelf
import Derived.Deep.RegionWith
set_option linter.unusedSimpArgs false
set_option linter.unusedVariables false
section
/- The program's fractions out of texts: digits. -/
namespace Go.Proofs.YtkhkoeibpkglkaaGreatDoor
open Go.RowKit
attribute [local go_sem] bs_size bs_extract bs_get bs_append bs_toList const_get
set_option maxHeartbeats 4000000
set_option maxRecDepth 100000
attribute [local irreducible] Calls
theorem ten_digits (b : UInt8) : [48, 49, 50, 51, 52, 53, 54, 55, 56, 57].contains b = isD b := by
  rw [Bool.eq_iff_iff, List.contains_iff_mem]
  simp only [isD]
  simp only [List.mem_cons, List.not_mem_nil, or_false, ← UInt8.toNat_inj]
  simp
  constructor
  · intro h; omega
  · intro h; omega
theorem trim_digits (l : List UInt8) : Lib.trimLeftS (bs l).data.toList (⟨#[48, 49, 50, 51, 52, 53, 54, 55, 56, 57]⟩ : ByteArray).data.toList = l.dropWhile isD := by
  rw [bs_data]
  show l.dropWhile (fun b => [48, 49, 50, 51, 52, 53, 54, 55, 56, 57].contains b) = _
  congr 1
  funext b
  exact ten_digits b
theorem st_TrimLeft (l : List UInt8) (w : World) :
    Calls Tryz.prog 47 #[.string (bs l), .string ⟨#[48, 49, 50, 51, 52, 53, 54, 55, 56, 57]⟩] w fun e w' => e = .returned (.string (bs (l.dropWhile isD))) ∧ Ext w w' := by
  refine (Any.strings_TrimLeft_laid Tryz.lays161 (by kernel_rfl) (bs l) ⟨#[48, 49, 50, 51, 52, 53, 54, 55, 56, 57]⟩ w (by decide) (ascii_of_all (by decide))).mono ?_
  rintro e w' ⟨rfl, h⟩
  exact ⟨by rw [trim_digits]; rfl, h⟩
theorem drop_while_len (l : List UInt8) : (l.dropWhile isD).length + (l.takeWhile isD).length = l.length := by
  have := congrArg List.length (List.takeWhile_append_dropWhile (p := isD) (l := l))
  rw [List.length_append] at this; omega
theorem ra_digits (l : List UInt8) (hl : l.length ≤ 1000000) (w : World) :
    Calls Tryz.prog 60 #[.string (bs l)] w fun e w' => e = .returned (.int .i64 (l.takeWhile isD).length) ∧ Ext w w' := by
  have h1 := drop_while_len l
  have k1 : ∀ w', Ext w w' → Calls Tryz.prog 47 #[.string (bs l), .string ⟨#[48, 49, 50, 51, 52, 53, 54, 55, 56, 57]⟩] w' fun e w'' => e = .returned (.string (bs (l.dropWhile isD))) ∧ Ext w' w'' := fun w' _ => st_TrimLeft l w'
  go_enter Tryz.func60, Tryz.ntmps60
  go_wp2_with (first
    | (go_at_call 47; (with_reducible refine (k1 _ (by (repeat (first | exact ext_refl _ | assumption | refine ext_setCell ?_ (by simp; try omega) _ | refine ext_alloc ?_ _ | refine ext_drew ?_ | refine ext_drewN ?_ _ | refine ext_trans ?_ (Aft.use _) | refine ext_trans ?_ (by assumption))))).mono ?_); rintro e w1 ⟨rfl, xb1⟩; obtain ⟨xc1, xf1, xl1, xz1⟩ := ext_use xb1; (try simp at xz1))
   )
  have h2 : ((l.length : Nat) : Int) - ((List.dropWhile isD l).length : Nat) = ((List.takeWhile isD l).length : Nat) := by omega
  refine bodyPost_ret (v := .int .i64 ↑(l.takeWhile isD).length) ?h rfl ⟨rfl, ?_⟩
  case h => simp [results, Tryz.results60, go_sem, h2]
  repeat (first | exact ext_refl _ | assumption | refine ext_setCell ?_ (by simp; try omega) _ | refine ext_alloc ?_ _ | refine ext_drew ?_ | refine ext_drewN ?_ _ | refine ext_trans ?_ (Aft.use _) | refine ext_trans ?_ (by assumption))
end Go.Proofs.YtkhkoeibpkglkaaGreatDoor
end
section
/- The program's fractions out of texts: the sign, the first number. -/
namespace Go.Proofs.YtkhkoeibpkglkaaGreatDoor
open Go.RowKit
attribute [local go_sem] bs_size bs_extract bs_get bs_append bs_toList const_get
attribute [local go_sem] sz2 sz3 sz4 sz5 sz6 sz7 sz8
set_option maxHeartbeats 4000000
set_option maxRecDepth 100000
attribute [local irreducible] Calls
/-- A text without its minus. -/
def unm (l : List UInt8) : List UInt8 := if l.head? = some 45 then l.tail else l
theorem unm_eq (l : List UInt8) : Lib.trimPrefix l [45] = unm l := by
  unfold Lib.trimPrefix unm
  cases l with
  | nil => rfl
  | cons x r =>
    by_cases h : x = 45
    · subst h; simp [Lib.hasPrefix]
    · have h2 : ¬ (45 : UInt8) = x := fun e => h e.symm
      simp [Lib.hasPrefix, h, h2]
theorem st_TrimPrefix (l : List UInt8) (w : World) :
    Calls Tryz.prog 59 #[.string (bs l), .string ⟨#[45]⟩] w fun e w' => e = .returned (.string (bs (unm l))) ∧ Ext w w' := by
  refine (Tryz.strings_TrimPrefix (bs l) ⟨#[45]⟩ w).mono ?_
  rintro e w' ⟨rfl, rfl⟩
  refine ⟨?_, ext_refl _⟩
  rw [bs_data, ← unm_eq]
  rfl
end Go.Proofs.YtkhkoeibpkglkaaGreatDoor
end
section
/- The program's fractions out of texts, case by case (written by mkpar.py). -/
namespace Go.Proofs.YtkhkoeibpkglkaaGreatDoor
open Go.RowKit
attribute [local go_sem] bs_size bs_extract bs_get bs_append bs_toList const_get
attribute [local go_sem] sz2 sz3 sz4 sz5 sz6 sz7 sz8
set_option maxHeartbeats 4000000
set_option maxRecDepth 100000
attribute [local irreducible] Calls
/-- A text that is read. -/
abbrev PrPost (w : World) (z : Int) (d : Nat) : Ending → World → Prop := fun e w' => ∃ (A : Option Addr) (n c : Nat) (D : Option Addr) (m k : Nat), e = .returned (.tuple #[ratV (decide (z < 0)) A n c D m k, .int .i64 0, .int .i64 0]) ∧
  Hid (RdO w' A n c (lim z.natAbs) none ∧ Fr w A ∧ RdO w' D m k (lim d) A ∧ Fr w D) ∧ Ext w w'
theorem RatRoom.tch {w w' : World} {g b : Nat} (h : RatRoom w g) (ht : Tch b w w') (hg : g ≠ b) : RatRoom w' g := by
  obtain ⟨h1, ⟨v, h2⟩, h3⟩ := h
  exact ⟨h1.tch ht hg, ⟨v, (ht.cell (p := ⟨g, 2, none⟩) h1.lt hg).trans h2⟩, (ht.frozen (p := ⟨g, 2, none⟩) h1.lt hg).trans h3⟩
theorem RatIs.room {w : World} {g : Nat} {z : Int} {A : Option Addr} {n c d : Nat} {D : Option Addr} {m e : Nat} (h : RatIs w g z A n c d D m e) : RatRoom w g := ⟨h.int.room, ⟨_, h.c2⟩, h.f2⟩
theorem take_dig (u : List UInt8) : digsB (u.takeWhile isD) = true := by
  unfold digsB
  rw [List.all_eq_true]
  intro x hx
  induction u with
  | nil => simp at hx
  | cons a r ih =>
    rw [List.takeWhile_cons] at hx
    by_cases h : isD a = true
    · rw [if_pos h] at hx
      rcases List.mem_cons.1 hx with rfl | hx
      · exact h
      · exact ih hx
    · rw [if_neg h] at hx; simp at hx
/-- A number out of its sign and digits. -/
theorem ra_number (s : Bool) (D : List UInt8) (hd : digsB D = true) (h0 : 0 < D.length) (hl : D.length ≤ 65536) : ∀ b w', Room w' b 0 → Calls Tryz.prog 61 #[.pointer (some ⟨b, 0, none⟩), .string (bs (if s then 45 :: D else D)), .int .i64 10] w' (StrPost w' b (sgn s (dval D))) := by
  intro b w' hr
  cases s with
  | true => exact bi_SetString_neg b D hd h0 (by omega) w' hr
  | false => exact bi_SetString_pos b D hd h0 (by omega) w' hr
theorem ra_Parse_whole (s : Bool) (l u D : List UInt8) (i0 i1 : Nat) (hl : l.length ≤ 65536) (hu : unm l = u) (hi : u.length + i0 = l.length) (hd : l.drop i0 = u) (hD : u.takeWhile isD = D) (h0 : 0 < D.length) (hi1 : i0 + D.length = i1) (ht : l.take i1 = if s then 45 :: D else D)
    (hw : i1 = l.length) (w : World) (hT : Tz w) :
    Calls Tryz.prog 35 #[.string (bs l)] w (PrPost w (sgn s (dval D)) 1) := by
  have k1 : ∀ w', Ext w w' → Calls Tryz.prog 59 #[.string (bs l), .string ⟨#[45]⟩] w' fun e w'' => e = .returned (.string (bs u)) ∧ Ext w' w'' := fun w' _ => by rw [← hu]; exact st_TrimPrefix l w'
  have k2 : ∀ w', Ext w w' → Calls Tryz.prog 60 #[.string (bs u)] w' fun e w'' => e = .returned (.int .i64 D.length) ∧ Ext w' w'' := fun w' _ => by have := ra_digits u (by omega) w'; rwa [hD] at this
  have e0 : ((l.length : Nat) : Int) - ((u.length : Nat) : Int) = (i0 : Nat) := by omega
  have hi0 : i0 ≤ l.length := by omega
  have hDl : D.length ≤ u.length := by have := drop_while_len u; rw [hD] at this; omega
  have hDb : digsB D = true := by rw [← hD]; exact take_dig u
  have e1 : ((i0 : Nat) : Int) + ((D.length : Nat) : Int) = (i1 : Nat) := by omega
  have hne : (((i1 : Nat) : Int) == ((i0 : Nat) : Int)) = false := by simp; omega
  have hne2 : ¬ ((i1 : Nat) : Int) = ((i0 : Nat) : Int) := by omega
  have hil : i1 ≤ l.length := by omega
  have kS := ra_number s D hDb h0 (by omega)
  rw [← ht] at kS
  have hzl : (lim (sgn s (dval D)).natAbs).length ≤ 7000 := by rw [sgn_abs]; have := dval_small hDb (by omega); omega
  have HT := Lib.hid hT
  have HZ := Lib.hid hzl
  have HK := Lib.hid kS
  have hlt : decide (((i1 : Nat) : Int) < ((l.length : Nat) : Int)) = false := decide_eq_false (by omega)
  have hlt2 : ¬ ((i1 : Nat) : Int) < ((l.length : Nat) : Int) := by omega
  clear hw
  clear hu hD hDb ht hT hDl kS hzl
  generalize sgn s (dval D) = z at *
  go_enter Tryz.func35, Tryz.ntmps35
  go_upto_region 7 with (first
    | (go_at_call 59; (with_reducible refine (k1 _ (by (repeat (first | exact ext_refl _ | assumption | refine ext_setCell ?_ (by simp; try omega) _ | refine ext_alloc ?_ _ | refine ext_drew ?_ | refine ext_drewN ?_ _ | refine ext_trans ?_ (Aft.use _) | refine ext_trans ?_ (by assumption))))).mono ?_); rintro e w1 ⟨rfl, xb1⟩; obtain ⟨xc1, xf1, xl1, xz1⟩ := ext_use xb1; (try simp at xz1); obtain ⟨l1_0, gc, gf⟩ := kp xb1 (w.heap.size) (by first | omega | (simp; try omega)); have r1_0 := gc 0; have f1_0 := gf 0; have r1_0_1 := gc 1; have f1_0_1 := gf 1; have r1_0_2 := gc 2; have f1_0_2 := gf 2; clear gc gf)
    | (go_at_call 60; (with_reducible refine (k2 _ (by (repeat (first | exact ext_refl _ | assumption | refine ext_setCell ?_ (by simp; try omega) _ | refine ext_alloc ?_ _ | refine ext_drew ?_ | refine ext_drewN ?_ _ | refine ext_trans ?_ (Aft.use _) | refine ext_trans ?_ (by assumption))))).mono ?_); rintro e w2 ⟨rfl, xb2⟩; obtain ⟨xc2, xf2, xl2, xz2⟩ := ext_use xb2; (try simp at xz2); obtain ⟨l2_0, gc, gf⟩ := kp xb2 (w.heap.size) (by first | omega | (simp; try omega)); have r2_0 := gc 0; have f2_0 := gf 0; have r2_0_1 := gc 1; have f2_0_1 := gf 1; have r2_0_2 := gc 2; have f2_0_2 := gf 2; clear gc gf)
   )
  have hE2 := Lib.hid (ext_trans xb1 xb2)
  have hr1 : Hid (Room ((w2.alloc (Obj.cells #[.bool false, .slice none 0 0, .slice none 0 0] 104)).alloc (Obj.cells #[.bool false, .slice none 0 0] 102)) (w2.heap.size + 1) 0) := by
    have := int_room (w2.alloc (Obj.cells #[.bool false, .slice none 0 0, .slice none 0 0] 104))
    have e0 : (w2.alloc (Obj.cells #[.bool false, .slice none 0 0, .slice none 0 0] 104)).heap.size = w2.heap.size + 1 := by simp
    rw [e0] at this
    exact Lib.hid this
  have hg1 := Lib.hid ((rat_room w2).ext (ext_alloc (ext_refl _) (Obj.cells #[.bool false, .slice none 0 0] 102)))
  have kS1 := HK.out _ _ hr1.out
  have hW3 : ((w2.alloc (Obj.cells #[.bool false, .slice none 0 0, .slice none 0 0] 104)).alloc (Obj.cells #[.bool false, .slice none 0 0] 102)).heap.size = w2.heap.size + 1 + 1 := by simp
  have hX3 := Lib.hid (ext_alloc (ext_alloc (ext_refl w2) (Obj.cells #[.bool false, .slice none 0 0, .slice none 0 0] 104)) (Obj.cells #[.bool false, .slice none 0 0] 102))
  clear xc1 xf1 xl1 xz1 xc2 xf2 xl2 xz2
  go_upto_region 9 with (first
    | (go_at_call 61; (with_reducible refine kS1.mono ?_); rintro e w3 ⟨rfl, A3, n3, c3, hI3, xt3⟩)
   )
  have hO3 : Off A3 n3 w2.heap.size := hI3.out.2.off (by omega) n3
  have hg3 := Lib.hid (hg1.out.tch xt3 (by omega))
  have hn3 : n3 ≤ 7000 := by rw [← hI3.out.1.rd.len]; exact HZ.out
  have kI := br_SetInt w2.heap.size (w2.heap.size + 1) z A3 n3 c3 (by omega) w3 hg3.out hI3.out.1
  have hs3 := xt3.size
  go_upto_region 10 with (first
    | (go_at_call 62; (with_reducible refine kI.mono ?_); rintro e w4 ⟨rfl, A4, n4, c4, D4, m4, k4, hI4, xt4⟩)
   )
  have hN4 := Lib.hid (hI3.out.1.tch xt4 (by omega) hO3)
  have hs4 := xt4.size
  have hE4 := Lib.hid (xt4.ext (xt3.ext hX3.out (by omega)) (Nat.le_refl _))
  have hF4 := Lib.hid (ext_trans hE2.out hE4.out)
  have hR4 := Lib.hid hI4.out.1
  have hsg : w.heap.size < w2.heap.size := by have := hE2.out.size; simp at this; omega
  have hn4 : n4 ≤ 7000 := by rw [← hI4.out.1.int.rd.len]; exact HZ.out
  have hlg : w2.heap.size + 1 < w4.heap.size := by omega
  clear hI4 hI3 xt4 xt3 kI hg3 hg1 hr1 kS1 hX3 hW3 hO3 HK hE2 xb1 xb2 k1 k2 hs3 hs4 r1_0 r1_0_1 r1_0_2 r2_0 r2_0_1 r2_0_2 f1_0 f1_0_1 f1_0_2 f2_0 f2_0_1 f2_0_2
  obtain ⟨z0, z1, z2, y0, y1, y2, zl⟩ := res3 w w4 _ hF4.out
  have kT : Calls Tryz.prog 65 #[.pointer (some ⟨w2.heap.size, 0, none⟩)] w4 (TPost w4 z 1) := by
    have h4 := hR4.out.rd.len
    rw [lim_zero] at h4
    have h5 : (lim (denOf 0)).length = 1 := by kernel_rfl
    exact ra_told_ok w2.heap.size z A4 n4 c4 0 D4 m4 k4 (by omega) (by simp at h4; omega) (by omega) w4 hR4.out
  clear hN4
  go_wp2_with (first
    | (go_at_call 65; (with_reducible refine (kT).mono ?_); rintro e w5 ⟨A5, n5, c5, D5, m5, k5, rfl, hR5, xb5⟩; obtain ⟨xc5, xf5, xl5, xz5⟩ := ext_use xb5; (try simp at xz5); obtain ⟨l5_0, gc, gf⟩ := kp xb5 (w.heap.size) (by first | omega | (simp; try omega)); have r5_0 := gc 0; have f5_0 := gf 0; have r5_0_1 := gc 1; have f5_0_1 := gf 1; have r5_0_2 := gc 2; have f5_0_2 := gf 2; clear gc gf)
   )
  obtain ⟨r0, r1, r2, v0, v1, v2, rl⟩ := res3 w w5 _ (ext_trans hF4.out xb5)
  have hE := Lib.hid (ext_trans (ext_alloc (ext_refl w) (Obj.cells #[.bool false, .slice none 0 0, .slice none 0 0] 33)) (ext_trans hF4.out xb5))
  obtain ⟨q0, q1, q2⟩ := set3 (b := w.heap.size) r0 r1 r2 (.bool (decide (z < 0))) (.slice A5 n5 c5) (.slice D5 m5 k5)
  have hal : Ext (((w5.setCell ⟨w.heap.size, 0, none⟩ (.bool (decide (z < 0)))).setCell ⟨w.heap.size, 1, none⟩ (.slice A5 n5 c5)).setCell ⟨w.heap.size, 2, none⟩ (.slice D5 m5 k5)) ((((w5.setCell ⟨w.heap.size, 0, none⟩ (.bool (decide (z < 0)))).setCell ⟨w.heap.size, 1, none⟩ (.slice A5 n5 c5)).setCell ⟨w.heap.size, 2, none⟩ (.slice D5 m5 k5)).alloc (Obj.cells #[.bool (decide (z < 0)), .slice A5 n5 c5, .slice D5 m5 k5] 33)) := ext_alloc (ext_refl _) _
  have rl' : w.heap.size < (((w5.setCell ⟨w.heap.size, 0, none⟩ (.bool (decide (z < 0)))).setCell ⟨w.heap.size, 1, none⟩ (.slice A5 n5 c5)).setCell ⟨w.heap.size, 2, none⟩ (.slice D5 m5 k5)).heap.size := by simpa using rl
  have q0 := (Below.cell (p := ⟨w.heap.size, 0, none⟩) hal rl').trans q0
  have q1 := (Below.cell (p := ⟨w.heap.size, 1, none⟩) hal rl').trans q1
  have q2 := (Below.cell (p := ⟨w.heap.size, 2, none⟩) hal rl').trans q2
  have n5' : ∀ a, A5 = some a → w.heap.size < a.block := fun a ha => by have := hR5.out.2.1 a ha; omega
  have n6' : ∀ a, D5 = some a → w.heap.size < a.block := fun a ha => by have := hR5.out.2.2.2 a ha; omega
  refine bodyPost_ret (v := .tuple #[ratV (decide (z < 0)) A5 n5 c5 D5 m5 k5, .int .i64 0, .int .i64 0]) ?h rfl ⟨A5, n5, c5, D5, m5, k5, rfl, ⟨(hR5.out.1.set3 n5' _ _ _).ext hal, fun a ha => Nat.le_of_lt (n5' a ha), (hR5.out.2.2.1.set3 n6' _ _ _).ext hal, fun a ha => Nat.le_of_lt (n6' a ha)⟩, ext_trans (ext_set3 hE.out (Nat.le_refl _) _ _ _) hal⟩
  case h => simp [results, Tryz.results35, go_sem, q0, q1, q2]
end Go.Proofs.YtkhkoeibpkglkaaGreatDoor
end
