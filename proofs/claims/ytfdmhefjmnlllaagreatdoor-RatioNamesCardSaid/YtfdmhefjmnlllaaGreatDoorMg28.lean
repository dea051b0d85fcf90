/- Lemmas of this proof, laid together: ParA, ParB, ParC, ParD, FieP, SamA, SamB, SamC, SamD, ParE, ParF, SamE, FieQ, RatR, D2A, D2C, D2D, D2E, D2B, D2P1, D2P2, D2P3, D2P4, D2P5, D2P6, D2P7, D2P8, SclA, SclB, SclC, SclD, SamF. -/
import Derived.Test.YtfdmhefjmnlllaaGreatDoorMg05
import Derived.Test.YtfdmhefjmnlllaaGreatDoorMg01
import Derived.Test.YtfdmhefjmnlllaaGreatDoorMg23
import Derived.Test.YtfdmhefjmnlllaaGreatDoorMg25
import Derived.Test.YtfdmhefjmnlllaaGreatDoorMg27
import Derived.Test.YtfdmhefjmnlllaaGreatDoorMg21
import Derived.Deep.DeepCutAuto
import Derived.Shelf.Strings.SlTrimAscii
import Derived.Test.YtfdmhefjmnlllaaGreatDoorShelf
import Derived.Deep.RegionWith
import Derived.Test.YtfdmhefjmnlllaaGreatDoorMg22
import Derived.Test.YtfdmhefjmnlllaaGreatDoorMg26
import Derived.Test.YtfdmhefjmnlllaaGreatDoorMg07
import Derived.Deep.LoopGhost
import Derived.Test.YtfdmhefjmnlllaaGreatDoorMg03
import Derived.Test.YtfdmhefjmnlllaaGreatDoorMg20
import Derived.Test.YtfdmhefjmnlllaaGreatDoorMg08
set_option linter.unusedSimpArgs false
set_option linter.unusedVariables false
section
/- The program's fractions out of texts: digits. -/
namespace Go.Proofs.YtfdmhefjmnlllaaGreatDoor
open Go.RowKit
attribute [local go_sem] bs_size bs_extract bs_get bs_append bs_toList const_get
set_option maxHeartbeats 4000000
set_option maxRecDepth 100000
attribute [local irreducible] Calls
theorem ten_digits (b : UInt8) : [48, 49, 50, 51, 52, 53, 54, 55, 56, 57].contains b = isD b := by
 rw [Bool.eq_iff_iff, List.contains_iff_mem]
 simp only [isD]
 simp only [List.mem_cons, List.not_mem_nil, or_false, ← UInt8.toNat_inj]
 simp
 constructor
 ·intro h; omega
 ·intro h; omega
theorem trim_digits (l : List UInt8) : Lib.trimLeftS (bs l).data.toList (⟨#[48, 49, 50, 51, 52, 53, 54, 55, 56, 57]⟩ : ByteArray).data.toList = l.dropWhile isD := by
 rw [bs_data]
 show l.dropWhile (fun b => [48, 49, 50, 51, 52, 53, 54, 55, 56, 57].contains b) = _
 congr 1
 funext b
 exact ten_digits b
theorem st_TrimLeft (l : List UInt8) (w : World) :
  Calls Tryz.prog 118 #[.string (bs l), .string ⟨#[48, 49, 50, 51, 52, 53, 54, 55, 56, 57]⟩] w fun e w' => e = .returned (.string (bs (l.dropWhile isD))) ∧ Ext w w' := by
 refine (Any.strings_TrimLeft_laid Tryz.lays161 (by kernel_rfl) (bs l) ⟨#[48, 49, 50, 51, 52, 53, 54, 55, 56, 57]⟩ w (by decide) (ascii_of_all (by decide))).mono ?_
 rintro e w' ⟨rfl, h⟩
 exact ⟨by rw [trim_digits]; rfl, h⟩
theorem drop_while_len (l : List UInt8) : (l.dropWhile isD).length + (l.takeWhile isD).length = l.length := by
 have := congrArg List.length (List.takeWhile_append_dropWhile (p := isD) (l := l))
 rw [List.length_append] at this; omega
theorem ra_digits (l : List UInt8) (hl : l.length ≤ 1000000) (w : World) :
  Calls Tryz.prog 74 #[.string (bs l)] w fun e w' => e = .returned (.int .i64 (l.takeWhile isD).length) ∧ Ext w w' := by
 have h1 := drop_while_len l
 have k1 : ∀ w', Ext w w' → Calls Tryz.prog 118 #[.string (bs l), .string ⟨#[48, 49, 50, 51, 52, 53, 54, 55, 56, 57]⟩] w' fun e w'' => e = .returned (.string (bs (l.dropWhile isD))) ∧ Ext w' w'' := fun w' _ => st_TrimLeft l w'
 go_enter Tryz.func74, Tryz.ntmps74
 go_wp2_with (first
  | (go_at_call 118; (with_reducible refine (k1 _ xcl).mono ?_); rintro e w1 ⟨rfl, xb1⟩; obtain ⟨xc1, xf1, xl1, xz1⟩ := jU xb1; (try simp at xz1))
  )
 have h2 : ((l.length : Nat) : Int) - ((List.dropWhile isD l).length : Nat) = ((List.takeWhile isD l).length : Nat) := by omega
 refine bodyPost_ret (v := .int .i64 ↑(l.takeWhile isD).length) ?h rfl ⟨rfl, ?_⟩
 case h => simp [results, Tryz.results74, go_sem, h2]
 exact xcl
end Go.Proofs.YtfdmhefjmnlllaaGreatDoor
end
section
/- The program's fractions out of texts: the sign, the first number. -/
namespace Go.Proofs.YtfdmhefjmnlllaaGreatDoor
open Go.RowKit
attribute [local go_sem] bs_size bs_extract bs_get bs_append bs_toList const_get
attribute [local go_sem] sz2 sz3 sz4 sz5 sz6 sz7 sz8
set_option maxHeartbeats 4000000
set_option maxRecDepth 100000
attribute [local irreducible] Calls
def unm (l : List UInt8) : List UInt8 := if l.head? = some 45 then l.tail else l
theorem unm_eq (l : List UInt8) : Lib.trimPrefix l [45] = unm l := by
 unfold Lib.trimPrefix unm
 cases l with
 | nil => rfl
 | cons x r =>
  by_cases h : x = 45
  ·subst h; simp [Lib.hasPrefix]
  ·have h2 : ¬ (45 : UInt8) = x := fun e => h e.symm
   simp [Lib.hasPrefix, h, h2]
theorem st_TrimPrefix (l : List UInt8) (w : World) :
  Calls Tryz.prog 73 #[.string (bs l), .string ⟨#[45]⟩] w fun e w' => e = .returned (.string (bs (unm l))) ∧ Ext w w' := by
 refine (Tryz.strings_TrimPrefix (bs l) ⟨#[45]⟩ w).mono ?_
 rintro e w' ⟨rfl, rfl⟩
 refine ⟨?_, jR _⟩
 rw [bs_data, ← unm_eq]
 rfl
abbrev NoPost (w : World) (p c : Int) : Ending → World → Prop := fun e w' => e = .returned (.tuple #[ratV false none 0 0 none 0 0, .int .i64 p, .int .i64 c]) ∧ Ext w w'
theorem ra_Parse_long (l : List UInt8) (h1 : 65536 < l.length) (h2 : l.length ≤ 1000000) (w : World) :
  Calls Tryz.prog 28 #[.string (bs l)] w (NoPost w 0 3) := by
 go_enter Tryz.func28, Tryz.ntmps28
 go_wp2
 refine bodyPost_ret (v := .tuple #[ratV false none 0 0 none 0 0, .int .i64 0, .int .i64 3]) ?h rfl ⟨rfl, ?_⟩
 case h => simp [results, Tryz.results28, go_sem]
 exact xcl
theorem ra_Parse_none (l u : List UInt8) (i0 : Nat) (hl : l.length ≤ 65536) (hu : unm l = u) (hi : u.length + i0 = l.length) (hd : l.drop i0 = u) (hz : (u.takeWhile isD).length = 0) (w : World) :
  Calls Tryz.prog 28 #[.string (bs l)] w (NoPost w i0 12) := by
 have k1 : ∀ w', Ext w w' → Calls Tryz.prog 73 #[.string (bs l), .string ⟨#[45]⟩] w' fun e w'' => e = .returned (.string (bs u)) ∧ Ext w' w'' := fun w' _ => by rw [← hu]; exact st_TrimPrefix l w'
 have k2 : ∀ w', Ext w w' → Calls Tryz.prog 74 #[.string (bs u)] w' fun e w'' => e = .returned (.int .i64 0) ∧ Ext w' w'' := fun w' _ => by have := ra_digits u (by omega) w'; rwa [hz] at this
 have e0 : ((l.length : Nat) : Int) - ((u.length : Nat) : Int) = (i0 : Nat) := by omega
 have h0 : i0 ≤ l.length := by omega
 clear hu
 go_enter Tryz.func28, Tryz.ntmps28
 go_wp2_with (first
  | (go_at_call 73; (with_reducible refine (k1 _ xcl).mono ?_); rintro e w1 ⟨rfl, xb1⟩; obtain ⟨xc1, xf1, xl1, xz1⟩ := jU xb1; (try simp at xz1); obtain ⟨l1_0, r1_0, f1_0, r1_0_1, f1_0_1, r1_0_2, f1_0_2⟩ := kq3 xb1 (w.heap.size))
  | (go_at_call 74; (with_reducible refine (k2 _ xcl).mono ?_); rintro e w2 ⟨rfl, xb2⟩; obtain ⟨xc2, xf2, xl2, xz2⟩ := jU xb2; (try simp at xz2); obtain ⟨l2_0, r2_0, f2_0, r2_0_1, f2_0_1, r2_0_2, f2_0_2⟩ := kq3 xb2 (w.heap.size))
  )
 obtain ⟨r0, r1, r2, f0, f1, f2, rl⟩ := res3 w w2 _ (jT xb1 xb2)
 obtain ⟨q0, q1, q2⟩ := set3 (b := w.heap.size) r0 r1 r2 (.bool false) (.slice none 0 0) (.slice none 0 0)
 have hE := jT (jA (jR w) (Obj.cells #[.bool false, .slice none 0 0, .slice none 0 0] 26)) (jT xb1 xb2)
 refine bodyPost_ret (v := .tuple #[ratV false none 0 0 none 0 0, .int .i64 ↑i0, .int .i64 12]) ?h rfl ⟨rfl, ext_set3 hE (Nat.le_refl _) _ _ _⟩
 case h => simp [results, Tryz.results28, go_sem, q0, q1, q2]
end Go.Proofs.YtfdmhefjmnlllaaGreatDoor
end
section
/- The program's fractions out of texts, case by case (written by mkpar.py). -/
namespace Go.Proofs.YtfdmhefjmnlllaaGreatDoor
open Go.RowKit
attribute [local go_sem] bs_size bs_extract bs_get bs_append bs_toList const_get
attribute [local go_sem] sz2 sz3 sz4 sz5 sz6 sz7 sz8
set_option maxHeartbeats 4000000
set_option maxRecDepth 100000
attribute [local irreducible] Calls
abbrev PrPost (w : World) (z : Int) (d : Nat) : Ending → World → Prop := fun e w' => ∃ (A : Option Addr) (n c : Nat) (D : Option Addr) (m k : Nat), e = .returned (.tuple #[ratV (decide (z < 0)) A n c D m k, .int .i64 0, .int .i64 0]) ∧
 Hid (RdO w' A n c (lim z.natAbs) none ∧ Fr w A ∧ RdO w' D m k (lim d) A ∧ Fr w D) ∧ Ext w w'
theorem RatRoom.tch {w w' : World} {g b : Nat} (h : RatRoom w g) (ht : Tch b w w') (hg : g ≠ b) : RatRoom w' g := by
 obtain ⟨h1, ⟨v, h2⟩, h3⟩ := h
 exact ⟨h1.tch ht hg, ⟨v, (ht.cell (p := ⟨g, 2, none⟩) h1.lt hg).trans h2⟩, (ht.frozen (p := ⟨g, 2, none⟩) h1.lt hg).trans h3⟩
theorem RatIs.room {w : World} {g : Nat} {z : Int} {A : Option Addr} {n c d : Nat} {D : Option Addr} {m e : Nat} (h : RatIs w g z A n c d D m e) : RatRoom w g := ⟨h.int.room, ⟨_, h.c2⟩, h.f2⟩
theorem take_dig (u : List UInt8) : digsB (u.takeWhile isD) = true := by
 unfold digsB
 rw [List.all_eq_true]
 intro x hx
 induction u with
 | nil => simp at hx
 | cons a r ih =>
  rw [List.takeWhile_cons] at hx
  by_cases h : isD a = true
  ·rw [if_pos h] at hx
   rcases List.mem_cons.1 hx with rfl | hx
   ·exact h
   ·exact ih hx
  ·rw [if_neg h] at hx; simp at hx
theorem low_can (z : Int) (d : Nat) : lowD z.natAbs d = canW z d := by
 unfold lowD canW canD
 simp only [Int.natAbs_eq_zero]
theorem br_SetFracC (g bx b2 : Nat) (z : Int) (d : Nat) (hd : d ≠ 0) (A : Option Addr) (n c : Nat) (D : Option Addr) (m k : Nat) (hn : n ≤ 400000) (hm : m ≤ 400000) (w : World) (hT : Tz w) (hr : RatRoom w g) (hx : IntIs w bx 0 z A n c) (hyy : IntIs w b2 0 (d : Nat) D m k) :
  Calls Tryz.prog 65 #[.pointer (some ⟨g, 0, none⟩), .pointer (some ⟨bx, 0, none⟩), .pointer (some ⟨b2, 0, none⟩)] w (FPost w g (canN z d) (canW z d)) := by
 have h := br_SetFrac g bx b2 z (d : Nat) (by omega) A n c D m k hn hm w hT hr hx hyy
 rw [Int.natAbs_natCast, low_can] at h
 have e : qneg z (d : Nat) = decide (z < 0) := by
  unfold qneg
  have : decide (((d : Nat) : Int) < 0) = false := decide_eq_false (by omega)
  rw [this]; simp
 rw [e] at h
 exact h
theorem ra_number (s : Bool) (D : List UInt8) (hd : digsB D = true) (h0 : 0 < D.length) (hl : D.length ≤ 65536) : ∀ b w', Room w' b 0 → Calls Tryz.prog 75 #[.pointer (some ⟨b, 0, none⟩), .string (bs (if s then 45 :: D else D)), .int .i64 10] w' (StrPost w' b (sgn s (dval D))) := by
 intro b w' hr
 cases s with
 | true => exact bi_SetString_neg b D hd h0 (by omega) w' hr
 | false => exact bi_SetString_pos b D hd h0 (by omega) w' hr
theorem ra_Parse_whole (s : Bool) (l u D : List UInt8) (i0 i1 : Nat) (hl : l.length ≤ 65536) (hu : unm l = u) (hi : u.length + i0 = l.length) (hd : l.drop i0 = u) (hD : u.takeWhile isD = D) (h0 : 0 < D.length) (hi1 : i0 + D.length = i1) (ht : l.take i1 = if s then 45 :: D else D)
  (hw : i1 = l.length) (w : World) (hT : Tz w) :
  Calls Tryz.prog 28 #[.string (bs l)] w (PrPost w (sgn s (dval D)) 1) := by
 have k1 : ∀ w', Ext w w' → Calls Tryz.prog 73 #[.string (bs l), .string ⟨#[45]⟩] w' fun e w'' => e = .returned (.string (bs u)) ∧ Ext w' w'' := fun w' _ => by rw [← hu]; exact st_TrimPrefix l w'
 have k2 : ∀ w', Ext w w' → Calls Tryz.prog 74 #[.string (bs u)] w' fun e w'' => e = .returned (.int .i64 D.length) ∧ Ext w' w'' := fun w' _ => by have := ra_digits u (by omega) w'; rwa [hD] at this
 have e0 : ((l.length : Nat) : Int) - ((u.length : Nat) : Int) = (i0 : Nat) := by omega
 have hi0 : i0 ≤ l.length := by omega
 have hDl : D.length ≤ u.length := by have := drop_while_len u; rw [hD] at this; omega
 have hDb : digsB D = true := by rw [← hD]; exact take_dig u
 have e1 : ((i0 : Nat) : Int) + ((D.length : Nat) : Int) = (i1 : Nat) := by omega
 have hne : (((i1 : Nat) : Int) == ((i0 : Nat) : Int)) = false := by simp; omega
 have hne2 : ¬ ((i1 : Nat) : Int) = ((i0 : Nat) : Int) := by omega
 have hil : i1 ≤ l.length := by omega
 have kS := ra_number s D hDb h0 (by omega)
 rw [← ht] at kS
 have hzl : (lim (sgn s (dval D)).natAbs).length ≤ 7000 := by rw [sgn_abs]; have := dval_small hDb (by omega); omega
 have HT := Lib.hid hT
 have HZ := Lib.hid hzl
 have HK := Lib.hid kS
 have hlt : decide (((i1 : Nat) : Int) < ((l.length : Nat) : Int)) = false := decide_eq_false (by omega)
 have hlt2 : ¬ ((i1 : Nat) : Int) < ((l.length : Nat) : Int) := by omega
 clear hw
 clear hu hD hDb ht hT hDl kS hzl
 generalize sgn s (dval D) = z at *
 go_enter Tryz.func28, Tryz.ntmps28
 go_upto_region 7 with (first
  | (go_at_call 73; (with_reducible refine (k1 _ xcl).mono ?_); rintro e w1 ⟨rfl, xb1⟩; obtain ⟨xc1, xf1, xl1, xz1⟩ := jU xb1; (try simp at xz1); obtain ⟨l1_0, r1_0, f1_0, r1_0_1, f1_0_1, r1_0_2, f1_0_2⟩ := kq3 xb1 (w.heap.size))
  | (go_at_call 74; (with_reducible refine (k2 _ xcl).mono ?_); rintro e w2 ⟨rfl, xb2⟩; obtain ⟨xc2, xf2, xl2, xz2⟩ := jU xb2; (try simp at xz2); obtain ⟨l2_0, r2_0, f2_0, r2_0_1, f2_0_1, r2_0_2, f2_0_2⟩ := kq3 xb2 (w.heap.size))
  )
 have hE2 := Lib.hid (jT xb1 xb2)
 have hr1 : Hid (Room ((w2.alloc (Obj.cells #[.bool false, .slice none 0 0, .slice none 0 0] 68)).alloc (Obj.cells #[.bool false, .slice none 0 0] 66)) (w2.heap.size + 1) 0) := by
  have := int_room (w2.alloc (Obj.cells #[.bool false, .slice none 0 0, .slice none 0 0] 68))
  have e0 : (w2.alloc (Obj.cells #[.bool false, .slice none 0 0, .slice none 0 0] 68)).heap.size = w2.heap.size + 1 := by simp
  rw [e0] at this
  exact Lib.hid this
 have hg1 := Lib.hid ((rat_room w2).ext (jA (jR _) (Obj.cells #[.bool false, .slice none 0 0] 66)))
 have kS1 := HK.out _ _ hr1.out
 have hW3 : ((w2.alloc (Obj.cells #[.bool false, .slice none 0 0, .slice none 0 0] 68)).alloc (Obj.cells #[.bool false, .slice none 0 0] 66)).heap.size = w2.heap.size + 1 + 1 := by simp
 have hX3 := Lib.hid (jA (jA (jR w2) (Obj.cells #[.bool false, .slice none 0 0, .slice none 0 0] 68)) (Obj.cells #[.bool false, .slice none 0 0] 66))
 clear xc1 xf1 xl1 xz1 xc2 xf2 xl2 xz2
 go_upto_region 9 with (first
  | (go_at_call 75; (with_reducible refine kS1.mono ?_); rintro e w3 ⟨rfl, A3, n3, c3, hI3, xt3⟩)
  )
 have hO3 : Off A3 n3 w2.heap.size := hI3.out.2.off (by omega) n3
 have hg3 := Lib.hid (hg1.out.tch xt3 (by omega))
 have hn3 : n3 ≤ 7000 := by rw [← hI3.out.1.rd.len]; exact HZ.out
 have kI := br_SetInt w2.heap.size (w2.heap.size + 1) z A3 n3 c3 (by omega) w3 hg3.out hI3.out.1
 have hs3 := xt3.size
 go_upto_region 10 with (first
  | (go_at_call 68; (with_reducible refine kI.mono ?_); rintro e w4 ⟨rfl, A4, n4, c4, D4, m4, k4, hI4, xt4⟩)
  )
 have hN4 := Lib.hid (hI3.out.1.tch xt4 (by omega) hO3)
 have hs4 := xt4.size
 have hE4 := Lib.hid (xt4.ext (xt3.ext hX3.out (by omega)) (Nat.le_refl _))
 have hF4 := Lib.hid (jT hE2.out hE4.out)
 have hR4 := Lib.hid hI4.out.1
 have hsg : w.heap.size < w2.heap.size := by have := hE2.out.size; simp at this; omega
 have hn4 : n4 ≤ 7000 := by rw [← hI4.out.1.int.rd.len]; exact HZ.out
 have hlg : w2.heap.size + 1 < w4.heap.size := by omega
 clear hI4 hI3 xt4 xt3 kI hg3 hg1 hr1 kS1 hX3 hW3 hO3 HK hE2 xb1 xb2 k1 k2 hs3 hs4 r1_0 r1_0_1 r1_0_2 r2_0 r2_0_1 r2_0_2 f1_0 f1_0_1 f1_0_2 f2_0 f2_0_1 f2_0_2
 obtain ⟨z0, z1, z2, y0, y1, y2, zl⟩ := res3 w w4 _ hF4.out
 have kT : Calls Tryz.prog 64 #[.pointer (some ⟨w2.heap.size, 0, none⟩)] w4 (TPost w4 z 1) := by
  have h4 := hR4.out.rd.len
  rw [lim_zero] at h4
  have h5 : (lim (denOf 0)).length = 1 := by kernel_rfl
  exact ra_told_ok w2.heap.size z A4 n4 c4 0 D4 m4 k4 (by omega) (by simp at h4; omega) (by omega) w4 hR4.out
 clear hN4
 go_wp2_with (first
  | (go_at_call 64; (with_reducible refine (kT).mono ?_); rintro e w5 ⟨A5, n5, c5, D5, m5, k5, rfl, hR5, xb5⟩; obtain ⟨xc5, xf5, xl5, xz5⟩ := jU xb5; (try simp at xz5); obtain ⟨l5_0, r5_0, f5_0, r5_0_1, f5_0_1, r5_0_2, f5_0_2⟩ := kq3 xb5 (w.heap.size))
  )
 obtain ⟨r0, r1, r2, v0, v1, v2, rl⟩ := res3 w w5 _ (jT hF4.out xb5)
 have hE := Lib.hid (jT (jA (jR w) (Obj.cells #[.bool false, .slice none 0 0, .slice none 0 0] 26)) (jT hF4.out xb5))
 obtain ⟨q0, q1, q2⟩ := set3 (b := w.heap.size) r0 r1 r2 (.bool (decide (z < 0))) (.slice A5 n5 c5) (.slice D5 m5 k5)
 have hal : Ext (((w5.setCell ⟨w.heap.size, 0, none⟩ (.bool (decide (z < 0)))).setCell ⟨w.heap.size, 1, none⟩ (.slice A5 n5 c5)).setCell ⟨w.heap.size, 2, none⟩ (.slice D5 m5 k5)) ((((w5.setCell ⟨w.heap.size, 0, none⟩ (.bool (decide (z < 0)))).setCell ⟨w.heap.size, 1, none⟩ (.slice A5 n5 c5)).setCell ⟨w.heap.size, 2, none⟩ (.slice D5 m5 k5)).alloc (Obj.cells #[.bool (decide (z < 0)), .slice A5 n5 c5, .slice D5 m5 k5] 26)) := jA (jR _) _
 have rl' : w.heap.size < (((w5.setCell ⟨w.heap.size, 0, none⟩ (.bool (decide (z < 0)))).setCell ⟨w.heap.size, 1, none⟩ (.slice A5 n5 c5)).setCell ⟨w.heap.size, 2, none⟩ (.slice D5 m5 k5)).heap.size := by simpa using rl
 have q0 := (Below.cell (p := ⟨w.heap.size, 0, none⟩) hal rl').trans q0
 have q1 := (Below.cell (p := ⟨w.heap.size, 1, none⟩) hal rl').trans q1
 have q2 := (Below.cell (p := ⟨w.heap.size, 2, none⟩) hal rl').trans q2
 have n5' : ∀ a, A5 = some a → w.heap.size < a.block := fun a ha => by have := hR5.out.2.1 a ha; omega
 have n6' : ∀ a, D5 = some a → w.heap.size < a.block := fun a ha => by have := hR5.out.2.2.2 a ha; omega
 refine bodyPost_ret (v := .tuple #[ratV (decide (z < 0)) A5 n5 c5 D5 m5 k5, .int .i64 0, .int .i64 0]) ?h rfl ⟨A5, n5, c5, D5, m5, k5, rfl, ⟨(hR5.out.1.set3 n5' _ _ _).ext hal, fun a ha => Nat.le_of_lt (n5' a ha), (hR5.out.2.2.1.set3 n6' _ _ _).ext hal, fun a ha => Nat.le_of_lt (n6' a ha)⟩, jT (ext_set3 hE.out (Nat.le_refl _) _ _ _) hal⟩
 case h => simp [results, Tryz.results28, go_sem, q0, q1, q2]
theorem ra_Parse_bare (s : Bool) (l u D : List UInt8) (i0 i1 : Nat) (hl : l.length ≤ 65536) (hu : unm l = u) (hi : u.length + i0 = l.length) (hd : l.drop i0 = u) (hD : u.takeWhile isD = D) (h0 : 0 < D.length) (hi1 : i0 + D.length = i1) (ht : l.take i1 = if s then 45 :: D else D)
  (E : List UInt8) (i2 i3 k : Nat) (hx : i1 < l.length) (hv : l[i1] = 47) (hi2 : i1 + 1 = i2) (hdE : l.drop i2 = E) (hk : (E.takeWhile isD).length = k) (hi3 : i2 + k = i3) (hk0 : k = 0) (w : World) (hT : Tz w) :
  Calls Tryz.prog 28 #[.string (bs l)] w (NoPost w i2 12) := by
 have k1 : ∀ w', Ext w w' → Calls Tryz.prog 73 #[.string (bs l), .string ⟨#[45]⟩] w' fun e w'' => e = .returned (.string (bs u)) ∧ Ext w' w'' := fun w' _ => by rw [← hu]; exact st_TrimPrefix l w'
 have k2 : ∀ w', Ext w w' → Calls Tryz.prog 74 #[.string (bs u)] w' fun e w'' => e = .returned (.int .i64 D.length) ∧ Ext w' w'' := fun w' _ => by have := ra_digits u (by omega) w'; rwa [hD] at this
 have e0 : ((l.length : Nat) : Int) - ((u.length : Nat) : Int) = (i0 : Nat) := by omega
 have hi0 : i0 ≤ l.length := by omega
 have hDl : D.length ≤ u.length := by have := drop_while_len u; rw [hD] at this; omega
 have hDb : digsB D = true := by rw [← hD]; exact take_dig u
 have e1 : ((i0 : Nat) : Int) + ((D.length : Nat) : Int) = (i1 : Nat) := by omega
 have hne : (((i1 : Nat) : Int) == ((i0 : Nat) : Int)) = false := by simp; omega
 have hne2 : ¬ ((i1 : Nat) : Int) = ((i0 : Nat) : Int) := by omega
 have hil : i1 ≤ l.length := by omega
 have kS := ra_number s D hDb h0 (by omega)
 rw [← ht] at kS
 have hzl : (lim (sgn s (dval D)).natAbs).length ≤ 7000 := by rw [sgn_abs]; have := dval_small hDb (by omega); omega
 have HT := Lib.hid hT
 have HZ := Lib.hid hzl
 have HK := Lib.hid kS
 have hlt : decide (((i1 : Nat) : Int) < ((l.length : Nat) : Int)) = true := decide_eq_true (by omega)
 have hlt2 : ((i1 : Nat) : Int) < ((l.length : Nat) : Int) := by omega
 have e2 : ((i1 : Nat) : Int) + 1 = ((i2 : Nat) : Int) := by omega
 have e3 : ((i2 : Nat) : Int) + ((k : Nat) : Int) = ((i3 : Nat) : Int) := by omega
 have hEl : E.length + i2 = l.length := by rw [← hdE, List.length_drop]; omega
 have hi2l : i2 ≤ l.length := by omega
 have k3 : ∀ w', Calls Tryz.prog 74 #[.string (bs E)] w' fun e w'' => e = .returned (.int .i64 k) ∧ Ext w' w'' := fun w' => by have := ra_digits E (by omega) w'; rwa [hk] at this
 have hq : (((i3 : Nat) : Int) == ((i2 : Nat) : Int)) = true := by simp; omega
 have hq2 : ((i3 : Nat) : Int) = ((i2 : Nat) : Int) := by omega
 clear hk hi3 hk0 hi2
 clear hu hD hDb ht hT hDl kS hzl
 generalize sgn s (dval D) = z at *
 go_enter Tryz.func28, Tryz.ntmps28
 go_upto_region 7 with (first
  | (go_at_call 73; (with_reducible refine (k1 _ xcl).mono ?_); rintro e w1 ⟨rfl, xb1⟩; obtain ⟨xc1, xf1, xl1, xz1⟩ := jU xb1; (try simp at xz1); obtain ⟨l1_0, r1_0, f1_0, r1_0_1, f1_0_1, r1_0_2, f1_0_2⟩ := kq3 xb1 (w.heap.size))
  | (go_at_call 74; (with_reducible refine (k2 _ xcl).mono ?_); rintro e w2 ⟨rfl, xb2⟩; obtain ⟨xc2, xf2, xl2, xz2⟩ := jU xb2; (try simp at xz2); obtain ⟨l2_0, r2_0, f2_0, r2_0_1, f2_0_1, r2_0_2, f2_0_2⟩ := kq3 xb2 (w.heap.size))
  )
 have hE2 := Lib.hid (jT xb1 xb2)
 have hr1 : Hid (Room ((w2.alloc (Obj.cells #[.bool false, .slice none 0 0, .slice none 0 0] 68)).alloc (Obj.cells #[.bool false, .slice none 0 0] 66)) (w2.heap.size + 1) 0) := by
  have := int_room (w2.alloc (Obj.cells #[.bool false, .slice none 0 0, .slice none 0 0] 68))
  have e0 : (w2.alloc (Obj.cells #[.bool false, .slice none 0 0, .slice none 0 0] 68)).heap.size = w2.heap.size + 1 := by simp
  rw [e0] at this
  exact Lib.hid this
 have hg1 := Lib.hid ((rat_room w2).ext (jA (jR _) (Obj.cells #[.bool false, .slice none 0 0] 66)))
 have kS1 := HK.out _ _ hr1.out
 have hW3 : ((w2.alloc (Obj.cells #[.bool false, .slice none 0 0, .slice none 0 0] 68)).alloc (Obj.cells #[.bool false, .slice none 0 0] 66)).heap.size = w2.heap.size + 1 + 1 := by simp
 have hX3 := Lib.hid (jA (jA (jR w2) (Obj.cells #[.bool false, .slice none 0 0, .slice none 0 0] 68)) (Obj.cells #[.bool false, .slice none 0 0] 66))
 clear xc1 xf1 xl1 xz1 xc2 xf2 xl2 xz2
 go_upto_region 9 with (first
  | (go_at_call 75; (with_reducible refine kS1.mono ?_); rintro e w3 ⟨rfl, A3, n3, c3, hI3, xt3⟩)
  )
 have hO3 : Off A3 n3 w2.heap.size := hI3.out.2.off (by omega) n3
 have hg3 := Lib.hid (hg1.out.tch xt3 (by omega))
 have hn3 : n3 ≤ 7000 := by rw [← hI3.out.1.rd.len]; exact HZ.out
 have kI := br_SetInt w2.heap.size (w2.heap.size + 1) z A3 n3 c3 (by omega) w3 hg3.out hI3.out.1
 have hs3 := xt3.size
 go_upto_region 10 with (first
  | (go_at_call 68; (with_reducible refine kI.mono ?_); rintro e w4 ⟨rfl, A4, n4, c4, D4, m4, k4, hI4, xt4⟩)
  )
 have hN4 := Lib.hid (hI3.out.1.tch xt4 (by omega) hO3)
 have hs4 := xt4.size
 have hE4 := Lib.hid (xt4.ext (xt3.ext hX3.out (by omega)) (Nat.le_refl _))
 have hF4 := Lib.hid (jT hE2.out hE4.out)
 have hR4 := Lib.hid hI4.out.1
 have hsg : w.heap.size < w2.heap.size := by have := hE2.out.size; simp at this; omega
 have hn4 : n4 ≤ 7000 := by rw [← hI4.out.1.int.rd.len]; exact HZ.out
 have hlg : w2.heap.size + 1 < w4.heap.size := by omega
 clear hI4 hI3 xt4 xt3 kI hg3 hg1 hr1 kS1 hX3 hW3 hO3 HK hE2 xb1 xb2 k1 k2 hs3 hs4 r1_0 r1_0_1 r1_0_2 r2_0 r2_0_1 r2_0_2 f1_0 f1_0_1 f1_0_2 f2_0 f2_0_1 f2_0_2
 obtain ⟨z0, z1, z2, y0, y1, y2, zl⟩ := res3 w w4 _ hF4.out
 clear hN4 hR4
 go_wp2_with (first
  | (go_at_call 74; (with_reducible refine (k3 _).mono ?_); rintro e w5 ⟨rfl, xb5⟩; obtain ⟨xc5, xf5, xl5, xz5⟩ := jU xb5; (try simp at xz5); obtain ⟨l5_0, r5_0, f5_0, r5_0_1, f5_0_1, r5_0_2, f5_0_2⟩ := kq3 xb5 (w.heap.size))
  )
 obtain ⟨r0, r1, r2, v0, v1, v2, rl⟩ := res3 w w5 _ (jT hF4.out xb5)
 have hE := Lib.hid (jT (jA (jR w) (Obj.cells #[.bool false, .slice none 0 0, .slice none 0 0] 26)) (jT hF4.out xb5))
 obtain ⟨q0, q1, q2⟩ := set3 (b := w.heap.size) r0 r1 r2 (.bool false) (.slice none 0 0) (.slice none 0 0)
 refine bodyPost_ret (v := .tuple #[ratV false none 0 0 none 0 0, .int .i64 ↑i2, .int .i64 12]) ?h rfl ⟨rfl, ext_set3 hE.out (Nat.le_refl _) _ _ _⟩
 case h => simp [results, Tryz.results28, go_sem, q0, q1, q2]
theorem ra_Parse_nought (s : Bool) (l u D : List UInt8) (i0 i1 : Nat) (hl : l.length ≤ 65536) (hu : unm l = u) (hi : u.length + i0 = l.length) (hd : l.drop i0 = u) (hD : u.takeWhile isD = D) (h0 : 0 < D.length) (hi1 : i0 + D.length = i1) (ht : l.take i1 = if s then 45 :: D else D)
  (E : List UInt8) (i2 i3 k : Nat) (hx : i1 < l.length) (hv : l[i1] = 47) (hi2 : i1 + 1 = i2) (hdE : l.drop i2 = E) (hk : (E.takeWhile isD).length = k) (hi3 : i2 + k = i3) (hk0 : k = E.length) (h3 : 0 < k) (hz : dval E = 0) (w : World) (hT : Tz w) :
  Calls Tryz.prog 28 #[.string (bs l)] w (NoPost w i2 11) := by
 have k1 : ∀ w', Ext w w' → Calls Tryz.prog 73 #[.string (bs l), .string ⟨#[45]⟩] w' fun e w'' => e = .returned (.string (bs u)) ∧ Ext w' w'' := fun w' _ => by rw [← hu]; exact st_TrimPrefix l w'
 have k2 : ∀ w', Ext w w' → Calls Tryz.prog 74 #[.string (bs u)] w' fun e w'' => e = .returned (.int .i64 D.length) ∧ Ext w' w'' := fun w' _ => by have := ra_digits u (by omega) w'; rwa [hD] at this
 have e0 : ((l.length : Nat) : Int) - ((u.length : Nat) : Int) = (i0 : Nat) := by omega
 have hi0 : i0 ≤ l.length := by omega
 have hDl : D.length ≤ u.length := by have := drop_while_len u; rw [hD] at this; omega
 have hDb : digsB D = true := by rw [← hD]; exact take_dig u
 have e1 : ((i0 : Nat) : Int) + ((D.length : Nat) : Int) = (i1 : Nat) := by omega
 have hne : (((i1 : Nat) : Int) == ((i0 : Nat) : Int)) = false := by simp; omega
 have hne2 : ¬ ((i1 : Nat) : Int) = ((i0 : Nat) : Int) := by omega
 have hil : i1 ≤ l.length := by omega
 have kS := ra_number s D hDb h0 (by omega)
 rw [← ht] at kS
 have hzl : (lim (sgn s (dval D)).natAbs).length ≤ 7000 := by rw [sgn_abs]; have := dval_small hDb (by omega); omega
 have HT := Lib.hid hT
 have HZ := Lib.hid hzl
 have HK := Lib.hid kS
 have hlt : decide (((i1 : Nat) : Int) < ((l.length : Nat) : Int)) = true := decide_eq_true (by omega)
 have hlt2 : ((i1 : Nat) : Int) < ((l.length : Nat) : Int) := by omega
 have e2 : ((i1 : Nat) : Int) + 1 = ((i2 : Nat) : Int) := by omega
 have e3 : ((i2 : Nat) : Int) + ((k : Nat) : Int) = ((i3 : Nat) : Int) := by omega
 have hEl : E.length + i2 = l.length := by rw [← hdE, List.length_drop]; omega
 have hi2l : i2 ≤ l.length := by omega
 have k3 : ∀ w', Calls Tryz.prog 74 #[.string (bs E)] w' fun e w'' => e = .returned (.int .i64 k) ∧ Ext w' w'' := fun w' => by have := ra_digits E (by omega) w'; rwa [hk] at this
 have hq : (((i3 : Nat) : Int) == ((i2 : Nat) : Int)) = false := by simp; omega
 have hq2 : ¬ ((i3 : Nat) : Int) = ((i2 : Nat) : Int) := by omega
 have hlt3 : decide (((i3 : Nat) : Int) < ((l.length : Nat) : Int)) = false := decide_eq_false (by omega)
 have hlt4 : ¬ ((i3 : Nat) : Int) < ((l.length : Nat) : Int) := by omega
 have hi3b : i3 ≤ l.length := by omega
 have hEd : digsB E = true := by
  have h1 : E.takeWhile isD = E := (List.takeWhile_prefix isD).eq_of_length (by omega)
  rw [← h1]; exact take_dig E
 have hE0 : 0 < E.length := by omega
 have kE : ∀ b w', Room w' b 0 → Calls Tryz.prog 75 #[.pointer (some ⟨b, 0, none⟩), .string (bs E), .int .i64 10] w' (StrPost w' b (sgn false (dval E))) := fun b w' hr => ra_number false E hEd hE0 (by omega) b w' hr
 have hel : (lim (dval E)).length ≤ 7000 := by have := dval_small hEd (by omega); omega
 have HKE := Lib.hid kE
 have HEL := Lib.hid hel
 have hsz : (sgn false (dval E)).sign = 0 := by rw [hz]; rfl
 clear kE hel hEd hk hi3 hk0 hi2
 clear hu hD hDb ht hT hDl kS hzl
 generalize sgn s (dval D) = z at *
 go_enter Tryz.func28, Tryz.ntmps28
 go_upto_region 7 with (first
  | (go_at_call 73; (with_reducible refine (k1 _ xcl).mono ?_); rintro e w1 ⟨rfl, xb1⟩; obtain ⟨xc1, xf1, xl1, xz1⟩ := jU xb1; (try simp at xz1); obtain ⟨l1_0, r1_0, f1_0, r1_0_1, f1_0_1, r1_0_2, f1_0_2⟩ := kq3 xb1 (w.heap.size))
  | (go_at_call 74; (with_reducible refine (k2 _ xcl).mono ?_); rintro e w2 ⟨rfl, xb2⟩; obtain ⟨xc2, xf2, xl2, xz2⟩ := jU xb2; (try simp at xz2); obtain ⟨l2_0, r2_0, f2_0, r2_0_1, f2_0_1, r2_0_2, f2_0_2⟩ := kq3 xb2 (w.heap.size))
  )
 have hE2 := Lib.hid (jT xb1 xb2)
 have hr1 : Hid (Room ((w2.alloc (Obj.cells #[.bool false, .slice none 0 0, .slice none 0 0] 68)).alloc (Obj.cells #[.bool false, .slice none 0 0] 66)) (w2.heap.size + 1) 0) := by
  have := int_room (w2.alloc (Obj.cells #[.bool false, .slice none 0 0, .slice none 0 0] 68))
  have e0 : (w2.alloc (Obj.cells #[.bool false, .slice none 0 0, .slice none 0 0] 68)).heap.size = w2.heap.size + 1 := by simp
  rw [e0] at this
  exact Lib.hid this
 have hg1 := Lib.hid ((rat_room w2).ext (jA (jR _) (Obj.cells #[.bool false, .slice none 0 0] 66)))
 have kS1 := HK.out _ _ hr1.out
 have hW3 : ((w2.alloc (Obj.cells #[.bool false, .slice none 0 0, .slice none 0 0] 68)).alloc (Obj.cells #[.bool false, .slice none 0 0] 66)).heap.size = w2.heap.size + 1 + 1 := by simp
 have hX3 := Lib.hid (jA (jA (jR w2) (Obj.cells #[.bool false, .slice none 0 0, .slice none 0 0] 68)) (Obj.cells #[.bool false, .slice none 0 0] 66))
 clear xc1 xf1 xl1 xz1 xc2 xf2 xl2 xz2
 go_upto_region 9 with (first
  | (go_at_call 75; (with_reducible refine kS1.mono ?_); rintro e w3 ⟨rfl, A3, n3, c3, hI3, xt3⟩)
  )
 have hO3 : Off A3 n3 w2.heap.size := hI3.out.2.off (by omega) n3
 have hg3 := Lib.hid (hg1.out.tch xt3 (by omega))
 have hn3 : n3 ≤ 7000 := by rw [← hI3.out.1.rd.len]; exact HZ.out
 have kI := br_SetInt w2.heap.size (w2.heap.size + 1) z A3 n3 c3 (by omega) w3 hg3.out hI3.out.1
 have hs3 := xt3.size
 go_upto_region 10 with (first
  | (go_at_call 68; (with_reducible refine kI.mono ?_); rintro e w4 ⟨rfl, A4, n4, c4, D4, m4, k4, hI4, xt4⟩)
  )
 have hN4 := Lib.hid (hI3.out.1.tch xt4 (by omega) hO3)
 have hs4 := xt4.size
 have hE4 := Lib.hid (xt4.ext (xt3.ext hX3.out (by omega)) (Nat.le_refl _))
 have hF4 := Lib.hid (jT hE2.out hE4.out)
 have hR4 := Lib.hid hI4.out.1
 have hsg : w.heap.size < w2.heap.size := by have := hE2.out.size; simp at this; omega
 have hn4 : n4 ≤ 7000 := by rw [← hI4.out.1.int.rd.len]; exact HZ.out
 have hlg : w2.heap.size + 1 < w4.heap.size := by omega
 clear hI4 hI3 xt4 xt3 kI hg3 hg1 hr1 kS1 hX3 hW3 hO3 HK hE2 xb1 xb2 k1 k2 hs3 hs4 r1_0 r1_0_1 r1_0_2 r2_0 r2_0_1 r2_0_2 f1_0 f1_0_1 f1_0_2 f2_0 f2_0_1 f2_0_2
 obtain ⟨z0, z1, z2, y0, y1, y2, zl⟩ := res3 w w4 _ hF4.out
 go_upto_region 17 with (first
  | (go_at_call 74; (with_reducible refine (k3 _).mono ?_); rintro e w5 ⟨rfl, xb5⟩; obtain ⟨xc5, xf5, xl5, xz5⟩ := jU xb5; (try simp at xz5); obtain ⟨l5_0, r5_0, f5_0, r5_0_1, f5_0_1, r5_0_2, f5_0_2⟩ := kq3 xb5 (w.heap.size))
  )
 have kE5 := HKE.out w5.heap.size _ (int_room w5)
 have hX5 := Lib.hid (jA (jR w5) (Obj.cells #[.bool false, .slice none 0 0] 66))
 have hs5 := xb5.size
 go_upto_region 18 with (first
  | (go_at_call 75; (with_reducible refine kE5.mono ?_); rintro e w6 ⟨rfl, A6, n6, c6, hI6, xt6⟩)
  )
 have hE6 := Lib.hid (xt6.ext hX5.out (Nat.le_refl _))
 have hF6 := Lib.hid (jT hF4.out (jT xb5 hE6.out))
 have hN6 := Lib.hid (hN4.out.ext (jT xb5 hE6.out))
 have hR6 := Lib.hid (hR4.out.ext (jT xb5 hE6.out))
 have hJ6 := Lib.hid hI6.out.1
 have hn6 : n6 ≤ 7000 := by have := hI6.out.1.rd.len; rw [sgn_abs] at this; rw [← this]; exact HEL.out
 have hs6 := hE6.out.size
 have kg : ∀ w', Ext w6 w' → Calls Tryz.prog 44 #[.pointer (some ⟨w5.heap.size, 0, none⟩)] w' fun e w'' => e = .returned (.int .i64 (sgn false (dval E)).sign) ∧ Ext w' w'' := fun w' he => bi_Sign w5.heap.size 0 _ A6 n6 c6 w' (hJ6.out.ext he)
 clear hI6 xt6 kE5 hX5 xb5 hE6 HKE hN4 hR4 hE4 hF4 k3
 obtain ⟨z0, z1, z2, y0, y1, y2, zl⟩ := res3 w w6 _ hF6.out
 clear hN6 hR6
 go_wp2_with (first
  | (go_at_call 44; (with_reducible refine (kg _ xcl).mono ?_); rintro e w7 ⟨rfl, xb7⟩; obtain ⟨xc7, xf7, xl7, xz7⟩ := jU xb7; (try simp at xz7); obtain ⟨l7_0, r7_0, f7_0, r7_0_1, f7_0_1, r7_0_2, f7_0_2⟩ := kq3 xb7 (w.heap.size))
  )
 obtain ⟨r0, r1, r2, v0, v1, v2, rl⟩ := res3 w w7 _ (jT hF6.out xb7)
 have hE := Lib.hid (jT (jA (jR w) (Obj.cells #[.bool false, .slice none 0 0, .slice none 0 0] 26)) (jT hF6.out xb7))
 obtain ⟨q0, q1, q2⟩ := set3 (b := w.heap.size) r0 r1 r2 (.bool false) (.slice none 0 0) (.slice none 0 0)
 refine bodyPost_ret (v := .tuple #[ratV false none 0 0 none 0 0, .int .i64 ↑i2, .int .i64 11]) ?h rfl ⟨rfl, ext_set3 hE.out (Nat.le_refl _) _ _ _⟩
 case h => simp [results, Tryz.results28, go_sem, q0, q1, q2]
theorem ra_Parse_over (s : Bool) (l u D : List UInt8) (i0 i1 : Nat) (hl : l.length ≤ 65536) (hu : unm l = u) (hi : u.length + i0 = l.length) (hd : l.drop i0 = u) (hD : u.takeWhile isD = D) (h0 : 0 < D.length) (hi1 : i0 + D.length = i1) (ht : l.take i1 = if s then 45 :: D else D)
  (E : List UInt8) (i2 i3 k : Nat) (hx : i1 < l.length) (hv : l[i1] = 47) (hi2 : i1 + 1 = i2) (hdE : l.drop i2 = E) (hk : (E.takeWhile isD).length = k) (hi3 : i2 + k = i3) (hk0 : k = E.length) (h3 : 0 < k) (hz : dval E ≠ 0) (w : World) (hT : Tz w) :
  Calls Tryz.prog 28 #[.string (bs l)] w (PrPost w (canN (sgn s (dval D)) (dval E)) (canD (sgn s (dval D)) (dval E))) := by
 have k1 : ∀ w', Ext w w' → Calls Tryz.prog 73 #[.string (bs l), .string ⟨#[45]⟩] w' fun e w'' => e = .returned (.string (bs u)) ∧ Ext w' w'' := fun w' _ => by rw [← hu]; exact st_TrimPrefix l w'
 have k2 : ∀ w', Ext w w' → Calls Tryz.prog 74 #[.string (bs u)] w' fun e w'' => e = .returned (.int .i64 D.length) ∧ Ext w' w'' := fun w' _ => by have := ra_digits u (by omega) w'; rwa [hD] at this
 have e0 : ((l.length : Nat) : Int) - ((u.length : Nat) : Int) = (i0 : Nat) := by omega
 have hi0 : i0 ≤ l.length := by omega
 have hDl : D.length ≤ u.length := by have := drop_while_len u; rw [hD] at this; omega
 have hDb : digsB D = true := by rw [← hD]; exact take_dig u
 have e1 : ((i0 : Nat) : Int) + ((D.length : Nat) : Int) = (i1 : Nat) := by omega
 have hne : (((i1 : Nat) : Int) == ((i0 : Nat) : Int)) = false := by simp; omega
 have hne2 : ¬ ((i1 : Nat) : Int) = ((i0 : Nat) : Int) := by omega
 have hil : i1 ≤ l.length := by omega
 have kS := ra_number s D hDb h0 (by omega)
 rw [← ht] at kS
 have hzl : (lim (sgn s (dval D)).natAbs).length ≤ 7000 := by rw [sgn_abs]; have := dval_small hDb (by omega); omega
 have HT := Lib.hid hT
 have HZ := Lib.hid hzl
 have HK := Lib.hid kS
 have hlt : decide (((i1 : Nat) : Int) < ((l.length : Nat) : Int)) = true := decide_eq_true (by omega)
 have hlt2 : ((i1 : Nat) : Int) < ((l.length : Nat) : Int) := by omega
 have e2 : ((i1 : Nat) : Int) + 1 = ((i2 : Nat) : Int) := by omega
 have e3 : ((i2 : Nat) : Int) + ((k : Nat) : Int) = ((i3 : Nat) : Int) := by omega
 have hEl : E.length + i2 = l.length := by rw [← hdE, List.length_drop]; omega
 have hi2l : i2 ≤ l.length := by omega
 have k3 : ∀ w', Calls Tryz.prog 74 #[.string (bs E)] w' fun e w'' => e = .returned (.int .i64 k) ∧ Ext w' w'' := fun w' => by have := ra_digits E (by omega) w'; rwa [hk] at this
 have hq : (((i3 : Nat) : Int) == ((i2 : Nat) : Int)) = false := by simp; omega
 have hq2 : ¬ ((i3 : Nat) : Int) = ((i2 : Nat) : Int) := by omega
 have hlt3 : decide (((i3 : Nat) : Int) < ((l.length : Nat) : Int)) = false := decide_eq_false (by omega)
 have hlt4 : ¬ ((i3 : Nat) : Int) < ((l.length : Nat) : Int) := by omega
 have hi3b : i3 ≤ l.length := by omega
 have hEd : digsB E = true := by
  have h1 : E.takeWhile isD = E := (List.takeWhile_prefix isD).eq_of_length (by omega)
  rw [← h1]; exact take_dig E
 have hE0 : 0 < E.length := by omega
 have kE : ∀ b w', Room w' b 0 → Calls Tryz.prog 75 #[.pointer (some ⟨b, 0, none⟩), .string (bs E), .int .i64 10] w' (StrPost w' b (sgn false (dval E))) := fun b w' hr => ra_number false E hEd hE0 (by omega) b w' hr
 have hel : (lim (dval E)).length ≤ 7000 := by have := dval_small hEd (by omega); omega
 have HKE := Lib.hid kE
 have HEL := Lib.hid hel
 have hsz : (sgn false (dval E)).sign = 1 := by
  show ((dval E : Nat) : Int).sign = 1
  exact Int.sign_eq_one_of_pos (by omega)
 clear kE hel hEd hk hi3 hk0 hi2
 clear hu hD hDb ht hT hDl kS hzl
 generalize sgn s (dval D) = z at *
 go_enter Tryz.func28, Tryz.ntmps28
 go_upto_region 7 with (first
  | (go_at_call 73; (with_reducible refine (k1 _ xcl).mono ?_); rintro e w1 ⟨rfl, xb1⟩; obtain ⟨xc1, xf1, xl1, xz1⟩ := jU xb1; (try simp at xz1); obtain ⟨l1_0, r1_0, f1_0, r1_0_1, f1_0_1, r1_0_2, f1_0_2⟩ := kq3 xb1 (w.heap.size))
  | (go_at_call 74; (with_reducible refine (k2 _ xcl).mono ?_); rintro e w2 ⟨rfl, xb2⟩; obtain ⟨xc2, xf2, xl2, xz2⟩ := jU xb2; (try simp at xz2); obtain ⟨l2_0, r2_0, f2_0, r2_0_1, f2_0_1, r2_0_2, f2_0_2⟩ := kq3 xb2 (w.heap.size))
  )
 have hE2 := Lib.hid (jT xb1 xb2)
 have hr1 : Hid (Room ((w2.alloc (Obj.cells #[.bool false, .slice none 0 0, .slice none 0 0] 68)).alloc (Obj.cells #[.bool false, .slice none 0 0] 66)) (w2.heap.size + 1) 0) := by
  have := int_room (w2.alloc (Obj.cells #[.bool false, .slice none 0 0, .slice none 0 0] 68))
  have e0 : (w2.alloc (Obj.cells #[.bool false, .slice none 0 0, .slice none 0 0] 68)).heap.size = w2.heap.size + 1 := by simp
  rw [e0] at this
  exact Lib.hid this
 have hg1 := Lib.hid ((rat_room w2).ext (jA (jR _) (Obj.cells #[.bool false, .slice none 0 0] 66)))
 have kS1 := HK.out _ _ hr1.out
 have hW3 : ((w2.alloc (Obj.cells #[.bool false, .slice none 0 0, .slice none 0 0] 68)).alloc (Obj.cells #[.bool false, .slice none 0 0] 66)).heap.size = w2.heap.size + 1 + 1 := by simp
 have hX3 := Lib.hid (jA (jA (jR w2) (Obj.cells #[.bool false, .slice none 0 0, .slice none 0 0] 68)) (Obj.cells #[.bool false, .slice none 0 0] 66))
 clear xc1 xf1 xl1 xz1 xc2 xf2 xl2 xz2
 go_upto_region 9 with (first
  | (go_at_call 75; (with_reducible refine kS1.mono ?_); rintro e w3 ⟨rfl, A3, n3, c3, hI3, xt3⟩)
  )
 have hO3 : Off A3 n3 w2.heap.size := hI3.out.2.off (by omega) n3
 have hg3 := Lib.hid (hg1.out.tch xt3 (by omega))
 have hn3 : n3 ≤ 7000 := by rw [← hI3.out.1.rd.len]; exact HZ.out
 have kI := br_SetInt w2.heap.size (w2.heap.size + 1) z A3 n3 c3 (by omega) w3 hg3.out hI3.out.1
 have hs3 := xt3.size
 go_upto_region 10 with (first
  | (go_at_call 68; (with_reducible refine kI.mono ?_); rintro e w4 ⟨rfl, A4, n4, c4, D4, m4, k4, hI4, xt4⟩)
  )
 have hN4 := Lib.hid (hI3.out.1.tch xt4 (by omega) hO3)
 have hs4 := xt4.size
 have hE4 := Lib.hid (xt4.ext (xt3.ext hX3.out (by omega)) (Nat.le_refl _))
 have hF4 := Lib.hid (jT hE2.out hE4.out)
 have hR4 := Lib.hid hI4.out.1
 have hsg : w.heap.size < w2.heap.size := by have := hE2.out.size; simp at this; omega
 have hn4 : n4 ≤ 7000 := by rw [← hI4.out.1.int.rd.len]; exact HZ.out
 have hlg : w2.heap.size + 1 < w4.heap.size := by omega
 clear hI4 hI3 xt4 xt3 kI hg3 hg1 hr1 kS1 hX3 hW3 hO3 HK hE2 xb1 xb2 k1 k2 hs3 hs4 r1_0 r1_0_1 r1_0_2 r2_0 r2_0_1 r2_0_2 f1_0 f1_0_1 f1_0_2 f2_0 f2_0_1 f2_0_2
 obtain ⟨z0, z1, z2, y0, y1, y2, zl⟩ := res3 w w4 _ hF4.out
 go_upto_region 17 with (first
  | (go_at_call 74; (with_reducible refine (k3 _).mono ?_); rintro e w5 ⟨rfl, xb5⟩; obtain ⟨xc5, xf5, xl5, xz5⟩ := jU xb5; (try simp at xz5); obtain ⟨l5_0, r5_0, f5_0, r5_0_1, f5_0_1, r5_0_2, f5_0_2⟩ := kq3 xb5 (w.heap.size))
  )
 have kE5 := HKE.out w5.heap.size _ (int_room w5)
 have hX5 := Lib.hid (jA (jR w5) (Obj.cells #[.bool false, .slice none 0 0] 66))
 have hs5 := xb5.size
 go_upto_region 18 with (first
  | (go_at_call 75; (with_reducible refine kE5.mono ?_); rintro e w6 ⟨rfl, A6, n6, c6, hI6, xt6⟩)
  )
 have hE6 := Lib.hid (xt6.ext hX5.out (Nat.le_refl _))
 have hF6 := Lib.hid (jT hF4.out (jT xb5 hE6.out))
 have hN6 := Lib.hid (hN4.out.ext (jT xb5 hE6.out))
 have hR6 := Lib.hid (hR4.out.ext (jT xb5 hE6.out))
 have hJ6 := Lib.hid hI6.out.1
 have hn6 : n6 ≤ 7000 := by have := hI6.out.1.rd.len; rw [sgn_abs] at this; rw [← this]; exact HEL.out
 have hs6 := hE6.out.size
 have kg : ∀ w', Ext w6 w' → Calls Tryz.prog 44 #[.pointer (some ⟨w5.heap.size, 0, none⟩)] w' fun e w'' => e = .returned (.int .i64 (sgn false (dval E)).sign) ∧ Ext w' w'' := fun w' he => bi_Sign w5.heap.size 0 _ A6 n6 c6 w' (hJ6.out.ext he)
 clear hI6 xt6 kE5 hX5 xb5 hE6 HKE hN4 hR4 hE4 hF4 k3
 obtain ⟨z0, z1, z2, y0, y1, y2, zl⟩ := res3 w w6 _ hF6.out
 have kF : ∀ w', Ext w6 w' → Calls Tryz.prog 65 #[.pointer (some ⟨w2.heap.size, 0, none⟩), .pointer (some ⟨w2.heap.size + 1, 0, none⟩), .pointer (some ⟨w5.heap.size, 0, none⟩)] w' (FPost w' w2.heap.size (canN z (dval E)) (canW z (dval E))) := fun w' he =>
  br_SetFracC w2.heap.size (w2.heap.size + 1) w5.heap.size z (dval E) hz A3 n3 c3 A6 n6 c6 (by omega) (by omega) w' (HT.out.ext (jT (jA (jR w) (Obj.cells #[.bool false, .slice none 0 0, .slice none 0 0] 26)) (jT hF6.out he))) (hR6.out.room.ext he) (hN6.out.ext he) (hJ6.out.ext he)
 have kT : ∀ (A : Option Addr) (n c : Nat) (D : Option Addr) (m k : Nat) (w' : World), RatIs w' w2.heap.size (canN z (dval E)) A n c (canW z (dval E)) D m k → Calls Tryz.prog 64 #[.pointer (some ⟨w2.heap.size, 0, none⟩)] w' (TPost w' (canN z (dval E)) (canD z (dval E))) := fun A n c D m k w' h => by
  have h3 := h.int.rd.len
  have h4 := h.rd.len
  have h5 := lim_mono (canN_le z (dval E))
  have h6 := lim_mono (canW_le z (dval E))
  have h7 := lim_mono (canD_le z (dval E))
  have h8 := HZ.out
  have h9 := HEL.out
  have := ra_told_ok w2.heap.size (canN z (dval E)) A n c (canW z (dval E)) D m k (by omega) (by omega) (by rw [canW_den hz]; omega) w' h
  rwa [canW_den hz] at this
 clear hN6 hR6 hJ6 HEL hz
 go_upto_region 21 with (first
  | (go_at_call 44; (with_reducible refine (kg _ xcl).mono ?_); rintro e w7 ⟨rfl, xb7⟩; obtain ⟨xc7, xf7, xl7, xz7⟩ := jU xb7; (try simp at xz7))
  | (go_at_call 65; (with_reducible refine (kF _ xb7).mono ?_); rintro e w8 ⟨rfl, A8, n8, c8, D8, m8, k8, hI8, xt8⟩)
  )
 have hW1 : (w.alloc (Obj.cells #[.bool false, .slice none 0 0, .slice none 0 0] 26)).heap.size ≤ w2.heap.size := by simp; omega
 have hF8 := Lib.hid (xt8.ext (jT hF6.out xb7) hW1)
 have kT8 := kT _ _ _ _ _ _ _ hI8.out.1
 have hs8 := hF8.out.size
 clear z0 z1 z2 y0 y1 y2 zl kF kT kg xt8
 obtain ⟨z0, z1, z2, y0, y1, y2, zl⟩ := res3 w w8 _ hF8.out
 generalize canN z (dval E) = z at *
 generalize canD z (dval E) = dd at *
 go_wp2_with (first
  | (go_at_call 64; (with_reducible refine (kT8).mono ?_); rintro e w9 ⟨A5, n5, c5, D5, m5, k5, rfl, hR9, xb9⟩; obtain ⟨xc9, xf9, xl9, xz9⟩ := jU xb9; (try simp at xz9); obtain ⟨l9_0, r9_0, f9_0, r9_0_1, f9_0_1, r9_0_2, f9_0_2⟩ := kq3 xb9 (w.heap.size))
  )
 obtain ⟨r0, r1, r2, v0, v1, v2, rl⟩ := res3 w w9 _ (jT hF8.out xb9)
 have hE := Lib.hid (jT (jA (jR w) (Obj.cells #[.bool false, .slice none 0 0, .slice none 0 0] 26)) (jT hF8.out xb9))
 obtain ⟨q0, q1, q2⟩ := set3 (b := w.heap.size) r0 r1 r2 (.bool (decide (z < 0))) (.slice A5 n5 c5) (.slice D5 m5 k5)
 have hal : Ext (((w9.setCell ⟨w.heap.size, 0, none⟩ (.bool (decide (z < 0)))).setCell ⟨w.heap.size, 1, none⟩ (.slice A5 n5 c5)).setCell ⟨w.heap.size, 2, none⟩ (.slice D5 m5 k5)) ((((w9.setCell ⟨w.heap.size, 0, none⟩ (.bool (decide (z < 0)))).setCell ⟨w.heap.size, 1, none⟩ (.slice A5 n5 c5)).setCell ⟨w.heap.size, 2, none⟩ (.slice D5 m5 k5)).alloc (Obj.cells #[.bool (decide (z < 0)), .slice A5 n5 c5, .slice D5 m5 k5] 26)) := jA (jR _) _
 have rl' : w.heap.size < (((w9.setCell ⟨w.heap.size, 0, none⟩ (.bool (decide (z < 0)))).setCell ⟨w.heap.size, 1, none⟩ (.slice A5 n5 c5)).setCell ⟨w.heap.size, 2, none⟩ (.slice D5 m5 k5)).heap.size := by simpa using rl
 have q0 := (Below.cell (p := ⟨w.heap.size, 0, none⟩) hal rl').trans q0
 have q1 := (Below.cell (p := ⟨w.heap.size, 1, none⟩) hal rl').trans q1
 have q2 := (Below.cell (p := ⟨w.heap.size, 2, none⟩) hal rl').trans q2
 have n5' : ∀ a, A5 = some a → w.heap.size < a.block := fun a ha => by have := hR9.out.2.1 a ha; omega
 have n6' : ∀ a, D5 = some a → w.heap.size < a.block := fun a ha => by have := hR9.out.2.2.2 a ha; omega
 refine bodyPost_ret (v := .tuple #[ratV (decide (z < 0)) A5 n5 c5 D5 m5 k5, .int .i64 0, .int .i64 0]) ?h rfl ⟨A5, n5, c5, D5, m5, k5, rfl, ⟨(hR9.out.1.set3 n5' _ _ _).ext hal, fun a ha => Nat.le_of_lt (n5' a ha), (hR9.out.2.2.1.set3 n6' _ _ _).ext hal, fun a ha => Nat.le_of_lt (n6' a ha)⟩, jT (ext_set3 hE.out (Nat.le_refl _) _ _ _) hal⟩
 case h => simp [results, Tryz.results28, go_sem, q0, q1, q2]
end Go.Proofs.YtfdmhefjmnlllaaGreatDoor
end
section
/- The program's fractions: the calls by their worths. -/
namespace Go.Proofs.YtfdmhefjmnlllaaGreatDoor
open Go.RowKit
attribute [local irreducible] Calls
structure RaIs (w : World) (z : Int) (d : Nat) (A : Option Addr) (n c : Nat) (D : Option Addr) (m k : Nat) : Prop where
 num : Rd w A n c (lim z.natAbs)
 den : Rd w D m k (lim d)
 d0 : d ≠ 0
 low : Nat.gcd z.natAbs d = 1
theorem RaIs.ext {w w' : World} {z : Int} {d : Nat} {A : Option Addr} {n c : Nat} {D : Option Addr} {m k : Nat} (h : RaIs w z d A n c D m k) (he : Ext w w') : RaIs w' z d A n c D m k := ⟨h.num.ext he, h.den.ext he, h.d0, h.low⟩
abbrev RPost (w : World) (z : Int) (d : Nat) : Ending → World → Prop := fun e w' => ∃ (A : Option Addr) (n c : Nat) (D : Option Addr) (m k : Nat), e = .returned (.tuple #[ratV (decide (z < 0)) A n c D m k, .int .i64 0]) ∧ Hid (RaIs w' z d A n c D m k) ∧ Ext w w'
theorem ra_own (x : Int) : sgn (decide (x < 0)) x.natAbs = x := by
 unfold sgn
 by_cases h : x < 0
 ·rw [if_pos (by simpa using h)]; omega
 ·rw [if_neg (by simpa using h)]; omega
theorem ra_hng (x : Int) : decide (x < 0) = true → x.natAbs ≠ 0 := fun h => by have := of_decide_eq_true h; omega
theorem tpost_r {w : World} {z : Int} {d : Nat} (hd : d ≠ 0) {f : Nat} {v : Array Value} {P : Program} (h : Calls P f v w (TPost w (canN z d) (canD z d))) : Calls P f v w (RPost w (canN z d) (canD z d)) := by
 refine h.mono ?_
 rintro e w' ⟨A, n, c, D, m, k, rfl, h1, h2⟩
 exact ⟨A, n, c, D, m, k, rfl, Lib.hid ⟨h1.out.1, h1.out.2.2.1, canD_pos hd, can_gcd hd⟩, h2⟩
section
variable {w : World} {x y : Int} {p q : Nat} {A : Option Addr} {n c : Nat} {D : Option Addr} {m k : Nat} {B : Option Addr} {n2 c2 : Nat} {C : Option Addr} {m2 k2 : Nat}
theorem va_Add (hT : Tz w) (hx : RaIs w x p A n c D m k) (hy : RaIs w y q B n2 c2 C m2 k2) (hn : n ≤ 4000) (hm : m ≤ 4000) (hn2 : n2 ≤ 4000) (hm2 : m2 ≤ 4000) :
  Calls Tryz.prog 24 #[ratV (decide (x < 0)) A n c D m k, ratV (decide (y < 0)) B n2 c2 C m2 k2] w (RPost w (canN (x * q + y * p) (p * q)) (canD (x * q + y * p) (p * q))) := by
 have h := ra_Add (decide (x < 0)) A n c x.natAbs D m k p hx.d0 hn hm hx.low (ra_hng x) (decide (y < 0)) B n2 c2 y.natAbs C m2 k2 q hy.d0 hn2 hm2 hy.low (ra_hng y) w hT hx.num hx.den hy.num hy.den
 rw [ra_own, ra_own] at h
 exact tpost_r (Nat.mul_ne_zero hx.d0 hy.d0) h
theorem va_Cmp (hT : Tz w) (hx : RaIs w x p A n c D m k) (hy : RaIs w y q B n2 c2 C m2 k2) (hn : n ≤ 4000) (hm : m ≤ 4000) (hn2 : n2 ≤ 4000) (hm2 : m2 ≤ 4000) :
  Calls Tryz.prog 30 #[ratV (decide (x < 0)) A n c D m k, ratV (decide (y < 0)) B n2 c2 C m2 k2] w fun e w' => e = .returned (.tuple #[.int .i64 (x * q - y * p).sign, .int .i64 0]) ∧ Ext w w' := by
 have h := ra_Cmp (decide (x < 0)) A n c x.natAbs D m k p hx.d0 (by omega) (by omega) hx.low (ra_hng x) (decide (y < 0)) B n2 c2 y.natAbs C m2 k2 q hy.d0 (by omega) (by omega) hy.low (ra_hng y) w hT hx.num hx.den hy.num hy.den
 rw [ra_own, ra_own] at h
 exact h
theorem va_Text (hT : Tz w) (hx : RaIs w x p A n c D m k) (hn : n ≤ 4000) (hm : m ≤ 4000) :
  Calls Tryz.prog 16 #[ratV (decide (x < 0)) A n c D m k] w fun e w' => e = .returned (.tuple #[.string (bs (rtext x p)), .int .i64 0]) ∧ Ext w w' := by
 have h := ra_Text (decide (x < 0)) A n c x.natAbs D m k p hx.d0 (by omega) (by omega) hx.low (ra_hng x) w hT hx.num hx.den
 rw [ra_own] at h
 exact h
theorem va_Floor (hT : Tz w) (hx : RaIs w x p A n c D m k) (hn : n ≤ 4000) (hm : m ≤ 4000) :
  Calls Tryz.prog 13 #[ratV (decide (x < 0)) A n c D m k] w fun e w' => ∃ (B : Option Addr) (j l : Nat), e = .returned (.tuple #[.bool (decide (x / (p : Int) < 0)), natV B j l, .int .i64 0]) ∧ Hid (RdO w' B j l (lim (x / (p : Int)).natAbs) none ∧ Fr w B) ∧ Ext w w' := by
 have h := ra_Floor (decide (x < 0)) A n c x.natAbs D m k p hx.d0 (by omega) (by omega) hx.low (ra_hng x) w hT hx.num hx.den
 rw [ra_own] at h
 exact h
theorem va_Whole (z : Int) (h1 : -9223372036854775808 ≤ z) (h2 : z ≤ 9223372036854775807) (w : World) :
  Calls Tryz.prog 29 #[.int .i64 z] w fun e w' => ∃ (A : Option Addr) (n c : Nat) (D : Option Addr) (m k : Nat), e = .returned (ratV (decide (z < 0)) A n c D m k) ∧ Hid (RaIs w' z 1 A n c D m k) ∧ Ext w w' := by
 refine (ra_Whole z h1 h2 w).mono ?_
 rintro e w' ⟨A, n, c, D, m, k, rfl, h1, h2⟩
 exact ⟨A, n, c, D, m, k, rfl, Lib.hid ⟨h1.out.1, h1.out.2.2.1, by decide, Nat.gcd_one_right _⟩, h2⟩
end
end Go.Proofs.YtfdmhefjmnlllaaGreatDoor
end
section
/- The second law's theorems, plainly: fractions in lowest terms are a field, and in order. -/
namespace Go.Proofs.YtfdmhefjmnlllaaGreatDoor
theorem lim_add_len {x y k : Nat} (hx : (lim x).length ≤ k) (hy : (lim y).length ≤ k) : (lim (x + y)).length ≤ k + 1 := by
 refine lim_le ?_
 have h1 := Nat.lt_of_lt_of_le (lim_lt x) (Nat.pow_le_pow_right (show 0 < Bs by decide) hx)
 have h2 := Nat.lt_of_lt_of_le (lim_lt y) (Nat.pow_le_pow_right (show 0 < Bs by decide) hy)
 rw [Nat.pow_succ]
 generalize Bs ^ k = t at *
 have : (2 : Nat) ≤ Bs := by decide
 have := Nat.mul_le_mul_left t this
 omega
def Few (k : Nat) (z : Int) (d : Nat) : Prop := (lim z.natAbs).length ≤ k ∧ (lim d).length ≤ k
theorem Few.mono {k l : Nat} {z : Int} {d : Nat} (h : Few k z d) (hk : k ≤ l) : Few l z d := ⟨Nat.le_trans h.1 hk, Nat.le_trans h.2 hk⟩
theorem Few.add {j k : Nat} {x y : Int} {p q : Nat} (h1 : Few j x p) (h2 : Few k y q) : Few (j + k + 1) (x * q + y * p) (p * q) := by
 refine ⟨?_, ?_⟩
 ·refine Nat.le_trans (lim_mono (Int.natAbs_add_le _ _)) ?_
  rw [Int.natAbs_mul, Int.natAbs_mul, Int.natAbs_natCast, Int.natAbs_natCast]
  exact lim_add_len (Nat.le_trans (lim_mul_len _ _) (Nat.add_le_add h1.1 h2.2)) (by have := Nat.le_trans (lim_mul_len y.natAbs p) (Nat.add_le_add h2.1 h1.2); omega)
 ·exact Nat.le_trans (lim_mul_len _ _) (by have := Nat.add_le_add h1.2 h2.2; omega)
end Go.Proofs.YtfdmhefjmnlllaaGreatDoor
end
section
/- The second law's 'alive'. -/
namespace Go.Proofs.YtfdmhefjmnlllaaGreatDoor
open Go.RowKit
attribute [local go_sem] bs_size bs_extract bs_get bs_append bs_toList const_get
attribute [local go_sem] sz2 sz3 sz4 sz5 sz6 sz7 sz8
set_option maxHeartbeats 4000000
set_option maxRecDepth 100000
attribute [local irreducible] Calls
abbrev PPost (w : World) (z : Int) (d : Nat) : Ending → World → Prop := fun e w' => ∃ (A : Option Addr) (n c : Nat) (D : Option Addr) (m k : Nat), e = .returned (.tuple #[ratV (decide (z < 0)) A n c D m k, .int .i64 0, .int .i64 0]) ∧ Hid (RaIs w' z d A n c D m k) ∧ Ext w w'
theorem prpost_r {w : World} {z : Int} {d : Nat} (hd : d ≠ 0) {f : Nat} {v : Array Value} {P : Program} (h : Calls P f v w (PrPost w (canN z d) (canD z d))) : Calls P f v w (PPost w (canN z d) (canD z d)) := by
 refine h.mono ?_
 rintro e w' ⟨A, n, c, D, m, k, rfl, h1, h2⟩
 exact ⟨A, n, c, D, m, k, rfl, Lib.hid ⟨h1.out.1, h1.out.2.2.1, canD_pos hd, can_gcd hd⟩, h2⟩
theorem parse_a (w : World) (hT : Tz w) : Calls Tryz.prog 28 #[.string ⟨#[48, 48, 54, 47, 52]⟩] w (PPost w 3 2) := by
 have h := ra_Parse_over false [48, 48, 54, 47, 52] [48, 48, 54, 47, 52] [48, 48, 54] 0 3 (by decide) (by decide) (by decide) (by decide) (by decide) (by decide) (by decide) (by decide) [52] 4 5 1 (by decide) (by decide) (by decide) (by decide) (by decide) (by decide) (by decide) (by decide) (by decide) w hT
 exact prpost_r (by decide) h
theorem parse_b (w : World) (hT : Tz w) : Calls Tryz.prog 28 #[.string ⟨#[45, 49, 47, 50]⟩] w (PPost w (-1) 2) := by
 have h := ra_Parse_over true [45, 49, 47, 50] [49, 47, 50] [49] 1 2 (by decide) (by decide) (by decide) (by decide) (by decide) (by decide) (by decide) (by decide) [50] 3 4 1 (by decide) (by decide) (by decide) (by decide) (by decide) (by decide) (by decide) (by decide) (by decide) w hT
 exact prpost_r (by decide) h
theorem parse_c (w : World) (hT : Tz w) : Calls Tryz.prog 28 #[.string ⟨#[51, 47, 48, 48]⟩] w (NoPost w 2 11) :=
 ra_Parse_nought false [51, 47, 48, 48] [51, 47, 48, 48] [51] 0 1 (by decide) (by decide) (by decide) (by decide) (by decide) (by decide) (by decide) (by decide) [48, 48] 2 4 2 (by decide) (by decide) (by decide) (by decide) (by decide) (by decide) (by decide) (by decide) (by decide) w hT
theorem live_check (w : World) (hT : Tz w) : Calls Tryz.prog 19 #[ratV false none 0 0 none 0 0] w fun e w' => e = .returned (.int .i64 20) ∧ Ext w w' :=
 ra_check_no false none 0 0 [] none 0 0 [] (fun h => h.2.2.1 rfl) w hT (Rd.nil w) (Rd.nil w)
end Go.Proofs.YtfdmhefjmnlllaaGreatDoor
end
section
/- The second law's 'alive': the walk. -/
namespace Go.Proofs.YtfdmhefjmnlllaaGreatDoor
open Go.RowKit
attribute [local go_sem] bs_size bs_extract bs_get bs_append bs_toList const_get
attribute [local go_sem] sz2 sz3 sz4 sz5 sz6 sz7 sz8
set_option maxHeartbeats 4000000
set_option maxRecDepth 100000
attribute [local irreducible] Calls
theorem alive2_any (w : World) (hT : Tz w) : Calls Tryz.prog 5 #[] w fun x w' => x = .returned (.bool true) ∧ Ext w w' := by
 have HT := Lib.hid hT
 clear hT
 have L3 : (lim (3 : Int).natAbs).length = 1 := by kernel_rfl
 have L2 : (lim 2).length = 1 := by kernel_rfl
 have L1 : (lim (-1 : Int).natAbs).length = 1 := by kernel_rfl
 have LA : (lim (1 : Int).natAbs).length = 1 := by kernel_rfl
 have LB : (lim 1).length = 1 := by kernel_rfl
 have p1 : ∀ w', Tz w' → Calls Tryz.prog 28 #[.string ⟨#[48, 48, 54, 47, 52]⟩] w' fun e w'' => ∃ (A : Option Addr) (n c : Nat) (D : Option Addr) (m k : Nat), e = .returned (.tuple #[ratV false A n c D m k, .int .i64 0, .int .i64 0]) ∧ Hid (RaIs w'' 3 2 A n c D m k) ∧ Ext w' w'' := fun w' h => parse_a w' h
 have p2 : ∀ w', Tz w' → Calls Tryz.prog 28 #[.string ⟨#[45, 49, 47, 50]⟩] w' fun e w'' => ∃ (A : Option Addr) (n c : Nat) (D : Option Addr) (m k : Nat), e = .returned (.tuple #[ratV true A n c D m k, .int .i64 0, .int .i64 0]) ∧ Hid (RaIs w'' (-1) 2 A n c D m k) ∧ Ext w' w'' := fun w' h => parse_b w' h
 have p3 : ∀ w', Tz w' → Calls Tryz.prog 28 #[.string ⟨#[51, 47, 48, 48]⟩] w' fun e w'' => e = .returned (.tuple #[ratV false none 0 0 none 0 0, .int .i64 2, .int .i64 11]) ∧ Ext w' w'' := fun w' h => parse_c w' h
 have k1 : ∀ (A : Option Addr) (n c : Nat) (D : Option Addr) (m k : Nat) (B : Option Addr) (n2 c2 : Nat) (C : Option Addr) (m2 k2 : Nat) (w' : World), Tz w' → RaIs w' 3 2 A n c D m k → RaIs w' (-1) 2 B n2 c2 C m2 k2 → Calls Tryz.prog 24 #[ratV false A n c D m k, ratV true B n2 c2 C m2 k2] w' fun e w'' => ∃ (A : Option Addr) (n c : Nat) (D : Option Addr) (m k : Nat), e = .returned (.tuple #[ratV false A n c D m k, .int .i64 0]) ∧ Hid (RaIs w'' 1 1 A n c D m k) ∧ Ext w' w'' := fun A n c D m k B n2 c2 C m2 k2 w' hT hx hy => by
  have h1 := hx.num.len; have h2 := hx.den.len; have h3 := hy.num.len; have h4 := hy.den.len
  exact va_Add hT hx hy (by omega) (by omega) (by omega) (by omega)
 have k2 : ∀ (A : Option Addr) (n c : Nat) (D : Option Addr) (m k : Nat) (w' : World), Tz w' → RaIs w' 1 1 A n c D m k → Calls Tryz.prog 16 #[ratV false A n c D m k] w' fun e w'' => e = .returned (.tuple #[.string ⟨#[49]⟩, .int .i64 0]) ∧ Ext w' w'' := fun A n c D m k w' hT hx => by
  have h1 := hx.num.len; have h2 := hx.den.len
  have h := va_Text hT hx (by omega) (by omega)
  have e : rtext 1 1 = [49] := by first | kernel_rfl | simp [rtext, itext, dtext, digs]
  rw [e] at h
  exact h
 have k3 : ∀ (A : Option Addr) (n c : Nat) (D : Option Addr) (m k : Nat) (B : Option Addr) (n2 c2 : Nat) (C : Option Addr) (m2 k2 : Nat) (w' : World), Tz w' → RaIs w' 3 2 A n c D m k → RaIs w' (-1) 2 B n2 c2 C m2 k2 → Calls Tryz.prog 30 #[ratV false A n c D m k, ratV true B n2 c2 C m2 k2] w' fun e w'' => e = .returned (.tuple #[.int .i64 1, .int .i64 0]) ∧ Ext w' w'' := fun A n c D m k B n2 c2 C m2 k2 w' hT hx hy => by
  have h1 := hx.num.len; have h2 := hx.den.len; have h3 := hy.num.len; have h4 := hy.den.len
  exact va_Cmp hT hx hy (by omega) (by omega) (by omega) (by omega)
 have k4 : ∀ (A : Option Addr) (n c : Nat) (D : Option Addr) (m k : Nat) (w' : World), Tz w' → RaIs w' (-1) 2 A n c D m k → Calls Tryz.prog 13 #[ratV true A n c D m k] w' fun e w'' => ∃ (b o l : Nat), e = .returned (.tuple #[.bool true, natV (some ⟨b, o, none⟩) 1 l, .int .i64 0]) ∧ w''.cell? ⟨b, o, none⟩ = some (.int .u32 1) ∧ b < w''.heap.size ∧ w'.heap.size ≤ b ∧ Ext w' w'' := fun A n c D m k w' hT hx => by
  have h1 := hx.num.len; have h2 := hx.den.len
  refine (va_Floor hT hx (by omega) (by omega)).mono ?_
  rintro e w'' ⟨B, j, l, rfl, hB, hE⟩
  have hl : lim ((-1 : Int) / ((2 : Nat) : Int)).natAbs = [1] := by kernel_rfl
  have hR := hB.out.1
  rw [hl] at hR
  have hj : j = 1 := by have := hR.len; simpa using this.symm
  subst hj
  rcases hR.shape with ⟨_, h0, _⟩ | ⟨b, off, rfl⟩
  ·exact absurd h0 (by decide)
  obtain ⟨h5, h6⟩ := hR.cells b off rfl 0 (by decide)
  exact ⟨b, off, l, rfl, h6, h5, hB.out.2 _ rfl, hE⟩
 have k5 : ∀ w', Tz w' → Calls Tryz.prog 19 #[ratV false none 0 0 none 0 0] w' fun e w'' => e = .returned (.int .i64 20) ∧ Ext w' w'' := fun w' h => live_check w' h
 go_enter Tryz.func5, Tryz.ntmps5
 go_upto_region 2 with (first
  | (go_at_call 28; (with_reducible refine (p1 _ HT.out).mono ?_); rintro e w1 ⟨A1, n1, c1, D1, m1, d1, rfl, hR1, xb1⟩)
  )
 go_upto_region 3 with (first
  | (go_at_call 28; (with_reducible refine (p2 _ (HT.out.ext xcl)).mono ?_); rintro e w2 ⟨A2, n2, c2, D2, m2, d2, rfl, hR2, xb2⟩; obtain ⟨xc2, xf2, xl2, xz2⟩ := jU xb2; (try simp at xz2); obtain ⟨l2_0, r2_0, f2_0, r2_0_1, f2_0_1, r2_0_2, f2_0_2⟩ := kq3 xb2 (w1.heap.size))
  )
 go_upto_region 4 with (first
  | (go_at_call 24; (with_reducible refine (k1 _ _ _ _ _ _ _ _ _ _ _ _ _ (HT.out.ext xcl) (hR1.out.ext xcl) (hR2.out.ext xcl)).mono ?_); rintro e w3 ⟨A3, n3, c3, D3, m3, d3, rfl, hR3, xb3⟩; obtain ⟨xc3, xf3, xl3, xz3⟩ := jU xb3; (try simp at xz3); obtain ⟨l3_0, r3_0, f3_0, r3_0_1, f3_0_1, r3_0_2, f3_0_2⟩ := kq3 xb3 (w1.heap.size); obtain ⟨l3_1, r3_1, f3_1, r3_1_1, f3_1_1, r3_1_2, f3_1_2⟩ := kq3 xb3 (w2.heap.size))
  )
 go_upto_region 5 with (first
  | (go_at_call 16; (with_reducible refine (k2 _ _ _ _ _ _ _ (HT.out.ext xcl) (hR3.out.ext xcl)).mono ?_); rintro e w4 ⟨rfl, xb4⟩; obtain ⟨xc4, xf4, xl4, xz4⟩ := jU xb4; (try simp at xz4); obtain ⟨l4_0, r4_0, f4_0, r4_0_1, f4_0_1, r4_0_2, f4_0_2⟩ := kq3 xb4 (w1.heap.size); obtain ⟨l4_1, r4_1, f4_1, r4_1_1, f4_1_1, r4_1_2, f4_1_2⟩ := kq3 xb4 (w2.heap.size))
  )
 go_upto_region 6 with (first
  | (go_at_call 30; (with_reducible refine (k3 _ _ _ _ _ _ _ _ _ _ _ _ _ (HT.out.ext xcl) (hR1.out.ext xcl) (hR2.out.ext xcl)).mono ?_); rintro e w5 ⟨rfl, xb5⟩; obtain ⟨xc5, xf5, xl5, xz5⟩ := jU xb5; (try simp at xz5); obtain ⟨l5_0, r5_0, f5_0, r5_0_1, f5_0_1, r5_0_2, f5_0_2⟩ := kq3 xb5 (w2.heap.size))
  )
 go_upto_region 7 with (first
  | (go_at_call 28; (with_reducible refine (p3 _ (HT.out.ext xcl)).mono ?_); rintro e w6 ⟨rfl, xb6⟩; obtain ⟨xc6, xf6, xl6, xz6⟩ := jU xb6; (try simp at xz6); obtain ⟨l6_0, r6_0, f6_0, r6_0_1, f6_0_1, r6_0_2, f6_0_2⟩ := kq3 xb6 (w2.heap.size))
  )
 go_upto_region 8 with (first
  | (go_at_call 13; (with_reducible refine (k4 _ _ _ _ _ _ _ (HT.out.ext xcl) (hR2.out.ext xcl)).mono ?_); rintro e w7 ⟨b7, o7, l7, rfl, hc7, hl7, hg7, xb7⟩; obtain ⟨xc7, xf7, xl7, xz7⟩ := jU xb7; (try simp at xz7))
  )
 go_wp2_with (first
  | (go_at_call 19; (with_reducible refine (k5 _ (HT.out.ext xcl)).mono ?_); rintro e w8 ⟨rfl, xb8⟩; obtain ⟨xc8, xf8, xl8, xz8⟩ := jU xb8; (try simp at xz8))
  )
 refine bodyPost_ret (v := .bool true) ?h rfl ⟨rfl, ?_⟩
 case h => simp [results, Tryz.results5, go_sem]
 exact xcl
end Go.Proofs.YtfdmhefjmnlllaaGreatDoor
end
section
/- The program's fractions: the calls, what is lent bound together. -/
namespace Go.Proofs.YtfdmhefjmnlllaaGreatDoor
open Go.RowKit
attribute [local go_sem] sz2 sz3 sz4 sz5 sz6 sz7 sz8
set_option maxHeartbeats 4000000
set_option maxRecDepth 100000
attribute [local irreducible] Calls
structure FH where
 A : Option Addr
 n : Nat
 c : Nat
 D : Option Addr
 m : Nat
 k : Nat
abbrev fV (s : Bool) (F : FH) : Value := ratV s F.A F.n F.c F.D F.m F.k
abbrev RaF (w : World) (z : Int) (d : Nat) (F : FH) : Prop := RaIs w z d F.A F.n F.c F.D F.m F.k
theorem RaIs.few {k : Nat} {w : World} {x : Int} {p : Nat} {A : Option Addr} {n c : Nat} {D : Option Addr} {m l : Nat} (h : RaIs w x p A n c D m l) (hf : Few k x p) : n ≤ k ∧ m ≤ k := ⟨by rw [← h.num.len]; exact hf.1, by rw [← h.den.len]; exact hf.2⟩
section
variable {W : World} {x y : Int} {p q : Nat} {s t u : Bool} {z : Int} {d : Nat}
theorem op_Whole (h1 : -9223372036854775808 ≤ z) (h2 : z ≤ 9223372036854775807) (hu : decide (z < 0) = u) (w' : World) :
  Calls Tryz.prog 29 #[.int .i64 z] w' fun e w'' => ∃ F : FH, e = .returned (fV u F) ∧ Hid (RaF w'' z 1 F) ∧ Ext w' w'' := by
 subst hu
 refine (va_Whole z h1 h2 w').mono ?_
 rintro e w'' ⟨A, n, c, D, m, k, rfl, h1, h2⟩
 exact ⟨⟨A, n, c, D, m, k⟩, rfl, h1, h2⟩
end
end Go.Proofs.YtfdmhefjmnlllaaGreatDoor
end
section
/- The program's fractions: times a power. -/
namespace Go.Proofs.YtfdmhefjmnlllaaGreatDoor
open Go.RowKit
attribute [local go_sem] sz2 sz3 sz4 sz5 sz6 sz7 sz8
set_option maxHeartbeats 4000000
set_option maxRecDepth 100000
attribute [local irreducible] Calls
section
variable (s : Bool) (A : Option Addr) (n c : Nat) (D : Option Addr) (m k : Nat) (b : Nat) (e : Int) (w : World)
theorem sc_nought {z : Int} {d : Nat} (he : e < 0) (kt : ∀ w', Ext w w' → Calls Tryz.prog 40 #[ratV s A n c D m k] w' (KPost w' z d)) :
  Calls Tryz.prog 25 #[ratV s A n c D m k, .int .u32 0, .int .i64 e] w fun r w' => r = .returned (.tuple #[ratV false none 0 0 none 0 0, .int .i64 11]) ∧ Ext w w' := by
 have he2 : decide (e < 0) = true := decide_eq_true he
 go_enter Tryz.func25, Tryz.ntmps25
 go_wp2_with (first
  | (go_at_call 40; (with_reducible refine (kt _ xcl).mono ?_); rintro e w1 ⟨g1, A1, n1, c1, D1, m1, k1, rfl, hI1, hg1, xb1⟩; obtain ⟨xc1, xf1, xl1, xz1⟩ := jU xb1; (try simp at xz1); obtain ⟨l1_0, r1_0, f1_0, r1_0_1, f1_0_1, r1_0_2, f1_0_2⟩ := kq3 xb1 (w.heap.size); obtain ⟨l1_1, r1_1, f1_1, r1_1_1, f1_1_1, r1_1_2, f1_1_2⟩ := kq3 xb1 (w.heap.size + 1))
  )
 have z0 : w1.cell? ⟨w.heap.size + 1, 0, none⟩ = some (.bool false) := by simp [go_sem, *]
 have z1 : w1.cell? ⟨w.heap.size + 1, 1, none⟩ = some (.slice none 0 0) := by simp [go_sem, *]
 have z2 : w1.cell? ⟨w.heap.size + 1, 2, none⟩ = some (.slice none 0 0) := by simp [go_sem, *]
 obtain ⟨q0, q1, q2⟩ := set3 (b := w.heap.size + 1) z0 z1 z2 (.bool false) (.slice none 0 0) (.slice none 0 0)
 have hEE : Ext w w1 := xcl
 refine bodyPost_ret (v := .tuple #[ratV false none 0 0 none 0 0, .int .i64 11]) ?h rfl ⟨rfl, ext_set3 hEE (Nat.le_succ _) _ _ _⟩
 case h => simp [results, Tryz.results25, go_sem, q0, q1, q2]
end
end Go.Proofs.YtfdmhefjmnlllaaGreatDoor
end
section
/- The program's fractions: times a power above nought, and below nought. -/
namespace Go.Proofs.YtfdmhefjmnlllaaGreatDoor
open Go.RowKit
attribute [local go_sem] sz2 sz3 sz4 sz5 sz6 sz7 sz8
set_option maxHeartbeats 4000000
set_option maxRecDepth 100000
attribute [local irreducible] Calls
structure Bl3 (w : World) (b : Nat) : Prop where
 lt : b < w.heap.size
 c0 : w.cell? ⟨b, 0, none⟩ = some (.bool false)
 c1 : w.cell? ⟨b, 1, none⟩ = some (.slice none 0 0)
 c2 : w.cell? ⟨b, 2, none⟩ = some (.slice none 0 0)
 f0 : w.frozen? ⟨b, 0, none⟩ = false
 f1 : w.frozen? ⟨b, 1, none⟩ = false
 f2 : w.frozen? ⟨b, 2, none⟩ = false
theorem Bl3.tch {w w' : World} {b g : Nat} (h : Bl3 w b) (ht : Tch g w w') (hne : b ≠ g) : Bl3 w' b :=
 ⟨Nat.lt_of_lt_of_le h.lt ht.size, (ht.cell (p := ⟨b, 0, none⟩) h.lt hne).trans h.c0, (ht.cell (p := ⟨b, 1, none⟩) h.lt hne).trans h.c1, (ht.cell (p := ⟨b, 2, none⟩) h.lt hne).trans h.c2,
  (ht.frozen (p := ⟨b, 0, none⟩) h.lt hne).trans h.f0, (ht.frozen (p := ⟨b, 1, none⟩) h.lt hne).trans h.f1, (ht.frozen (p := ⟨b, 2, none⟩) h.lt hne).trans h.f2⟩
theorem Bl3.ext {w w' : World} {b : Nat} (h : Bl3 w b) (ht : Ext w w') : Bl3 w' b :=
 ⟨Nat.lt_of_lt_of_le h.lt ht.size, (Below.cell (p := ⟨b, 0, none⟩) ht h.lt).trans h.c0, (Below.cell (p := ⟨b, 1, none⟩) ht h.lt).trans h.c1, (Below.cell (p := ⟨b, 2, none⟩) ht h.lt).trans h.c2,
  (Below.frozen (p := ⟨b, 0, none⟩) ht h.lt).trans h.f0, (Below.frozen (p := ⟨b, 1, none⟩) ht h.lt).trans h.f1, (Below.frozen (p := ⟨b, 2, none⟩) ht h.lt).trans h.f2⟩
section
variable (s : Bool) (A : Option Addr) (n c : Nat) (D : Option Addr) (m k : Nat) (b N V : Nat) (w : World)
end
end Go.Proofs.YtfdmhefjmnlllaaGreatDoor
end
