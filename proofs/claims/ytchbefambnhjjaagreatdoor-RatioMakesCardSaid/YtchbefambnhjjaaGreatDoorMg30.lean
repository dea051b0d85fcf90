/- Lemmas of this proof, laid together: RatR, D2A, D2C, D2D, D2E, D2P1, D2P2, D2P3, D2P4, D2P5, D2P6, D2P7, D2P8. -/
import Derived.Test.YtchbefambnhjjaaGreatDoorMg28
import Derived.Test.YtchbefambnhjjaaGreatDoorMg29
import Derived.Test.YtchbefambnhjjaaGreatDoorMg22
import Derived.Deep.DeepCutAuto
import Derived.Deep.RegionWith
import Derived.Test.YtchbefambnhjjaaGreatDoorMg26
import Derived.Test.YtchbefambnhjjaaGreatDoorMg23
import Derived.Test.YtchbefambnhjjaaGreatDoorMg21
import Derived.Test.YtchbefambnhjjaaGreatDoorMg27
import Derived.Deep.LoopGhost
set_option linter.unusedSimpArgs false
set_option linter.unusedVariables false
section
/- Drawn regions of calls that answer fractions: what each answers. -/
namespace Go.Proofs.YtchbefambnhjjaaGreatDoor
open Go.RowKit
attribute [local irreducible] Calls
theorem off_cells {w : World} {A : Option Addr} {n c : Nat} {xs : List Nat} {B : Nat} {vs : Array Value} {t : TypeId} (h : Rd w A n c xs) (hB : w.heap[B]? = some (.cells vs t (0, 0))) (hv : ∀ (i x : Nat), vs[i]? ≠ some (u32V x)) : Off A n B := by
 intro a ha hn e
 obtain ⟨b, off, s⟩ := a
 have hs := h.at_ _ ha
 simp only at hs e
 subst hs e
 have hl : 0 < xs.length := by rw [h.len]; omega
 have h2 := (h.cells b off ha 0 hl).2
 rw [Nat.add_zero, cell_of_row w b off vs t (0, 0) hB] at h2
 exact hv _ _ h2
theorem Rd.off3 {w : World} {A : Option Addr} {n c : Nat} {xs : List Nat} {B : Nat} (h : Rd w A n c xs) (ho : Off A n B) (v0 v1 v2 : Value) : Rd (((w.setCell ⟨B, 0, none⟩ v0).setCell ⟨B, 1, none⟩ v1).setCell ⟨B, 2, none⟩ v2) A n c xs :=
 h.tch ((((Tch.refl B w).set 0 v0).set 1 v1).set 2 v2) ho
theorem RaIs.off3 {w : World} {z : Int} {d : Nat} {F : FH} {B : Nat} {t : TypeId} (h : RaF w z d F) (hB : w.heap[B]? = some (.cells #[.bool false, .slice none 0 0, .slice none 0 0] t (0, 0))) (v0 v1 v2 : Value) : RaF (((w.setCell ⟨B, 0, none⟩ v0).setCell ⟨B, 1, none⟩ v1).setCell ⟨B, 2, none⟩ v2) z d F := by
 have hv : ∀ (i x : Nat), (#[Value.bool false, .slice none 0 0, .slice none 0 0] : Array Value)[i]? ≠ some (u32V x) := by
  intro i x
  match i with
  | 0 => simp
  | 1 => simp
  | 2 => simp
  | i + 3 => simp
 exact ⟨h.num.off3 (off_cells h.num hB hv) _ _ _, h.den.off3 (off_cells h.den hB hv) _ _ _, h.d0, h.low⟩
end Go.Proofs.YtchbefambnhjjaaGreatDoor
end
section
/- The document's fractions: a library's fraction, told. -/
namespace Go.Proofs.YtchbefambnhjjaaGreatDoor.NB
open Go.RowKit
attribute [local go_sem] sz2 sz3 sz4 sz5 sz6 sz7 sz8
set_option maxHeartbeats 4000000
set_option maxRecDepth 100000
attribute [local irreducible] Calls
theorem bi_Words (b o : Nat) (z : Int) (A : Option Addr) (n c : Nat) (hn : n ≤ 1000000) (w : World) (hx : IntIs w b o z A n c) :
  Calls Tryz.prog 137 #[.pointer (some ⟨b, o, none⟩)] w fun e w' => ∃ (B : Option Addr) (k l : Nat), e = .returned (.slice B k l) ∧ Hid (Rd w' B k l (lim z.natAbs) ∧ Fr w B) ∧ Ext w w' := by
 have HR := Lib.hid hx.rd
 have x1 := hx.words
 have lx := hx.room.lt
 clear hx
 by_cases h0 : n = 0
 ·subst h0
  have hl : lim z.natAbs = [] := List.eq_nil_of_length_eq_zero HR.out.len
  go_enter Tryz.func137, Tryz.ntmps137
  go_wp2
  refine bodyPost_ret (v := .slice none 0 0) ?h rfl ⟨none, 0, 0, rfl, ⟨by rw [hl]; exact Rd.nil _, fun a ha => by cases ha⟩, jR _⟩
  case h => simp [results, Tryz.results137, go_sem]
 ·have hne : ((n : Int) == 0) = false := by rw [beq_eq_false_iff_ne]; omega
  have hne2 : ¬ (n : Int) = 0 := by omega
  go_enter Tryz.func137, Tryz.ntmps137
  go_wp2_with (first
   | (go_at_call 115; (with_reducible refine (bw_copied A n c _ hn _ HR.out).mono ?_); rintro e w1 ⟨rfl, hR1, xb1⟩; obtain ⟨xc1, xf1, xl1, xz1⟩ := jU xb1; (try simp at xz1))
   )
  refine bodyPost_ret (v := .slice (some ⟨w.heap.size, 0, none⟩) n n) ?h rfl ⟨_, n, n, rfl, ⟨hR1.out, fun a ha => by cases ha; exact Nat.le_refl _⟩, xb1⟩
  case h => simp [results, Tryz.results137, go_sem]
theorem rd_Nat (b o : Nat) (z : Int) (A : Option Addr) (n c : Nat) (hn : n ≤ 1000000) (w : World) (hx : IntIs w b o z A n c) :
  Calls Tryz.prog 76 #[.pointer (some ⟨b, o, none⟩)] w fun e w' => ∃ (B : Option Addr) (k l : Nat), e = .returned (natV B k l) ∧ Hid (Rd w' B k l (lim z.natAbs) ∧ Fr w B) ∧ Ext w w' := by
 have k1 : ∀ w', Ext w w' → Calls Tryz.prog 137 #[.pointer (some ⟨b, o, none⟩)] w' fun e w'' => ∃ (B : Option Addr) (k l : Nat), e = .returned (.slice B k l) ∧ Hid (Rd w'' B k l (lim z.natAbs) ∧ Fr w' B) ∧ Ext w' w'' := fun w' he => bi_Words b o z A n c hn w' (hx.ext he)
 clear hx
 go_enter Tryz.func76, Tryz.ntmps76
 go_wp2_with (first
  | (go_at_call 137; (with_reducible refine (k1 _ xcl).mono ?_); rintro e w1 ⟨B1, j1, l1, rfl, hR1, xb1⟩; obtain ⟨xc1, xf1, xl1, xz1⟩ := jU xb1; (try simp at xz1); obtain ⟨l1_0, r1_0, f1_0⟩ := kq1 xb1 (w.heap.size))
  )
 have z0 : w1.cell? ⟨w.heap.size, 0, none⟩ = some (.slice none 0 0) := by simp [go_sem, *]
 have q0 := World.cell?_setCell_same w1 ⟨w.heap.size, 0, none⟩ (.slice B1 j1 l1) z0
 have n6 : ∀ a, B1 = some a → w.heap.size < a.block := fun a ha => by have := hR1.out.2 a ha; (try simp at this); omega
 have hE : Ext w w1 := xcl
 refine bodyPost_ret (v := natV B1 j1 l1) ?h rfl ⟨B1, j1, l1, rfl, ⟨hR1.out.1.set _ n6, fun a ha => Nat.le_of_lt (n6 a ha)⟩, jS hE (Nat.le_refl _) _⟩
 case h => simp [results, Tryz.results76, go_sem, q0, natV]
theorem rd_Long (b o : Nat) (z : Int) (A : Option Addr) (n c : Nat) (hn : n ≤ 1000000) (w : World) (hx : IntIs w b o z A n c) :
  Calls Tryz.prog 113 #[.pointer (some ⟨b, o, none⟩)] w fun e w' => e = .returned (.bool (decide ((524288 : Int) < (bitsOf z.natAbs : Nat)))) ∧ Ext w w' := by
 have k1 : ∀ w', Ext w w' → Calls Tryz.prog 164 #[.pointer (some ⟨b, o, none⟩)] w' fun e w'' => e = .returned (.int .i64 (bitsOf z.natAbs : Nat)) ∧ Ext w' w'' := fun w' he => bi_BitLen b o z A n c hn w' (hx.ext he)
 clear hx
 generalize bitsOf z.natAbs = t at *
 go_enter Tryz.func113, Tryz.ntmps113
 go_wp2_with (first
  | (go_at_call 164; (with_reducible refine (k1 _ xcl).mono ?_); rintro e w1 ⟨rfl, xb1⟩; obtain ⟨xc1, xf1, xl1, xz1⟩ := jU xb1; (try simp at xz1))
  )
 refine bodyPost_ret (v := .bool (decide ((524288 : Int) < ↑t))) ?h rfl ⟨rfl, ?_⟩
 case h => simp [results, Tryz.results113, go_sem]
 exact xcl
abbrev UPost (w : World) (z : Int) (d : Nat) : Ending → World → Prop := fun e w' => ∃ (A : Option Addr) (n c : Nat) (D : Option Addr) (m k : Nat), e = .returned (.tuple #[ratV (decide (z < 0)) A n c D m k, .int .i64 0]) ∧
 Hid (Rd w' A n c (lim z.natAbs) ∧ Fr w A ∧ Rd w' D m k (lim d) ∧ Fr w D) ∧ Ext w w'
theorem rd_Of (g : Nat) (z : Int) (A : Option Addr) (n c d : Nat) (D : Option Addr) (m e : Nat) (hn : n ≤ 16384) (hm : m ≤ 100000) (hl : (lim (denOf d)).length ≤ 16384) (w : World) (hx : RatIs w g z A n c d D m e) :
  Calls Tryz.prog 52 #[.pointer (some ⟨g, 0, none⟩)] w (UPost w z (denOf d)) := by
 have HX := Lib.hid hx
 have hbl : decide ((524288 : Int) < (bitsOf z.natAbs : Nat)) = false := decide_eq_false (by have := (bits_len z.natAbs).1; rw [hx.int.rd.len] at this; omega)
 have HBL := Lib.hid hbl
 have hbd : decide ((524288 : Int) < (bitsOf (denOf d) : Nat)) = false := decide_eq_false (by have := (bits_len (denOf d)).1; omega)
 have HBD := Lib.hid hbd
 have hxl := hx.int.rd.len
 have hsg : decide (z.sign < 0) = decide (z < 0) := by rw [decide_eq_decide]; exact Int.sign_neg_iff
 have HSG := Lib.hid hsg
 clear hx hbl hbd hsg
 go_enter Tryz.func52, Tryz.ntmps52
 go_wp2_with (first
  | (go_at_call 74; (with_reducible refine (br_Num g z A n c d D m e (by omega) _ (HX.out.ext (jA (jR _) _))).mono ?_); rintro e w1 ⟨b1, B1, k1, l1, rfl, hI1, hb1, xb1⟩; have hk1 : k1 ≤ 1000000 := by (have := hI1.out.1.rd.len; omega))
  | (go_at_call 113; (with_reducible refine (rd_Long b1 0 z B1 k1 l1 hk1 _ hI1.out.1).mono ?_); rintro e w2 ⟨rfl, xb2⟩; rw [HBL.out])
  | (go_at_call 75; (with_reducible refine (br_Denom g z A n c d D m e (by omega) _ (HX.out.ext (jT (jA (jR _) _) (jT xb1 xb2)))).mono ?_); rintro e w3 ⟨b3, B3, k3, l3, rfl, hI3, hb3, xb3⟩; have hk3 : k3 ≤ 1000000 := by (have := hI3.out.1.rd.len; simp at this; omega))
  | (go_at_call 113; (with_reducible refine (rd_Long b3 0 (denOf d : Nat) B3 k3 l3 hk3 _ hI3.out.1).mono ?_); rintro e w4 ⟨rfl, xb4⟩; rw [Int.natAbs_natCast, HBD.out]; have hE4 := Lib.hid (jT (jA (jR w) (Obj.cells #[.bool false, .slice none 0 0, .slice none 0 0] 32)) (jT (jT xb1 xb2) (jT xb3 xb4))); have hF4 := Lib.hid (jT (jT xb1 xb2) (jT xb3 xb4)))
  | (go_at_call 99; (with_reducible refine (br_Sign g z A n c _ (HX.out.ext hE4.out).int).mono ?_); rintro e w5 ⟨rfl, xb5⟩)
  | (go_at_call 74; (with_reducible refine (br_Num g z A n c d D m e (by omega) _ (HX.out.ext (jT hE4.out xb5))).mono ?_); rintro e w6 ⟨b6, B6, k6, l6, rfl, hI6, hb6, xb6⟩; have hk6 : k6 ≤ 1000000 := by (have := hI6.out.1.rd.len; omega))
  | (go_at_call 76; (with_reducible refine (rd_Nat b6 0 z B6 k6 l6 hk6 _ hI6.out.1).mono ?_); rintro e w7 ⟨A7, k7, c7, rfl, hR7, xb7⟩)
  | (go_at_call 75; (with_reducible refine (br_Denom g z A n c d D m e (by omega) _ (HX.out.ext (jT hE4.out (jT xb5 (jT xb6 xb7))))).mono ?_); rintro e w8 ⟨b8, B8, k8, l8, rfl, hI8, hb8, xb8⟩; have hk8 : k8 ≤ 1000000 := by (have := hI8.out.1.rd.len; simp at this; omega))
  | (go_at_call 76; (with_reducible refine (rd_Nat b8 0 (denOf d : Nat) B8 k8 l8 hk8 _ hI8.out.1).mono ?_); rintro e w9 ⟨A9, k9, c9, rfl, hR9, xb9⟩; obtain ⟨r0, r1, r2, f0, f1, f2, rl⟩ := res3 w w9 _ (jT hF4.out (jT xb5 (jT xb6 (jT xb7 (jT xb8 xb9))))))
  )
 have hA7 : Rd w9 A7 k7 c7 (lim z.natAbs) := hR7.out.1.ext (jT xb8 xb9)
 have hA9 : Rd w9 A9 k9 c9 (lim (denOf d)) := by have := hR9.out.1; rwa [Int.natAbs_natCast] at this
 have hs4 : w.heap.size + 1 ≤ w4.heap.size := by have := ext_size hF4.out; simpa using this
 have hF7 : Fr w4 A7 := hR7.out.2.mono (jT xb5 xb6)
 have hF9 : Fr w4 A9 := hR9.out.2.mono (jT (jT xb5 xb6) (jT xb7 xb8))
 have n7 : ∀ a, A7 = some a → w.heap.size < a.block := fun a ha => by have := hF7 a ha; omega
 have n9 : ∀ a, A9 = some a → w.heap.size < a.block := fun a ha => by have := hF9 a ha; omega
 have hE := Lib.hid (jT hE4.out (jT xb5 (jT xb6 (jT xb7 (jT xb8 xb9)))))
 obtain ⟨q0, q1, q2⟩ := set3 r0 r1 r2 (.bool (decide (z < 0))) (.slice A7 k7 c7) (.slice A9 k9 c9)
 refine bodyPost_ret (v := .tuple #[ratV (decide (z < 0)) A7 k7 c7 A9 k9 c9, .int .i64 0]) ?h rfl ⟨A7, k7, c7, A9, k9, c9, rfl, ⟨hA7.set3 n7 _ _ _, fun a ha => Nat.le_of_lt (n7 a ha), hA9.set3 n9 _ _ _, fun a ha => Nat.le_of_lt (n9 a ha)⟩, ext_set3 hE.out (Nat.le_refl _) _ _ _⟩
 case h => simp [results, Tryz.results52, go_sem, q0, q1, q2, natV]
end Go.Proofs.YtchbefambnhjjaaGreatDoor.NB
end
section
/- The document's fractions: numbers out of texts, fractions out of numbers, in new blocks. -/
namespace Go.Proofs.YtchbefambnhjjaaGreatDoor.NB
open Go.RowKit
set_option maxRecDepth 100000
attribute [local irreducible] Calls
abbrev newInt (u : World) : World := u.alloc (Obj.cells #[.bool false, .slice none 0 0] 67)
abbrev newRat (u : World) : World := u.alloc (Obj.cells #[.bool false, .slice none 0 0, .slice none 0 0] 74)
theorem room_int (u : World) : Room (newInt u) u.heap.size 0 :=
 ⟨by simp, ⟨_, by simp [go_sem]; rfl⟩, ⟨_, by simp [go_sem]; rfl⟩, by simp [go_sem], by simp [go_sem]⟩
theorem room_rat (u : World) : RatRoom (newRat u) u.heap.size :=
 ⟨⟨by simp, ⟨_, by simp [go_sem]; rfl⟩, ⟨_, by simp [go_sem]; rfl⟩, by simp [go_sem], by simp [go_sem]⟩, ⟨_, by simp [go_sem]; rfl⟩, by simp [go_sem]⟩
end Go.Proofs.YtchbefambnhjjaaGreatDoor.NB
end
section
/- The document's fractions: whether one may be; as the library has it. -/
namespace Go.Proofs.YtchbefambnhjjaaGreatDoor.NB
open Go.RowKit
attribute [local go_sem] sz2 sz3 sz4 sz5 sz6 sz7 sz8
set_option maxHeartbeats 4000000
set_option maxRecDepth 100000
attribute [local irreducible] Calls
attribute [local go_sem] D2.Oper.detAt D2.detUpon D2.relUpon
theorem rd_May (A : Option Addr) (n c : Nat) (xs : List Nat) (w : World) (hR : Rd w A n c xs) :
  Calls Tryz.prog 81 #[natV A n c] w fun e w' => e = .returned (.bool (decide (chk xs = 0))) ∧ Ext w w' := by
 have hmx := hR.mx
 have hcx := hR.cap
 have hlen := Lib.hid hR.len
 by_cases h1 : 16384 < n
 ·have e : decide (chk xs = 0) = false := by unfold chk; rw [if_pos (by rw [hlen.out]; omega)]; rfl
  rw [e]
  have h2 : decide ((n : Int) ≤ 16384) = false := decide_eq_false (by omega)
  clear e hR
  go_enter Tryz.func81, Tryz.ntmps81
  go_wp2
  refine bodyPost_ret (v := _) ?h rfl ⟨rfl, ?_⟩
  case h => simp [results, Tryz.results81, go_sem]
  exact xcl
 have h2 : decide ((n : Int) ≤ 16384) = true := decide_eq_true (by omega)
 by_cases h0 : n = 0
 ·have e : decide (chk xs = 0) = true := by unfold chk; rw [if_neg (by rw [hlen.out]; omega), if_neg (by rw [hlen.out]; omega)]; rfl
  rw [e]
  clear e hR
  subst h0
  go_enter Tryz.func81, Tryz.ntmps81
  go_wp2
  refine bodyPost_ret (v := _) ?h rfl ⟨rfl, ?_⟩
  case h => simp [results, Tryz.results81, go_sem]
  exact xcl
 rcases hR.shape with ⟨rfl, rfl, rfl, rfl⟩ | ⟨b, off, rfl⟩
 ·exact absurd rfl h0
 obtain ⟨x, hx, hxb, hc⟩ := hR.get (n - 1) (by omega)
 have hb : b < w.heap.size := World.block_lt_of_cell? w _ hc
 have e : decide (chk xs = 0) = decide (x ≠ 0) := by
  unfold chk
  rw [if_neg (by rw [hlen.out]; omega), hlen.out, hx.out, decide_eq_decide]
  by_cases h : x = 0
  ·rw [if_pos ⟨by omega, h⟩, h]; simp
  ·rw [if_neg (fun h' => h h'.2)]; simp [h]
 rw [e]
 have hn0 : ((n : Int) == 0) = false := by rw [beq_eq_false_iff_ne]; omega
 clear e hR
 by_cases hz : x = 0
 ·subst hz
  simp only [ne_eq, not_true_eq_false, decide_false]
  go_enter Tryz.func81, Tryz.ntmps81
  go_wp2
  refine bodyPost_ret (v := _) ?h rfl ⟨rfl, ?_⟩
  case h => simp [results, Tryz.results81, go_sem]
  exact xcl
 ·have hne : ((x : Int) == 0) = false := by rw [beq_eq_false_iff_ne]; omega
  have hne2 : ¬ (x : Int) = 0 := by omega
  simp only [ne_eq, hz, not_false_eq_true, decide_true]
  go_enter Tryz.func81, Tryz.ntmps81
  go_wp2
  refine bodyPost_ret (v := _) ?h rfl ⟨rfl, ?_⟩
  case h => simp [results, Tryz.results81, go_sem, hz]
  exact xcl
theorem op_SetWords (A : Option Addr) (n c a : Nat) (hn : n ≤ 1000000) (b : Nat) (u : World) (hb : b = u.heap.size) (hA : Rd u A n c (lim a)) :
  Calls Tryz.prog 142 #[.pointer (some ⟨b, 0, none⟩), .slice A n c] (newInt u) fun e w' => ∃ (A' : Option Addr) (n' c' : Nat), e = .returned (.pointer (some ⟨b, 0, none⟩)) ∧ Hid (IntIs w' b 0 ((a : Nat) : Int) A' n' c' ∧ Fr u A') ∧ Ext u w' := by
 subst hb
 have hE : Ext u (newInt u) := jA (jR u) _
 refine (bi_SetWords u.heap.size 0 A n c a hn (newInt u) (room_int u) (hA.ext hE)).mono ?_
 rintro e w' ⟨rfl, A', n', c', hI, ht⟩
 exact ⟨A', n', c', rfl, Lib.hid ⟨hI.out.1, Fr.mono hI.out.2 hE⟩, ht.ext hE (Nat.le_refl _)⟩
theorem rd_Int (A : Option Addr) (n c a : Nat) (hn : n ≤ 1000000) (w : World) (hA : Rd w A n c (lim a)) :
  Calls Tryz.prog 82 #[natV A n c] w (NPost w ((a : Nat) : Int)) := by
 have HA := Lib.hid hA
 clear hA
 go_enter Tryz.func82, Tryz.ntmps82
 go_wp2_with (first
  | (go_at_call 142; (with_reducible refine (op_SetWords A n c a hn _ (w.alloc (Obj.cells #[.slice A n c] 30)) (by simp) (HA.out.ext (jA (jR w) _))).mono ?_); rintro e w1 ⟨A1, n1, c1, rfl, hI1, xb1⟩)
  )
 have hE := Lib.hid (jT (jA (jR w) (Obj.cells #[.slice A n c] 30)) xb1)
 refine bodyPost_ret (v := .pointer (some ⟨w.heap.size + 1, 0, none⟩)) ?h rfl ⟨_, A1, n1, c1, rfl, ⟨hI1.out.1, Fr.mono hI1.out.2 (jA (jR w) _)⟩, Nat.le_succ _, hE.out⟩
 case h => simp [results, Tryz.results82, go_sem]
section
variable (s : Bool) (A : Option Addr) (n c a : Nat) (D : Option Addr) (m k d : Nat) (w : World)
end
end Go.Proofs.YtchbefambnhjjaaGreatDoor.NB
end
section
/- The document's fractions: as the library has them; two of them. -/
namespace Go.Proofs.YtchbefambnhjjaaGreatDoor.NB
open Go.RowKit
attribute [local go_sem] sz2 sz3 sz4 sz5 sz6 sz7 sz8
set_option maxHeartbeats 4000000
set_option maxRecDepth 100000
attribute [local irreducible] Calls
theorem br_SetFracC (g bx b2 : Nat) (z : Int) (d : Nat) (hd : d ≠ 0) (A : Option Addr) (n c : Nat) (D : Option Addr) (m k : Nat) (hn : n ≤ 400000) (hm : m ≤ 400000) (w : World) (hT : Tz w) (hr : RatRoom w g) (hx : IntIs w bx 0 z A n c) (hyy : IntIs w b2 0 (d : Nat) D m k) :
  Calls Tryz.prog 53 #[.pointer (some ⟨g, 0, none⟩), .pointer (some ⟨bx, 0, none⟩), .pointer (some ⟨b2, 0, none⟩)] w (FPost w g (canN z d) (canW z d)) := by
 have h := br_SetFrac g bx b2 z (d : Nat) (by omega) A n c D m k hn hm w hT hr hx hyy
 rw [Int.natAbs_natCast, low_can] at h
 have e : qneg z (d : Nat) = decide (z < 0) := by
  unfold qneg
  have : decide (((d : Nat) : Int) < 0) = false := decide_eq_false (by omega)
  rw [this]; simp
 rw [e] at h
 exact h
section
variable (s t : Bool) (A : Option Addr) (n c : Nat) (D : Option Addr) (m k : Nat) (B : Option Addr) (n2 c2 : Nat) (C : Option Addr) (m2 k2 : Nat) (w : World)
end
end Go.Proofs.YtchbefambnhjjaaGreatDoor.NB
end
