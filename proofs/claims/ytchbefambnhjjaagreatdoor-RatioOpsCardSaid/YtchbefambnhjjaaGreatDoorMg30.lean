/- Lemmas of this proof, laid together: D2E, D2P3, D2P4, D2P5, D2P6, D2P7, D2P8. -/
import Derived.Test.YtchbefambnhjjaaGreatDoorMg29
import Derived.Test.YtchbefambnhjjaaGreatDoorMg27
import Derived.Deep.DeepCutAuto
import Derived.Deep.RegionWith
import Derived.Deep.LoopGhost
set_option linter.unusedSimpArgs false
set_option linter.unusedVariables false
section
/- The document's fractions: as the library has them; two of them. -/
namespace Go.Proofs.YtchbefambnhjjaaGreatDoor.NB
open Go.RowKit
attribute [local go_sem] sz2 sz3 sz4 sz5 sz6 sz7 sz8
set_option maxHeartbeats 4000000
set_option maxRecDepth 100000
attribute [local irreducible] Calls
theorem br_SetFracC (g bx b2 : Nat) (z : Int) (d : Nat) (hd : d ≠ 0) (A : Option Addr) (n c : Nat) (D : Option Addr) (m k : Nat) (hn : n ≤ 400000) (hm : m ≤ 400000) (w : World) (hT : Tz w) (hr : RatRoom w g) (hx : IntIs w bx 0 z A n c) (hyy : IntIs w b2 0 (d : Nat) D m k) :
  Calls Tryz.prog 53 #[.pointer (some ⟨g, 0, none⟩), .pointer (some ⟨bx, 0, none⟩), .pointer (some ⟨b2, 0, none⟩)] w (FPost w g (canN z d) (canW z d)) := by
 have h := br_SetFrac g bx b2 z (d : Nat) (by omega) A n c D m k hn hm w hT hr hx hyy
 rw [Int.natAbs_natCast, low_can] at h
 have e : qneg z (d : Nat) = decide (z < 0) := by
  unfold qneg
  have : decide (((d : Nat) : Int) < 0) = false := decide_eq_false (by omega)
  rw [this]; simp
 rw [e] at h
 exact h
abbrev RatPst (w : World) (z : Int) (d : Nat) : Ending → World → Prop := fun e w' => ∃ (g : Nat) (A : Option Addr) (n c : Nat) (D : Option Addr) (m k : Nat), e = .returned (.pointer (some ⟨g, 0, none⟩)) ∧ Hid (RatIs w' g z A n c d D m k ∧ Fr w A ∧ Fr w D) ∧ w.heap.size ≤ g ∧ Ext w w'
theorem rd_Rat (s : Bool) (A : Option Addr) (n c a : Nat) (D : Option Addr) (m k d : Nat) (hd : d ≠ 0) (hn : n ≤ 16384) (hm : m ≤ 16384) (hg : Nat.gcd a d = 1) (w : World) (hT : Tz w) (hA : Rd w A n c (lim a)) (hD : Rd w D m k (lim d)) :
  Calls Tryz.prog 62 #[ratV s A n c D m k] w (RatPst w (sgn s a) (lowD a d)) := by
 have HT := Lib.hid hT
 have hla := hA.len
 have hld := hD.len
 have kA : ∀ w', Ext w w' → Calls Tryz.prog 82 #[natV A n c] w' (NPost w' ((a : Nat) : Int)) := fun w' he => rd_Int A n c a (by omega) w' (hA.ext he)
 have kD : ∀ w', Ext w w' → Calls Tryz.prog 82 #[natV D m k] w' (NPost w' ((d : Nat) : Int)) := fun w' he => rd_Int D m k d (by omega) w' (hD.ext he)
 have kF : ∀ (g b1 b2 : Nat) (A1 : Option Addr) (n1 c1 : Nat) (A2 : Option Addr) (n2 c2 : Nat) (w' : World), Ext w w' → RatRoom w' g → IntIs w' b1 0 (sgn s a) A1 n1 c1 → IntIs w' b2 0 ((d : Nat) : Int) A2 n2 c2 → Calls Tryz.prog 53 #[.pointer (some ⟨g, 0, none⟩), .pointer (some ⟨b1, 0, none⟩), .pointer (some ⟨b2, 0, none⟩)] w' (FPost w' g (sgn s a) (lowD a d)) := fun g b1 b2 A1 n1 c1 A2 n2 c2 w' he hr h1 h2 => by
  have e1 := h1.rd.len
  have e2 := h2.rd.len
  rw [sgn_abs] at e1
  rw [Int.natAbs_natCast] at e2
  have h := br_SetFracC g b1 b2 (sgn s a) d hd A1 n1 c1 A2 n2 c2 (by omega) (by omega) w' (HT.out.ext he) hr h1 h2
  rw [(can_self (z := sgn s a) hd (by rw [sgn_abs]; exact hg)).1, ← low_can, sgn_abs] at h
  exact h
 have HLA := Lib.hid hla
 clear hA hD hT hd hg hla hld
 generalize lowD a d = p at *
 cases s with
 | false =>
  have e0 : sgn false a = ((a : Nat) : Int) := rfl
  rw [e0] at kF ⊢
  clear e0
  go_enter Tryz.func62, Tryz.ntmps62
  go_wp2_with (first
   | (go_at_call 82; (with_reducible refine (kA _ xcl).mono ?_); rintro e w1 ⟨b1, A1, n1, c1, rfl, hI1, hb1, xb1⟩; obtain ⟨xc1, xf1, xl1, xz1⟩ := jU xb1; (try simp at xz1); obtain ⟨l1_0, r1_0, f1_0, r1_0_1, f1_0_1, r1_0_2, f1_0_2⟩ := kq3 xb1 (w.heap.size))
   | (go_at_call 82; (with_reducible refine (kD _ xcl).mono ?_); rintro e w2 ⟨b2, A2, n2, c2, rfl, hI2, hb2, xb2⟩; obtain ⟨xc2, xf2, xl2, xz2⟩ := jU xb2; (try simp at xz2); obtain ⟨l2_0, r2_0, f2_0, r2_0_1, f2_0_1, r2_0_2, f2_0_2⟩ := kq3 xb2 (w.heap.size))
   | (go_at_call 53; (with_reducible refine (kF _ _ _ _ _ _ _ _ _ _ xcl ((room_rat w1).ext xb2) (hI1.out.1.ext xcl) hI2.out.1).mono ?_); rintro e w3 ⟨rfl, A3, n3, c3, D3, m3, k3, hR3, xt3⟩)
   )
  have hE1 : Ext w w1 := xcl
  have hE12 : Ext w1 w2 := xcl
  have hE3 : Ext w w3 := jT hE1 (xt3.ext hE12 (Nat.le_refl _))
  have hs := ext_size hE1
  refine bodyPost_ret (v := .pointer (some ⟨w1.heap.size, 0, none⟩)) ?h rfl ⟨_, A3, n3, c3, D3, m3, k3, rfl, ⟨hR3.out.1, Fr.mono hR3.out.2.1 (jT hE1 hE12), Fr.mono hR3.out.2.2 (jT hE1 hE12)⟩, hs, hE3⟩
  case h => simp [results, Tryz.results62, go_sem]
 | true =>
  have e0 : sgn true a = -((a : Nat) : Int) := rfl
  rw [e0] at kF ⊢
  clear e0
  go_enter Tryz.func62, Tryz.ntmps62
  go_upto_region 3 with (first
   | (go_at_call 82; (with_reducible refine (kA _ xcl).mono ?_); rintro e w1 ⟨b1, A1, n1, c1, rfl, hI1, hb1, xb1⟩; obtain ⟨xc1, xf1, xl1, xz1⟩ := jU xb1; (try simp at xz1); obtain ⟨l1_0, r1_0, f1_0, r1_0_1, f1_0_1, r1_0_2, f1_0_2⟩ := kq3 xb1 (w.heap.size))
   )
  have hn1 : n1 ≤ 1000000 := by have e1 := hI1.out.1.rd.len; rw [Int.natAbs_natCast] at e1; have e2 := HLA.out; omega
  have kN := bi_Neg b1 0 b1 0 A1 n1 c1 ((a : Nat) : Int) hn1 w1 hI1.out.1.room hI1.out.1
  go_upto_region 4 with (first
   | (go_at_call 85; (with_reducible refine kN.mono ?_); rintro e w4 ⟨rfl, A4, n4, c4, hI4, xt4⟩)
   )
  have hE4 := xt4.ext xb1 hb1
  clear kN xb1
  obtain ⟨xc4, xf4, xl4, xz4⟩ := jU (hE4)
  obtain ⟨l4_0, gc, gf⟩ := kp (hE4) (w.heap.size) (by first | omega | (simp; try omega))
  have r4_0 := gc 0
  have f4_0 := gf 0
  have r4_0_1 := gc 1
  have f4_0_1 := gf 1
  have r4_0_2 := gc 2
  have f4_0_2 := gf 2
  clear gc gf
  go_wp2_with (first
   | (go_at_call 82; (with_reducible refine (kD _ xcl).mono ?_); rintro e w2 ⟨b2, A2, n2, c2, rfl, hI2, hb2, xb2⟩; obtain ⟨xc2, xf2, xl2, xz2⟩ := jU xb2; (try simp at xz2); obtain ⟨l2_0, r2_0, f2_0, r2_0_1, f2_0_1, r2_0_2, f2_0_2⟩ := kq3 xb2 (w.heap.size))
   | (go_at_call 53; (with_reducible refine (kF _ _ _ _ _ _ _ _ _ _ xcl ((room_rat w4).ext xb2) (hI4.out.1.ext xcl) hI2.out.1).mono ?_); rintro e w3 ⟨rfl, A3, n3, c3, D3, m3, k3, hR3, xt3⟩)
   )
  have hE1 : Ext w w4 := xcl
  have hE12 : Ext w4 w2 := xcl
  have hE3 : Ext w w3 := jT hE1 (xt3.ext hE12 (Nat.le_refl _))
  have hs := ext_size hE1
  refine bodyPost_ret (v := .pointer (some ⟨w4.heap.size, 0, none⟩)) ?h rfl ⟨_, A3, n3, c3, D3, m3, k3, rfl, ⟨hR3.out.1, Fr.mono hR3.out.2.1 (jT hE1 hE12), Fr.mono hR3.out.2.2 (jT hE1 hE12)⟩, hs, hE3⟩
  case h => simp [results, Tryz.results62, go_sem]
abbrev BothPst (w : World) (x : Int) (p : Nat) (y : Int) (q : Nat) : Ending → World → Prop := fun e w' => ∃ (g : Nat) (A : Option Addr) (n c : Nat) (D : Option Addr) (m k h : Nat) (B : Option Addr) (n2 c2 : Nat) (C : Option Addr) (m2 k2 : Nat),
 e = .returned (.tuple #[.pointer (some ⟨g, 0, none⟩), .pointer (some ⟨h, 0, none⟩), .int .i64 0]) ∧ Hid (RatIs w' g x A n c p D m k ∧ RatIs w' h y B n2 c2 q C m2 k2 ∧ Off C m2 g) ∧ w.heap.size ≤ g ∧ Ext w w'
section
variable (s t : Bool) (A : Option Addr) (n c : Nat) (D : Option Addr) (m k : Nat) (B : Option Addr) (n2 c2 : Nat) (C : Option Addr) (m2 k2 : Nat) (w : World)
theorem rd_both (x : Int) (p : Nat) (y : Int) (q : Nat)
  (kC1 : ∀ w', Ext w w' → Calls Tryz.prog 27 #[ratV s A n c D m k] w' fun e w'' => e = .returned (.int .i64 0) ∧ Ext w' w'')
  (kC2 : ∀ w', Ext w w' → Calls Tryz.prog 27 #[ratV t B n2 c2 C m2 k2] w' fun e w'' => e = .returned (.int .i64 0) ∧ Ext w' w'')
  (kR1 : ∀ w', Ext w w' → Calls Tryz.prog 62 #[ratV s A n c D m k] w' (RatPst w' x p))
  (kR2 : ∀ w', Ext w w' → Calls Tryz.prog 62 #[ratV t B n2 c2 C m2 k2] w' (RatPst w' y q)) :
  Calls Tryz.prog 92 #[ratV s A n c D m k, ratV t B n2 c2 C m2 k2] w (BothPst w x p y q) := by
 go_enter Tryz.func92, Tryz.ntmps92
 go_upto_region 3 with (first
  | (go_at_call 27; (with_reducible refine (kC1 _ xcl).mono ?_); rintro e w1 ⟨rfl, xb1⟩; obtain ⟨xc1, xf1, xl1, xz1⟩ := jU xb1; (try simp at xz1); obtain ⟨l1_0, r1_0, f1_0, r1_0_1, f1_0_1, r1_0_2, f1_0_2⟩ := kq3 xb1 (w.heap.size); obtain ⟨l1_1, r1_1, f1_1, r1_1_1, f1_1_1, r1_1_2, f1_1_2⟩ := kq3 xb1 (w.heap.size + 1))
  | (go_at_call 27; (with_reducible refine (kC2 _ xcl).mono ?_); rintro e w2 ⟨rfl, xb2⟩; obtain ⟨xc2, xf2, xl2, xz2⟩ := jU xb2; (try simp at xz2); obtain ⟨l2_0, r2_0, f2_0, r2_0_1, f2_0_1, r2_0_2, f2_0_2⟩ := kq3 xb2 (w.heap.size); obtain ⟨l2_1, r2_1, f2_1, r2_1_1, f2_1_1, r2_1_2, f2_1_2⟩ := kq3 xb2 (w.heap.size + 1))
  )
 go_region_with (first
  | (go_at_call 62; (with_reducible refine (kR1 _ xcl).mono ?_); rintro e w3 ⟨g3, A3, n3, c3, D3, m3, k3, rfl, hR3, hg3, xb3⟩; obtain ⟨xc3, xf3, xl3, xz3⟩ := jU xb3; (try simp at xz3); obtain ⟨l3_0, r3_0, f3_0, r3_0_1, f3_0_1, r3_0_2, f3_0_2⟩ := kq3 xb3 (w.heap.size); obtain ⟨l3_1, r3_1, f3_1, r3_1_1, f3_1_1, r3_1_2, f3_1_2⟩ := kq3 xb3 (w.heap.size + 1))
  | (go_at_call 62; (with_reducible refine (kR2 _ xcl).mono ?_); rintro e w4 ⟨g4, A4, n4, c4, D4, m4, k4, rfl, hR4, hg4, xb4⟩; obtain ⟨xc4, xf4, xl4, xz4⟩ := jU xb4; (try simp at xz4); obtain ⟨l4_0, r4_0, f4_0, r4_0_1, f4_0_1, r4_0_2, f4_0_2⟩ := kq3 xb4 (w.heap.size); obtain ⟨l4_1, r4_1, f4_1, r4_1_1, f4_1_1, r4_1_2, f4_1_2⟩ := kq3 xb4 (w.heap.size + 1))
  )
 all_goals
  go_wp2_with fail
  have q3 := hR3.out.1.int.room.lt
  have q4 := hR4.out.1.int.room.lt
  have hz2 : w.heap.size ≤ w2.heap.size := ext_size (show Ext w w2 by exact xcl)
  refine bodyPost_ret (v := .tuple #[.pointer (some ⟨g3, 0, none⟩), .pointer (some ⟨g4, 0, none⟩), .int .i64 0]) ?h rfl ⟨g3, A3, n3, c3, D3, m3, k3, g4, A4, n4, c4, D4, m4, k4, rfl, ?_, ?_, ?_⟩
  case h => simp [results, Tryz.results92, go_sem]
  ·first
    | exact Lib.hid ⟨hR3.out.1.ext xb4, hR4.out.1, hR4.out.2.2.off q3 m4⟩
    | exact Lib.hid ⟨hR3.out.1, hR4.out.1.ext xb3, hR4.out.1.rd.off hg3⟩
  ·have y3 := hg3
   have s4 := ext_size xb4
   simp at y3 s4
   omega
  ·exact xcl
theorem rd_both_no1
  (kC1 : ∀ w', Ext w w' → Calls Tryz.prog 27 #[ratV s A n c D m k] w' fun e w'' => e = .returned (.int .i64 20) ∧ Ext w' w'') :
  Calls Tryz.prog 92 #[ratV s A n c D m k, ratV t B n2 c2 C m2 k2] w fun e w' => e = .returned (.tuple #[.pointer none, .pointer none, .int .i64 20]) ∧ Ext w w' := by
 go_enter Tryz.func92, Tryz.ntmps92
 go_wp2_with (first
  | (go_at_call 27; (with_reducible refine (kC1 _ xcl).mono ?_); rintro e w1 ⟨rfl, xb1⟩; obtain ⟨xc1, xf1, xl1, xz1⟩ := jU xb1; (try simp at xz1); obtain ⟨l1_0, r1_0, f1_0, r1_0_1, f1_0_1, r1_0_2, f1_0_2⟩ := kq3 xb1 (w.heap.size); obtain ⟨l1_1, r1_1, f1_1, r1_1_1, f1_1_1, r1_1_2, f1_1_2⟩ := kq3 xb1 (w.heap.size + 1))
  )
 refine bodyPost_ret (v := .tuple #[.pointer none, .pointer none, .int .i64 20]) ?h rfl ⟨rfl, ?_⟩
 case h => simp [results, Tryz.results92, go_sem]
 exact xcl
theorem rd_both_no2
  (kC1 : ∀ w', Ext w w' → Calls Tryz.prog 27 #[ratV s A n c D m k] w' fun e w'' => e = .returned (.int .i64 0) ∧ Ext w' w'')
  (kC2 : ∀ w', Ext w w' → Calls Tryz.prog 27 #[ratV t B n2 c2 C m2 k2] w' fun e w'' => e = .returned (.int .i64 20) ∧ Ext w' w'') :
  Calls Tryz.prog 92 #[ratV s A n c D m k, ratV t B n2 c2 C m2 k2] w fun e w' => e = .returned (.tuple #[.pointer none, .pointer none, .int .i64 20]) ∧ Ext w w' := by
 go_enter Tryz.func92, Tryz.ntmps92
 go_wp2_with (first
  | (go_at_call 27; (with_reducible refine (kC1 _ xcl).mono ?_); rintro e w1 ⟨rfl, xb1⟩; obtain ⟨xc1, xf1, xl1, xz1⟩ := jU xb1; (try simp at xz1); obtain ⟨l1_0, r1_0, f1_0, r1_0_1, f1_0_1, r1_0_2, f1_0_2⟩ := kq3 xb1 (w.heap.size); obtain ⟨l1_1, r1_1, f1_1, r1_1_1, f1_1_1, r1_1_2, f1_1_2⟩ := kq3 xb1 (w.heap.size + 1))
  | (go_at_call 27; (with_reducible refine (kC2 _ xcl).mono ?_); rintro e w2 ⟨rfl, xb2⟩; obtain ⟨xc2, xf2, xl2, xz2⟩ := jU xb2; (try simp at xz2); obtain ⟨l2_0, r2_0, f2_0, r2_0_1, f2_0_1, r2_0_2, f2_0_2⟩ := kq3 xb2 (w.heap.size); obtain ⟨l2_1, r2_1, f2_1, r2_1_1, f2_1_1, r2_1_2, f2_1_2⟩ := kq3 xb2 (w.heap.size + 1))
  )
 refine bodyPost_ret (v := .tuple #[.pointer none, .pointer none, .int .i64 20]) ?h rfl ⟨rfl, ?_⟩
 case h => simp [results, Tryz.results92, go_sem]
 exact xcl
end
end Go.Proofs.YtchbefambnhjjaaGreatDoor.NB
end
