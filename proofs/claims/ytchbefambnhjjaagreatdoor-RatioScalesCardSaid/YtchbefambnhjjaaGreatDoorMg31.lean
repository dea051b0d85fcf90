/- Lemmas of this proof, laid together: D2C, D2D, D2E, D2P1, D2P2, D2P3, D2P4, D2P5, D2P6, D2P7, D2P8, SclC, SclD. -/
import Derived.Test.YtchbefambnhjjaaGreatDoorMg28
import Derived.Test.YtchbefambnhjjaaGreatDoorMg30
import Derived.Test.YtchbefambnhjjaaGreatDoorMg26
import Derived.Test.YtchbefambnhjjaaGreatDoorMg22
import Derived.Test.YtchbefambnhjjaaGreatDoorMg25
import Derived.Test.YtchbefambnhjjaaGreatDoorMg21
import Derived.Test.YtchbefambnhjjaaGreatDoorMg27
import Derived.Deep.DeepCutAuto
import Derived.Deep.RegionWith
import Derived.Deep.LoopGhost
import Derived.Test.YtchbefambnhjjaaGreatDoorMg23
set_option linter.unusedSimpArgs false
set_option linter.unusedVariables false
section
/- The document's fractions: numbers out of texts, fractions out of numbers, in new blocks. -/
namespace Go.Proofs.YtchbefambnhjjaaGreatDoor.NB
open Go.RowKit
set_option maxRecDepth 100000
attribute [local irreducible] Calls
abbrev newInt (u : World) : World := u.alloc (Obj.cells #[.bool false, .slice none 0 0] 67)
abbrev newRat (u : World) : World := u.alloc (Obj.cells #[.bool false, .slice none 0 0, .slice none 0 0] 74)
theorem room_int (u : World) : Room (newInt u) u.heap.size 0 :=
 ⟨by simp, ⟨_, by simp [go_sem]; rfl⟩, ⟨_, by simp [go_sem]; rfl⟩, by simp [go_sem], by simp [go_sem]⟩
theorem room_rat (u : World) : RatRoom (newRat u) u.heap.size :=
 ⟨⟨by simp, ⟨_, by simp [go_sem]; rfl⟩, ⟨_, by simp [go_sem]; rfl⟩, by simp [go_sem], by simp [go_sem]⟩, ⟨_, by simp [go_sem]; rfl⟩, by simp [go_sem]⟩
theorem op_One (u : World) : Calls Tryz.prog 50 #[.int .i64 1] u fun e w' => ∃ (b : Nat) (A : Option Addr) (n c : Nat), e = .returned (.pointer (some ⟨b, 0, none⟩)) ∧ Hid (IntIs w' b 0 ((1 : Nat) : Int) A n c) ∧ Ext u w' := by
 refine (bi_NewInt 1 (by decide) (by decide) u).mono ?_
 rintro e w' ⟨b, B, k, l, rfl, h1, _, h2⟩
 exact ⟨b, B, k, l, rfl, Lib.hid h1.out.1, h2⟩
end Go.Proofs.YtchbefambnhjjaaGreatDoor.NB
end
section
/- The document's fractions: whether one may be; as the library has it. -/
namespace Go.Proofs.YtchbefambnhjjaaGreatDoor.NB
open Go.RowKit
attribute [local go_sem] sz2 sz3 sz4 sz5 sz6 sz7 sz8
set_option maxHeartbeats 4000000
set_option maxRecDepth 100000
attribute [local irreducible] Calls
attribute [local go_sem] D2.Oper.detAt D2.detUpon D2.relUpon
theorem rd_May (A : Option Addr) (n c : Nat) (xs : List Nat) (w : World) (hR : Rd w A n c xs) :
  Calls Tryz.prog 81 #[natV A n c] w fun e w' => e = .returned (.bool (decide (chk xs = 0))) ∧ Ext w w' := by
 have hmx := hR.mx
 have hcx := hR.cap
 have hlen := Lib.hid hR.len
 by_cases h1 : 16384 < n
 ·have e : decide (chk xs = 0) = false := by unfold chk; rw [if_pos (by rw [hlen.out]; omega)]; rfl
  rw [e]
  have h2 : decide ((n : Int) ≤ 16384) = false := decide_eq_false (by omega)
  clear e hR
  go_enter Tryz.func81, Tryz.ntmps81
  go_wp2
  refine bodyPost_ret (v := _) ?h rfl ⟨rfl, ?_⟩
  case h => simp [results, Tryz.results81, go_sem]
  exact xcl
 have h2 : decide ((n : Int) ≤ 16384) = true := decide_eq_true (by omega)
 by_cases h0 : n = 0
 ·have e : decide (chk xs = 0) = true := by unfold chk; rw [if_neg (by rw [hlen.out]; omega), if_neg (by rw [hlen.out]; omega)]; rfl
  rw [e]
  clear e hR
  subst h0
  go_enter Tryz.func81, Tryz.ntmps81
  go_wp2
  refine bodyPost_ret (v := _) ?h rfl ⟨rfl, ?_⟩
  case h => simp [results, Tryz.results81, go_sem]
  exact xcl
 rcases hR.shape with ⟨rfl, rfl, rfl, rfl⟩ | ⟨b, off, rfl⟩
 ·exact absurd rfl h0
 obtain ⟨x, hx, hxb, hc⟩ := hR.get (n - 1) (by omega)
 have hb : b < w.heap.size := World.block_lt_of_cell? w _ hc
 have e : decide (chk xs = 0) = decide (x ≠ 0) := by
  unfold chk
  rw [if_neg (by rw [hlen.out]; omega), hlen.out, hx.out, decide_eq_decide]
  by_cases h : x = 0
  ·rw [if_pos ⟨by omega, h⟩, h]; simp
  ·rw [if_neg (fun h' => h h'.2)]; simp [h]
 rw [e]
 have hn0 : ((n : Int) == 0) = false := by rw [beq_eq_false_iff_ne]; omega
 clear e hR
 by_cases hz : x = 0
 ·subst hz
  simp only [ne_eq, not_true_eq_false, decide_false]
  go_enter Tryz.func81, Tryz.ntmps81
  go_wp2
  refine bodyPost_ret (v := _) ?h rfl ⟨rfl, ?_⟩
  case h => simp [results, Tryz.results81, go_sem]
  exact xcl
 ·have hne : ((x : Int) == 0) = false := by rw [beq_eq_false_iff_ne]; omega
  have hne2 : ¬ (x : Int) = 0 := by omega
  simp only [ne_eq, hz, not_false_eq_true, decide_true]
  go_enter Tryz.func81, Tryz.ntmps81
  go_wp2
  refine bodyPost_ret (v := _) ?h rfl ⟨rfl, ?_⟩
  case h => simp [results, Tryz.results81, go_sem, hz]
  exact xcl
theorem op_SetWords (A : Option Addr) (n c a : Nat) (hn : n ≤ 1000000) (b : Nat) (u : World) (hb : b = u.heap.size) (hA : Rd u A n c (lim a)) :
  Calls Tryz.prog 142 #[.pointer (some ⟨b, 0, none⟩), .slice A n c] (newInt u) fun e w' => ∃ (A' : Option Addr) (n' c' : Nat), e = .returned (.pointer (some ⟨b, 0, none⟩)) ∧ Hid (IntIs w' b 0 ((a : Nat) : Int) A' n' c' ∧ Fr u A') ∧ Ext u w' := by
 subst hb
 have hE : Ext u (newInt u) := jA (jR u) _
 refine (bi_SetWords u.heap.size 0 A n c a hn (newInt u) (room_int u) (hA.ext hE)).mono ?_
 rintro e w' ⟨rfl, A', n', c', hI, ht⟩
 exact ⟨A', n', c', rfl, Lib.hid ⟨hI.out.1, Fr.mono hI.out.2 hE⟩, ht.ext hE (Nat.le_refl _)⟩
theorem rd_Int (A : Option Addr) (n c a : Nat) (hn : n ≤ 1000000) (w : World) (hA : Rd w A n c (lim a)) :
  Calls Tryz.prog 82 #[natV A n c] w (NPost w ((a : Nat) : Int)) := by
 have HA := Lib.hid hA
 clear hA
 go_enter Tryz.func82, Tryz.ntmps82
 go_wp2_with (first
  | (go_at_call 142; (with_reducible refine (op_SetWords A n c a hn _ (w.alloc (Obj.cells #[.slice A n c] 30)) (by simp) (HA.out.ext (jA (jR w) _))).mono ?_); rintro e w1 ⟨A1, n1, c1, rfl, hI1, xb1⟩)
  )
 have hE := Lib.hid (jT (jA (jR w) (Obj.cells #[.slice A n c] 30)) xb1)
 refine bodyPost_ret (v := .pointer (some ⟨w.heap.size + 1, 0, none⟩)) ?h rfl ⟨_, A1, n1, c1, rfl, ⟨hI1.out.1, Fr.mono hI1.out.2 (jA (jR w) _)⟩, Nat.le_succ _, hE.out⟩
 case h => simp [results, Tryz.results82, go_sem]
theorem bi_GCD (b bx b2 x y : Nat) (A : Option Addr) (n c : Nat) (B : Option Addr) (m d : Nat) (hn : n ≤ 400000) (hm : m ≤ 400000) (w : World) (hT : Tz w) (hr : Room w b 0) (hx : IntIs w bx 0 ((x : Nat) : Int) A n c) (hy : IntIs w b2 0 ((y : Nat) : Int) B m d) :
  Calls Tryz.prog 84 #[.pointer (some ⟨b, 0, none⟩), .pointer none, .pointer none, .pointer (some ⟨bx, 0, none⟩), .pointer (some ⟨b2, 0, none⟩)] w (IPost w b 0 ((Nat.gcd x y : Nat) : Int)) := by
 have HR := Lib.hid hr
 have x1 := hx.words
 have y1 := hy.words
 have lx := hx.room.lt
 have ly := hy.room.lt
 have hlt := hr.lt
 have rx := hx.rd
 have ry := hy.rd
 rw [Int.natAbs_natCast] at rx ry
 rw [Nat.zero_add] at x1 y1
 have kC : ∀ w', Ext w w' → Calls Tryz.prog 144 #[.slice A n c, .slice B m d] w' (WPost w' (Nat.gcd x y)) := fun w' he => bw_common A B n c m d x y hn hm w' (hT.ext he) (rx.ext he) (ry.ext he)
 have hsg : Hid (sgn false (Nat.gcd x y) = ((Nat.gcd x y : Nat) : Int)) := Lib.hid rfl
 generalize Nat.gcd x y = g at *
 clear hr hx hy rx ry hT
 go_enter Tryz.func84, Tryz.ntmps84
 go_wp2
 refine D2.wp_drawn_tail 10 (D2.tab [(9, RWord w.heap.size g)]) (by kernel_rfl) (by kernel_rfl) (by kernel_rfl) (D2.tab_stays (by simp [D2.stays_word])) (fun hq hqf => ?_)
 simp only [List.take_succ_cons, List.take_zero, List.drop_succ_cons, List.drop_zero]
 have z1 := fun nq => (hq nq bx 1 lx).trans x1
 have z3 := fun nq => (hq nq b2 1 ly).trans y1
 iterate 9
  (refine D2.wpK_det rfl (fun K hK => ?_)
   go_simp
   first
    | (refine hK _ ?_; clear hK K)
    | (apply Exists.intro; refine ⟨fun x => ?_, hK _ ?_⟩; (first | exact z1 x | exact z3 x | (simp [z1, z3]; rfl)); clear hK K))
 refine D2.wpK_rel _ rfl rfl ?_ ?_
 ·rintro _ ⟨nn, rfl⟩ _
  unfold D2.Oper.relAt
  go_simp
  exact D2.rel_wpost (ext_size nn.use) (kC _ nn.use)
 rintro v ⟨_, ⟨nn, rfl⟩, hr⟩
 obtain ⟨A9, k9, c9, rfl, -, -⟩ := hr
 clear nn
 refine D2.wpK_nil ?_
 intro nq2 hG
 have r9 : RWord w.heap.size g [] (.slice A9 k9 c9) nq2.out := by have := hG.fact 9; simp [D2.Facts.put] at this; exact this
 have hR9 := Lib.hid (rword_at r9)
 have hF9 : Fr w A9 := hR9.out.2
 have hO9 := hF9.off HR.out.lt k9
 clear r9 hG
 go_wp2_with (first
  | (go_at_call 111; (with_reducible refine (bi_set b 0 false A9 k9 c9 g _ (HR.out.ext nq2.use) hR9.out.1 hO9).mono ?_); rintro e w3 ⟨rfl, hI3, xt3⟩)
  )
 refine bodyPost_ret (v := .pointer (some ⟨b, 0, none⟩)) ?h rfl ⟨rfl, A9, k9, c9, ⟨by have := hI3.out; rwa [hsg.out] at this, hF9⟩, (Tch.of nq2.use).trans xt3⟩
 case h => simp [results, Tryz.results84, go_sem]
theorem op_GCD (b bx b2 x y : Nat) (A : Option Addr) (n c : Nat) (B : Option Addr) (m d : Nat) (hn : n ≤ 400000) (hm : m ≤ 400000) (u : World) (hb : b = u.heap.size) (hT : Tz u) (hx : IntIs u bx 0 ((x : Nat) : Int) A n c) (hy : IntIs u b2 0 ((y : Nat) : Int) B m d) {g : Nat} (hg : Nat.gcd x y = g) :
  Calls Tryz.prog 84 #[.pointer (some ⟨b, 0, none⟩), .pointer none, .pointer none, .pointer (some ⟨bx, 0, none⟩), .pointer (some ⟨b2, 0, none⟩)] (newInt u) fun e w' => ∃ (A' : Option Addr) (n' c' : Nat), e = .returned (.pointer (some ⟨b, 0, none⟩)) ∧ Hid (IntIs w' b 0 ((g : Nat) : Int) A' n' c') ∧ Ext u w' := by
 subst hb hg
 have hE : Ext u (newInt u) := jA (jR u) _
 refine (bi_GCD u.heap.size bx b2 x y A n c B m d hn hm (newInt u) (hT.ext hE) (room_int u) (hx.ext hE) (hy.ext hE)).mono ?_
 rintro e w' ⟨rfl, A', n', c', hI, ht⟩
 exact ⟨A', n', c', rfl, Lib.hid hI.out.1, ht.ext hE (Nat.le_refl _)⟩
theorem op_One2 {p : Prop} (_ : Hid p) (u : World) : Calls Tryz.prog 50 #[.int .i64 1] u fun e w' => ∃ (b : Nat) (A : Option Addr) (n c : Nat), e = .returned (.pointer (some ⟨b, 0, none⟩)) ∧ Hid (IntIs w' b 0 ((1 : Nat) : Int) A n c) ∧ Ext u w' := op_One u
theorem op_Cmp1 (x : Nat) (b g : Nat) (A : Option Addr) (n c : Nat) (B : Option Addr) (m d : Nat) (w : World) (hx : IntIs w b 0 ((x : Nat) : Int) A n c) (hy : IntIs w g 0 ((1 : Nat) : Int) B m d) :
  Calls Tryz.prog 83 #[.pointer (some ⟨b, 0, none⟩), .pointer (some ⟨g, 0, none⟩)] w fun e w' => e = .returned (.int .i64 ((x : Int) - 1).sign) ∧ Ext w w' := bi_Cmp b 0 g 0 (x : Int) 1 A n c B m d w hx hy
theorem sign_one (x : Nat) : ((((x : Int) - 1).sign == 0) = true ↔ x = 1) := by
 rw [beq_iff_eq, Int.sign_eq_zero_iff_zero]; omega
section
variable (s : Bool) (A : Option Addr) (n c a : Nat) (D : Option Addr) (m k d : Nat) (w : World)
theorem rd_Check_no1 (h : s = s) (xs ys : List Nat) (hc : chk xs ≠ 0) (hA : Rd w A n c xs) (hD : Rd w D m k ys) :
  Calls Tryz.prog 27 #[ratV s A n c D m k] w fun e w' => e = .returned (.int .i64 20) ∧ Ext w w' := by
 have k1 : ∀ w', Ext w w' → Calls Tryz.prog 81 #[natV A n c] w' fun e w'' => e = .returned (.bool false) ∧ Ext w' w'' := fun w' he => by have := rd_May A n c xs w' (hA.ext he); rwa [decide_eq_false hc] at this
 have k2 : ∃ t, ∀ w', Ext w w' → Calls Tryz.prog 81 #[natV D m k] w' fun e w'' => e = .returned (.bool t) ∧ Ext w' w'' := ⟨_, fun w' he => rd_May D m k ys w' (hD.ext he)⟩
 obtain ⟨t, k2⟩ := k2
 clear hA hD hc
 go_enter Tryz.func27, Tryz.ntmps27
 go_upto_region 2 with (first
  | (go_at_call 81; (with_reducible refine (k1 _ xcl).mono ?_); rintro e w1 ⟨rfl, xb1⟩; obtain ⟨xc1, xf1, xl1, xz1⟩ := jU xb1; (try simp at xz1); obtain ⟨l1_0, r1_0, f1_0, r1_0_1, f1_0_1, r1_0_2, f1_0_2⟩ := kq3 xb1 (w.heap.size))
  )
 go_wp2_with (first
  | (go_at_call 81; (with_reducible refine (k2 _ xcl).mono ?_); rintro e w2 ⟨rfl, xb2⟩; obtain ⟨xc2, xf2, xl2, xz2⟩ := jU xb2; (try simp at xz2); obtain ⟨l2_0, r2_0, f2_0, r2_0_1, f2_0_1, r2_0_2, f2_0_2⟩ := kq3 xb2 (w.heap.size))
  )
 refine bodyPost_ret (v := .int .i64 20) ?h rfl ⟨rfl, ?_⟩
 case h => simp [results, Tryz.results27, go_sem]
 exact xcl
theorem rd_Check_no2 (xs ys : List Nat) (hc : chk xs = 0) (hc2 : chk ys ≠ 0 ∨ m = 0) (hA : Rd w A n c xs) (hD : Rd w D m k ys) :
  Calls Tryz.prog 27 #[ratV s A n c D m k] w fun e w' => e = .returned (.int .i64 20) ∧ Ext w w' := by
 have k1 : ∀ w', Ext w w' → Calls Tryz.prog 81 #[natV A n c] w' fun e w'' => e = .returned (.bool true) ∧ Ext w' w'' := fun w' he => by have := rd_May A n c xs w' (hA.ext he); rwa [decide_eq_true hc] at this
 by_cases h : chk ys = 0
 ·have k2 : ∀ w', Ext w w' → Calls Tryz.prog 81 #[natV D m k] w' fun e w'' => e = .returned (.bool true) ∧ Ext w' w'' := fun w' he => by have := rd_May D m k ys w' (hD.ext he); rwa [decide_eq_true h] at this
  obtain rfl : m = 0 := by rcases hc2 with h1 | h1; exact absurd h h1; exact h1
  clear hA hD hc hc2 h
  go_enter Tryz.func27, Tryz.ntmps27
  go_upto_region 2 with (first
   | (go_at_call 81; (with_reducible refine (k1 _ xcl).mono ?_); rintro e w1 ⟨rfl, xb1⟩; obtain ⟨xc1, xf1, xl1, xz1⟩ := jU xb1; (try simp at xz1); obtain ⟨l1_0, r1_0, f1_0, r1_0_1, f1_0_1, r1_0_2, f1_0_2⟩ := kq3 xb1 (w.heap.size))
   )
  go_wp2_with (first
   | (go_at_call 81; (with_reducible refine (k2 _ xcl).mono ?_); rintro e w2 ⟨rfl, xb2⟩; obtain ⟨xc2, xf2, xl2, xz2⟩ := jU xb2; (try simp at xz2); obtain ⟨l2_0, r2_0, f2_0, r2_0_1, f2_0_1, r2_0_2, f2_0_2⟩ := kq3 xb2 (w.heap.size))
   )
  refine bodyPost_ret (v := .int .i64 20) ?h rfl ⟨rfl, ?_⟩
  case h => simp [results, Tryz.results27, go_sem]
  exact xcl
 ·have k2 : ∀ w', Ext w w' → Calls Tryz.prog 81 #[natV D m k] w' fun e w'' => e = .returned (.bool false) ∧ Ext w' w'' := fun w' he => by have := rd_May D m k ys w' (hD.ext he); rwa [decide_eq_false h] at this
  clear hA hD hc hc2 h
  go_enter Tryz.func27, Tryz.ntmps27
  go_upto_region 2 with (first
   | (go_at_call 81; (with_reducible refine (k1 _ xcl).mono ?_); rintro e w1 ⟨rfl, xb1⟩; obtain ⟨xc1, xf1, xl1, xz1⟩ := jU xb1; (try simp at xz1); obtain ⟨l1_0, r1_0, f1_0, r1_0_1, f1_0_1, r1_0_2, f1_0_2⟩ := kq3 xb1 (w.heap.size))
   )
  go_wp2_with (first
   | (go_at_call 81; (with_reducible refine (k2 _ xcl).mono ?_); rintro e w2 ⟨rfl, xb2⟩; obtain ⟨xc2, xf2, xl2, xz2⟩ := jU xb2; (try simp at xz2); obtain ⟨l2_0, r2_0, f2_0, r2_0_1, f2_0_1, r2_0_2, f2_0_2⟩ := kq3 xb2 (w.heap.size))
   )
  refine bodyPost_ret (v := .int .i64 20) ?h rfl ⟨rfl, ?_⟩
  case h => simp [results, Tryz.results27, go_sem]
  exact xcl
theorem rd_Check_in (q : Nat) (hq : Nat.gcd a d = q) (hd : d ≠ 0) (hn : n ≤ 16384) (hm : m ≤ 16384) (hT : Tz w) (hA : Rd w A n c (lim a)) (hD : Rd w D m k (lim d)) (E : Int) (hE : E = if (a = 0 ∧ (s = true ∨ d ≠ 1)) ∨ q ≠ 1 then 20 else 0) :
  Calls Tryz.prog 27 #[ratV s A n c D m k] w fun e w' => e = .returned (.int .i64 E) ∧ Ext w w' := by
 have HT := Lib.hid hT
 have hla := hA.len
 have hld := hD.len
 have hm0 : ((m : Int) == 0) = false := by
  rw [beq_eq_false_iff_ne]
  intro h; exact hd (lim_nil.1 (List.eq_nil_of_length_eq_zero (by omega)))
 have k1 : ∀ w', Ext w w' → Calls Tryz.prog 81 #[natV A n c] w' fun e w'' => e = .returned (.bool true) ∧ Ext w' w'' := fun w' he => by have := rd_May A n c (lim a) w' (hA.ext he); rwa [decide_eq_true (chk_lim (by omega))] at this
 have k2 : ∀ w', Ext w w' → Calls Tryz.prog 81 #[natV D m k] w' fun e w'' => e = .returned (.bool true) ∧ Ext w' w'' := fun w' he => by have := rd_May D m k (lim d) w' (hD.ext he); rwa [decide_eq_true (chk_lim (by omega))] at this
 have k3 : ∀ w', Ext w w' → Calls Tryz.prog 82 #[natV A n c] w' (NPost w' ((a : Nat) : Int)) := fun w' he => rd_Int A n c a (by omega) w' (hA.ext he)
 have k4 : ∀ w', Ext w w' → Calls Tryz.prog 82 #[natV D m k] w' (NPost w' ((d : Nat) : Int)) := fun w' he => rd_Int D m k d (by omega) w' (hD.ext he)
 have kG : ∀ (b1 b2 b3 : Nat) (A1 : Option Addr) (n1 c1 : Nat) (A2 : Option Addr) (n2 c2 : Nat) (u : World), b3 = u.heap.size → Ext w u → IntIs u b1 0 ((a : Nat) : Int) A1 n1 c1 → IntIs u b2 0 ((d : Nat) : Int) A2 n2 c2 → Calls Tryz.prog 84 #[.pointer (some ⟨b3, 0, none⟩), .pointer none, .pointer none, .pointer (some ⟨b1, 0, none⟩), .pointer (some ⟨b2, 0, none⟩)] (newInt u) fun e w' => ∃ (A' : Option Addr) (n' c' : Nat), e = .returned (.pointer (some ⟨b3, 0, none⟩)) ∧ Hid (IntIs w' b3 0 ((q : Nat) : Int) A' n' c') ∧ Ext u w' := fun b1 b2 b3 A1 n1 c1 A2 n2 c2 u hb he h1 h2 => by
  have e1 := h1.rd.len
  have e2 := h2.rd.len
  rw [Int.natAbs_natCast] at e1 e2
  exact op_GCD b3 b1 b2 a d A1 n1 c1 A2 n2 c2 (by omega) (by omega) u hb (HT.out.ext he) h1 h2 hq
 have kS : ∀ (b : Nat) (B : Option Addr) (n1 c1 : Nat) (w' : World), IntIs w' b 0 ((a : Nat) : Int) B n1 c1 → Calls Tryz.prog 51 #[.pointer (some ⟨b, 0, none⟩)] w' fun e w'' => e = .returned (.int .i64 ((a : Nat) : Int).sign) ∧ Ext w' w'' := fun b B n1 c1 w' h => bi_Sign b 0 _ B n1 c1 w' h
 have kD : ∀ (b g : Nat) (B : Option Addr) (n1 c1 : Nat) (C : Option Addr) (n2 c2 : Nat) (w' : World), IntIs w' b 0 ((d : Nat) : Int) B n1 c1 → IntIs w' g 0 ((1 : Nat) : Int) C n2 c2 → Calls Tryz.prog 83 #[.pointer (some ⟨b, 0, none⟩), .pointer (some ⟨g, 0, none⟩)] w' fun e w'' => e = .returned (.int .i64 ((d : Int) - 1).sign) ∧ Ext w' w'' := fun b g B n1 c1 C n2 c2 w' h1 h2 => op_Cmp1 d b g B n1 c1 C n2 c2 w' h1 h2
 have kQ : ∀ (b g : Nat) (B : Option Addr) (n1 c1 : Nat) (C : Option Addr) (n2 c2 : Nat) (w' : World), IntIs w' b 0 ((q : Nat) : Int) B n1 c1 → IntIs w' g 0 ((1 : Nat) : Int) C n2 c2 → Calls Tryz.prog 83 #[.pointer (some ⟨b, 0, none⟩), .pointer (some ⟨g, 0, none⟩)] w' fun e w'' => e = .returned (.int .i64 (((q : Nat) : Int) - 1).sign) ∧ Ext w' w'' := fun b g B n1 c1 C n2 c2 w' h1 h2 => op_Cmp1 _ b g B n1 c1 C n2 c2 w' h1 h2
 have qs : (((((a : Nat) : Int).sign) == 0) = true ↔ a = 0) := by rw [beq_iff_eq, Int.sign_eq_zero_iff_zero]; omega
 have qd := sign_one d
 have qg := sign_one q
 generalize hS : ((a : Nat) : Int).sign = S at *
 generalize hQ : ((d : Int) - 1).sign = Q at *
 generalize hP : ((q : Int) - 1).sign = P at *
 clear hS hQ hP hA hD hT hla hld hq
 by_cases h1 : a = 0 <;> by_cases h2 : s = true <;> by_cases h3 : d = 1 <;> by_cases h4 : q = 1
 all_goals
  have x1 : (S == 0) = decide (a = 0) := by rw [Bool.eq_iff_iff, qs, decide_eq_true_eq]
  have x2 : (Q == 0) = decide (d = 1) := by rw [Bool.eq_iff_iff, qd, decide_eq_true_eq]
  have x3 : (P == 0) = decide (q = 1) := by rw [Bool.eq_iff_iff, qg, decide_eq_true_eq]
  have y2 : (Q != 0) = !decide (d = 1) := by rw [← x2]; rfl
  have y3 : (P != 0) = !decide (q = 1) := by rw [← x3]; rfl
  simp only [h1, h3, h4, decide_true, decide_false, Bool.not_true, Bool.not_false] at x1 x2 x3 y2 y3
  try simp only [Bool.not_eq_true] at h2
  simp [h1, h2, h3, h4] at hE
  subst hE
  clear qs qd qg h1 h3 h4
  subst h2
  go_enter Tryz.func27, Tryz.ntmps27
  go_upto_region 2 with (first
   | (go_at_call 81; (with_reducible refine (k1 _ xcl).mono ?_); rintro e w1 ⟨rfl, xb1⟩; obtain ⟨xc1, xf1, xl1, xz1⟩ := jU xb1; (try simp at xz1); obtain ⟨l1_0, r1_0, f1_0, r1_0_1, f1_0_1, r1_0_2, f1_0_2⟩ := kq3 xb1 (w.heap.size))
   )
  go_upto_region 5 with (first
   | (go_at_call 81; (with_reducible refine (k2 _ xcl).mono ?_); rintro e w2 ⟨rfl, xb2⟩; obtain ⟨xc2, xf2, xl2, xz2⟩ := jU xb2; (try simp at xz2); obtain ⟨l2_0, r2_0, f2_0, r2_0_1, f2_0_1, r2_0_2, f2_0_2⟩ := kq3 xb2 (w.heap.size))
   )
  go_upto_region 6 with (first
   | (go_at_call 82; (with_reducible refine (k3 _ xcl).mono ?_); rintro e w3 ⟨b3, A3, n3, c3, rfl, hI3, hb3, xb3⟩; obtain ⟨xc3, xf3, xl3, xz3⟩ := jU xb3; (try simp at xz3); obtain ⟨l3_0, r3_0, f3_0, r3_0_1, f3_0_1, r3_0_2, f3_0_2⟩ := kq3 xb3 (w.heap.size))
   )
  go_upto_region 7 with (first
   | (go_at_call 82; (with_reducible refine (k4 _ xcl).mono ?_); rintro e w4 ⟨b4, A4, n4, c4, rfl, hI4, hb4, xb4⟩; obtain ⟨xc4, xf4, xl4, xz4⟩ := jU xb4; (try simp at xz4); obtain ⟨l4_0, r4_0, f4_0, r4_0_1, f4_0_1, r4_0_2, f4_0_2⟩ := kq3 xb4 (w.heap.size))
   )
  have hJ3 := Lib.hid (hI3.out.1.ext xb4)
  have hJ4 := Lib.hid hI4.out.1
  go_wp2_with (first
   | (go_at_call 51; (with_reducible refine (kS _ _ _ _ _ hJ3.out).mono ?_); rintro e w5 ⟨rfl, xb5⟩; obtain ⟨xc5, xf5, xl5, xz5⟩ := jU xb5; (try simp at xz5); obtain ⟨l5_0, r5_0, f5_0, r5_0_1, f5_0_1, r5_0_2, f5_0_2⟩ := kq3 xb5 (w.heap.size))
   | (go_at_call 83; (with_reducible refine (kQ _ _ _ _ _ _ _ _ _ (hI8.out.ext xb9) hI9.out).mono ?_); rintro e w10 ⟨rfl, xb10⟩; obtain ⟨xc10, xf10, xl10, xz10⟩ := jU xb10; (try simp at xz10); obtain ⟨l10_0, r10_0, f10_0, r10_0_1, f10_0_1, r10_0_2, f10_0_2⟩ := kq3 xb10 (w.heap.size))
   | (go_at_call 50; (with_reducible refine (op_One2 hI8 _).mono ?_); rintro e w9 ⟨b9, A9, n9, c9, rfl, hI9, xb9⟩; obtain ⟨xc9, xf9, xl9, xz9⟩ := jU xb9; (try simp at xz9); obtain ⟨l9_0, r9_0, f9_0, r9_0_1, f9_0_1, r9_0_2, f9_0_2⟩ := kq3 xb9 (w.heap.size))
   | (go_at_call 84; (with_reducible refine (kG _ _ _ _ _ _ _ _ _ _ (by simp) xcl (hJ3.out.ext xcl) (hJ4.out.ext xcl)).mono ?_); rintro e w8 ⟨A8, n8, c8, rfl, hI8, xb8⟩; obtain ⟨xc8, xf8, xl8, xz8⟩ := jU xb8; (try simp at xz8))
   | (go_at_call 83; (with_reducible refine (kD _ _ _ _ _ _ _ _ _ (hJ4.out.ext xcl) hI6.out).mono ?_); rintro e w7 ⟨rfl, xb7⟩; obtain ⟨xc7, xf7, xl7, xz7⟩ := jU xb7; (try simp at xz7); obtain ⟨l7_0, r7_0, f7_0, r7_0_1, f7_0_1, r7_0_2, f7_0_2⟩ := kq3 xb7 (w.heap.size))
   | (go_at_call 50; (with_reducible refine (op_One _).mono ?_); rintro e w6 ⟨b6, A6, n6, c6, rfl, hI6, xb6⟩; obtain ⟨xc6, xf6, xl6, xz6⟩ := jU xb6; (try simp at xz6); obtain ⟨l6_0, r6_0, f6_0, r6_0_1, f6_0_1, r6_0_2, f6_0_2⟩ := kq3 xb6 (w.heap.size))
   )
  refine bodyPost_ret (v := .int .i64 _) ?h rfl ⟨rfl, ?_⟩
  case h => simp [results, Tryz.results27, go_sem]
  exact xcl
end
end Go.Proofs.YtchbefambnhjjaaGreatDoor.NB
end
section
/- The document's fractions: as the library has them; two of them. -/
namespace Go.Proofs.YtchbefambnhjjaaGreatDoor.NB
open Go.RowKit
attribute [local go_sem] sz2 sz3 sz4 sz5 sz6 sz7 sz8
set_option maxHeartbeats 4000000
set_option maxRecDepth 100000
attribute [local irreducible] Calls
theorem br_SetFracC (g bx b2 : Nat) (z : Int) (d : Nat) (hd : d ≠ 0) (A : Option Addr) (n c : Nat) (D : Option Addr) (m k : Nat) (hn : n ≤ 400000) (hm : m ≤ 400000) (w : World) (hT : Tz w) (hr : RatRoom w g) (hx : IntIs w bx 0 z A n c) (hyy : IntIs w b2 0 (d : Nat) D m k) :
  Calls Tryz.prog 53 #[.pointer (some ⟨g, 0, none⟩), .pointer (some ⟨bx, 0, none⟩), .pointer (some ⟨b2, 0, none⟩)] w (FPost w g (canN z d) (canW z d)) := by
 have h := br_SetFrac g bx b2 z (d : Nat) (by omega) A n c D m k hn hm w hT hr hx hyy
 rw [Int.natAbs_natCast, low_can] at h
 have e : qneg z (d : Nat) = decide (z < 0) := by
  unfold qneg
  have : decide (((d : Nat) : Int) < 0) = false := decide_eq_false (by omega)
  rw [this]; simp
 rw [e] at h
 exact h
abbrev RatPst (w : World) (z : Int) (d : Nat) : Ending → World → Prop := fun e w' => ∃ (g : Nat) (A : Option Addr) (n c : Nat) (D : Option Addr) (m k : Nat), e = .returned (.pointer (some ⟨g, 0, none⟩)) ∧ Hid (RatIs w' g z A n c d D m k ∧ Fr w A ∧ Fr w D) ∧ w.heap.size ≤ g ∧ Ext w w'
theorem rd_Rat (s : Bool) (A : Option Addr) (n c a : Nat) (D : Option Addr) (m k d : Nat) (hd : d ≠ 0) (hn : n ≤ 16384) (hm : m ≤ 16384) (hg : Nat.gcd a d = 1) (w : World) (hT : Tz w) (hA : Rd w A n c (lim a)) (hD : Rd w D m k (lim d)) :
  Calls Tryz.prog 62 #[ratV s A n c D m k] w (RatPst w (sgn s a) (lowD a d)) := by
 have HT := Lib.hid hT
 have hla := hA.len
 have hld := hD.len
 have kA : ∀ w', Ext w w' → Calls Tryz.prog 82 #[natV A n c] w' (NPost w' ((a : Nat) : Int)) := fun w' he => rd_Int A n c a (by omega) w' (hA.ext he)
 have kD : ∀ w', Ext w w' → Calls Tryz.prog 82 #[natV D m k] w' (NPost w' ((d : Nat) : Int)) := fun w' he => rd_Int D m k d (by omega) w' (hD.ext he)
 have kF : ∀ (g b1 b2 : Nat) (A1 : Option Addr) (n1 c1 : Nat) (A2 : Option Addr) (n2 c2 : Nat) (w' : World), Ext w w' → RatRoom w' g → IntIs w' b1 0 (sgn s a) A1 n1 c1 → IntIs w' b2 0 ((d : Nat) : Int) A2 n2 c2 → Calls Tryz.prog 53 #[.pointer (some ⟨g, 0, none⟩), .pointer (some ⟨b1, 0, none⟩), .pointer (some ⟨b2, 0, none⟩)] w' (FPost w' g (sgn s a) (lowD a d)) := fun g b1 b2 A1 n1 c1 A2 n2 c2 w' he hr h1 h2 => by
  have e1 := h1.rd.len
  have e2 := h2.rd.len
  rw [sgn_abs] at e1
  rw [Int.natAbs_natCast] at e2
  have h := br_SetFracC g b1 b2 (sgn s a) d hd A1 n1 c1 A2 n2 c2 (by omega) (by omega) w' (HT.out.ext he) hr h1 h2
  rw [(can_self (z := sgn s a) hd (by rw [sgn_abs]; exact hg)).1, ← low_can, sgn_abs] at h
  exact h
 have HLA := Lib.hid hla
 clear hA hD hT hd hg hla hld
 generalize lowD a d = p at *
 cases s with
 | false =>
  have e0 : sgn false a = ((a : Nat) : Int) := rfl
  rw [e0] at kF ⊢
  clear e0
  go_enter Tryz.func62, Tryz.ntmps62
  go_wp2_with (first
   | (go_at_call 82; (with_reducible refine (kA _ xcl).mono ?_); rintro e w1 ⟨b1, A1, n1, c1, rfl, hI1, hb1, xb1⟩; obtain ⟨xc1, xf1, xl1, xz1⟩ := jU xb1; (try simp at xz1); obtain ⟨l1_0, r1_0, f1_0, r1_0_1, f1_0_1, r1_0_2, f1_0_2⟩ := kq3 xb1 (w.heap.size))
   | (go_at_call 82; (with_reducible refine (kD _ xcl).mono ?_); rintro e w2 ⟨b2, A2, n2, c2, rfl, hI2, hb2, xb2⟩; obtain ⟨xc2, xf2, xl2, xz2⟩ := jU xb2; (try simp at xz2); obtain ⟨l2_0, r2_0, f2_0, r2_0_1, f2_0_1, r2_0_2, f2_0_2⟩ := kq3 xb2 (w.heap.size))
   | (go_at_call 53; (with_reducible refine (kF _ _ _ _ _ _ _ _ _ _ xcl ((room_rat w1).ext xb2) (hI1.out.1.ext xcl) hI2.out.1).mono ?_); rintro e w3 ⟨rfl, A3, n3, c3, D3, m3, k3, hR3, xt3⟩)
   )
  have hE1 : Ext w w1 := xcl
  have hE12 : Ext w1 w2 := xcl
  have hE3 : Ext w w3 := jT hE1 (xt3.ext hE12 (Nat.le_refl _))
  have hs := ext_size hE1
  refine bodyPost_ret (v := .pointer (some ⟨w1.heap.size, 0, none⟩)) ?h rfl ⟨_, A3, n3, c3, D3, m3, k3, rfl, ⟨hR3.out.1, Fr.mono hR3.out.2.1 (jT hE1 hE12), Fr.mono hR3.out.2.2 (jT hE1 hE12)⟩, hs, hE3⟩
  case h => simp [results, Tryz.results62, go_sem]
 | true =>
  have e0 : sgn true a = -((a : Nat) : Int) := rfl
  rw [e0] at kF ⊢
  clear e0
  go_enter Tryz.func62, Tryz.ntmps62
  go_upto_region 3 with (first
   | (go_at_call 82; (with_reducible refine (kA _ xcl).mono ?_); rintro e w1 ⟨b1, A1, n1, c1, rfl, hI1, hb1, xb1⟩; obtain ⟨xc1, xf1, xl1, xz1⟩ := jU xb1; (try simp at xz1); obtain ⟨l1_0, r1_0, f1_0, r1_0_1, f1_0_1, r1_0_2, f1_0_2⟩ := kq3 xb1 (w.heap.size))
   )
  have hn1 : n1 ≤ 1000000 := by have e1 := hI1.out.1.rd.len; rw [Int.natAbs_natCast] at e1; have e2 := HLA.out; omega
  have kN := bi_Neg b1 0 b1 0 A1 n1 c1 ((a : Nat) : Int) hn1 w1 hI1.out.1.room hI1.out.1
  go_upto_region 4 with (first
   | (go_at_call 85; (with_reducible refine kN.mono ?_); rintro e w4 ⟨rfl, A4, n4, c4, hI4, xt4⟩)
   )
  have hE4 := xt4.ext xb1 hb1
  clear kN xb1
  obtain ⟨xc4, xf4, xl4, xz4⟩ := jU (hE4)
  obtain ⟨l4_0, gc, gf⟩ := kp (hE4) (w.heap.size) (by first | omega | (simp; try omega))
  have r4_0 := gc 0
  have f4_0 := gf 0
  have r4_0_1 := gc 1
  have f4_0_1 := gf 1
  have r4_0_2 := gc 2
  have f4_0_2 := gf 2
  clear gc gf
  go_wp2_with (first
   | (go_at_call 82; (with_reducible refine (kD _ xcl).mono ?_); rintro e w2 ⟨b2, A2, n2, c2, rfl, hI2, hb2, xb2⟩; obtain ⟨xc2, xf2, xl2, xz2⟩ := jU xb2; (try simp at xz2); obtain ⟨l2_0, r2_0, f2_0, r2_0_1, f2_0_1, r2_0_2, f2_0_2⟩ := kq3 xb2 (w.heap.size))
   | (go_at_call 53; (with_reducible refine (kF _ _ _ _ _ _ _ _ _ _ xcl ((room_rat w4).ext xb2) (hI4.out.1.ext xcl) hI2.out.1).mono ?_); rintro e w3 ⟨rfl, A3, n3, c3, D3, m3, k3, hR3, xt3⟩)
   )
  have hE1 : Ext w w4 := xcl
  have hE12 : Ext w4 w2 := xcl
  have hE3 : Ext w w3 := jT hE1 (xt3.ext hE12 (Nat.le_refl _))
  have hs := ext_size hE1
  refine bodyPost_ret (v := .pointer (some ⟨w4.heap.size, 0, none⟩)) ?h rfl ⟨_, A3, n3, c3, D3, m3, k3, rfl, ⟨hR3.out.1, Fr.mono hR3.out.2.1 (jT hE1 hE12), Fr.mono hR3.out.2.2 (jT hE1 hE12)⟩, hs, hE3⟩
  case h => simp [results, Tryz.results62, go_sem]
section
variable (s t : Bool) (A : Option Addr) (n c : Nat) (D : Option Addr) (m k : Nat) (B : Option Addr) (n2 c2 : Nat) (C : Option Addr) (m2 k2 : Nat) (w : World)
end
end Go.Proofs.YtchbefambnhjjaaGreatDoor.NB
end
section
/- The program's fractions: times a power above nought, and below nought. -/
namespace Go.Proofs.YtchbefambnhjjaaGreatDoor
open Go.RowKit
attribute [local go_sem] sz2 sz3 sz4 sz5 sz6 sz7 sz8
set_option maxHeartbeats 4000000
set_option maxRecDepth 100000
attribute [local irreducible] Calls
structure Bl3 (w : World) (b : Nat) : Prop where
 lt : b < w.heap.size
 c0 : w.cell? ⟨b, 0, none⟩ = some (.bool false)
 c1 : w.cell? ⟨b, 1, none⟩ = some (.slice none 0 0)
 c2 : w.cell? ⟨b, 2, none⟩ = some (.slice none 0 0)
 f0 : w.frozen? ⟨b, 0, none⟩ = false
 f1 : w.frozen? ⟨b, 1, none⟩ = false
 f2 : w.frozen? ⟨b, 2, none⟩ = false
theorem Bl3.tch {w w' : World} {b g : Nat} (h : Bl3 w b) (ht : Tch g w w') (hne : b ≠ g) : Bl3 w' b :=
 ⟨Nat.lt_of_lt_of_le h.lt ht.size, (ht.cell (p := ⟨b, 0, none⟩) h.lt hne).trans h.c0, (ht.cell (p := ⟨b, 1, none⟩) h.lt hne).trans h.c1, (ht.cell (p := ⟨b, 2, none⟩) h.lt hne).trans h.c2,
  (ht.frozen (p := ⟨b, 0, none⟩) h.lt hne).trans h.f0, (ht.frozen (p := ⟨b, 1, none⟩) h.lt hne).trans h.f1, (ht.frozen (p := ⟨b, 2, none⟩) h.lt hne).trans h.f2⟩
theorem Bl3.ext {w w' : World} {b : Nat} (h : Bl3 w b) (ht : Ext w w') : Bl3 w' b :=
 ⟨Nat.lt_of_lt_of_le h.lt ht.size, (Below.cell (p := ⟨b, 0, none⟩) ht h.lt).trans h.c0, (Below.cell (p := ⟨b, 1, none⟩) ht h.lt).trans h.c1, (Below.cell (p := ⟨b, 2, none⟩) ht h.lt).trans h.c2,
  (Below.frozen (p := ⟨b, 0, none⟩) ht h.lt).trans h.f0, (Below.frozen (p := ⟨b, 1, none⟩) ht h.lt).trans h.f1, (Below.frozen (p := ⟨b, 2, none⟩) ht h.lt).trans h.f2⟩
section
variable (s : Bool) (A : Option Addr) (n c : Nat) (D : Option Addr) (m k : Nat) (b N V : Nat) (w : World)
theorem sc_up {z : Int} {d L M K : Nat} (hg : Nat.gcd z.natAbs (denOf d) = 1) (hlz : (lim z.natAbs).length ≤ 100000) (hld : (lim d).length ≤ 100000) (hz : z ≠ 0) (hN : 1 ≤ N) (hb : 2 ≤ b) (hbl : b < 4294967296) (hV : b ^ N = V) (hlV : (lim V).length ≤ 20000) (hL : Lib.bitLen b = L) (hM : (L : Int) - 1 = (M : Nat)) (hM1 : 1 ≤ M) (hM2 : M ≤ 31) (hK : (1048576 : Int) / (M : Int) = (K : Nat)) (hK1 : K ≤ 1048576) (hNK : N ≤ K)
  {Z : Int} {E : Nat} (kt : ∀ w', Ext w w' → Calls Tryz.prog 68 #[ratV s A n c D m k] w' (KPost w' z d)) (hT : Tz w)
  (kT : ∀ (g : Nat) (A : Option Addr) (n c : Nat) (D : Option Addr) (m k : Nat) (w' : World), RatIs w' g (canN (z * (V : Int)) (denOf d * 1)) A n c (canW (z * (V : Int)) (denOf d * 1)) D m k → Calls Tryz.prog 60 #[.pointer (some ⟨g, 0, none⟩)] w' (TPost w' Z E)) :
  Calls Tryz.prog 46 #[ratV s A n c D m k, .int .u32 (b : Int), .int .i64 (N : Int)] w (TPost w Z E) := by
 have he3 : ((N : Int) == 0) = false := by rw [beq_eq_false_iff_ne]; omega
 have he4 : ¬ (N : Int) = 0 := by omega
 have hb0 : ((b : Int) == 0) = false := by rw [beq_eq_false_iff_ne]; omega
 have hb1 : ((b : Int) == 1) = false := by rw [beq_eq_false_iff_ne]; omega
 have hb2 : ¬ (b : Int) = 0 := by omega
 have hb3 : ¬ (b : Int) = 1 := by omega
 have hs0 : (z.sign == 0) = false := by rw [beq_eq_false_iff_ne]; intro h; exact hz (Int.sign_eq_zero_iff_zero.1 h)
 have hs1 : ¬ z.sign = 0 := by intro h; exact hz (Int.sign_eq_zero_iff_zero.1 h)
 have hM3 : ((M : Int) == 0) = false := by rw [beq_eq_false_iff_ne]; omega
 have hM4 : ¬ (M : Int) = 0 := by omega
 have hLL : (L : Int) ≤ 32 := by omega
 have kB : ∀ w', Calls Tryz.prog 102 #[.int .u32 (b : Int)] w' fun r w'' => r = .returned (.int .i64 (L : Int)) ∧ Ext w' w'' := fun w' => (Tryz.bits_Len32 (b : Int) w' (by omega) (by omega)).mono fun r w'' ⟨h1, h2⟩ => ⟨by rw [h1, Int.toNat_natCast, hL], by rw [h2]; exact jR _⟩
 have hd1 : decide ((K : Int) < (N : Int)) = false := decide_eq_false (by omega)
 have hd2 : decide ((N : Int) < -(K : Int)) = false := decide_eq_false (by omega)
 have hd3 : ¬ (K : Int) < (N : Int) := by omega
 have hd4 : ¬ (N : Int) < -(K : Int) := by omega
 have hmx : max (N : Int) (-(N : Int)) = (N : Int) := by omega
 have hng : decide ((N : Int) < 0) = false := decide_eq_false (by omega)
 have hng2 : ¬ (N : Int) < 0 := by omega
 have hNl : N < 4294967296 := by omega
 have lb1 : ∀ x, x < 4294967296 → (lim x).length ≤ 1 := fun x hx => lim_le (by rw [Nat.pow_one]; exact hx)
 have kN1 : ∀ w', Calls Tryz.prog 104 #[.int .i64 (b : Int)] w' (NPost w' (b : Int)) := fun w' => bi_NewInt _ (by omega) (by omega) w'
 have kN2 : ∀ w', Calls Tryz.prog 104 #[.int .i64 (N : Int)] w' (NPost w' (N : Int)) := fun w' => bi_NewInt _ (by omega) (by omega) w'
 have kE : ∀ G bx b2 A n c D m d w', Room w' G 0 → IntIs w' bx 0 (b : Int) A n c → IntIs w' b2 0 (N : Int) D m d → Calls Tryz.prog 103 #[.pointer (some ⟨G, 0, none⟩), .pointer (some ⟨bx, 0, none⟩), .pointer (some ⟨b2, 0, none⟩), .pointer none] w' (IPost w' G 0 (V : Nat)) := fun G bx b2 A n c D m d w' hr h1 h2 => by
  have := bi_Exp G bx b2 b N (by omega) hN hNl A n c D m d (by rw [hV]; exact hlV) (by have h3 := h1.rd.len; rw [Int.natAbs_natCast] at h3; have := lb1 b hbl; omega) w' hr h1 h2
  rwa [hV] at this
 have hg1V : Nat.gcd ((V : Nat) : Int).natAbs (denOf 0) = 1 := Nat.gcd_one_right _
 have HT := Lib.hid hT
 have HG := Lib.hid (And.intro hg (And.intro hlz (And.intro hld (And.intro hlV hg1V))))
 clear hg hlz hld hlV hV hL lb1 hg1V hT
 go_enter Tryz.func46, Tryz.ntmps46
 go_upto_region 13 with (first
  | (go_at_call 68; (with_reducible refine (kt _ xcl).mono ?_); rintro e w1 ⟨g1, A1, n1, c1, D1, m1, k1, rfl, hI1, hg1, xb1⟩; obtain ⟨xc1, xf1, xl1, xz1⟩ := jU xb1; (try simp at xz1); obtain ⟨l1_0, r1_0, f1_0, r1_0_1, f1_0_1, r1_0_2, f1_0_2⟩ := kq3 xb1 (w.heap.size); obtain ⟨l1_1, r1_1, f1_1, r1_1_1, f1_1_1, r1_1_2, f1_1_2⟩ := kq3 xb1 (w.heap.size + 1))
  | (go_at_call 101; (with_reducible refine (br_Sign _ z _ _ _ _ hI1.out.1.int).mono ?_); rintro e w3 ⟨rfl, xb3⟩; obtain ⟨xc3, xf3, xl3, xz3⟩ := jU xb3; (try simp at xz3); obtain ⟨l3_0, r3_0, f3_0, r3_0_1, f3_0_1, r3_0_2, f3_0_2⟩ := kq3 xb3 (w.heap.size + 1))
  | (go_at_call 102; (with_reducible refine (kB _).mono ?_); rintro e w4 ⟨rfl, xb4⟩; obtain ⟨xc4, xf4, xl4, xz4⟩ := jU xb4; (try simp at xz4); obtain ⟨l4_0, r4_0, f4_0, r4_0_1, f4_0_1, r4_0_2, f4_0_2⟩ := kq3 xb4 (w.heap.size + 1))
  )
 have hX4 := Lib.hid (hI1.out.1.ext (jT xb3 xb4))
 have hE4 : Hid (Ext w w4) := by show Ext w w4; exact xcl
 have z0 : w4.cell? ⟨w.heap.size + 1, 0, none⟩ = some (.bool false) := by simp [go_sem, *]
 have z1 : w4.cell? ⟨w.heap.size + 1, 1, none⟩ = some (.slice none 0 0) := by simp [go_sem, *]
 have z2 : w4.cell? ⟨w.heap.size + 1, 2, none⟩ = some (.slice none 0 0) := by simp [go_sem, *]
 have y0 : w4.frozen? ⟨w.heap.size + 1, 0, none⟩ = false := by simp [go_sem, *]
 have y1 : w4.frozen? ⟨w.heap.size + 1, 1, none⟩ = false := by simp [go_sem, *]
 have y2 : w4.frozen? ⟨w.heap.size + 1, 2, none⟩ = false := by simp [go_sem, *]
 have zl : w.heap.size + 1 < w4.heap.size := by assumption
 have hgl : g1 < w4.heap.size := hX4.out.int.room.lt
 have hgw : w.heap.size + 1 < g1 := by have := hg1; simp at this; omega
 have hZZ : Hid (Bl3 w4 (w.heap.size + 1)) := Lib.hid ⟨zl, z0, z1, z2, y0, y1, y2⟩
 have hr2 := Lib.hid ((rat_room w4).ext (jA (jR _) (Obj.cells #[.bool false, .slice none 0 0] 79)))
 have hr3 : Hid (Room ((w4.alloc (Obj.cells #[.bool false, .slice none 0 0, .slice none 0 0] 81)).alloc (Obj.cells #[.bool false, .slice none 0 0] 79)) (w4.heap.size + 1) 0) := by
  have := int_room (w4.alloc (Obj.cells #[.bool false, .slice none 0 0, .slice none 0 0] 81))
  have e0 : (w4.alloc (Obj.cells #[.bool false, .slice none 0 0, .slice none 0 0] 81)).heap.size = w4.heap.size + 1 := by simp
  rw [e0] at this
  exact Lib.hid this
 have hXA := Lib.hid (jA (jA (jR w4) (Obj.cells #[.bool false, .slice none 0 0, .slice none 0 0] 81)) (Obj.cells #[.bool false, .slice none 0 0] 79))
 have hne : w4.heap.size ≠ w4.heap.size + 1 := by omega
 clear xc1 xf1 xl1 xz1 xc3 xf3 xl3 xz3 xc4 xf4 xl4 xz4 hI1 hg1 z0 z1 z2 y0 y1 y2 kt kB
 go_upto_region 14 with (first
  | (go_at_call 104; (with_reducible refine (kN1 _).mono ?_); rintro e w5 ⟨b5, B5, j5, l5, rfl, hI5, hb5, xb5⟩)
  | (go_at_call 104; (with_reducible refine (kN2 _).mono ?_); rintro e w6 ⟨b6, B6, j6, l6, rfl, hI6, hb6, xb6⟩; have hE6 := Lib.hid (jT xb5 xb6); have hI5' := Lib.hid (hI5.out.1.ext xb6))
  | (go_at_call 103; (with_reducible refine (kE _ _ _ _ _ _ _ _ _ _ (hr3.out.ext hE6.out) hI5'.out hI6.out.1).mono ?_); rintro e w7 ⟨rfl, A7, n7, c7, hI7, xt7⟩; have hr7 := Lib.hid ((hr2.out.ext hE6.out).tch xt7 hne); have hn7 : n7 ≤ 1000000 := (by have h1 := hI7.out.1.rd.len; rw [Int.natAbs_natCast] at h1; have := HG.out.2.2.2.1; omega))
  | (go_at_call 57; (with_reducible refine (br_SetInt _ _ _ _ _ _ hn7 _ hr7.out hI7.out.1).mono ?_); rintro e w8 ⟨rfl, A8, n8, c8, D8, m8, k8, hI8, xt8⟩)
  )
 have hXX := Lib.hid (jT hXA.out hE6.out)
 have hs6 : w4.heap.size + 1 + 1 ≤ w6.heap.size := by have := ext_size hE6.out; simpa using this
 have hX8 := Lib.hid (((hX4.out.ext hXX.out).tch xt7 (by omega) (hX4.out.int.rd.off (by omega)) (hX4.out.rd.off (by omega))).tch xt8 (by omega) (hX4.out.int.rd.off (by omega)) (hX4.out.rd.off (by omega)))
 have hB8 := Lib.hid (((hZZ.out.ext hXX.out).tch xt7 (by omega)).tch xt8 (by omega))
 have hE8 := Lib.hid (xt8.ext (xt7.ext (jT hE4.out hXX.out) (by omega)) (by omega))
 have hlA := hX4.out.int.rd.len
 have hlD := hX4.out.rd.len
 have hl8 := hI8.out.1.int.rd.len
 have hm8 := hI8.out.1.rd.len
 rw [Int.natAbs_natCast] at hl8
 rw [lim_zero] at hm8
 have hm8' : m8 = 0 := by simpa using hm8.symm
 have kM : Calls Tryz.prog 96 #[.pointer (some ⟨g1, 0, none⟩), .pointer (some ⟨g1, 0, none⟩), .pointer (some ⟨w4.heap.size, 0, none⟩)] w8 (FPost w8 g1 (canN (z * (V : Int)) (denOf d * 1)) (canW (z * (V : Int)) (denOf d * 1))) :=
  br_Mul g1 g1 w4.heap.size z (V : Nat) d 0 HG.out.1 HG.out.2.2.2.2 A1 n1 c1 D1 m1 k1 A8 n8 c8 D8 m8 k8 (by rw [← hlA]; exact HG.out.2.1) (by rw [← hlD]; exact HG.out.2.2.1) (by rw [← hl8]; exact Nat.le_trans HG.out.2.2.2.1 (by decide)) (by omega) w8 (HT.out.ext hE8.out) hX8.out.room hX8.out hI8.out.1
 clear hlA hlD hl8 hm8 hm8' hX4 hI8 hI7 hI5 hI6 hI5' xb5 xb6 xt7 xt8 hr7 hr2 hr3 hE6 hXA hXX hE4 hZZ kN1 kN2 kE
 have hw8 : w.heap.size + 1 < w8.heap.size := hB8.out.lt
 go_wp2_with (first
  | (go_at_call 96; (with_reducible refine kM.mono ?_); rintro e w9 ⟨rfl, A9, n9, c9, D9, m9, k9, hI9, xt9⟩; have hB9 := Lib.hid (hB8.out.tch xt9 (by omega)); have hE9 := Lib.hid (xt9.ext hE8.out (by omega)); have q0 := hB9.out.c0; have q1 := hB9.out.c1; have q2 := hB9.out.c2; have p0 := hB9.out.f0; have p1 := hB9.out.f1; have p2 := hB9.out.f2; have ql := hB9.out.lt)
  | (go_at_call 60; (with_reducible refine (kT _ _ _ _ _ _ _ _ hI9.out.1).mono ?_); rintro e w10 ⟨A3, n3, c3, D3, m3, k3, rfl, hR3, xb10⟩; obtain ⟨xc10, xf10, xl10, xz10⟩ := jU xb10; (try simp at xz10); obtain ⟨l10_0, r10_0, f10_0, r10_0_1, f10_0_1, r10_0_2, f10_0_2⟩ := kq3 xb10 (w.heap.size + 1))
  )
 have hB := hB9.out.ext xb10
 obtain ⟨u0, u1, u2⟩ := set3 (b := w.heap.size + 1) hB.c0 hB.c1 hB.c2 (.bool (decide (Z < 0))) (.slice A3 n3 c3) (.slice D3 m3 k3)
 have hEE : Ext w w10 := jT hE9.out xb10
 have n5 : ∀ a, A3 = some a → w.heap.size + 1 < a.block := fun a ha => by have := hR3.out.2.1 a ha; omega
 have n6 : ∀ a, D3 = some a → w.heap.size + 1 < a.block := fun a ha => by have := hR3.out.2.2.2 a ha; omega
 refine bodyPost_ret (v := .tuple #[ratV (decide (Z < 0)) A3 n3 c3 D3 m3 k3, .int .i64 0]) ?h rfl ⟨A3, n3, c3, D3, m3, k3, rfl, ⟨hR3.out.1.set3 n5 _ _ _, fun x hx => Nat.le_of_lt (by have := n5 x hx; omega), hR3.out.2.2.1.set3 n6 _ _ _, fun x hx => Nat.le_of_lt (by have := n6 x hx; omega)⟩, ext_set3 hEE (Nat.le_succ _) _ _ _⟩
 case h => simp [results, Tryz.results46, go_sem, u0, u1, u2]
theorem sc_down {z : Int} {d L M K : Nat} (hg : Nat.gcd z.natAbs (denOf d) = 1) (hlz : (lim z.natAbs).length ≤ 100000) (hld : (lim d).length ≤ 100000) (hz : z ≠ 0) (hN : 1 ≤ N) (hb : 2 ≤ b) (hbl : b < 4294967296) (hV : b ^ N = V) (hlV : (lim V).length ≤ 20000) (hL : Lib.bitLen b = L) (hM : (L : Int) - 1 = (M : Nat)) (hM1 : 1 ≤ M) (hM2 : M ≤ 31) (hK : (1048576 : Int) / (M : Int) = (K : Nat)) (hK1 : K ≤ 1048576) (hNK : N ≤ K)
  {Z : Int} {E : Nat} (kt : ∀ w', Ext w w' → Calls Tryz.prog 68 #[ratV s A n c D m k] w' (KPost w' z d)) (hT : Tz w)
  (kT : ∀ (g : Nat) (A : Option Addr) (n c : Nat) (D : Option Addr) (m k : Nat) (w' : World), RatIs w' g (canN (z * 1) (denOf d * V)) A n c (canW (z * 1) (denOf d * V)) D m k → Calls Tryz.prog 60 #[.pointer (some ⟨g, 0, none⟩)] w' (TPost w' Z E)) :
  Calls Tryz.prog 46 #[ratV s A n c D m k, .int .u32 (b : Int), .int .i64 (-(N : Int))] w (TPost w Z E) := by
 have he3 : ((-(N : Int)) == 0) = false := by rw [beq_eq_false_iff_ne]; omega
 have he4 : ¬ (-(N : Int)) = 0 := by omega
 have hb0 : ((b : Int) == 0) = false := by rw [beq_eq_false_iff_ne]; omega
 have hb1 : ((b : Int) == 1) = false := by rw [beq_eq_false_iff_ne]; omega
 have hb2 : ¬ (b : Int) = 0 := by omega
 have hb3 : ¬ (b : Int) = 1 := by omega
 have hs0 : (z.sign == 0) = false := by rw [beq_eq_false_iff_ne]; intro h; exact hz (Int.sign_eq_zero_iff_zero.1 h)
 have hs1 : ¬ z.sign = 0 := by intro h; exact hz (Int.sign_eq_zero_iff_zero.1 h)
 have hM3 : ((M : Int) == 0) = false := by rw [beq_eq_false_iff_ne]; omega
 have hM4 : ¬ (M : Int) = 0 := by omega
 have hLL : (L : Int) ≤ 32 := by omega
 have kB : ∀ w', Calls Tryz.prog 102 #[.int .u32 (b : Int)] w' fun r w'' => r = .returned (.int .i64 (L : Int)) ∧ Ext w' w'' := fun w' => (Tryz.bits_Len32 (b : Int) w' (by omega) (by omega)).mono fun r w'' ⟨h1, h2⟩ => ⟨by rw [h1, Int.toNat_natCast, hL], by rw [h2]; exact jR _⟩
 have hd1 : decide ((K : Int) < -(N : Int)) = false := decide_eq_false (by omega)
 have hd2 : decide (-(N : Int) < -(K : Int)) = false := decide_eq_false (by omega)
 have hd3 : ¬ (K : Int) < -(N : Int) := by omega
 have hd4 : ¬ -(N : Int) < -(K : Int) := by omega
 have hmx : max (-(N : Int)) (N : Int) = (N : Int) := by omega
 have hng : decide (-(N : Int) < 0) = true := decide_eq_true (by omega)
 have hng2 : -(N : Int) < 0 := by omega
 have hV0 : V ≠ 0 := by rw [← hV]; exact Nat.pos_iff_ne_zero.1 (Nat.pow_pos (by omega))
 have hNl : N < 4294967296 := by omega
 have lb1 : ∀ x, x < 4294967296 → (lim x).length ≤ 1 := fun x hx => lim_le (by rw [Nat.pow_one]; exact hx)
 have kN1 : ∀ w', Calls Tryz.prog 104 #[.int .i64 (b : Int)] w' (NPost w' (b : Int)) := fun w' => bi_NewInt _ (by omega) (by omega) w'
 have kN2 : ∀ w', Calls Tryz.prog 104 #[.int .i64 (N : Int)] w' (NPost w' (N : Int)) := fun w' => bi_NewInt _ (by omega) (by omega) w'
 have kE : ∀ G bx b2 A n c D m d w', Room w' G 0 → IntIs w' bx 0 (b : Int) A n c → IntIs w' b2 0 (N : Int) D m d → Calls Tryz.prog 103 #[.pointer (some ⟨G, 0, none⟩), .pointer (some ⟨bx, 0, none⟩), .pointer (some ⟨b2, 0, none⟩), .pointer none] w' (IPost w' G 0 (V : Nat)) := fun G bx b2 A n c D m d w' hr h1 h2 => by
  have := bi_Exp G bx b2 b N (by omega) hN hNl A n c D m d (by rw [hV]; exact hlV) (by have h3 := h1.rd.len; rw [Int.natAbs_natCast] at h3; have := lb1 b hbl; omega) w' hr h1 h2
  rwa [hV] at this
 have hg1V : Nat.gcd (1 : Int).natAbs (denOf V) = 1 := Nat.gcd_one_left _
 have HT := Lib.hid hT
 have HG := Lib.hid (And.intro hg (And.intro hlz (And.intro hld (And.intro hlV hg1V))))
 clear hg hlz hld hlV hV hL lb1 hg1V hT
 go_enter Tryz.func46, Tryz.ntmps46
 go_upto_region 13 with (first
  | (go_at_call 68; (with_reducible refine (kt _ xcl).mono ?_); rintro e w1 ⟨g1, A1, n1, c1, D1, m1, k1, rfl, hI1, hg1, xb1⟩; obtain ⟨xc1, xf1, xl1, xz1⟩ := jU xb1; (try simp at xz1); obtain ⟨l1_0, r1_0, f1_0, r1_0_1, f1_0_1, r1_0_2, f1_0_2⟩ := kq3 xb1 (w.heap.size); obtain ⟨l1_1, r1_1, f1_1, r1_1_1, f1_1_1, r1_1_2, f1_1_2⟩ := kq3 xb1 (w.heap.size + 1))
  | (go_at_call 101; (with_reducible refine (br_Sign _ z _ _ _ _ hI1.out.1.int).mono ?_); rintro e w3 ⟨rfl, xb3⟩; obtain ⟨xc3, xf3, xl3, xz3⟩ := jU xb3; (try simp at xz3); obtain ⟨l3_0, r3_0, f3_0, r3_0_1, f3_0_1, r3_0_2, f3_0_2⟩ := kq3 xb3 (w.heap.size + 1))
  | (go_at_call 102; (with_reducible refine (kB _).mono ?_); rintro e w4 ⟨rfl, xb4⟩; obtain ⟨xc4, xf4, xl4, xz4⟩ := jU xb4; (try simp at xz4); obtain ⟨l4_0, r4_0, f4_0, r4_0_1, f4_0_1, r4_0_2, f4_0_2⟩ := kq3 xb4 (w.heap.size + 1))
  )
 have hX4 := Lib.hid (hI1.out.1.ext (jT xb3 xb4))
 have hE4 : Hid (Ext w w4) := by show Ext w w4; exact xcl
 have z0 : w4.cell? ⟨w.heap.size + 1, 0, none⟩ = some (.bool false) := by simp [go_sem, *]
 have z1 : w4.cell? ⟨w.heap.size + 1, 1, none⟩ = some (.slice none 0 0) := by simp [go_sem, *]
 have z2 : w4.cell? ⟨w.heap.size + 1, 2, none⟩ = some (.slice none 0 0) := by simp [go_sem, *]
 have y0 : w4.frozen? ⟨w.heap.size + 1, 0, none⟩ = false := by simp [go_sem, *]
 have y1 : w4.frozen? ⟨w.heap.size + 1, 1, none⟩ = false := by simp [go_sem, *]
 have y2 : w4.frozen? ⟨w.heap.size + 1, 2, none⟩ = false := by simp [go_sem, *]
 have zl : w.heap.size + 1 < w4.heap.size := by assumption
 have hgl : g1 < w4.heap.size := hX4.out.int.room.lt
 have hgw : w.heap.size + 1 < g1 := by have := hg1; simp at this; omega
 have hZZ : Hid (Bl3 w4 (w.heap.size + 1)) := Lib.hid ⟨zl, z0, z1, z2, y0, y1, y2⟩
 have hr2 := Lib.hid ((rat_room w4).ext (jA (jR _) (Obj.cells #[.bool false, .slice none 0 0] 79)))
 have hr3 : Hid (Room ((w4.alloc (Obj.cells #[.bool false, .slice none 0 0, .slice none 0 0] 81)).alloc (Obj.cells #[.bool false, .slice none 0 0] 79)) (w4.heap.size + 1) 0) := by
  have := int_room (w4.alloc (Obj.cells #[.bool false, .slice none 0 0, .slice none 0 0] 81))
  have e0 : (w4.alloc (Obj.cells #[.bool false, .slice none 0 0, .slice none 0 0] 81)).heap.size = w4.heap.size + 1 := by simp
  rw [e0] at this
  exact Lib.hid this
 have hXA := Lib.hid (jA (jA (jR w4) (Obj.cells #[.bool false, .slice none 0 0, .slice none 0 0] 81)) (Obj.cells #[.bool false, .slice none 0 0] 79))
 have hne : w4.heap.size ≠ w4.heap.size + 1 := by omega
 clear xc1 xf1 xl1 xz1 xc3 xf3 xl3 xz3 xc4 xf4 xl4 xz4 hI1 hg1 z0 z1 z2 y0 y1 y2 kt kB
 go_upto_region 14 with (first
  | (go_at_call 104; (with_reducible refine (kN1 _).mono ?_); rintro e w5 ⟨b5, B5, j5, l5, rfl, hI5, hb5, xb5⟩)
  | (go_at_call 104; (with_reducible refine (kN2 _).mono ?_); rintro e w6 ⟨b6, B6, j6, l6, rfl, hI6, hb6, xb6⟩; have hE6 := Lib.hid (jT xb5 xb6); have hI5' := Lib.hid (hI5.out.1.ext xb6))
  | (go_at_call 103; (with_reducible refine (kE _ _ _ _ _ _ _ _ _ _ (hr3.out.ext hE6.out) hI5'.out hI6.out.1).mono ?_); rintro e w7 ⟨rfl, A7, n7, c7, hI7, xt7⟩; have hr7 := Lib.hid ((hr2.out.ext hE6.out).tch xt7 hne); have hn7 : n7 ≤ 1000000 := (by have h1 := hI7.out.1.rd.len; rw [Int.natAbs_natCast] at h1; have := HG.out.2.2.2.1; omega))
  | (go_at_call 57; (with_reducible refine (br_SetInt _ _ _ _ _ _ hn7 _ hr7.out hI7.out.1).mono ?_); rintro e w8 ⟨rfl, A8, n8, c8, D8, m8, k8, hI8, xt8⟩)
  )
 have hXX := Lib.hid (jT hXA.out hE6.out)
 have hs6 : w4.heap.size + 1 + 1 ≤ w6.heap.size := by have := ext_size hE6.out; simpa using this
 have hX8 := Lib.hid (((hX4.out.ext hXX.out).tch xt7 (by omega) (hX4.out.int.rd.off (by omega)) (hX4.out.rd.off (by omega))).tch xt8 (by omega) (hX4.out.int.rd.off (by omega)) (hX4.out.rd.off (by omega)))
 have hB8 := Lib.hid (((hZZ.out.ext hXX.out).tch xt7 (by omega)).tch xt8 (by omega))
 have hE8 := Lib.hid (xt8.ext (xt7.ext (jT hE4.out hXX.out) (by omega)) (by omega))
 have hl8 := hI8.out.1.int.rd.len
 have hm8 := hI8.out.1.rd.len
 rw [Int.natAbs_natCast] at hl8
 rw [lim_zero] at hm8
 have hm8' : m8 = 0 := by simpa using hm8.symm
 have kV : Calls Tryz.prog 105 #[.pointer (some ⟨w4.heap.size, 0, none⟩), .pointer (some ⟨w4.heap.size, 0, none⟩)] w8 (FPost w8 w4.heap.size 1 V) := by
  have := br_Inv w4.heap.size (V : Nat) (by omega) A8 n8 c8 0 D8 m8 k8 (by rw [← hl8]; exact Nat.le_trans HG.out.2.2.2.1 (by decide)) (by omega) w8 hI8.out.1
  rw [decide_eq_false (show ¬ ((V : Nat) : Int) < 0 by omega), Int.natAbs_natCast] at this
  exact this
 clear hl8 hm8 hm8' hI8 hI7 hI5 hI6 hI5' xb5 xb6 xt7 xt8 hr7 hr2 hr3 hE6 hXA hXX hE4 hZZ kN1 kN2 kE
 go_upto_region 16 with (first
  | (go_at_call 105; (with_reducible refine kV.mono ?_); rintro e wi ⟨rfl, Ai, ni, ci, Di, mi, ki, hIi, xti⟩)
  )
 have hXi := Lib.hid (hX8.out.tch xti (by omega) (hX4.out.int.rd.off (by omega)) (hX4.out.rd.off (by omega)))
 have hBi := Lib.hid (hB8.out.tch xti (by omega))
 have hEi := Lib.hid (xti.ext hE8.out (by omega))
 have hlA := hX4.out.int.rd.len
 have hlD := hX4.out.rd.len
 have hli := hIi.out.1.int.rd.len
 have hmi := hIi.out.1.rd.len
 have hl1 : (lim (1 : Int).natAbs).length = 1 := by kernel_rfl
 have hdV : denOf V = V := if_neg hV0
 have kM : Calls Tryz.prog 96 #[.pointer (some ⟨g1, 0, none⟩), .pointer (some ⟨g1, 0, none⟩), .pointer (some ⟨w4.heap.size, 0, none⟩)] wi (FPost wi g1 (canN (z * 1) (denOf d * V)) (canW (z * 1) (denOf d * V))) := by
  have := br_Mul g1 g1 w4.heap.size z 1 d V HG.out.1 HG.out.2.2.2.2 A1 n1 c1 D1 m1 k1 Ai ni ci Di mi ki (by rw [← hlA]; exact HG.out.2.1) (by rw [← hlD]; exact HG.out.2.2.1) (by omega) (by rw [← hmi]; exact Nat.le_trans HG.out.2.2.2.1 (by decide)) wi (HT.out.ext hEi.out) hXi.out.room hXi.out hIi.out.1
  rwa [hdV] at this
 clear hlA hlD hli hmi hl1 hX4 hIi xti hX8 hB8 hE8 kV
 have hw8 : w.heap.size + 1 < wi.heap.size := hBi.out.lt
 go_wp2_with (first
  | (go_at_call 96; (with_reducible refine kM.mono ?_); rintro e w9 ⟨rfl, A9, n9, c9, D9, m9, k9, hI9, xt9⟩; have hB9 := Lib.hid (hBi.out.tch xt9 (by omega)); have hE9 := Lib.hid (xt9.ext hEi.out (by omega)); have q0 := hB9.out.c0; have q1 := hB9.out.c1; have q2 := hB9.out.c2; have p0 := hB9.out.f0; have p1 := hB9.out.f1; have p2 := hB9.out.f2; have ql := hB9.out.lt)
  | (go_at_call 60; (with_reducible refine (kT _ _ _ _ _ _ _ _ hI9.out.1).mono ?_); rintro e w10 ⟨A3, n3, c3, D3, m3, k3, rfl, hR3, xb10⟩; obtain ⟨xc10, xf10, xl10, xz10⟩ := jU xb10; (try simp at xz10); obtain ⟨l10_0, r10_0, f10_0, r10_0_1, f10_0_1, r10_0_2, f10_0_2⟩ := kq3 xb10 (w.heap.size + 1))
  )
 have hB := hB9.out.ext xb10
 obtain ⟨u0, u1, u2⟩ := set3 (b := w.heap.size + 1) hB.c0 hB.c1 hB.c2 (.bool (decide (Z < 0))) (.slice A3 n3 c3) (.slice D3 m3 k3)
 have hEE : Ext w w10 := jT hE9.out xb10
 have n5 : ∀ a, A3 = some a → w.heap.size + 1 < a.block := fun a ha => by have := hR3.out.2.1 a ha; omega
 have n6 : ∀ a, D3 = some a → w.heap.size + 1 < a.block := fun a ha => by have := hR3.out.2.2.2 a ha; omega
 refine bodyPost_ret (v := .tuple #[ratV (decide (Z < 0)) A3 n3 c3 D3 m3 k3, .int .i64 0]) ?h rfl ⟨A3, n3, c3, D3, m3, k3, rfl, ⟨hR3.out.1.set3 n5 _ _ _, fun x hx => Nat.le_of_lt (by have := n5 x hx; omega), hR3.out.2.2.1.set3 n6 _ _ _, fun x hx => Nat.le_of_lt (by have := n6 x hx; omega)⟩, ext_set3 hEE (Nat.le_succ _) _ _ _⟩
 case h => simp [results, Tryz.results46, go_sem, u0, u1, u2]
end
end Go.Proofs.YtchbefambnhjjaaGreatDoor
end
section
/- The program's fractions: times a power, by worths. -/
namespace Go.Proofs.YtchbefambnhjjaaGreatDoor
open Go.RowKit
set_option maxRecDepth 100000
attribute [local irreducible] Calls
theorem bitLen_two {b : Nat} (hb : 2 ≤ b) (hbl : b < 4294967296) : 2 ≤ Lib.bitLen b ∧ Lib.bitLen b ≤ 32 := by
 have hl : Lib.bitLen b ≤ 32 := Lib.bitLen_le b 32 (by omega) (by omega)
 have h := Lib.bitLenAux_bounds 64 b (by omega) (by omega)
 change 1 ≤ Lib.bitLen b ∧ 2 ^ (Lib.bitLen b - 1) ≤ b ∧ b < 2 ^ Lib.bitLen b at h
 refine ⟨?_, hl⟩
 by_cases h1 : Lib.bitLen b = 1
 ·rw [h1] at h; omega
 ·omega
theorem most_ok {M : Nat} (h1 : 1 ≤ M) (h2 : M ≤ 31) : ∃ K : Nat, (1048576 : Int) / (M : Int) = (K : Nat) ∧ 33825 ≤ K ∧ K ≤ 1048576 := by
 refine ⟨1048576 / M, by rw [Int.natCast_ediv]; rfl, ?_, ?_⟩
 ·have := Nat.div_le_div_left h2 h1 (a := 1048576); omega
 ·exact Nat.div_le_self _ _
theorem pow_few {b : Nat} (hbl : b < 4294967296) (N : Nat) : (lim (b ^ N)).length ≤ N + 1 := by
 refine lim_le (Nat.lt_of_le_of_lt (Nat.pow_le_pow_left (show b ≤ Bs by show b ≤ 4294967296; omega) N) ?_)
 exact Nat.pow_lt_pow_right (by decide) (Nat.lt_succ_self N)
def pwZ (x : Int) (b : Nat) (e : Int) : Int := if e < 0 then x else x * ((b ^ e.toNat : Nat) : Int)
def pwD (p : Nat) (b : Nat) (e : Int) : Nat := if e < 0 then p * b ^ (-e).toNat else p
theorem pwD_pos {p b : Nat} {e : Int} (hp : p ≠ 0) (hb : 1 ≤ b) : pwD p b e ≠ 0 := by
 unfold pwD
 split
 ·exact Nat.mul_ne_zero hp (Nat.pos_iff_ne_zero.1 (Nat.pow_pos hb))
 ·exact hp
theorem pw_few {k : Nat} {x : Int} {p b : Nat} {e : Int} (h : Few k x p) (hbl : b < 4294967296) (h1 : -300 ≤ e) (h2 : e ≤ 300) : Few (k + 301) (pwZ x b e) (pwD p b e) := by
 unfold pwZ pwD
 split
 ·refine ⟨Nat.le_trans h.1 (by omega), Nat.le_trans (lim_mul_len _ _) ?_⟩
  have := pow_few hbl (-e).toNat
  have := h.2
  omega
 ·refine ⟨?_, Nat.le_trans h.2 (by omega)⟩
  rw [Int.natAbs_mul, Int.natAbs_natCast]
  refine Nat.le_trans (lim_mul_len _ _) ?_
  have := pow_few hbl e.toNat
  have := h.1
  omega
theorem can_nought (d : Nat) (hd : d ≠ 0) : canN 0 d = 0 ∧ canD 0 d = 1 := ⟨canN_zero d, by unfold canD; rw [Int.natAbs_zero, Nat.gcd_zero_left, Nat.div_self (Nat.pos_of_ne_zero hd)]⟩
theorem told_can {g : Nat} {z : Int} {d : Nat} (hd : d ≠ 0) (hf : Few 16384 z d) {A : Option Addr} {n c : Nat} {D : Option Addr} {m k : Nat} {w : World} (h : RatIs w g (canN z d) A n c (canW z d) D m k) :
  Calls Tryz.prog 60 #[.pointer (some ⟨g, 0, none⟩)] w (TPost w (canN z d) (canD z d)) := by
 have h1 := h.int.rd.len
 have h2 := h.rd.len
 have hc := hf.can
 have h3 := lim_mono (canW_le z d)
 have := ra_told_ok g (canN z d) A n c (canW z d) D m k (by rw [← h1]; exact hc.1) (by have := hf.2; omega) (by rw [canW_den hd]; exact hc.2) w h
 rwa [canW_den hd] at this
theorem tpost_scale (s : Bool) (A : Option Addr) (n c a : Nat) (D : Option Addr) (m k p b : Nat) (e : Int) (w : World) (hp : p ≠ 0) (hn : n ≤ 4000) (hm : m ≤ 4000) (hg : Nat.gcd a p = 1) (hng : s = true → a ≠ 0) (hb : 1 ≤ b) (hbl : b < 4294967296) (h1 : -300 ≤ e) (h2 : e ≤ 300) (hT : Tz w) (hA : Rd w A n c (lim a)) (hD : Rd w D m k (lim p)) :
  Calls Tryz.prog 46 #[ratV s A n c D m k, .int .u32 (b : Int), .int .i64 e] w (TPost w (canN (pwZ (sgn s a) b e) (pwD p b e)) (canD (pwZ (sgn s a) b e) (pwD p b e))) := by
 have kt : ∀ w', Ext w w' → Calls Tryz.prog 68 #[ratV s A n c D m k] w' (KPost w' (sgn s a) (lowD a p)) := fun w' he => ra_taken s A n c a D m k p hp (by omega) (by omega) hg hng w' (hT.ext he) (hA.ext he) (hD.ext he)
 have hf : Few 4000 (sgn s a) p := ⟨by rw [sgn_abs, hA.len]; exact hn, by rw [hD.len]; exact hm⟩
 have hfp := (pw_few hf hbl h1 h2).mono (show 4000 + 301 ≤ 16384 by decide)
 have hdn : denOf (lowD a p) = p := den_low hp hg
 have hlw : lowD a p = canW (sgn s a) p := by have := low_can (sgn s a) p; rwa [sgn_abs] at this
 have hq := pwD_pos (e := e) hp hb
 have hself := can_self hp (z := sgn s a) (by rw [sgn_abs]; exact hg)
 by_cases h0 : e = 0 ∨ b = 1
 ·have e1 : canN (pwZ (sgn s a) b e) (pwD p b e) = sgn s a ∧ canD (pwZ (sgn s a) b e) (pwD p b e) = p := by
   have ez : pwZ (sgn s a) b e = sgn s a := by
    unfold pwZ
    rcases h0 with rfl | rfl
    ·simp
    ·rw [Nat.one_pow]; split <;> simp
   have ed : pwD p b e = p := by
    unfold pwD
    rcases h0 with rfl | rfl
    ·simp
    ·rw [Nat.one_pow]; split <;> simp
   rw [ez, ed]; exact hself
  rw [e1.1, e1.2]
  refine sc_one s A n c D m k b e w h0 kt (fun g A' n' c' D' m' k' w' h => ?_)
  rw [hlw] at h
  have h3 := told_can hp (hf.mono (by decide)) (show RatIs w' g (canN (sgn s a) p) A' n' c' (canW (sgn s a) p) D' m' k' by rw [hself.1]; exact h)
  rwa [hself.1, hself.2] at h3
 ·have he0 : ¬ e = 0 := fun h => h0 (.inl h)
  have hb2 : 2 ≤ b := by
   have : ¬ b = 1 := fun h => h0 (.inr h)
   omega
  by_cases hz : a = 0
  ·subst hz
   have e0 : sgn s 0 = 0 := by cases s <;> rfl
   have ez : pwZ (sgn s 0) b e = 0 := by rw [e0]; unfold pwZ; split <;> simp
   rw [ez]
   have := can_nought _ hq
   rw [this.1, this.2]
   rw [e0] at kt
   exact sc_noughts s A n c D m k b e w he0 hb2 kt
  ·have hz' : sgn s a ≠ 0 := fun h => hz (by have := congrArg Int.natAbs h; rwa [sgn_abs] at this)
   have hbl2 := bitLen_two hb2 hbl
   obtain ⟨K, hK, hK1, hK2⟩ := most_ok (M := Lib.bitLen b - 1) (by omega) (by omega)
   have hgg : Nat.gcd (sgn s a).natAbs (denOf (lowD a p)) = 1 := by rw [sgn_abs, hdn]; exact hg
   have hl1 : (lim (sgn s a).natAbs).length ≤ 100000 := Nat.le_trans hf.1 (by decide)
   have hl2 : (lim (lowD a p)).length ≤ 100000 := Nat.le_trans (lim_mono (lowD_le a p)) (Nat.le_trans hf.2 (by decide))
   by_cases hneg : e < 0
   ·obtain ⟨N, hN⟩ : ∃ N : Nat, N = (-e).toNat := ⟨_, rfl⟩
    have he : e = -(N : Int) := by omega
    have hlV := pow_few hbl N
    have ez : pwZ (sgn s a) b e = sgn s a * 1 := by unfold pwZ; rw [if_pos hneg, Int.mul_one]
    have ed : pwD p b e = denOf (lowD a p) * b ^ N := by unfold pwD; rw [if_pos hneg, hdn, ← hN]
    rw [ez, ed] at hfp ⊢
    rw [ed] at hq
    rw [he]
    exact sc_down s A n c D m k b N (b ^ N) w hgg hl1 hl2 hz' (by omega) hb2 hbl rfl (by omega) rfl (show ((Lib.bitLen b : Nat) : Int) - 1 = ((Lib.bitLen b - 1 : Nat) : Int) by omega) (by omega) (by omega) hK hK2 (by omega) kt hT (fun g A' n' c' D' m' k' w' h => told_can hq hfp h)
   ·obtain ⟨N, hN⟩ : ∃ N : Nat, N = e.toNat := ⟨_, rfl⟩
    have he : e = (N : Int) := by omega
    have hlV := pow_few hbl N
    have ez : pwZ (sgn s a) b e = sgn s a * ((b ^ N : Nat) : Int) := by unfold pwZ; rw [if_neg hneg, ← hN]
    have ed : pwD p b e = denOf (lowD a p) * 1 := by unfold pwD; rw [if_neg hneg, hdn, Nat.mul_one]
    rw [ez, ed] at hfp ⊢
    rw [ed] at hq
    rw [he]
    exact sc_up s A n c D m k b N (b ^ N) w hgg hl1 hl2 hz' (by omega) hb2 hbl rfl (by omega) rfl (show ((Lib.bitLen b : Nat) : Int) - 1 = ((Lib.bitLen b - 1 : Nat) : Int) by omega) (by omega) (by omega) hK hK2 (by omega) kt hT (fun g A' n' c' D' m' k' w' h => told_can hq hfp h)
end Go.Proofs.YtchbefambnhjjaaGreatDoor
end
