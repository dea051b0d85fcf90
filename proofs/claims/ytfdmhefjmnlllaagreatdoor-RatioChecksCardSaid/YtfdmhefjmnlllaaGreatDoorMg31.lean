/- Lemmas of this proof, laid together: D2C, D2D, D2E, D2P1, D2P2, D2P3, D2P4, D2P5, D2P6, D2P7, D2P8. -/
import Derived.Test.YtfdmhefjmnlllaaGreatDoorMg28
import Derived.Test.YtfdmhefjmnlllaaGreatDoorMg30
import Derived.Test.YtfdmhefjmnlllaaGreatDoorMg26
import Derived.Test.YtfdmhefjmnlllaaGreatDoorMg22
import Derived.Test.YtfdmhefjmnlllaaGreatDoorMg23
import Derived.Test.YtfdmhefjmnlllaaGreatDoorMg21
import Derived.Test.YtfdmhefjmnlllaaGreatDoorMg27
import Derived.Deep.DeepCutAuto
import Derived.Deep.RegionWith
import Derived.Deep.LoopGhost
set_option linter.unusedSimpArgs false
set_option linter.unusedVariables false
section
/- The document's fractions: numbers out of texts, fractions out of numbers, in new blocks. -/
namespace Go.Proofs.YtfdmhefjmnlllaaGreatDoor.NB
open Go.RowKit
set_option maxRecDepth 100000
attribute [local irreducible] Calls
abbrev newInt (u : World) : World := u.alloc (Obj.cells #[.bool false, .slice none 0 0] 77)
abbrev newRat (u : World) : World := u.alloc (Obj.cells #[.bool false, .slice none 0 0, .slice none 0 0] 108)
theorem room_int (u : World) : Room (newInt u) u.heap.size 0 :=
 ⟨by simp, ⟨_, by simp [go_sem]; rfl⟩, ⟨_, by simp [go_sem]; rfl⟩, by simp [go_sem], by simp [go_sem]⟩
theorem room_rat (u : World) : RatRoom (newRat u) u.heap.size :=
 ⟨⟨by simp, ⟨_, by simp [go_sem]; rfl⟩, ⟨_, by simp [go_sem]; rfl⟩, by simp [go_sem], by simp [go_sem]⟩, ⟨_, by simp [go_sem]; rfl⟩, by simp [go_sem]⟩
theorem op_One (u : World) : Calls Tryz.prog 59 #[.int .i64 1] u fun e w' => ∃ (b : Nat) (A : Option Addr) (n c : Nat), e = .returned (.pointer (some ⟨b, 0, none⟩)) ∧ Hid (IntIs w' b 0 ((1 : Nat) : Int) A n c) ∧ Ext u w' := by
 refine (bi_NewInt 1 (by decide) (by decide) u).mono ?_
 rintro e w' ⟨b, B, k, l, rfl, h1, _, h2⟩
 exact ⟨b, B, k, l, rfl, Lib.hid h1.out.1, h2⟩
end Go.Proofs.YtfdmhefjmnlllaaGreatDoor.NB
end
section
/- The document's fractions: whether one may be; as the library has it. -/
namespace Go.Proofs.YtfdmhefjmnlllaaGreatDoor.NB
open Go.RowKit
attribute [local go_sem] sz2 sz3 sz4 sz5 sz6 sz7 sz8
set_option maxHeartbeats 4000000
set_option maxRecDepth 100000
attribute [local irreducible] Calls
attribute [local go_sem] D2.Oper.detAt D2.detUpon D2.relUpon
theorem rd_May (A : Option Addr) (n c : Nat) (xs : List Nat) (w : World) (hR : Rd w A n c xs) :
  Calls Tryz.prog 56 #[natV A n c] w fun e w' => e = .returned (.bool (decide (chk xs = 0))) ∧ Ext w w' := by
 have hmx := hR.mx
 have hcx := hR.cap
 have hlen := Lib.hid hR.len
 by_cases h1 : 16384 < n
 ·have e : decide (chk xs = 0) = false := by unfold chk; rw [if_pos (by rw [hlen.out]; omega)]; rfl
  rw [e]
  have h2 : decide ((n : Int) ≤ 16384) = false := decide_eq_false (by omega)
  clear e hR
  go_enter Tryz.func56, Tryz.ntmps56
  go_wp2
  refine bodyPost_ret (v := _) ?h rfl ⟨rfl, ?_⟩
  case h => simp [results, Tryz.results56, go_sem]
  exact xcl
 have h2 : decide ((n : Int) ≤ 16384) = true := decide_eq_true (by omega)
 by_cases h0 : n = 0
 ·have e : decide (chk xs = 0) = true := by unfold chk; rw [if_neg (by rw [hlen.out]; omega), if_neg (by rw [hlen.out]; omega)]; rfl
  rw [e]
  clear e hR
  subst h0
  go_enter Tryz.func56, Tryz.ntmps56
  go_wp2
  refine bodyPost_ret (v := _) ?h rfl ⟨rfl, ?_⟩
  case h => simp [results, Tryz.results56, go_sem]
  exact xcl
 rcases hR.shape with ⟨rfl, rfl, rfl, rfl⟩ | ⟨b, off, rfl⟩
 ·exact absurd rfl h0
 obtain ⟨x, hx, hxb, hc⟩ := hR.get (n - 1) (by omega)
 have hb : b < w.heap.size := World.block_lt_of_cell? w _ hc
 have e : decide (chk xs = 0) = decide (x ≠ 0) := by
  unfold chk
  rw [if_neg (by rw [hlen.out]; omega), hlen.out, hx.out, decide_eq_decide]
  by_cases h : x = 0
  ·rw [if_pos ⟨by omega, h⟩, h]; simp
  ·rw [if_neg (fun h' => h h'.2)]; simp [h]
 rw [e]
 have hn0 : ((n : Int) == 0) = false := by rw [beq_eq_false_iff_ne]; omega
 clear e hR
 by_cases hz : x = 0
 ·subst hz
  simp only [ne_eq, not_true_eq_false, decide_false]
  go_enter Tryz.func56, Tryz.ntmps56
  go_wp2
  refine bodyPost_ret (v := _) ?h rfl ⟨rfl, ?_⟩
  case h => simp [results, Tryz.results56, go_sem]
  exact xcl
 ·have hne : ((x : Int) == 0) = false := by rw [beq_eq_false_iff_ne]; omega
  have hne2 : ¬ (x : Int) = 0 := by omega
  simp only [ne_eq, hz, not_false_eq_true, decide_true]
  go_enter Tryz.func56, Tryz.ntmps56
  go_wp2
  refine bodyPost_ret (v := _) ?h rfl ⟨rfl, ?_⟩
  case h => simp [results, Tryz.results56, go_sem, hz]
  exact xcl
theorem op_SetWords (A : Option Addr) (n c a : Nat) (hn : n ≤ 1000000) (b : Nat) (u : World) (hb : b = u.heap.size) (hA : Rd u A n c (lim a)) :
  Calls Tryz.prog 105 #[.pointer (some ⟨b, 0, none⟩), .slice A n c] (newInt u) fun e w' => ∃ (A' : Option Addr) (n' c' : Nat), e = .returned (.pointer (some ⟨b, 0, none⟩)) ∧ Hid (IntIs w' b 0 ((a : Nat) : Int) A' n' c' ∧ Fr u A') ∧ Ext u w' := by
 subst hb
 have hE : Ext u (newInt u) := jA (jR u) _
 refine (bi_SetWords u.heap.size 0 A n c a hn (newInt u) (room_int u) (hA.ext hE)).mono ?_
 rintro e w' ⟨rfl, A', n', c', hI, ht⟩
 exact ⟨A', n', c', rfl, Lib.hid ⟨hI.out.1, Fr.mono hI.out.2 hE⟩, ht.ext hE (Nat.le_refl _)⟩
theorem rd_Int (A : Option Addr) (n c a : Nat) (hn : n ≤ 1000000) (w : World) (hA : Rd w A n c (lim a)) :
  Calls Tryz.prog 57 #[natV A n c] w (NPost w ((a : Nat) : Int)) := by
 have HA := Lib.hid hA
 clear hA
 go_enter Tryz.func57, Tryz.ntmps57
 go_wp2_with (first
  | (go_at_call 105; (with_reducible refine (op_SetWords A n c a hn _ (w.alloc (Obj.cells #[.slice A n c] 24)) (by simp) (HA.out.ext (jA (jR w) _))).mono ?_); rintro e w1 ⟨A1, n1, c1, rfl, hI1, xb1⟩)
  )
 have hE := Lib.hid (jT (jA (jR w) (Obj.cells #[.slice A n c] 24)) xb1)
 refine bodyPost_ret (v := .pointer (some ⟨w.heap.size + 1, 0, none⟩)) ?h rfl ⟨_, A1, n1, c1, rfl, ⟨hI1.out.1, Fr.mono hI1.out.2 (jA (jR w) _)⟩, Nat.le_succ _, hE.out⟩
 case h => simp [results, Tryz.results57, go_sem]
theorem bi_GCD (b bx b2 x y : Nat) (A : Option Addr) (n c : Nat) (B : Option Addr) (m d : Nat) (hn : n ≤ 400000) (hm : m ≤ 400000) (w : World) (hT : Tz w) (hr : Room w b 0) (hx : IntIs w bx 0 ((x : Nat) : Int) A n c) (hy : IntIs w b2 0 ((y : Nat) : Int) B m d) :
  Calls Tryz.prog 60 #[.pointer (some ⟨b, 0, none⟩), .pointer none, .pointer none, .pointer (some ⟨bx, 0, none⟩), .pointer (some ⟨b2, 0, none⟩)] w (IPost w b 0 ((Nat.gcd x y : Nat) : Int)) := by
 have HR := Lib.hid hr
 have x1 := hx.words
 have y1 := hy.words
 have lx := hx.room.lt
 have ly := hy.room.lt
 have hlt := hr.lt
 have rx := hx.rd
 have ry := hy.rd
 rw [Int.natAbs_natCast] at rx ry
 rw [Nat.zero_add] at x1 y1
 have kC : ∀ w', Ext w w' → Calls Tryz.prog 108 #[.slice A n c, .slice B m d] w' (WPost w' (Nat.gcd x y)) := fun w' he => bw_common A B n c m d x y hn hm w' (hT.ext he) (rx.ext he) (ry.ext he)
 have hsg : Hid (sgn false (Nat.gcd x y) = ((Nat.gcd x y : Nat) : Int)) := Lib.hid rfl
 generalize Nat.gcd x y = g at *
 clear hr hx hy rx ry hT
 go_enter Tryz.func60, Tryz.ntmps60
 go_wp2
 refine D2.wp_drawn_tail 10 (D2.tab [(9, RWord w.heap.size g)]) (by kernel_rfl) (by kernel_rfl) (by kernel_rfl) (D2.tab_stays (by simp [D2.stays_word])) (fun hq hqf => ?_)
 simp only [List.take_succ_cons, List.take_zero, List.drop_succ_cons, List.drop_zero]
 have z1 := fun nq => (hq nq bx 1 lx).trans x1
 have z3 := fun nq => (hq nq b2 1 ly).trans y1
 iterate 9
  (refine D2.wpK_det rfl (fun K hK => ?_)
   go_simp
   first
    | (refine hK _ ?_; clear hK K)
    | (apply Exists.intro; refine ⟨fun x => ?_, hK _ ?_⟩; (first | exact z1 x | exact z3 x | (simp [z1, z3]; rfl)); clear hK K))
 refine D2.wpK_rel _ rfl rfl ?_ ?_
 ·rintro _ ⟨nn, rfl⟩ _
  unfold D2.Oper.relAt
  go_simp
  exact D2.rel_wpost (ext_size nn.use) (kC _ nn.use)
 rintro v ⟨_, ⟨nn, rfl⟩, hr⟩
 obtain ⟨A9, k9, c9, rfl, -, -⟩ := hr
 clear nn
 refine D2.wpK_nil ?_
 intro nq2 hG
 have r9 : RWord w.heap.size g [] (.slice A9 k9 c9) nq2.out := by have := hG.fact 9; simp [D2.Facts.put] at this; exact this
 have hR9 := Lib.hid (rword_at r9)
 have hF9 : Fr w A9 := hR9.out.2
 have hO9 := hF9.off HR.out.lt k9
 clear r9 hG
 go_wp2_with (first
  | (go_at_call 96; (with_reducible refine (bi_set b 0 false A9 k9 c9 g _ (HR.out.ext nq2.use) hR9.out.1 hO9).mono ?_); rintro e w3 ⟨rfl, hI3, xt3⟩)
  )
 refine bodyPost_ret (v := .pointer (some ⟨b, 0, none⟩)) ?h rfl ⟨rfl, A9, k9, c9, ⟨by have := hI3.out; rwa [hsg.out] at this, hF9⟩, (Tch.of nq2.use).trans xt3⟩
 case h => simp [results, Tryz.results60, go_sem]
theorem op_GCD (b bx b2 x y : Nat) (A : Option Addr) (n c : Nat) (B : Option Addr) (m d : Nat) (hn : n ≤ 400000) (hm : m ≤ 400000) (u : World) (hb : b = u.heap.size) (hT : Tz u) (hx : IntIs u bx 0 ((x : Nat) : Int) A n c) (hy : IntIs u b2 0 ((y : Nat) : Int) B m d) {g : Nat} (hg : Nat.gcd x y = g) :
  Calls Tryz.prog 60 #[.pointer (some ⟨b, 0, none⟩), .pointer none, .pointer none, .pointer (some ⟨bx, 0, none⟩), .pointer (some ⟨b2, 0, none⟩)] (newInt u) fun e w' => ∃ (A' : Option Addr) (n' c' : Nat), e = .returned (.pointer (some ⟨b, 0, none⟩)) ∧ Hid (IntIs w' b 0 ((g : Nat) : Int) A' n' c') ∧ Ext u w' := by
 subst hb hg
 have hE : Ext u (newInt u) := jA (jR u) _
 refine (bi_GCD u.heap.size bx b2 x y A n c B m d hn hm (newInt u) (hT.ext hE) (room_int u) (hx.ext hE) (hy.ext hE)).mono ?_
 rintro e w' ⟨rfl, A', n', c', hI, ht⟩
 exact ⟨A', n', c', rfl, Lib.hid hI.out.1, ht.ext hE (Nat.le_refl _)⟩
theorem op_One2 {p : Prop} (_ : Hid p) (u : World) : Calls Tryz.prog 59 #[.int .i64 1] u fun e w' => ∃ (b : Nat) (A : Option Addr) (n c : Nat), e = .returned (.pointer (some ⟨b, 0, none⟩)) ∧ Hid (IntIs w' b 0 ((1 : Nat) : Int) A n c) ∧ Ext u w' := op_One u
theorem op_Cmp1 (x : Nat) (b g : Nat) (A : Option Addr) (n c : Nat) (B : Option Addr) (m d : Nat) (w : World) (hx : IntIs w b 0 ((x : Nat) : Int) A n c) (hy : IntIs w g 0 ((1 : Nat) : Int) B m d) :
  Calls Tryz.prog 58 #[.pointer (some ⟨b, 0, none⟩), .pointer (some ⟨g, 0, none⟩)] w fun e w' => e = .returned (.int .i64 ((x : Int) - 1).sign) ∧ Ext w w' := bi_Cmp b 0 g 0 (x : Int) 1 A n c B m d w hx hy
theorem sign_one (x : Nat) : ((((x : Int) - 1).sign == 0) = true ↔ x = 1) := by
 rw [beq_iff_eq, Int.sign_eq_zero_iff_zero]; omega
section
variable (s : Bool) (A : Option Addr) (n c a : Nat) (D : Option Addr) (m k d : Nat) (w : World)
theorem rd_Check_no1 (h : s = s) (xs ys : List Nat) (hc : chk xs ≠ 0) (hA : Rd w A n c xs) (hD : Rd w D m k ys) :
  Calls Tryz.prog 20 #[ratV s A n c D m k] w fun e w' => e = .returned (.int .i64 20) ∧ Ext w w' := by
 have k1 : ∀ w', Ext w w' → Calls Tryz.prog 56 #[natV A n c] w' fun e w'' => e = .returned (.bool false) ∧ Ext w' w'' := fun w' he => by have := rd_May A n c xs w' (hA.ext he); rwa [decide_eq_false hc] at this
 have k2 : ∃ t, ∀ w', Ext w w' → Calls Tryz.prog 56 #[natV D m k] w' fun e w'' => e = .returned (.bool t) ∧ Ext w' w'' := ⟨_, fun w' he => rd_May D m k ys w' (hD.ext he)⟩
 obtain ⟨t, k2⟩ := k2
 clear hA hD hc
 go_enter Tryz.func20, Tryz.ntmps20
 go_upto_region 2 with (first
  | (go_at_call 56; (with_reducible refine (k1 _ xcl).mono ?_); rintro e w1 ⟨rfl, xb1⟩; obtain ⟨xc1, xf1, xl1, xz1⟩ := jU xb1; (try simp at xz1); obtain ⟨l1_0, r1_0, f1_0, r1_0_1, f1_0_1, r1_0_2, f1_0_2⟩ := kq3 xb1 (w.heap.size))
  )
 go_wp2_with (first
  | (go_at_call 56; (with_reducible refine (k2 _ xcl).mono ?_); rintro e w2 ⟨rfl, xb2⟩; obtain ⟨xc2, xf2, xl2, xz2⟩ := jU xb2; (try simp at xz2); obtain ⟨l2_0, r2_0, f2_0, r2_0_1, f2_0_1, r2_0_2, f2_0_2⟩ := kq3 xb2 (w.heap.size))
  )
 refine bodyPost_ret (v := .int .i64 20) ?h rfl ⟨rfl, ?_⟩
 case h => simp [results, Tryz.results20, go_sem]
 exact xcl
theorem rd_Check_no2 (xs ys : List Nat) (hc : chk xs = 0) (hc2 : chk ys ≠ 0 ∨ m = 0) (hA : Rd w A n c xs) (hD : Rd w D m k ys) :
  Calls Tryz.prog 20 #[ratV s A n c D m k] w fun e w' => e = .returned (.int .i64 20) ∧ Ext w w' := by
 have k1 : ∀ w', Ext w w' → Calls Tryz.prog 56 #[natV A n c] w' fun e w'' => e = .returned (.bool true) ∧ Ext w' w'' := fun w' he => by have := rd_May A n c xs w' (hA.ext he); rwa [decide_eq_true hc] at this
 by_cases h : chk ys = 0
 ·have k2 : ∀ w', Ext w w' → Calls Tryz.prog 56 #[natV D m k] w' fun e w'' => e = .returned (.bool true) ∧ Ext w' w'' := fun w' he => by have := rd_May D m k ys w' (hD.ext he); rwa [decide_eq_true h] at this
  obtain rfl : m = 0 := by rcases hc2 with h1 | h1; exact absurd h h1; exact h1
  clear hA hD hc hc2 h
  go_enter Tryz.func20, Tryz.ntmps20
  go_upto_region 2 with (first
   | (go_at_call 56; (with_reducible refine (k1 _ xcl).mono ?_); rintro e w1 ⟨rfl, xb1⟩; obtain ⟨xc1, xf1, xl1, xz1⟩ := jU xb1; (try simp at xz1); obtain ⟨l1_0, r1_0, f1_0, r1_0_1, f1_0_1, r1_0_2, f1_0_2⟩ := kq3 xb1 (w.heap.size))
   )
  go_wp2_with (first
   | (go_at_call 56; (with_reducible refine (k2 _ xcl).mono ?_); rintro e w2 ⟨rfl, xb2⟩; obtain ⟨xc2, xf2, xl2, xz2⟩ := jU xb2; (try simp at xz2); obtain ⟨l2_0, r2_0, f2_0, r2_0_1, f2_0_1, r2_0_2, f2_0_2⟩ := kq3 xb2 (w.heap.size))
   )
  refine bodyPost_ret (v := .int .i64 20) ?h rfl ⟨rfl, ?_⟩
  case h => simp [results, Tryz.results20, go_sem]
  exact xcl
 ·have k2 : ∀ w', Ext w w' → Calls Tryz.prog 56 #[natV D m k] w' fun e w'' => e = .returned (.bool false) ∧ Ext w' w'' := fun w' he => by have := rd_May D m k ys w' (hD.ext he); rwa [decide_eq_false h] at this
  clear hA hD hc hc2 h
  go_enter Tryz.func20, Tryz.ntmps20
  go_upto_region 2 with (first
   | (go_at_call 56; (with_reducible refine (k1 _ xcl).mono ?_); rintro e w1 ⟨rfl, xb1⟩; obtain ⟨xc1, xf1, xl1, xz1⟩ := jU xb1; (try simp at xz1); obtain ⟨l1_0, r1_0, f1_0, r1_0_1, f1_0_1, r1_0_2, f1_0_2⟩ := kq3 xb1 (w.heap.size))
   )
  go_wp2_with (first
   | (go_at_call 56; (with_reducible refine (k2 _ xcl).mono ?_); rintro e w2 ⟨rfl, xb2⟩; obtain ⟨xc2, xf2, xl2, xz2⟩ := jU xb2; (try simp at xz2); obtain ⟨l2_0, r2_0, f2_0, r2_0_1, f2_0_1, r2_0_2, f2_0_2⟩ := kq3 xb2 (w.heap.size))
   )
  refine bodyPost_ret (v := .int .i64 20) ?h rfl ⟨rfl, ?_⟩
  case h => simp [results, Tryz.results20, go_sem]
  exact xcl
theorem rd_Check_in (q : Nat) (hq : Nat.gcd a d = q) (hd : d ≠ 0) (hn : n ≤ 16384) (hm : m ≤ 16384) (hT : Tz w) (hA : Rd w A n c (lim a)) (hD : Rd w D m k (lim d)) (E : Int) (hE : E = if (a = 0 ∧ (s = true ∨ d ≠ 1)) ∨ q ≠ 1 then 20 else 0) :
  Calls Tryz.prog 20 #[ratV s A n c D m k] w fun e w' => e = .returned (.int .i64 E) ∧ Ext w w' := by
 have HT := Lib.hid hT
 have hla := hA.len
 have hld := hD.len
 have hm0 : ((m : Int) == 0) = false := by
  rw [beq_eq_false_iff_ne]
  intro h; exact hd (lim_nil.1 (List.eq_nil_of_length_eq_zero (by omega)))
 have k1 : ∀ w', Ext w w' → Calls Tryz.prog 56 #[natV A n c] w' fun e w'' => e = .returned (.bool true) ∧ Ext w' w'' := fun w' he => by have := rd_May A n c (lim a) w' (hA.ext he); rwa [decide_eq_true (chk_lim (by omega))] at this
 have k2 : ∀ w', Ext w w' → Calls Tryz.prog 56 #[natV D m k] w' fun e w'' => e = .returned (.bool true) ∧ Ext w' w'' := fun w' he => by have := rd_May D m k (lim d) w' (hD.ext he); rwa [decide_eq_true (chk_lim (by omega))] at this
 have k3 : ∀ w', Ext w w' → Calls Tryz.prog 57 #[natV A n c] w' (NPost w' ((a : Nat) : Int)) := fun w' he => rd_Int A n c a (by omega) w' (hA.ext he)
 have k4 : ∀ w', Ext w w' → Calls Tryz.prog 57 #[natV D m k] w' (NPost w' ((d : Nat) : Int)) := fun w' he => rd_Int D m k d (by omega) w' (hD.ext he)
 have kG : ∀ (b1 b2 b3 : Nat) (A1 : Option Addr) (n1 c1 : Nat) (A2 : Option Addr) (n2 c2 : Nat) (u : World), b3 = u.heap.size → Ext w u → IntIs u b1 0 ((a : Nat) : Int) A1 n1 c1 → IntIs u b2 0 ((d : Nat) : Int) A2 n2 c2 → Calls Tryz.prog 60 #[.pointer (some ⟨b3, 0, none⟩), .pointer none, .pointer none, .pointer (some ⟨b1, 0, none⟩), .pointer (some ⟨b2, 0, none⟩)] (newInt u) fun e w' => ∃ (A' : Option Addr) (n' c' : Nat), e = .returned (.pointer (some ⟨b3, 0, none⟩)) ∧ Hid (IntIs w' b3 0 ((q : Nat) : Int) A' n' c') ∧ Ext u w' := fun b1 b2 b3 A1 n1 c1 A2 n2 c2 u hb he h1 h2 => by
  have e1 := h1.rd.len
  have e2 := h2.rd.len
  rw [Int.natAbs_natCast] at e1 e2
  exact op_GCD b3 b1 b2 a d A1 n1 c1 A2 n2 c2 (by omega) (by omega) u hb (HT.out.ext he) h1 h2 hq
 have kS : ∀ (b : Nat) (B : Option Addr) (n1 c1 : Nat) (w' : World), IntIs w' b 0 ((a : Nat) : Int) B n1 c1 → Calls Tryz.prog 49 #[.pointer (some ⟨b, 0, none⟩)] w' fun e w'' => e = .returned (.int .i64 ((a : Nat) : Int).sign) ∧ Ext w' w'' := fun b B n1 c1 w' h => bi_Sign b 0 _ B n1 c1 w' h
 have kD : ∀ (b g : Nat) (B : Option Addr) (n1 c1 : Nat) (C : Option Addr) (n2 c2 : Nat) (w' : World), IntIs w' b 0 ((d : Nat) : Int) B n1 c1 → IntIs w' g 0 ((1 : Nat) : Int) C n2 c2 → Calls Tryz.prog 58 #[.pointer (some ⟨b, 0, none⟩), .pointer (some ⟨g, 0, none⟩)] w' fun e w'' => e = .returned (.int .i64 ((d : Int) - 1).sign) ∧ Ext w' w'' := fun b g B n1 c1 C n2 c2 w' h1 h2 => op_Cmp1 d b g B n1 c1 C n2 c2 w' h1 h2
 have kQ : ∀ (b g : Nat) (B : Option Addr) (n1 c1 : Nat) (C : Option Addr) (n2 c2 : Nat) (w' : World), IntIs w' b 0 ((q : Nat) : Int) B n1 c1 → IntIs w' g 0 ((1 : Nat) : Int) C n2 c2 → Calls Tryz.prog 58 #[.pointer (some ⟨b, 0, none⟩), .pointer (some ⟨g, 0, none⟩)] w' fun e w'' => e = .returned (.int .i64 (((q : Nat) : Int) - 1).sign) ∧ Ext w' w'' := fun b g B n1 c1 C n2 c2 w' h1 h2 => op_Cmp1 _ b g B n1 c1 C n2 c2 w' h1 h2
 have qs : (((((a : Nat) : Int).sign) == 0) = true ↔ a = 0) := by rw [beq_iff_eq, Int.sign_eq_zero_iff_zero]; omega
 have qd := sign_one d
 have qg := sign_one q
 generalize hS : ((a : Nat) : Int).sign = S at *
 generalize hQ : ((d : Int) - 1).sign = Q at *
 generalize hP : ((q : Int) - 1).sign = P at *
 clear hS hQ hP hA hD hT hla hld hq
 by_cases h1 : a = 0 <;> by_cases h2 : s = true <;> by_cases h3 : d = 1 <;> by_cases h4 : q = 1
 all_goals
  have x1 : (S == 0) = decide (a = 0) := by rw [Bool.eq_iff_iff, qs, decide_eq_true_eq]
  have x2 : (Q == 0) = decide (d = 1) := by rw [Bool.eq_iff_iff, qd, decide_eq_true_eq]
  have x3 : (P == 0) = decide (q = 1) := by rw [Bool.eq_iff_iff, qg, decide_eq_true_eq]
  have y2 : (Q != 0) = !decide (d = 1) := by rw [← x2]; rfl
  have y3 : (P != 0) = !decide (q = 1) := by rw [← x3]; rfl
  simp only [h1, h3, h4, decide_true, decide_false, Bool.not_true, Bool.not_false] at x1 x2 x3 y2 y3
  try simp only [Bool.not_eq_true] at h2
  simp [h1, h2, h3, h4] at hE
  subst hE
  clear qs qd qg h1 h3 h4
  subst h2
  go_enter Tryz.func20, Tryz.ntmps20
  go_upto_region 2 with (first
   | (go_at_call 56; (with_reducible refine (k1 _ xcl).mono ?_); rintro e w1 ⟨rfl, xb1⟩; obtain ⟨xc1, xf1, xl1, xz1⟩ := jU xb1; (try simp at xz1); obtain ⟨l1_0, r1_0, f1_0, r1_0_1, f1_0_1, r1_0_2, f1_0_2⟩ := kq3 xb1 (w.heap.size))
   )
  go_upto_region 5 with (first
   | (go_at_call 56; (with_reducible refine (k2 _ xcl).mono ?_); rintro e w2 ⟨rfl, xb2⟩; obtain ⟨xc2, xf2, xl2, xz2⟩ := jU xb2; (try simp at xz2); obtain ⟨l2_0, r2_0, f2_0, r2_0_1, f2_0_1, r2_0_2, f2_0_2⟩ := kq3 xb2 (w.heap.size))
   )
  go_upto_region 6 with (first
   | (go_at_call 57; (with_reducible refine (k3 _ xcl).mono ?_); rintro e w3 ⟨b3, A3, n3, c3, rfl, hI3, hb3, xb3⟩; obtain ⟨xc3, xf3, xl3, xz3⟩ := jU xb3; (try simp at xz3); obtain ⟨l3_0, r3_0, f3_0, r3_0_1, f3_0_1, r3_0_2, f3_0_2⟩ := kq3 xb3 (w.heap.size))
   )
  go_upto_region 7 with (first
   | (go_at_call 57; (with_reducible refine (k4 _ xcl).mono ?_); rintro e w4 ⟨b4, A4, n4, c4, rfl, hI4, hb4, xb4⟩; obtain ⟨xc4, xf4, xl4, xz4⟩ := jU xb4; (try simp at xz4); obtain ⟨l4_0, r4_0, f4_0, r4_0_1, f4_0_1, r4_0_2, f4_0_2⟩ := kq3 xb4 (w.heap.size))
   )
  have hJ3 := Lib.hid (hI3.out.1.ext xb4)
  have hJ4 := Lib.hid hI4.out.1
  go_wp2_with (first
   | (go_at_call 49; (with_reducible refine (kS _ _ _ _ _ hJ3.out).mono ?_); rintro e w5 ⟨rfl, xb5⟩; obtain ⟨xc5, xf5, xl5, xz5⟩ := jU xb5; (try simp at xz5); obtain ⟨l5_0, r5_0, f5_0, r5_0_1, f5_0_1, r5_0_2, f5_0_2⟩ := kq3 xb5 (w.heap.size))
   | (go_at_call 58; (with_reducible refine (kQ _ _ _ _ _ _ _ _ _ (hI8.out.ext xb9) hI9.out).mono ?_); rintro e w10 ⟨rfl, xb10⟩; obtain ⟨xc10, xf10, xl10, xz10⟩ := jU xb10; (try simp at xz10); obtain ⟨l10_0, r10_0, f10_0, r10_0_1, f10_0_1, r10_0_2, f10_0_2⟩ := kq3 xb10 (w.heap.size))
   | (go_at_call 59; (with_reducible refine (op_One2 hI8 _).mono ?_); rintro e w9 ⟨b9, A9, n9, c9, rfl, hI9, xb9⟩; obtain ⟨xc9, xf9, xl9, xz9⟩ := jU xb9; (try simp at xz9); obtain ⟨l9_0, r9_0, f9_0, r9_0_1, f9_0_1, r9_0_2, f9_0_2⟩ := kq3 xb9 (w.heap.size))
   | (go_at_call 60; (with_reducible refine (kG _ _ _ _ _ _ _ _ _ _ (by simp) xcl (hJ3.out.ext xcl) (hJ4.out.ext xcl)).mono ?_); rintro e w8 ⟨A8, n8, c8, rfl, hI8, xb8⟩; obtain ⟨xc8, xf8, xl8, xz8⟩ := jU xb8; (try simp at xz8))
   | (go_at_call 58; (with_reducible refine (kD _ _ _ _ _ _ _ _ _ (hJ4.out.ext xcl) hI6.out).mono ?_); rintro e w7 ⟨rfl, xb7⟩; obtain ⟨xc7, xf7, xl7, xz7⟩ := jU xb7; (try simp at xz7); obtain ⟨l7_0, r7_0, f7_0, r7_0_1, f7_0_1, r7_0_2, f7_0_2⟩ := kq3 xb7 (w.heap.size))
   | (go_at_call 59; (with_reducible refine (op_One _).mono ?_); rintro e w6 ⟨b6, A6, n6, c6, rfl, hI6, xb6⟩; obtain ⟨xc6, xf6, xl6, xz6⟩ := jU xb6; (try simp at xz6); obtain ⟨l6_0, r6_0, f6_0, r6_0_1, f6_0_1, r6_0_2, f6_0_2⟩ := kq3 xb6 (w.heap.size))
   )
  refine bodyPost_ret (v := .int .i64 _) ?h rfl ⟨rfl, ?_⟩
  case h => simp [results, Tryz.results20, go_sem]
  exact xcl
end
end Go.Proofs.YtfdmhefjmnlllaaGreatDoor.NB
end
section
/- The document's fractions: as the library has them; two of them. -/
namespace Go.Proofs.YtfdmhefjmnlllaaGreatDoor.NB
open Go.RowKit
attribute [local go_sem] sz2 sz3 sz4 sz5 sz6 sz7 sz8
set_option maxHeartbeats 4000000
set_option maxRecDepth 100000
attribute [local irreducible] Calls
theorem br_SetFracC (g bx b2 : Nat) (z : Int) (d : Nat) (hd : d ≠ 0) (A : Option Addr) (n c : Nat) (D : Option Addr) (m k : Nat) (hn : n ≤ 400000) (hm : m ≤ 400000) (w : World) (hT : Tz w) (hr : RatRoom w g) (hx : IntIs w bx 0 z A n c) (hyy : IntIs w b2 0 (d : Nat) D m k) :
  Calls Tryz.prog 79 #[.pointer (some ⟨g, 0, none⟩), .pointer (some ⟨bx, 0, none⟩), .pointer (some ⟨b2, 0, none⟩)] w (FPost w g (canN z d) (canW z d)) := by
 have h := br_SetFrac g bx b2 z (d : Nat) (by omega) A n c D m k hn hm w hT hr hx hyy
 rw [Int.natAbs_natCast, low_can] at h
 have e : qneg z (d : Nat) = decide (z < 0) := by
  unfold qneg
  have : decide (((d : Nat) : Int) < 0) = false := decide_eq_false (by omega)
  rw [this]; simp
 rw [e] at h
 exact h
abbrev RatPst (w : World) (z : Int) (d : Nat) : Ending → World → Prop := fun e w' => ∃ (g : Nat) (A : Option Addr) (n c : Nat) (D : Option Addr) (m k : Nat), e = .returned (.pointer (some ⟨g, 0, none⟩)) ∧ Hid (RatIs w' g z A n c d D m k ∧ Fr w A ∧ Fr w D) ∧ w.heap.size ≤ g ∧ Ext w w'
theorem rd_Rat (s : Bool) (A : Option Addr) (n c a : Nat) (D : Option Addr) (m k d : Nat) (hd : d ≠ 0) (hn : n ≤ 16384) (hm : m ≤ 16384) (hg : Nat.gcd a d = 1) (w : World) (hT : Tz w) (hA : Rd w A n c (lim a)) (hD : Rd w D m k (lim d)) :
  Calls Tryz.prog 32 #[ratV s A n c D m k] w (RatPst w (sgn s a) (lowD a d)) := by
 have HT := Lib.hid hT
 have hla := hA.len
 have hld := hD.len
 have kA : ∀ w', Ext w w' → Calls Tryz.prog 57 #[natV A n c] w' (NPost w' ((a : Nat) : Int)) := fun w' he => rd_Int A n c a (by omega) w' (hA.ext he)
 have kD : ∀ w', Ext w w' → Calls Tryz.prog 57 #[natV D m k] w' (NPost w' ((d : Nat) : Int)) := fun w' he => rd_Int D m k d (by omega) w' (hD.ext he)
 have kF : ∀ (g b1 b2 : Nat) (A1 : Option Addr) (n1 c1 : Nat) (A2 : Option Addr) (n2 c2 : Nat) (w' : World), Ext w w' → RatRoom w' g → IntIs w' b1 0 (sgn s a) A1 n1 c1 → IntIs w' b2 0 ((d : Nat) : Int) A2 n2 c2 → Calls Tryz.prog 79 #[.pointer (some ⟨g, 0, none⟩), .pointer (some ⟨b1, 0, none⟩), .pointer (some ⟨b2, 0, none⟩)] w' (FPost w' g (sgn s a) (lowD a d)) := fun g b1 b2 A1 n1 c1 A2 n2 c2 w' he hr h1 h2 => by
  have e1 := h1.rd.len
  have e2 := h2.rd.len
  rw [sgn_abs] at e1
  rw [Int.natAbs_natCast] at e2
  have h := br_SetFracC g b1 b2 (sgn s a) d hd A1 n1 c1 A2 n2 c2 (by omega) (by omega) w' (HT.out.ext he) hr h1 h2
  rw [(can_self (z := sgn s a) hd (by rw [sgn_abs]; exact hg)).1, ← low_can, sgn_abs] at h
  exact h
 have HLA := Lib.hid hla
 clear hA hD hT hd hg hla hld
 generalize lowD a d = p at *
 cases s with
 | false =>
  have e0 : sgn false a = ((a : Nat) : Int) := rfl
  rw [e0] at kF ⊢
  clear e0
  go_enter Tryz.func32, Tryz.ntmps32
  go_wp2_with (first
   | (go_at_call 57; (with_reducible refine (kA _ xcl).mono ?_); rintro e w1 ⟨b1, A1, n1, c1, rfl, hI1, hb1, xb1⟩; obtain ⟨xc1, xf1, xl1, xz1⟩ := jU xb1; (try simp at xz1); obtain ⟨l1_0, r1_0, f1_0, r1_0_1, f1_0_1, r1_0_2, f1_0_2⟩ := kq3 xb1 (w.heap.size))
   | (go_at_call 57; (with_reducible refine (kD _ xcl).mono ?_); rintro e w2 ⟨b2, A2, n2, c2, rfl, hI2, hb2, xb2⟩; obtain ⟨xc2, xf2, xl2, xz2⟩ := jU xb2; (try simp at xz2); obtain ⟨l2_0, r2_0, f2_0, r2_0_1, f2_0_1, r2_0_2, f2_0_2⟩ := kq3 xb2 (w.heap.size))
   | (go_at_call 79; (with_reducible refine (kF _ _ _ _ _ _ _ _ _ _ xcl ((room_rat w1).ext xb2) (hI1.out.1.ext xcl) hI2.out.1).mono ?_); rintro e w3 ⟨rfl, A3, n3, c3, D3, m3, k3, hR3, xt3⟩)
   )
  have hE1 : Ext w w1 := xcl
  have hE12 : Ext w1 w2 := xcl
  have hE3 : Ext w w3 := jT hE1 (xt3.ext hE12 (Nat.le_refl _))
  have hs := ext_size hE1
  refine bodyPost_ret (v := .pointer (some ⟨w1.heap.size, 0, none⟩)) ?h rfl ⟨_, A3, n3, c3, D3, m3, k3, rfl, ⟨hR3.out.1, Fr.mono hR3.out.2.1 (jT hE1 hE12), Fr.mono hR3.out.2.2 (jT hE1 hE12)⟩, hs, hE3⟩
  case h => simp [results, Tryz.results32, go_sem]
 | true =>
  have e0 : sgn true a = -((a : Nat) : Int) := rfl
  rw [e0] at kF ⊢
  clear e0
  go_enter Tryz.func32, Tryz.ntmps32
  go_upto_region 3 with (first
   | (go_at_call 57; (with_reducible refine (kA _ xcl).mono ?_); rintro e w1 ⟨b1, A1, n1, c1, rfl, hI1, hb1, xb1⟩; obtain ⟨xc1, xf1, xl1, xz1⟩ := jU xb1; (try simp at xz1); obtain ⟨l1_0, r1_0, f1_0, r1_0_1, f1_0_1, r1_0_2, f1_0_2⟩ := kq3 xb1 (w.heap.size))
   )
  have hn1 : n1 ≤ 1000000 := by have e1 := hI1.out.1.rd.len; rw [Int.natAbs_natCast] at e1; have e2 := HLA.out; omega
  have kN := bi_Neg b1 0 b1 0 A1 n1 c1 ((a : Nat) : Int) hn1 w1 hI1.out.1.room hI1.out.1
  go_upto_region 4 with (first
   | (go_at_call 78; (with_reducible refine kN.mono ?_); rintro e w4 ⟨rfl, A4, n4, c4, hI4, xt4⟩)
   )
  have hE4 := xt4.ext xb1 hb1
  clear kN xb1
  obtain ⟨xc4, xf4, xl4, xz4⟩ := jU (hE4)
  obtain ⟨l4_0, gc, gf⟩ := kp (hE4) (w.heap.size) (by first | omega | (simp; try omega))
  have r4_0 := gc 0
  have f4_0 := gf 0
  have r4_0_1 := gc 1
  have f4_0_1 := gf 1
  have r4_0_2 := gc 2
  have f4_0_2 := gf 2
  clear gc gf
  go_wp2_with (first
   | (go_at_call 57; (with_reducible refine (kD _ xcl).mono ?_); rintro e w2 ⟨b2, A2, n2, c2, rfl, hI2, hb2, xb2⟩; obtain ⟨xc2, xf2, xl2, xz2⟩ := jU xb2; (try simp at xz2); obtain ⟨l2_0, r2_0, f2_0, r2_0_1, f2_0_1, r2_0_2, f2_0_2⟩ := kq3 xb2 (w.heap.size))
   | (go_at_call 79; (with_reducible refine (kF _ _ _ _ _ _ _ _ _ _ xcl ((room_rat w4).ext xb2) (hI4.out.1.ext xcl) hI2.out.1).mono ?_); rintro e w3 ⟨rfl, A3, n3, c3, D3, m3, k3, hR3, xt3⟩)
   )
  have hE1 : Ext w w4 := xcl
  have hE12 : Ext w4 w2 := xcl
  have hE3 : Ext w w3 := jT hE1 (xt3.ext hE12 (Nat.le_refl _))
  have hs := ext_size hE1
  refine bodyPost_ret (v := .pointer (some ⟨w4.heap.size, 0, none⟩)) ?h rfl ⟨_, A3, n3, c3, D3, m3, k3, rfl, ⟨hR3.out.1, Fr.mono hR3.out.2.1 (jT hE1 hE12), Fr.mono hR3.out.2.2 (jT hE1 hE12)⟩, hs, hE3⟩
  case h => simp [results, Tryz.results32, go_sem]
section
variable (s t : Bool) (A : Option Addr) (n c : Nat) (D : Option Addr) (m k : Nat) (B : Option Addr) (n2 c2 : Nat) (C : Option Addr) (m2 k2 : Nat) (w : World)
end
end Go.Proofs.YtfdmhefjmnlllaaGreatDoor.NB
end
