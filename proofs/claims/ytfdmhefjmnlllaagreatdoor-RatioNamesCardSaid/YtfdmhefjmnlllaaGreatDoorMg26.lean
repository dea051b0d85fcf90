/- Lemmas of this proof, laid together: RatN. -/
import Derived.Test.YtfdmhefjmnlllaaGreatDoorMg25
import Derived.Deep.DeepCutAuto
import Derived.Deep.RegionWith
import Derived.Deep.LoopGhost
set_option linter.unusedSimpArgs false
set_option linter.unusedVariables false
section
/- The program's fractions: order. -/
namespace Go.Proofs.YtfdmhefjmnlllaaGreatDoor
open Go.RowKit
attribute [local go_sem] sz2 sz3 sz4 sz5 sz6 sz7 sz8
set_option maxHeartbeats 4000000
set_option maxRecDepth 100000
attribute [local irreducible] Calls
theorem ra_Cmp (neg : Bool) (A : Option Addr) (n c a : Nat) (D : Option Addr) (m k d : Nat) (hd : d ≠ 0) (hn : n ≤ 16384) (hm : m ≤ 16384) (hg : Nat.gcd a d = 1) (hng : neg = true → a ≠ 0)
  (neg2 : Bool) (B : Option Addr) (n2 c2 b : Nat) (C : Option Addr) (m2 k2 q : Nat) (hq : q ≠ 0) (hn2 : n2 ≤ 16384) (hm2 : m2 ≤ 16384) (hg2 : Nat.gcd b q = 1) (hng2 : neg2 = true → b ≠ 0)
  (w : World) (hT : Tz w) (hA : Rd w A n c (lim a)) (hD : Rd w D m k (lim d)) (hB : Rd w B n2 c2 (lim b)) (hC : Rd w C m2 k2 (lim q)) :
  Calls Tryz.prog 30 #[ratV neg A n c D m k, ratV neg2 B n2 c2 C m2 k2] w fun e w' => e = .returned (.tuple #[.int .i64 (sgn neg a * (q : Int) - sgn neg2 b * (d : Int)).sign, .int .i64 0]) ∧ Ext w w' := by
 have kA : ∀ w', Ext w w' → Calls Tryz.prog 40 #[ratV neg A n c D m k] w' (KPost w' (sgn neg a) (lowD a d)) := fun w' he => ra_taken neg A n c a D m k d hd hn hm hg hng w' (hT.ext he) (hA.ext he) (hD.ext he)
 have kB : ∀ w', Ext w w' → Calls Tryz.prog 40 #[ratV neg2 B n2 c2 C m2 k2] w' (KPost w' (sgn neg2 b) (lowD b q)) := fun w' he => ra_taken neg2 B n2 c2 b C m2 k2 q hq hn2 hm2 hg2 hng2 w' (hT.ext he) (hB.ext he) (hC.ext he)
 have hla := hA.len
 have hld := hD.len
 have hlb := hB.len
 have hlq := hC.len
 have kC : ∀ bx X n' c' Y m' k' b2 X2 n2' c2' Y2 m2' k2' w', RatIs w' bx (sgn neg a) X n' c' (lowD a d) Y m' k' → RatIs w' b2 (sgn neg2 b) X2 n2' c2' (lowD b q) Y2 m2' k2' → Calls Tryz.prog 77 #[.pointer (some ⟨bx, 0, none⟩), .pointer (some ⟨b2, 0, none⟩)] w' fun e w'' => e = .returned (.int .i64 (sgn neg a * (q : Int) - sgn neg2 b * (d : Int)).sign) ∧ Ext w' w'' := fun bx X n' c' Y m' k' b2 X2 n2' c2' Y2 m2' k2' w' h5 h6 => by
  have l1 := h5.int.rd.len
  have l2 := h5.rd.len
  have l3 := h6.int.rd.len
  have l4 := h6.rd.len
  have l5 := lim_mono (lowD_le a d)
  have l6 := lim_mono (lowD_le b q)
  rw [sgn_abs] at l1 l3
  have := br_Cmp bx b2 (sgn neg a) (sgn neg2 b) (lowD a d) (lowD b q) X n' c' Y m' k' X2 n2' c2' Y2 m2' k2' (by omega) (by omega) (by omega) (by omega) w' h5 h6
  rwa [den_low hd hg, den_low hq hg2] at this
 clear hT hA hD hB hC hng hng2 hla hld hlb hlq
 generalize (sgn neg a * (q : Int) - sgn neg2 b * (d : Int)).sign = R at kC ⊢
 generalize lowD a d = da at *
 generalize lowD b q = db at *
 generalize sgn neg a = za at *
 generalize sgn neg2 b = zb at *
 clear hd hn hm hg hq hn2 hm2 hg2
 go_enter Tryz.func30, Tryz.ntmps30
 go_wp2_with (first
  | (go_at_call 40; (with_reducible refine (kA _ xcl).mono ?_); rintro e w1 ⟨b1, A1, n1, c1, D1, m1, k1, rfl, hR1, hb1, xb1⟩; obtain ⟨xc1, xf1, xl1, xz1⟩ := jU xb1; (try simp at xz1); obtain ⟨l1_0, r1_0, f1_0, r1_0_1, f1_0_1, r1_0_2, f1_0_2⟩ := kq3 xb1 (w.heap.size); obtain ⟨l1_1, r1_1, f1_1, r1_1_1, f1_1_1, r1_1_2, f1_1_2⟩ := kq3 xb1 (w.heap.size + 1))
  | (go_at_call 40; (with_reducible refine (kB _ xcl).mono ?_); rintro e w2 ⟨b2, A2, n2, c2, D2, m2, k2, rfl, hR2, hb2, xb2⟩; obtain ⟨xc2, xf2, xl2, xz2⟩ := jU xb2; (try simp at xz2); obtain ⟨l2_0, r2_0, f2_0, r2_0_1, f2_0_1, r2_0_2, f2_0_2⟩ := kq3 xb2 (w.heap.size); obtain ⟨l2_1, r2_1, f2_1, r2_1_1, f2_1_1, r2_1_2, f2_1_2⟩ := kq3 xb2 (w.heap.size + 1))
  | (go_at_call 77; (with_reducible refine (kC _ _ _ _ _ _ _ _ _ _ _ _ _ _ _ (hR1.out.1.ext xcl) hR2.out.1).mono ?_); rintro e w3 ⟨rfl, xb3⟩)
  )
 refine bodyPost_ret (v := .tuple #[.int .i64 R, .int .i64 0]) ?h rfl ⟨rfl, ?_⟩
 case h => simp [results, Tryz.results30, go_sem]
 exact xcl
end Go.Proofs.YtfdmhefjmnlllaaGreatDoor
end
