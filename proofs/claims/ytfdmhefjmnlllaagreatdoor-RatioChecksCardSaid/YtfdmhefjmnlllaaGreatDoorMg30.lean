/- Lemmas of this proof, laid together: TwIntK, TwIntL, TwIntM, TwIntN, TwRatT, TwRatU. -/
import Derived.Test.YtfdmhefjmnlllaaGreatDoorMg26
import Derived.Test.YtfdmhefjmnlllaaGreatDoorMg23
import Derived.Deep.DeepCutAuto
import Derived.Deep.RegionWith
import Derived.Deep.LoopGhost
import Derived.Test.YtfdmhefjmnlllaaGreatDoorMg25
import Derived.Test.YtfdmhefjmnlllaaGreatDoorMg13
import Derived.Test.YtfdmhefjmnlllaaGreatDoorMg21
set_option linter.unusedSimpArgs false
set_option linter.unusedVariables false
section
/- (The document's library.) Whole numbers of the library's: quotients rounded down. -/

namespace Go.Proofs.YtfdmhefjmnlllaaGreatDoor.NB
open Go.RowKit
attribute [local go_sem] sz2 sz3 sz4 sz5 sz6 sz7 sz8
set_option maxHeartbeats 4000000
set_option maxRecDepth 100000
attribute [local irreducible] Calls
theorem bi_DivMod (b g bx b2 : Nat) (x y : Int) (hy0 : 0 < y) (hbg : b ≠ g) (hbx : bx ≠ b ∧ bx ≠ g) (hb2 : b2 ≠ b ∧ b2 ≠ g) (A : Option Addr) (n c : Nat) (B : Option Addr) (m d : Nat) (hn : n ≤ 400000) (hm : m ≤ 400000) (w : World) (hr : Room w b 0) (hr2 : Room w g 0) (hx : IntIs w bx 0 x A n c) (hy : IntIs w b2 0 y B m d) :
  Calls Tryz.prog 46 #[.pointer (some ⟨b, 0, none⟩), .pointer (some ⟨bx, 0, none⟩), .pointer (some ⟨b2, 0, none⟩), .pointer (some ⟨g, 0, none⟩)] w (DMPost w b g (x / y) (x % y)) := by
 have HX := Lib.hid hx
 have HY := Lib.hid hy
 have HR := Lib.hid hr
 have HR2 := Lib.hid hr2
 have lx := hx.room.lt
 have ly := hy.room.lt
 have y0 := hy.neg
 have y1 := hy.words
 simp only [Nat.zero_add] at y1
 have hyn : decide (y < 0) = false := decide_eq_false (by omega)
 rw [hyn] at y0
 have kQ : ∀ w', Ext w w' → Calls Tryz.prog 93 #[.pointer (some ⟨b, 0, none⟩), .pointer (some ⟨bx, 0, none⟩), .pointer (some ⟨b2, 0, none⟩), .pointer (some ⟨g, 0, none⟩)] w' (QRPost w' b g (sgn (decide (x < 0)) (x.natAbs / y.natAbs)) (sgn (decide (x < 0)) (x.natAbs % y.natAbs))) := fun w' he => by
  have := bi_QuoRem b g bx b2 x y (by omega) hbg A n c B m d hn w' (HR.out.ext he) (HR2.out.ext he) (HX.out.ext he) (HY.out.ext he)
  rw [hyn] at this
  have e : ∀ s : Bool, (!(s == false)) = s := by decide
  rw [e] at this
  exact this
 have HBG := Lib.hid hbg
 have HBX := Lib.hid hbx
 have HB2 := Lib.hid hb2
 clear hx hy hr hr2 hbg hbx hb2
 by_cases hneg : x < 0 ∧ x.natAbs % y.natAbs ≠ 0
 ·obtain ⟨hx0, hr0⟩ := hneg
  obtain ⟨e1, e2⟩ := floor_turn hy0 hx0 hr0
  have hrn : decide (sgn (decide (x < 0)) (x.natAbs % y.natAbs) < 0) = true := decide_eq_true (by rw [decide_eq_true hx0]; simp [sgn]; omega)
  have hab : (sgn (decide (x < 0)) (x.natAbs % y.natAbs)).natAbs = x.natAbs % y.natAbs := sgn_abs _ _
  have hle : x.natAbs % y.natAbs ≤ y.natAbs := Nat.le_of_lt (Nat.mod_lt _ (by omega))
  have hql : (lim (x.natAbs / y.natAbs)).length ≤ n := by rw [← HX.out.rd.len]; exact lim_mono (Nat.div_le_self _ _)
  have hqa : (sgn (decide (x < 0)) (x.natAbs / y.natAbs)).natAbs = x.natAbs / y.natAbs := sgn_abs _ _
  have hE12 := Lib.hid (And.intro e1 (And.intro e2 (And.intro hab (And.intro hle (And.intro hql hqa)))))
  have hsg : Hid (sgn false (y.natAbs - x.natAbs % y.natAbs) = ((y.natAbs - x.natAbs % y.natAbs : Nat) : Int)) := Lib.hid rfl
  clear e1 e2 hx0 hr0 hyn hab hle hql hqa
  generalize x / y = q at *
  generalize x % y = r at *
  generalize sgn (decide (x < 0)) (x.natAbs / y.natAbs) = q0 at *
  generalize sgn (decide (x < 0)) (x.natAbs % y.natAbs) = r0 at *
  go_enter Tryz.func46, Tryz.ntmps46
  go_upto_region 7 with (first
   | (go_at_call 92; (with_reducible refine (bw_copied B m d (lim y.natAbs) (Nat.le_trans hm (by decide)) _ HY.out.rd).mono ?_); rintro e w2 ⟨rfl, hR2, xb2⟩)
   | (go_at_call 93; (with_reducible refine (kQ _ xb2).mono ?_); rintro e w3 ⟨rfl, A3, n3, c3, B3, m3, d3, w2', hI3, xt3, xt4⟩; have g0 := hI3.out.2.2.1.neg; have g1 := hI3.out.2.2.1.room.lt; rw [hrn] at g0; have hxt := Lib.hid (And.intro xt3 xt4); clear xt3 xt4)
   )
  have hn3 : n3 ≤ 1000000 := by
   have h1 := hI3.out.1.rd.len
   rw [hE12.out.2.2.2.2.2] at h1
   have := hE12.out.2.2.2.2.1
   omega
  have hm3 : m3 ≤ 1000000 := by
   have h1 := hI3.out.2.2.1.rd.len
   rw [hE12.out.2.2.1] at h1
   have h2 := lim_mono hE12.out.2.2.2.1
   rw [HY.out.rd.len] at h2
   omega
  have hob : b < w.heap.size := HR.out.lt
  have hog : g < w.heap.size := HR2.out.lt
  have hOb : Off (some ⟨w.heap.size, 0, none⟩) m b := fun k hk _ e => by cases hk; simp at e; omega
  have hOg : Off (some ⟨w.heap.size, 0, none⟩) m g := fun k hk _ e => by cases hk; simp at e; omega
  have hsz3 : w2.heap.size ≤ w3.heap.size := Nat.le_trans hxt.out.1.size hxt.out.2.size
  have hSz : Hid (Rd w3 (some ⟨w.heap.size, 0, none⟩) m m (lim y.natAbs)) := Lib.hid ((hR2.out.tch hxt.out.1 hOg).tch hxt.out.2 hOb)
  have hB3b : Off B3 m3 b := hI3.out.2.2.2.off (Nat.lt_of_lt_of_le hob xb2.size) m3
  have hA3g : Off A3 n3 g := hI3.out.2.1.off (Nat.lt_of_lt_of_le hog xb2.size) n3
  have HQ := Lib.hid (And.intro hOb (And.intro hOg (And.intro hB3b hA3g)))
  have hsub : ∀ (P4 : Option Addr) (p4 k4 l4 : Nat) (w4 : World), Ext w3 w4 → IntIs w4 p4 0 1 P4 k4 l4 → Calls Tryz.prog 95 #[.pointer (some ⟨b, 0, none⟩), .pointer (some ⟨b, 0, none⟩), .pointer (some ⟨p4, 0, none⟩)] w4 (IPost w4 b 0 q) := fun P4 p4 k4 l4 w4 he h4 => by
   have h5 := h4.rd.len
   rw [show (lim (1 : Int).natAbs).length = 1 by kernel_rfl] at h5
   have := bi_Sub b 0 b 0 p4 0 q0 1 A3 n3 c3 P4 k4 l4 hn3 (by omega) w4 (hI3.out.1.room.ext he) (hI3.out.1.ext he) h4
   rw [hE12.out.1] at this
   exact this
  have hgb := Ne.symm HBG.out
  have hmI := Lib.hid hI3.out.2.2.1
  have hle5 : Hid (x.natAbs % y.natAbs ≤ y.natAbs ∧ r0.natAbs = x.natAbs % y.natAbs) := Lib.hid ⟨hE12.out.2.2.2.1, hE12.out.2.2.1⟩
  have hgs : g < w2.heap.size := Nat.lt_of_lt_of_le hog xb2.size
  have HGB := Lib.hid hgb
  have kS : ∀ w', Rd w' (some ⟨w.heap.size, 0, none⟩) m m (lim y.natAbs) → Rd w' B3 m3 d3 (lim r0.natAbs) → Calls Tryz.prog 97 #[.slice (some ⟨w.heap.size, 0, none⟩) m m, .slice B3 m3 d3] w' (WPost w' (y.natAbs - r0.natAbs)) := fun w' h1 h2 =>
   bw_sub _ B3 m m m3 d3 y.natAbs r0.natAbs (by rw [hle5.out.2]; exact hle5.out.1) (Nat.le_trans hm (by decide)) w' h1 h2
  clear hgb g0 g1 hOb hOg hB3b hA3g hrn
  go_wp2_with (first
   | (go_at_call 59; (with_reducible refine (bi_NewInt 1 (by decide) (by decide) _).mono ?_); rintro e w4 ⟨p4, P4, k4, l4, rfl, hI4, hp4, xb4⟩)
   | (go_at_call 95; (with_reducible refine (hsub P4 p4 k4 l4 _ xb4 hI4.out.1).mono ?_); rintro e w5 ⟨rfl, A5, n5, c5, hI5, xt5⟩; have hm5 := Lib.hid ((hmI.out.ext xb4).tch xt5 HGB.out HQ.out.2.2.1); have hs5 := Lib.hid ((hSz.out.ext xb4).tch xt5 HQ.out.1); have g5 := hm5.out.words; have g6 := hm5.out.room.lt; simp only [Nat.zero_add] at g5; have HT5 := Lib.hid xt5; clear xt5)
   | (go_at_call 97; (with_reducible refine (kS _ hs5.out hm5.out.rd).mono ?_); rintro e w6 ⟨A6, k6, c6, rfl, hR6, xb6⟩; have ho6 := hR6.out.2.off g6 k6)
   | (go_at_call 96; (with_reducible refine (bi_set g 0 false A6 k6 c6 (y.natAbs - r0.natAbs) _ (hm5.out.room.ext xb6) hR6.out.1 ho6).mono ?_); rintro e w7 ⟨rfl, hI7, xt7⟩; have HT7 := Lib.hid xt7; clear xt7)
   )
  have hP : Hid (∀ U, Ext U w → U.heap.size ≤ b → U.heap.size ≤ g → Ext U w7) := Lib.hid fun U hU h1 h2 => HT7.out.ext (jT (HT5.out.ext (jT (hxt.out.2.ext (hxt.out.1.ext (jT hU xb2) h2) h1) xb4) h1) xb6) h2
  have hS : w.heap.size ≤ w7.heap.size := Nat.le_trans xb2.size (Nat.le_trans hsz3 (Nat.le_trans xb4.size (Nat.le_trans HT5.out.size (Nat.le_trans xb6.size HT7.out.size))))
  have hA5 : Off A5 n5 g := hI5.out.2.off (Nat.lt_of_lt_of_le hgs (Nat.le_trans hsz3 xb4.size)) n5
  have hF5 : Fr w A5 := fun a ha => Nat.le_trans (Nat.le_trans xb2.size (Nat.le_trans hsz3 xb4.size)) (hI5.out.2 a ha)
  have hF6 : Fr w A6 := fun a ha => Nat.le_trans (Nat.le_trans xb2.size (Nat.le_trans hsz3 (Nat.le_trans xb4.size HT5.out.size))) (hR6.out.2 a ha)
  have hr7 : sgn false (y.natAbs - r0.natAbs) = r := by rw [hle5.out.2, hsg.out]; exact hE12.out.2.1
  have HR7 := Lib.hid hr7
  clear hr7
  refine bodyPost_ret (v := .tuple #[.pointer (some ⟨b, 0, none⟩), .pointer (some ⟨g, 0, none⟩)]) ?h rfl ⟨rfl, A5, n5, c5, A6, k6, c6, ⟨(hI5.out.1.ext xb6).tch HT7.out HBG.out hA5, hF5, by have := hI7.out; rwa [HR7.out] at this, hF6⟩, hP, hS⟩
  case h => simp [results, Tryz.results46, go_sem]
 ·obtain ⟨e1, e2⟩ := floor_plain hy0 hneg
  rw [e1, e2] at kQ
  have hrn : decide (x % y < 0) = false := decide_eq_false (by have := Int.emod_nonneg x (show y ≠ 0 by omega); omega)
  have hE12 := Lib.hid (And.intro e1 e2)
  clear e1 e2 hneg hyn
  generalize x / y = q at *
  generalize x % y = r at *
  go_enter Tryz.func46, Tryz.ntmps46
  go_wp2_with (first
   | (go_at_call 92; (with_reducible refine (bw_copied B m d (lim y.natAbs) (Nat.le_trans hm (by decide)) _ HY.out.rd).mono ?_); rintro e w2 ⟨rfl, hR2, xb2⟩)
   | (go_at_call 93; (with_reducible refine (kQ _ xb2).mono ?_); rintro e w3 ⟨rfl, A3, n3, c3, B3, m3, d3, w2', hI3, xt3, xt4⟩; have g0 := hI3.out.2.2.1.neg; have g1 := hI3.out.2.2.1.room.lt; rw [hrn] at g0; have hxt := Lib.hid (And.intro xt3 xt4); clear xt3 xt4)
   )
  have hP : Hid (∀ U, Ext U w → U.heap.size ≤ b → U.heap.size ≤ g → Ext U w3) := Lib.hid fun U hU h1 h2 => hxt.out.2.ext (hxt.out.1.ext (jT hU xb2) h2) h1
  have hS : w.heap.size ≤ w3.heap.size := Nat.le_trans xb2.size (Nat.le_trans hxt.out.1.size hxt.out.2.size)
  refine bodyPost_ret (v := .tuple #[.pointer (some ⟨b, 0, none⟩), .pointer (some ⟨g, 0, none⟩)]) ?h rfl ⟨rfl, A3, n3, c3, B3, m3, d3, ⟨hI3.out.1, hI3.out.2.1.mono xb2, hI3.out.2.2.1, hI3.out.2.2.2.mono xb2⟩, hP, hS⟩
  case h => simp [results, Tryz.results46, go_sem]
end Go.Proofs.YtfdmhefjmnlllaaGreatDoor.NB
end
section
/- (The document's library.) Whole numbers of the library's: their texts. -/

namespace Go.Proofs.YtfdmhefjmnlllaaGreatDoor.NB
open Go.RowKit
attribute [local go_sem] bs_size bs_extract bs_get bs_append bs_toList const_get
attribute [local go_sem] sz2 sz3 sz4 sz5 sz6 sz7 sz8
set_option maxHeartbeats 4000000
set_option maxRecDepth 100000
attribute [local irreducible] Calls
theorem bi_Text (b : Nat) (z : Int) (A : Option Addr) (n c : Nat) (hn : n ≤ 19000) (w : World) (hx : IntIs w b 0 z A n c) :
  Calls Tryz.prog 104 #[.pointer (some ⟨b, 0, none⟩), .int .i64 10] w fun e w' => e = .returned (.string (bs (itext z))) ∧ Ext w w' := by
 have HX := Lib.hid hx
 have lx := hx.room.lt
 have x0 := hx.neg
 have x1 := hx.words
 simp only [Nat.zero_add] at x1
 have kT : ∀ w', Ext w w' → Calls Tryz.prog 136 #[.slice A n c, .int .i64 10, .int .i64 1] w' fun e w'' => ∃ (g k cp : Nat), e = .returned (.slice (some ⟨g, 0, none⟩) k cp) ∧ ((convert 51 9 (.slice (some ⟨g, 0, none⟩) k cp)).run Tryz.prog w'' = .ok (.string (bs (dtext z.natAbs))) w'') ∧ Ext w' w'' := fun w' he => by
  have h1 := bw_tell n z.natAbs 1 A n c rfl (by omega) (by omega) (by decide) w' (HX.out.rd.ext he)
  rw [tell_one] at h1
  refine h1.mono ?_
  rintro e w'' ⟨vv, rfl, h2, h3⟩
  have hd0 : 0 < (dtext z.natAbs).length := by
   unfold dtext; split
   ·decide
   ·rename_i h; exact List.length_pos_iff.2 (by rw [digs_pos h]; simp)
  rcases own_form h2.out with ⟨_, h0⟩ | ⟨g, cp, rfl, _⟩
  ·omega
  ·exact ⟨g, _, cp, rfl, ownb_str h2.out 0 _ cp (by omega) (dtext z.natAbs) (by simp), h3⟩
 have hlen : (dtext z.natAbs).length ≤ 608001 := by
  unfold dtext; split
  ·decide
  ·have := digs_lim' (v := z.natAbs) (k := n) (by rw [HX.out.rd.len]; exact Nat.le_refl _); omega
 clear hx
 by_cases hz : z < 0
 ·have e : itext z = 45 :: dtext z.natAbs := by unfold itext; rw [if_pos hz]; rfl
  rw [e]
  rw [decide_eq_true hz] at x0
  clear e hz
  generalize dtext z.natAbs = l at *
  go_enter Tryz.func104, Tryz.ntmps104
  go_wp2_with (first
   | (go_at_call 136; (with_reducible refine (kT _ (jR _)).mono ?_); rintro e w1 ⟨g1, k1, c1, rfl, hR1, xb1⟩; obtain ⟨xc1, xf1, xl1, xz1⟩ := jU xb1; (try simp at xz1); obtain ⟨l1_0, r1_0, f1_0, r1_0_1, f1_0_1⟩ := kq2 xb1 (b))
   )
  have e1 : ({ data := #[45] } : ByteArray) ++ bs l = bs (45 :: l) := by show bs [45] ++ bs l = _; rw [bs_append]; rfl
  refine bodyPost_ret (v := .string (bs (45 :: l))) ?h rfl ⟨rfl, xb1⟩
  case h => simp [results, Tryz.results104, go_sem, e1]
 ·have e : itext z = dtext z.natAbs := by unfold itext; rw [if_neg hz]; rfl
  rw [e]
  rw [decide_eq_false hz] at x0
  clear e hz
  generalize dtext z.natAbs = l at *
  go_enter Tryz.func104, Tryz.ntmps104
  go_wp2_with (first
   | (go_at_call 136; (with_reducible refine (kT _ (jR _)).mono ?_); rintro e w1 ⟨g1, k1, c1, rfl, hR1, xb1⟩; obtain ⟨xc1, xf1, xl1, xz1⟩ := jU xb1; (try simp at xz1); obtain ⟨l1_0, r1_0, f1_0, r1_0_1, f1_0_1⟩ := kq2 xb1 (b))
   )
  refine bodyPost_ret (v := .string (bs l)) ?h rfl ⟨rfl, xb1⟩
  case h => simp [results, Tryz.results104, go_sem]
theorem bi_String (b : Nat) (z : Int) (A : Option Addr) (n c : Nat) (hn : n ≤ 19000) (w : World) (hx : IntIs w b 0 z A n c) :
  Calls Tryz.prog 54 #[.pointer (some ⟨b, 0, none⟩)] w fun e w' => e = .returned (.string (bs (itext z))) ∧ Ext w w' := by
 have kT := bi_Text b z A n c hn w hx
 clear hx
 generalize itext z = l at *
 go_enter Tryz.func54, Tryz.ntmps54
 go_wp2_with (first
  | (go_at_call 104; (with_reducible refine (kT).mono ?_); rintro e w1 ⟨rfl, xb1⟩; obtain ⟨xc1, xf1, xl1, xz1⟩ := jU xb1; (try simp at xz1))
  )
 refine bodyPost_ret (v := .string (bs l)) ?h rfl ⟨rfl, xb1⟩
 case h => simp [results, Tryz.results54, go_sem]
end Go.Proofs.YtfdmhefjmnlllaaGreatDoor.NB
end
section
/- (The document's library.) Fractions of the library's: out of whole numbers; differences, quotients. -/

namespace Go.Proofs.YtfdmhefjmnlllaaGreatDoor.NB
open Go.RowKit
attribute [local go_sem] sz2 sz3 sz4 sz5 sz6 sz7 sz8
set_option maxHeartbeats 4000000
set_option maxRecDepth 100000
attribute [local irreducible] Calls
section
attribute [local go_sem] Oper.detAt detUpon relUpon
theorem bi_Setx (b o bx ox : Nat) (A : Option Addr) (n c : Nat) (z : Int) (hn : n ≤ 1000000) (w : World) (hr : Room w b o) (hx : IntIs w bx ox z A n c) :
  Calls Tryz.prog 98 #[.pointer (some ⟨b, o, none⟩), .pointer (some ⟨bx, ox, none⟩)] w fun e w' => e = .returned (.pointer (some ⟨b, o, none⟩)) ∧ ∃ (A : Option Addr) (n c : Nat), Hid (IntIs w' b o z A n c ∧ Fr w A) ∧ Tch b w w' ∧ Hid (∀ p, p ≠ o → p ≠ o + 1 → w'.cell? ⟨b, p, none⟩ = w.cell? ⟨b, p, none⟩ ∧ w'.frozen? ⟨b, p, none⟩ = w.frozen? ⟨b, p, none⟩) := by
 have HX := Lib.hid hx
 have HR := Lib.hid hr
 have lx := hx.room.lt
 have x0 := hx.neg
 have x1 := hx.words
 clear hx hr
 go_enter Tryz.func98, Tryz.ntmps98
 go_wp2
 refine wp_drawn_tail 10 (tab [(9, RWord w.heap.size z.natAbs)]) (by kernel_rfl) (by kernel_rfl) (by kernel_rfl) (tab_stays (by simp [stays_word])) (fun hq hqf => ?_)
 simp only [List.take_succ_cons, List.take_zero, List.drop_succ_cons, List.drop_zero]
 have y0 := fun nq => (hq nq bx ox lx).trans x0
 have y1 := fun nq => (hq nq bx (ox + 1) lx).trans x1
 iterate 9
  (refine wpK_det rfl (fun K hK => ?_)
   go_simp
   first
    | (refine hK _ ?_; clear hK K)
    | (apply Exists.intro; refine ⟨fun x => ?_, hK _ ?_⟩; (first | exact y0 x | exact y1 x | (simp [y0, y1]; rfl)); clear hK K))
 refine wpK_rel _ rfl rfl ?_ ?_
 ·rintro _ ⟨nn, rfl⟩ _
  unfold Oper.relAt
  go_simp
  exact rel_copied _ _ _ _ _ hn _ _ (ext_size nn.use) (HX.out.rd.ext nn.use)
 rintro v ⟨_, ⟨nn, rfl⟩, hr⟩
 obtain ⟨A9, k9, c9, rfl, -, -⟩ := hr
 clear nn
 refine wpK_nil ?_
 intro nq2 hG
 have r9 : RWord w.heap.size z.natAbs [] (.slice A9 k9 c9) nq2.out := by have := hG.fact 9; simp [Facts.put] at this; exact this
 have hR9 := Lib.hid (rword_at r9)
 have hF9 : Fr w A9 := hR9.out.2
 have hO9 := hF9.off HR.out.lt k9
 clear r9 hG
 go_wp2_with (first
  | (go_at_call 96; (with_reducible refine (bi_setx b o _ A9 k9 c9 z.natAbs _ (HR.out.ext nq2.use) hR9.out.1 hO9).mono ?_); rintro e w3 ⟨rfl, hI3, xt3, hP3⟩)
  )
 refine bodyPost_ret (v := .pointer (some ⟨b, o, none⟩)) ?h rfl ⟨rfl, A9, k9, c9, ⟨by have := hI3.out; rwa [sgn_self] at this, hF9⟩, (Tch.of nq2.use).trans xt3, Lib.hid fun p h1 h2 => ⟨(hP3.out p h1 h2).1.trans (Below.cell (p := ⟨b, p, none⟩) nq2.use HR.out.lt), (hP3.out p h1 h2).2.trans (Below.frozen (p := ⟨b, p, none⟩) nq2.use HR.out.lt)⟩⟩
 case h => simp [results, Tryz.results98, go_sem]
end
section
attribute [local go_sem] D2.Oper.detAt D2.detUpon D2.relUpon
end
end Go.Proofs.YtfdmhefjmnlllaaGreatDoor.NB
end
section
/- (The document's library.) Fractions of the library's: their texts; turned over. -/

namespace Go.Proofs.YtfdmhefjmnlllaaGreatDoor.NB
open Go.RowKit
attribute [local go_sem] bs_size bs_extract bs_get bs_append bs_toList const_get
attribute [local go_sem] sz2 sz3 sz4 sz5 sz6 sz7 sz8
set_option maxHeartbeats 4000000
set_option maxRecDepth 100000
attribute [local irreducible] Calls
theorem br_IsInt (g : Nat) (z : Int) (A : Option Addr) (n c d : Nat) (D : Option Addr) (m e : Nat) (w : World) (hx : RatIs w g z A n c d D m e) :
  Calls Tryz.prog 53 #[.pointer (some ⟨g, 0, none⟩)] w fun e' w' => e' = .returned (.bool (decide (denOf d = 1))) ∧ Ext w w' := by
 have c2 := hx.c2
 have hl := hx.int.room.lt
 have hmd := hx.rd.len
 have hcap := hx.rd.cap
 have hmx := hx.rd.mx
 have HR := Lib.hid hx.rd
 clear hx
 by_cases h0 : d = 0
 ·subst h0
  rw [lim_zero] at hmd
  simp at hmd
  subst hmd
  have e1 : decide (denOf 0 = 1) = true := rfl
  rw [e1]
  clear e1
  go_enter Tryz.func53, Tryz.ntmps53
  go_wp2
  refine bodyPost_ret (v := .bool true) ?h rfl ⟨rfl, ?_⟩
  case h => simp [results, Tryz.results53, go_sem]
  exact xcl
 ·have e1 : denOf d = d := by unfold denOf; rw [if_neg h0]
  rw [e1]
  by_cases h1 : m = 1
  ·subst h1
   obtain ⟨bb, off, rfl⟩ : ∃ bb off, D = some ⟨bb, off, none⟩ := by
    rcases HR.out.shape with ⟨_, h, _⟩ | h
    ·omega
    ·exact h
   obtain ⟨y, hy, hyb, hc⟩ := HR.out.get 0 (by omega)
   have hdy : d = y := by
    have h2 : d < Bs := by have := lim_lt d; rw [hmd, Nat.pow_one] at this; exact this
    have h3 := hy.out
    rw [lim_pos h0] at h3
    rw [← h3]
    exact (Nat.mod_eq_of_lt h2).symm
   subst hdy
   rw [Nat.add_zero] at hc
   have hbl : bb < w.heap.size := World.block_lt_of_cell? w _ hc
   clear e1 hmd
   by_cases hd1 : d = 1
   ·subst hd1
    go_enter Tryz.func53, Tryz.ntmps53
    go_wp2
    refine bodyPost_ret (v := .bool true) ?h rfl ⟨rfl, ?_⟩
    case h => simp [results, Tryz.results53, go_sem]
    exact xcl
   ·rw [decide_eq_false hd1]
    have hne : ((d : Int) == 1) = false := by rw [beq_eq_false_iff_ne]; omega
    go_enter Tryz.func53, Tryz.ntmps53
    go_wp2
    refine bodyPost_ret (v := .bool false) ?h rfl ⟨rfl, ?_⟩
    case h => simp [results, Tryz.results53, go_sem]
    exact xcl
  ·have hd1 : d ≠ 1 := by
    intro e; subst e
    have : (lim 1).length = 1 := by kernel_rfl
    omega
   have hm0 : m ≠ 0 := by
    intro e; subst e
    exact h0 (lim_nil.1 (List.eq_nil_of_length_eq_zero hmd))
   rw [decide_eq_false hd1]
   have hne0 : ((m : Int) == 0) = false := by rw [beq_eq_false_iff_ne]; omega
   have hne1 : ((m : Int) == 1) = false := by rw [beq_eq_false_iff_ne]; omega
   clear e1 hmd
   go_enter Tryz.func53, Tryz.ntmps53
   go_wp2
   refine bodyPost_ret (v := .bool false) ?h rfl ⟨rfl, ?_⟩
   case h => simp [results, Tryz.results53, go_sem]
   exact xcl
end Go.Proofs.YtfdmhefjmnlllaaGreatDoor.NB
end
