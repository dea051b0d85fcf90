/- Lemmas of this proof, laid together: RatA, TwRatA, RatB, TwRatB, RatC, TwRatC, RatD, TwRatD, RatE, NtK, NtL, RatF, RatG, TwBigP. -/
import Derived.Test.YtchbefambnhjjaaGreatDoorMg21
import Derived.Deep.DeepCutAuto
import Derived.Deep.RegionWith
import Derived.Deep.LoopGhost
import Derived.Test.YtchbefambnhjjaaGreatDoorMg11
import Derived.Test.YtchbefambnhjjaaGreatDoorMg13
import Derived.Test.YtchbefambnhjjaaGreatDoorMg12
import Derived.Test.YtchbefambnhjjaaGreatDoorMg15
import Derived.Test.YtchbefambnhjjaaGreatDoorMg09
import Derived.Maps.AppendAt
set_option linter.unusedSimpArgs false
set_option linter.unusedVariables false
section
/- Fractions of the library's: objects in memory, set. -/
namespace Go.Proofs.YtchbefambnhjjaaGreatDoor
open Go.RowKit
attribute [local go_sem] sz2 sz3 sz4 sz5 sz6 sz7 sz8
set_option maxHeartbeats 4000000
set_option maxRecDepth 100000
attribute [local irreducible] Calls
attribute [local go_sem] Oper.detAt detUpon relUpon
structure RatRoom (w : World) (g : Nat) : Prop where
 int : Room w g 0
 c2 : ∃ v, w.cell? ⟨g, 2, none⟩ = some v
 f2 : w.frozen? ⟨g, 2, none⟩ = false
structure RatIs (w : World) (g : Nat) (z : Int) (A : Option Addr) (n c : Nat) (d : Nat) (D : Option Addr) (m e : Nat) : Prop where
 int : IntIs w g 0 z A n c
 c2 : w.cell? ⟨g, 2, none⟩ = some (.slice D m e)
 f2 : w.frozen? ⟨g, 2, none⟩ = false
 rd : Rd w D m e (lim d)
 off : Off D m g
theorem RatRoom.ext {w w' : World} {g : Nat} (h : RatRoom w g) (he : Ext w w') : RatRoom w' g := by
 obtain ⟨h1, ⟨v, h2⟩, h3⟩ := h
 exact ⟨h1.ext he, ⟨v, (Below.cell (p := ⟨g, 2, none⟩) he h1.lt).trans h2⟩, (Below.frozen (p := ⟨g, 2, none⟩) he h1.lt).trans h3⟩
theorem RatIs.ext {w w' : World} {g : Nat} {z : Int} {A : Option Addr} {n c : Nat} {d : Nat} {D : Option Addr} {m e : Nat} (h : RatIs w g z A n c d D m e) (he : Ext w w') : RatIs w' g z A n c d D m e :=
 ⟨h.int.ext he, (Below.cell (p := ⟨g, 2, none⟩) he h.int.room.lt).trans h.c2, (Below.frozen (p := ⟨g, 2, none⟩) he h.int.room.lt).trans h.f2, h.rd.ext he, h.off⟩
theorem RatIs.tch {w w' : World} {g b : Nat} {z : Int} {A : Option Addr} {n c : Nat} {d : Nat} {D : Option Addr} {m e : Nat} (h : RatIs w g z A n c d D m e) (ht : Tch b w w') (hg : g ≠ b) (hA : Off A n b) (hD : Off D m b) : RatIs w' g z A n c d D m e :=
 ⟨h.int.tch ht hg hA, (ht.cell (p := ⟨g, 2, none⟩) h.int.room.lt hg).trans h.c2, (ht.frozen (p := ⟨g, 2, none⟩) h.int.room.lt hg).trans h.f2, h.rd.tch ht hD, h.off⟩
def denOf (d : Nat) : Nat := if d = 0 then 1 else d
theorem br_below_new (g : Nat) (z : Int) (A : Option Addr) (n c : Nat) (D : Option Addr) (m e : Nat) (w : World) (hx : RatIs w g z A n c 0 D m e) :
  Calls Tryz.prog 129 #[.pointer (some ⟨g, 0, none⟩)] w fun e w' => e = .returned (.slice (some ⟨w.heap.size, 0, none⟩) 1 1) ∧ Hid (Rd w' (some ⟨w.heap.size, 0, none⟩) 1 1 (lim 1)) ∧ Ext w w' := by
 have hm : m = 0 := by have := hx.rd.len; rw [lim_zero] at this; exact this.symm
 subst hm
 have x2 := hx.c2
 clear hx
 go_enter Tryz.func129, Tryz.ntmps129
 go_wp2
 refine bodyPost_ret (v := .slice (some ⟨w.heap.size, 0, none⟩) 1 1) ?h rfl ⟨rfl, one_row w, jA (jR _) _⟩
 case h => simp [results, Tryz.results129, go_sem]
theorem br_below_old (g : Nat) (z : Int) (A : Option Addr) (n c d : Nat) (hd : d ≠ 0) (D : Option Addr) (m e : Nat) (w : World) (hx : RatIs w g z A n c d D m e) :
  Calls Tryz.prog 129 #[.pointer (some ⟨g, 0, none⟩)] w fun e' w' => e' = .returned (.slice D m e) ∧ Ext w w' := by
 have hm : m ≠ 0 := by have := hx.rd.len; intro h; rw [h] at this; exact hd (lim_nil.1 (List.eq_nil_of_length_eq_zero this))
 have hm1 : ((m : Int) == 0) = false := by rw [beq_eq_false_iff_ne]; omega
 have x2 := hx.c2
 clear hx
 go_enter Tryz.func129, Tryz.ntmps129
 go_wp2
 refine bodyPost_ret (v := .slice D m e) ?h rfl ⟨rfl, jR _⟩
 case h => simp [results, Tryz.results129, go_sem]
abbrev SPost (w : World) (g : Nat) (z : Int) (d : Nat) (A D : Option Addr) : Ending → World → Prop := fun e w' => e = .returned (.pointer (some ⟨g, 0, none⟩)) ∧ ∃ (A' : Option Addr) (n c : Nat) (D' : Option Addr) (m k : Nat),
 Hid (RatIs w' g z A' n c d D' m k ∧ ∀ W, Ext W w → Fr W A → Fr W D → Fr W A' ∧ Fr W D') ∧ Tch g w w'
theorem Fr.szmono {W w : World} {A : Option Addr} (h : Fr w A) (hs : W.heap.size ≤ w.heap.size) : Fr W A := fun a ha => Nat.le_trans hs (h a ha)
theorem Fr.none (w : World) : Fr w none := fun _ h => by cases h
theorem rat_made {w : World} {g : Nat} {z : Int} {A : Option Addr} {n c : Nat} (hi : IntIs w g 0 z A n c) (hc : ∃ v, w.cell? ⟨g, 2, none⟩ = some v) (hf : w.frozen? ⟨g, 2, none⟩ = false) {d : Nat} {D : Option Addr} {m k : Nat} (hD : Rd w D m k (lim d)) (ho : Off D m g) :
  RatIs (w.setCell ⟨g, 2, none⟩ (.slice D m k)) g z A n c d D m k := by
 obtain ⟨v, hv⟩ := hc
 have ht : Tch g w (w.setCell ⟨g, 2, none⟩ (.slice D m k)) := (Tch.refl g w).set 2 _
 have hA := hi.rd.tch ht hi.off
 obtain ⟨⟨r1, ⟨v0, r2⟩, ⟨v1, r3⟩, r4, r5⟩, i2, i3, i4, i5⟩ := hi
 have o0 : ∀ p, p ≠ 2 → (w.setCell ⟨g, 2, none⟩ (.slice D m k)).cell? ⟨g, p, none⟩ = w.cell? ⟨g, p, none⟩ := fun p hp => World.cell?_setCell_other _ _ _ _ (by intro e; simp at e; try omega)
 exact ⟨⟨⟨by simpa using r1, ⟨_, (o0 0 (by omega)).trans r2⟩, ⟨_, (o0 1 (by omega)).trans r3⟩, by simpa using r4, by simpa using r5⟩, (o0 0 (by omega)).trans i2, (o0 1 (by omega)).trans i3, hA, i5⟩,
  World.cell?_setCell_same _ _ _ hv, by simpa using hf, hD.tch ht ho, ho⟩
theorem br_set_zero (g : Nat) (minus : Bool) (A : Option Addr) (n c : Nat) (D : Option Addr) (m k d : Nat) (w : World) (hr : RatRoom w g) (hA : Rd w A n c (lim 0)) (hD : Rd w D m k (lim d)) :
  Calls Tryz.prog 121 #[.pointer (some ⟨g, 0, none⟩), .bool minus, .slice A n c, .slice D m k] w (SPost w g 0 0 A D) := by
 obtain rfl : n = 0 := by have := hA.len; rw [lim_zero] at this; exact this.symm
 have HA := Lib.hid hA
 have HD := Lib.hid hD
 have HR := Lib.hid hr
 have hnil : Rd w none 0 0 (lim 0) := by rw [lim_zero]; exact Rd.nil _
 have hoff : Off none 0 g := fun x hx => by cases hx
 have HN := Lib.hid hnil
 have hfc := hr.c2
 have hff := hr.f2
 obtain ⟨v2, hv2⟩ := hfc
 clear hA hD hr hnil
 go_enter Tryz.func121, Tryz.ntmps121
 go_wp2_with (first
  | (go_at_call 175; (with_reducible refine (bw_trim A 0 c (lim 0) _ HA.out).mono ?_); rintro e w1 ⟨k1, rfl, hR1, rfl⟩; rw [trimZ_lim_lim] at hR1; obtain rfl : k1 = 0 := by have := hR1.len; rw [lim_zero] at this; exact this.symm)
  | (go_at_call 175; (with_reducible refine (bw_trim D m k (lim d) _ HD.out).mono ?_); rintro e w2 ⟨k2, rfl, hR2, rfl⟩)
  | (go_at_call 119; (with_reducible refine (bi_setx g 0 false none 0 0 0 _ HR.out.int HN.out hoff).mono ?_); rintro e w3 ⟨rfl, hI3, xt3, hq3⟩; have hv3 := (hq3.out 2 (by omega) (by omega)).1.trans hv2; have hf3 := (hq3.out 2 (by omega) (by omega)).2.trans hff)
  )
 refine bodyPost_ret (v := .pointer (some ⟨g, 0, none⟩)) ?h rfl ⟨rfl, none, 0, 0, none, 0, 0, ⟨rat_made hI3.out ⟨_, hv3⟩ hf3 (by rw [lim_zero]; exact Rd.nil _) hoff, fun W _ _ _ => ⟨Fr.none W, Fr.none W⟩⟩, xt3.set 2 _⟩
 case h => simp [results, Tryz.results121, go_sem]
theorem br_set_co (g : Nat) (minus : Bool) (A : Option Addr) (n c a : Nat) (ha : a ≠ 0) (D : Option Addr) (m k d : Nat) (hd : d ≠ 0) (hn : n ≤ 400000) (hm : m ≤ 400000) (hg : Nat.gcd a d = 1) (w : World) (hT : Tz w) (hr : RatRoom w g) (hA : Rd w A n c (lim a)) (hD : Rd w D m k (lim d)) (hoA : Off A n g) (hoD : Off D m g) :
  Calls Tryz.prog 121 #[.pointer (some ⟨g, 0, none⟩), .bool minus, .slice A n c, .slice D m k] w (SPost w g (sgn minus a) d A D) := by
 have hn0 : ((n : Int) == 0) = false := by
  rw [beq_eq_false_iff_ne]
  have := hA.len; intro h; exact ha (lim_nil.1 (List.eq_nil_of_length_eq_zero (by omega)))
 have hla := hA.len
 have hld := hD.len
 have HA := Lib.hid hA
 have HD := Lib.hid hD
 have HR := Lib.hid hr
 have HT := Lib.hid hT
 have hgl := hr.int.lt
 have hfc := hr.c2
 have hff := hr.f2
 obtain ⟨v2, hv2⟩ := hfc
 clear hA hD hr hT
 go_enter Tryz.func121, Tryz.ntmps121
 go_wp2_with (first
  | (go_at_call 175; (with_reducible refine (bw_trim A n c (lim a) _ HA.out).mono ?_); rintro e w1 ⟨k1, rfl, hR1, rfl⟩; rw [trimZ_lim_lim] at hR1; obtain rfl : n = k1 := by rw [← hla]; exact hR1.len)
  | (go_at_call 175; (with_reducible refine (bw_trim D m k (lim d) _ HD.out).mono ?_); rintro e w2 ⟨k2, rfl, hR2, rfl⟩; rw [trimZ_lim_lim] at hR2; obtain rfl : m = k2 := by rw [← hld]; exact hR2.len)
  | (go_at_call 176; (with_reducible refine (bw_common A D n c m k a d hn hm _ HT.out HA.out HD.out).mono ?_); rintro e w3 ⟨G, k3, c3, rfl, hG3, xb3⟩)
  )
 have hG3' := Lib.hid (show Rd w3 G k3 c3 (lim 1) by have := hG3.out.1; rwa [hg] at this)
 have hby : ∀ x : Aft w3, Calls Tryz.prog 177 #[.slice A n c, .slice G k3 c3] x.out fun e w'' => e = .returned (.slice A n c) ∧ Ext x.out w'' := fun x => bw_by_one A G n c k3 c3 _ (hG3'.out.ext x.use)
 refine wp_aft_tail 7 (by kernel_rfl) (by kernel_rfl) (by kernel_rfl) (fun hq hqf => ?_)
 simp only [List.take_succ_cons, List.take_zero, List.drop_succ_cons, List.drop_zero]
 repeat (go_big_quiet_step (first
  | (go_at_call 177; exact aft_of (hby _))
  ))
 refine wpQuiet_nil ?_
 rintro _ ⟨nq, rfl⟩
 have xl := ext_lt nq.use
 have xz := ext_size nq.use
 try simp at xz
 have hE4 := Lib.hid (jT xb3 nq.use)
 have hq4 := Lib.hid nq.use
 have hv4 := (Below.cell (p := ⟨g, 2, none⟩) hE4.out hgl).trans hv2
 have hf4 := (Below.frozen (p := ⟨g, 2, none⟩) hE4.out hgl).trans hff
 go_wp2_with (first
  | (go_at_call 119; (with_reducible refine (bi_setx g 0 minus A n c a _ (HR.out.int.ext hE4.out) (HA.out.ext hE4.out) hoA).mono ?_); rintro e w5 ⟨rfl, hI5, xt5, hq5⟩; have hv5 := (hq5.out 2 (by omega) (by omega)).1.trans hv4; have hf5 := (hq5.out 2 (by omega) (by omega)).2.trans hf4; have hD5 := Lib.hid ((HD.out.ext hE4.out).tch xt5 hoD); have hG5 := Lib.hid ((hG3'.out.ext hq4.out).tch xt5 (hG3.out.2.off hgl k3)))
  | (go_at_call 177; (with_reducible refine (bw_by_one D G m k k3 c3 _ hG5.out).mono ?_); rintro e w6 ⟨rfl, xb6⟩; have hgl6 := ext_lt xb6 g hI5.out.room.lt; have hv6 := (Below.cell (p := ⟨g, 2, none⟩) xb6 hI5.out.room.lt).trans hv5; have hf6 := (Below.frozen (p := ⟨g, 2, none⟩) xb6 hI5.out.room.lt).trans hf5)
  )
 refine bodyPost_ret (v := .pointer (some ⟨g, 0, none⟩)) ?h rfl ⟨rfl, A, n, c, D, m, k, ⟨rat_made (hI5.out.ext xb6) ⟨_, hv6⟩ hf6 (hD5.out.ext xb6) hoD, fun W _ h1 h2 => ⟨h1, h2⟩⟩, (((Tch.of hE4.out).trans xt5).trans (Tch.of xb6)).set 2 _⟩
 case h => simp [results, Tryz.results121, go_sem]
theorem br_set_div (g : Nat) (minus : Bool) (A : Option Addr) (n c a : Nat) (ha : a ≠ 0) (D : Option Addr) (m k d : Nat) (hd : d ≠ 0) (hn : n ≤ 400000) (hm : m ≤ 400000) (hg : Nat.gcd a d ≠ 1) (w : World) (hT : Tz w) (hr : RatRoom w g) (hA : Rd w A n c (lim a)) (hD : Rd w D m k (lim d)) (hoA : Off A n g) (hoD : Off D m g) :
  Calls Tryz.prog 121 #[.pointer (some ⟨g, 0, none⟩), .bool minus, .slice A n c, .slice D m k] w (SPost w g (sgn minus (a / Nat.gcd a d : Nat)) (d / Nat.gcd a d) A D) := by
 have hn0 : ((n : Int) == 0) = false := by
  rw [beq_eq_false_iff_ne]
  have := hA.len; intro h; exact ha (lim_nil.1 (List.eq_nil_of_length_eq_zero (by omega)))
 have hla := hA.len
 have hld := hD.len
 have HA := Lib.hid hA
 have HD := Lib.hid hD
 have HR := Lib.hid hr
 have HT := Lib.hid hT
 have hgl := hr.int.lt
 have hfc := hr.c2
 have hff := hr.f2
 obtain ⟨v2, hv2⟩ := hfc
 clear hA hD hr hT
 obtain ⟨gd, hgd⟩ : ∃ gd, gd = Nat.gcd a d := ⟨_, rfl⟩
 rw [← hgd] at hg ⊢
 have hg0 : gd ≠ 0 := by rw [hgd]; intro h; exact ha (Nat.eq_zero_of_gcd_eq_zero_left h)
 have hga : a / gd ≠ 0 := by
  have h1 : gd ≤ a := by rw [hgd]; exact Nat.le_of_dvd (Nat.pos_of_ne_zero ha) (Nat.gcd_dvd_left a d)
  have := Nat.div_pos h1 (Nat.pos_of_ne_zero hg0); omega
 have HGD := Lib.hid hgd
 clear hgd
 go_enter Tryz.func121, Tryz.ntmps121
 go_wp2_with (first
  | (go_at_call 175; (with_reducible refine (bw_trim A n c (lim a) _ HA.out).mono ?_); rintro e w1 ⟨k1, rfl, hR1, rfl⟩; rw [trimZ_lim_lim] at hR1; obtain rfl : n = k1 := by rw [← hla]; exact hR1.len)
  | (go_at_call 175; (with_reducible refine (bw_trim D m k (lim d) _ HD.out).mono ?_); rintro e w2 ⟨k2, rfl, hR2, rfl⟩; rw [trimZ_lim_lim] at hR2; obtain rfl : m = k2 := by rw [← hld]; exact hR2.len)
  | (go_at_call 176; (with_reducible refine (bw_common A D n c m k a d hn hm _ HT.out HA.out HD.out).mono ?_); rintro e w3 ⟨G, k3, c3, rfl, hG3, xb3⟩)
  )
 have hG3' := Lib.hid (show Rd w3 G k3 c3 (lim gd) by have := hG3.out.1; rwa [← HGD.out] at this)
 refine wp_drawn_tail 7 (tab [(6, RWord w3.heap.size (a / gd))]) (by kernel_rfl) (by kernel_rfl) (by kernel_rfl) (tab_stays (by simp [stays_word])) (fun hq hqf => ?_)
 simp only [List.take_succ_cons, List.take_zero, List.drop_succ_cons, List.drop_zero]
 iterate 6
  (refine wpK_det rfl (fun K hK => ?_)
   go_simp
   (refine hK _ ?_; clear hK K))
 refine wpK_rel _ rfl rfl ?_ ?_
 ·rintro _ ⟨nn, rfl⟩ _
  unfold Oper.relAt
  go_simp
  exact rel_by _ A G n c k3 c3 a gd hg hg0 hga hn _ _ (ext_size nn.use) (HA.out.ext (jT xb3 nn.use)) (hG3'.out.ext nn.use)
 rintro v ⟨_, ⟨nn, rfl⟩, hr⟩
 obtain ⟨A9, k9, c9, rfl, -, -⟩ := hr
 clear nn
 refine wpK_nil ?_
 intro nq hGG
 have r9 : RWord w3.heap.size (a / gd) [] (.slice A9 k9 c9) nq.out := by have := hGG.fact 6; simp [Facts.put] at this; exact this
 have hR9 := Lib.hid (rword_at r9)
 have hF9 : Fr w3 A9 := hR9.out.2
 have hgl3 : g < w3.heap.size := ext_lt xb3 g hgl
 have hO9 := hF9.off hgl3 k9
 clear r9 hGG
 have hE4 := Lib.hid (jT xb3 nq.use)
 have hq4 := Lib.hid nq.use
 have hv4 := (Below.cell (p := ⟨g, 2, none⟩) hE4.out hgl).trans hv2
 have hf4 := (Below.frozen (p := ⟨g, 2, none⟩) hE4.out hgl).trans hff
 go_wp2_with (first
  | (go_at_call 119; (with_reducible refine (bi_setx g 0 minus A9 k9 c9 (a / gd) _ (HR.out.int.ext hE4.out) hR9.out.1 hO9).mono ?_); rintro e w5 ⟨rfl, hI5, xt5, hq5⟩; have hv5 := (hq5.out 2 (by omega) (by omega)).1.trans hv4; have hf5 := (hq5.out 2 (by omega) (by omega)).2.trans hf4; have hD5 := Lib.hid ((HD.out.ext hE4.out).tch xt5 hoD); have hG5 := Lib.hid ((hG3'.out.ext hq4.out).tch xt5 (hG3.out.2.off hgl k3)))
  | (go_at_call 177; (with_reducible refine (bw_by_div D G m k k3 c3 d gd hg hg0 hm _ hD5.out hG5.out).mono ?_); rintro e w6 ⟨D6, k6, c6, rfl, hR6, xb6⟩; have hgl6 := ext_lt xb6 g hI5.out.room.lt; have hv6 := (Below.cell (p := ⟨g, 2, none⟩) xb6 hI5.out.room.lt).trans hv5; have hf6 := (Below.frozen (p := ⟨g, 2, none⟩) xb6 hI5.out.room.lt).trans hf5)
  )
 refine bodyPost_ret (v := .pointer (some ⟨g, 0, none⟩)) ?h rfl ⟨rfl, A9, k9, c9, D6, k6, c6, ⟨rat_made (hI5.out.ext xb6) ⟨_, hv6⟩ hf6 hR6.out.1 (hR6.out.2.off hI5.out.room.lt k6), fun W hW _ _ => ⟨Fr.mono hF9 (jT hW xb3), Fr.szmono hR6.out.2 (Nat.le_trans (ext_size (jT hW hE4.out)) xt5.size)⟩⟩, (((Tch.of hE4.out).trans xt5).trans (Tch.of xb6)).set 2 _⟩
 case h => simp [results, Tryz.results121, go_sem]
def lowD (a d : Nat) : Nat := if a = 0 then 0 else d / Nat.gcd a d
theorem br_set (g : Nat) (minus : Bool) (A : Option Addr) (n c a : Nat) (D : Option Addr) (m k d : Nat) (hd : d ≠ 0) (hn : n ≤ 400000) (hm : m ≤ 400000) (w : World) (hT : Tz w) (hr : RatRoom w g) (hA : Rd w A n c (lim a)) (hD : Rd w D m k (lim d)) (hoA : Off A n g) (hoD : Off D m g) :
  Calls Tryz.prog 121 #[.pointer (some ⟨g, 0, none⟩), .bool minus, .slice A n c, .slice D m k] w (SPost w g (sgn minus (a / Nat.gcd a d : Nat)) (lowD a d) A D) := by
 by_cases h0 : a = 0
 ·subst h0
  have e1 : sgn minus (0 / Nat.gcd 0 d : Nat) = 0 := by rw [Nat.zero_div]; cases minus <;> rfl
  rw [e1]
  exact br_set_zero g minus A n c D m k d w hr hA hD
 ·have e2 : lowD a d = d / Nat.gcd a d := if_neg h0
  rw [e2]
  by_cases h1 : Nat.gcd a d = 1
  ·have := br_set_co g minus A n c a h0 D m k d hd hn hm h1 w hT hr hA hD hoA hoD
   rw [h1, Nat.div_one, Nat.div_one]; exact this
  ·exact br_set_div g minus A n c a h0 D m k d hd hn hm h1 w hT hr hA hD hoA hoD
abbrev FPost (w : World) (g : Nat) (z : Int) (d : Nat) : Ending → World → Prop := fun e w' => e = .returned (.pointer (some ⟨g, 0, none⟩)) ∧ ∃ (A' : Option Addr) (n c : Nat) (D' : Option Addr) (m k : Nat),
 Hid (RatIs w' g z A' n c d D' m k ∧ Fr w A' ∧ Fr w D') ∧ Tch g w w'
def qneg (x y : Int) : Bool := decide (x < 0) != decide (y < 0)
theorem br_SetFrac (g bx b2 : Nat) (x y : Int) (hy : y ≠ 0) (A : Option Addr) (n c : Nat) (D : Option Addr) (m k : Nat) (hn : n ≤ 400000) (hm : m ≤ 400000) (w : World) (hT : Tz w) (hr : RatRoom w g) (hx : IntIs w bx 0 x A n c) (hyy : IntIs w b2 0 y D m k) :
  Calls Tryz.prog 59 #[.pointer (some ⟨g, 0, none⟩), .pointer (some ⟨bx, 0, none⟩), .pointer (some ⟨b2, 0, none⟩)] w
   (FPost w g (sgn (qneg x y) (x.natAbs / Nat.gcd x.natAbs y.natAbs : Nat)) (lowD x.natAbs y.natAbs)) := by
 have HX := Lib.hid hx
 have HY := Lib.hid hyy
 have HR := Lib.hid hr
 have HT := Lib.hid hT
 have lx := hx.room.lt
 have x0 := hx.neg
 have x1 := hx.words
 have ly := hyy.room.lt
 have v0 := hyy.neg
 have v1 := hyy.words
 have hgl := hr.int.lt
 simp only [Nat.zero_add] at x1 v1
 clear hx hyy hr hT
 go_enter Tryz.func59, Tryz.ntmps59
 go_wp2
 refine wp_drawn_tail 20 (tab [(14, RWord w.heap.size x.natAbs), (19, RWord w.heap.size y.natAbs)]) (by kernel_rfl) (by kernel_rfl) (by kernel_rfl) (tab_stays (by simp [stays_word])) (fun hq hqf => ?_)
 simp only [List.take_succ_cons, List.take_zero, List.drop_succ_cons, List.drop_zero]
 have y0 := fun nq => (hq nq bx 0 lx).trans x0
 have y1 := fun nq => (hq nq bx 1 lx).trans x1
 have y2 := fun nq => (hq nq b2 0 ly).trans v0
 have y3 := fun nq => (hq nq b2 1 ly).trans v1
 iterate 14
  (refine wpK_det rfl (fun K hK => ?_)
   go_simp
   first
    | (refine hK _ ?_; clear hK K)
    | (apply Exists.intro; refine ⟨fun x => ?_, hK _ ?_⟩; (first | exact y0 x | exact y1 x | exact y2 x | exact y3 x | (simp [y0, y1, y2, y3]; rfl)); clear hK K))
 refine wpK_rel _ rfl rfl ?_ ?_
 ·rintro _ ⟨nn, rfl⟩ _
  unfold Oper.relAt
  go_simp
  exact rel_copied _ _ _ _ _ (by omega) _ _ (ext_size nn.use) (HX.out.rd.ext nn.use)
 rintro v ⟨_, ⟨nn, rfl⟩, hr⟩
 obtain ⟨A9, k9, c9, rfl, -, -⟩ := hr
 clear nn
 iterate 4
  (refine wpK_det rfl (fun K hK => ?_)
   go_simp
   first
    | (refine hK _ ?_; clear hK K)
    | (apply Exists.intro; refine ⟨fun x => ?_, hK _ ?_⟩; (first | exact y0 x | exact y1 x | exact y2 x | exact y3 x | (simp [y0, y1, y2, y3]; rfl)); clear hK K))
 refine wpK_rel _ rfl rfl ?_ ?_
 ·rintro _ ⟨nn, rfl⟩ _
  unfold Oper.relAt
  go_simp
  exact rel_copied _ _ _ _ _ (by omega) _ _ (ext_size nn.use) (HY.out.rd.ext nn.use)
 rintro v ⟨_, ⟨nn, rfl⟩, hr⟩
 obtain ⟨B9, m9, d9, rfl, -, -⟩ := hr
 clear nn
 refine wpK_nil ?_
 intro nq hG
 have r9 : RWord w.heap.size x.natAbs [] (.slice A9 k9 c9) nq.out := by have := hG.fact 14; simp [Facts.put] at this; exact this
 have s9 : RWord w.heap.size y.natAbs [] (.slice B9 m9 d9) nq.out := by have := hG.fact 19; simp [Facts.put] at this; exact this
 have hR9 := Lib.hid (rword_at r9)
 have hS9 := Lib.hid (rword_at s9)
 have hF9 : Fr w A9 := hR9.out.2
 have hF8 : Fr w B9 := hS9.out.2
 have hO9 := hF9.off hgl k9
 have hO8 := hF8.off hgl m9
 have l1 : k9 ≤ 400000 := by rw [← hR9.out.1.len, HX.out.rd.len]; exact hn
 have l2 : m9 ≤ 400000 := by rw [← hS9.out.1.len, HY.out.rd.len]; exact hm
 have hE := Lib.hid nq.use
 have hyn : y.natAbs ≠ 0 := by omega
 clear r9 s9 hG
 go_wp2_with (first
  | (go_at_call 121; (with_reducible refine (br_set g _ A9 k9 c9 x.natAbs B9 m9 d9 y.natAbs hyn l1 l2 _ (HT.out.ext hE.out) (HR.out.ext hE.out) hR9.out.1 hS9.out.1 hO9 hO8).mono ?_); rintro e w3 ⟨rfl, A3, n3, c3, D3, m3, k3, hI3, xt3⟩)
  )
 refine bodyPost_ret (v := .pointer (some ⟨g, 0, none⟩)) ?h rfl ⟨rfl, A3, n3, c3, D3, m3, k3, ⟨hI3.out.1, hI3.out.2 w hE.out hF9 hF8⟩, (Tch.of hE.out).trans xt3⟩
 case h => simp [results, Tryz.results59, go_sem]
end Go.Proofs.YtchbefambnhjjaaGreatDoor
end
section
/- (The document's library.) Fractions of the library's: objects in memory, set. -/

namespace Go.Proofs.YtchbefambnhjjaaGreatDoor.NB
open Go.RowKit
attribute [local go_sem] sz2 sz3 sz4 sz5 sz6 sz7 sz8
set_option maxHeartbeats 4000000
set_option maxRecDepth 100000
attribute [local irreducible] Calls
attribute [local go_sem] Oper.detAt detUpon relUpon
theorem br_below_new (g : Nat) (z : Int) (A : Option Addr) (n c : Nat) (D : Option Addr) (m e : Nat) (w : World) (hx : RatIs w g z A n c 0 D m e) :
  Calls Tryz.prog 136 #[.pointer (some ⟨g, 0, none⟩)] w fun e w' => e = .returned (.slice (some ⟨w.heap.size, 0, none⟩) 1 1) ∧ Hid (Rd w' (some ⟨w.heap.size, 0, none⟩) 1 1 (lim 1)) ∧ Ext w w' := by
 have hm : m = 0 := by have := hx.rd.len; rw [lim_zero] at this; exact this.symm
 subst hm
 have x2 := hx.c2
 clear hx
 go_enter Tryz.func136, Tryz.ntmps136
 go_wp2
 refine bodyPost_ret (v := .slice (some ⟨w.heap.size, 0, none⟩) 1 1) ?h rfl ⟨rfl, one_row w, jA (jR _) _⟩
 case h => simp [results, Tryz.results136, go_sem]
theorem br_below_old (g : Nat) (z : Int) (A : Option Addr) (n c d : Nat) (hd : d ≠ 0) (D : Option Addr) (m e : Nat) (w : World) (hx : RatIs w g z A n c d D m e) :
  Calls Tryz.prog 136 #[.pointer (some ⟨g, 0, none⟩)] w fun e' w' => e' = .returned (.slice D m e) ∧ Ext w w' := by
 have hm : m ≠ 0 := by have := hx.rd.len; intro h; rw [h] at this; exact hd (lim_nil.1 (List.eq_nil_of_length_eq_zero this))
 have hm1 : ((m : Int) == 0) = false := by rw [beq_eq_false_iff_ne]; omega
 have x2 := hx.c2
 clear hx
 go_enter Tryz.func136, Tryz.ntmps136
 go_wp2
 refine bodyPost_ret (v := .slice D m e) ?h rfl ⟨rfl, jR _⟩
 case h => simp [results, Tryz.results136, go_sem]
theorem br_set_zero (g : Nat) (minus : Bool) (A : Option Addr) (n c : Nat) (D : Option Addr) (m k d : Nat) (w : World) (hr : RatRoom w g) (hA : Rd w A n c (lim 0)) (hD : Rd w D m k (lim d)) :
  Calls Tryz.prog 114 #[.pointer (some ⟨g, 0, none⟩), .bool minus, .slice A n c, .slice D m k] w (SPost w g 0 0 A D) := by
 obtain rfl : n = 0 := by have := hA.len; rw [lim_zero] at this; exact this.symm
 have HA := Lib.hid hA
 have HD := Lib.hid hD
 have HR := Lib.hid hr
 have hnil : Rd w none 0 0 (lim 0) := by rw [lim_zero]; exact Rd.nil _
 have hoff : Off none 0 g := fun x hx => by cases hx
 have HN := Lib.hid hnil
 have hfc := hr.c2
 have hff := hr.f2
 obtain ⟨v2, hv2⟩ := hfc
 clear hA hD hr hnil
 go_enter Tryz.func114, Tryz.ntmps114
 go_wp2_with (first
  | (go_at_call 162; (with_reducible refine (bw_trim A 0 c (lim 0) _ HA.out).mono ?_); rintro e w1 ⟨k1, rfl, hR1, rfl⟩; rw [trimZ_lim_lim] at hR1; obtain rfl : k1 = 0 := by have := hR1.len; rw [lim_zero] at this; exact this.symm)
  | (go_at_call 162; (with_reducible refine (bw_trim D m k (lim d) _ HD.out).mono ?_); rintro e w2 ⟨k2, rfl, hR2, rfl⟩)
  | (go_at_call 111; (with_reducible refine (bi_setx g 0 false none 0 0 0 _ HR.out.int HN.out hoff).mono ?_); rintro e w3 ⟨rfl, hI3, xt3, hq3⟩; have hv3 := (hq3.out 2 (by omega) (by omega)).1.trans hv2; have hf3 := (hq3.out 2 (by omega) (by omega)).2.trans hff)
  )
 refine bodyPost_ret (v := .pointer (some ⟨g, 0, none⟩)) ?h rfl ⟨rfl, none, 0, 0, none, 0, 0, ⟨rat_made hI3.out ⟨_, hv3⟩ hf3 (by rw [lim_zero]; exact Rd.nil _) hoff, fun W _ _ _ => ⟨Fr.none W, Fr.none W⟩⟩, xt3.set 2 _⟩
 case h => simp [results, Tryz.results114, go_sem]
theorem br_set_co (g : Nat) (minus : Bool) (A : Option Addr) (n c a : Nat) (ha : a ≠ 0) (D : Option Addr) (m k d : Nat) (hd : d ≠ 0) (hn : n ≤ 400000) (hm : m ≤ 400000) (hg : Nat.gcd a d = 1) (w : World) (hT : Tz w) (hr : RatRoom w g) (hA : Rd w A n c (lim a)) (hD : Rd w D m k (lim d)) (hoA : Off A n g) (hoD : Off D m g) :
  Calls Tryz.prog 114 #[.pointer (some ⟨g, 0, none⟩), .bool minus, .slice A n c, .slice D m k] w (SPost w g (sgn minus a) d A D) := by
 have hn0 : ((n : Int) == 0) = false := by
  rw [beq_eq_false_iff_ne]
  have := hA.len; intro h; exact ha (lim_nil.1 (List.eq_nil_of_length_eq_zero (by omega)))
 have hla := hA.len
 have hld := hD.len
 have HA := Lib.hid hA
 have HD := Lib.hid hD
 have HR := Lib.hid hr
 have HT := Lib.hid hT
 have hgl := hr.int.lt
 have hfc := hr.c2
 have hff := hr.f2
 obtain ⟨v2, hv2⟩ := hfc
 clear hA hD hr hT
 go_enter Tryz.func114, Tryz.ntmps114
 go_wp2_with (first
  | (go_at_call 162; (with_reducible refine (bw_trim A n c (lim a) _ HA.out).mono ?_); rintro e w1 ⟨k1, rfl, hR1, rfl⟩; rw [trimZ_lim_lim] at hR1; obtain rfl : n = k1 := by rw [← hla]; exact hR1.len)
  | (go_at_call 162; (with_reducible refine (bw_trim D m k (lim d) _ HD.out).mono ?_); rintro e w2 ⟨k2, rfl, hR2, rfl⟩; rw [trimZ_lim_lim] at hR2; obtain rfl : m = k2 := by rw [← hld]; exact hR2.len)
  | (go_at_call 144; (with_reducible refine (bw_common A D n c m k a d hn hm _ HT.out HA.out HD.out).mono ?_); rintro e w3 ⟨G, k3, c3, rfl, hG3, xb3⟩)
  )
 have hG3' := Lib.hid (show Rd w3 G k3 c3 (lim 1) by have := hG3.out.1; rwa [hg] at this)
 have hby : ∀ x : Aft w3, Calls Tryz.prog 165 #[.slice A n c, .slice G k3 c3] x.out fun e w'' => e = .returned (.slice A n c) ∧ Ext x.out w'' := fun x => bw_by_one A G n c k3 c3 _ (hG3'.out.ext x.use)
 refine wp_aft_tail 7 (by kernel_rfl) (by kernel_rfl) (by kernel_rfl) (fun hq hqf => ?_)
 simp only [List.take_succ_cons, List.take_zero, List.drop_succ_cons, List.drop_zero]
 repeat (go_big_quiet_step (first
  | (go_at_call 165; exact aft_of (hby _))
  ))
 refine wpQuiet_nil ?_
 rintro _ ⟨nq, rfl⟩
 have xl := ext_lt nq.use
 have xz := ext_size nq.use
 try simp at xz
 have hE4 := Lib.hid (jT xb3 nq.use)
 have hq4 := Lib.hid nq.use
 have hv4 := (Below.cell (p := ⟨g, 2, none⟩) hE4.out hgl).trans hv2
 have hf4 := (Below.frozen (p := ⟨g, 2, none⟩) hE4.out hgl).trans hff
 go_wp2_with (first
  | (go_at_call 111; (with_reducible refine (bi_setx g 0 minus A n c a _ (HR.out.int.ext hE4.out) (HA.out.ext hE4.out) hoA).mono ?_); rintro e w5 ⟨rfl, hI5, xt5, hq5⟩; have hv5 := (hq5.out 2 (by omega) (by omega)).1.trans hv4; have hf5 := (hq5.out 2 (by omega) (by omega)).2.trans hf4; have hD5 := Lib.hid ((HD.out.ext hE4.out).tch xt5 hoD); have hG5 := Lib.hid ((hG3'.out.ext hq4.out).tch xt5 (hG3.out.2.off hgl k3)))
  | (go_at_call 165; (with_reducible refine (bw_by_one D G m k k3 c3 _ hG5.out).mono ?_); rintro e w6 ⟨rfl, xb6⟩; have hgl6 := ext_lt xb6 g hI5.out.room.lt; have hv6 := (Below.cell (p := ⟨g, 2, none⟩) xb6 hI5.out.room.lt).trans hv5; have hf6 := (Below.frozen (p := ⟨g, 2, none⟩) xb6 hI5.out.room.lt).trans hf5)
  )
 refine bodyPost_ret (v := .pointer (some ⟨g, 0, none⟩)) ?h rfl ⟨rfl, A, n, c, D, m, k, ⟨rat_made (hI5.out.ext xb6) ⟨_, hv6⟩ hf6 (hD5.out.ext xb6) hoD, fun W _ h1 h2 => ⟨h1, h2⟩⟩, (((Tch.of hE4.out).trans xt5).trans (Tch.of xb6)).set 2 _⟩
 case h => simp [results, Tryz.results114, go_sem]
theorem br_set_div (g : Nat) (minus : Bool) (A : Option Addr) (n c a : Nat) (ha : a ≠ 0) (D : Option Addr) (m k d : Nat) (hd : d ≠ 0) (hn : n ≤ 400000) (hm : m ≤ 400000) (hg : Nat.gcd a d ≠ 1) (w : World) (hT : Tz w) (hr : RatRoom w g) (hA : Rd w A n c (lim a)) (hD : Rd w D m k (lim d)) (hoA : Off A n g) (hoD : Off D m g) :
  Calls Tryz.prog 114 #[.pointer (some ⟨g, 0, none⟩), .bool minus, .slice A n c, .slice D m k] w (SPost w g (sgn minus (a / Nat.gcd a d : Nat)) (d / Nat.gcd a d) A D) := by
 have hn0 : ((n : Int) == 0) = false := by
  rw [beq_eq_false_iff_ne]
  have := hA.len; intro h; exact ha (lim_nil.1 (List.eq_nil_of_length_eq_zero (by omega)))
 have hla := hA.len
 have hld := hD.len
 have HA := Lib.hid hA
 have HD := Lib.hid hD
 have HR := Lib.hid hr
 have HT := Lib.hid hT
 have hgl := hr.int.lt
 have hfc := hr.c2
 have hff := hr.f2
 obtain ⟨v2, hv2⟩ := hfc
 clear hA hD hr hT
 obtain ⟨gd, hgd⟩ : ∃ gd, gd = Nat.gcd a d := ⟨_, rfl⟩
 rw [← hgd] at hg ⊢
 have hg0 : gd ≠ 0 := by rw [hgd]; intro h; exact ha (Nat.eq_zero_of_gcd_eq_zero_left h)
 have hga : a / gd ≠ 0 := by
  have h1 : gd ≤ a := by rw [hgd]; exact Nat.le_of_dvd (Nat.pos_of_ne_zero ha) (Nat.gcd_dvd_left a d)
  have := Nat.div_pos h1 (Nat.pos_of_ne_zero hg0); omega
 have HGD := Lib.hid hgd
 clear hgd
 go_enter Tryz.func114, Tryz.ntmps114
 go_wp2_with (first
  | (go_at_call 162; (with_reducible refine (bw_trim A n c (lim a) _ HA.out).mono ?_); rintro e w1 ⟨k1, rfl, hR1, rfl⟩; rw [trimZ_lim_lim] at hR1; obtain rfl : n = k1 := by rw [← hla]; exact hR1.len)
  | (go_at_call 162; (with_reducible refine (bw_trim D m k (lim d) _ HD.out).mono ?_); rintro e w2 ⟨k2, rfl, hR2, rfl⟩; rw [trimZ_lim_lim] at hR2; obtain rfl : m = k2 := by rw [← hld]; exact hR2.len)
  | (go_at_call 144; (with_reducible refine (bw_common A D n c m k a d hn hm _ HT.out HA.out HD.out).mono ?_); rintro e w3 ⟨G, k3, c3, rfl, hG3, xb3⟩)
  )
 have hG3' := Lib.hid (show Rd w3 G k3 c3 (lim gd) by have := hG3.out.1; rwa [← HGD.out] at this)
 refine wp_drawn_tail 7 (tab [(6, RWord w3.heap.size (a / gd))]) (by kernel_rfl) (by kernel_rfl) (by kernel_rfl) (tab_stays (by simp [stays_word])) (fun hq hqf => ?_)
 simp only [List.take_succ_cons, List.take_zero, List.drop_succ_cons, List.drop_zero]
 iterate 6
  (refine wpK_det rfl (fun K hK => ?_)
   go_simp
   (refine hK _ ?_; clear hK K))
 refine wpK_rel _ rfl rfl ?_ ?_
 ·rintro _ ⟨nn, rfl⟩ _
  unfold Oper.relAt
  go_simp
  exact rel_by _ A G n c k3 c3 a gd hg hg0 hga hn _ _ (ext_size nn.use) (HA.out.ext (jT xb3 nn.use)) (hG3'.out.ext nn.use)
 rintro v ⟨_, ⟨nn, rfl⟩, hr⟩
 obtain ⟨A9, k9, c9, rfl, -, -⟩ := hr
 clear nn
 refine wpK_nil ?_
 intro nq hGG
 have r9 : RWord w3.heap.size (a / gd) [] (.slice A9 k9 c9) nq.out := by have := hGG.fact 6; simp [Facts.put] at this; exact this
 have hR9 := Lib.hid (rword_at r9)
 have hF9 : Fr w3 A9 := hR9.out.2
 have hgl3 : g < w3.heap.size := ext_lt xb3 g hgl
 have hO9 := hF9.off hgl3 k9
 clear r9 hGG
 have hE4 := Lib.hid (jT xb3 nq.use)
 have hq4 := Lib.hid nq.use
 have hv4 := (Below.cell (p := ⟨g, 2, none⟩) hE4.out hgl).trans hv2
 have hf4 := (Below.frozen (p := ⟨g, 2, none⟩) hE4.out hgl).trans hff
 go_wp2_with (first
  | (go_at_call 111; (with_reducible refine (bi_setx g 0 minus A9 k9 c9 (a / gd) _ (HR.out.int.ext hE4.out) hR9.out.1 hO9).mono ?_); rintro e w5 ⟨rfl, hI5, xt5, hq5⟩; have hv5 := (hq5.out 2 (by omega) (by omega)).1.trans hv4; have hf5 := (hq5.out 2 (by omega) (by omega)).2.trans hf4; have hD5 := Lib.hid ((HD.out.ext hE4.out).tch xt5 hoD); have hG5 := Lib.hid ((hG3'.out.ext hq4.out).tch xt5 (hG3.out.2.off hgl k3)))
  | (go_at_call 165; (with_reducible refine (bw_by_div D G m k k3 c3 d gd hg hg0 hm _ hD5.out hG5.out).mono ?_); rintro e w6 ⟨D6, k6, c6, rfl, hR6, xb6⟩; have hgl6 := ext_lt xb6 g hI5.out.room.lt; have hv6 := (Below.cell (p := ⟨g, 2, none⟩) xb6 hI5.out.room.lt).trans hv5; have hf6 := (Below.frozen (p := ⟨g, 2, none⟩) xb6 hI5.out.room.lt).trans hf5)
  )
 refine bodyPost_ret (v := .pointer (some ⟨g, 0, none⟩)) ?h rfl ⟨rfl, A9, k9, c9, D6, k6, c6, ⟨rat_made (hI5.out.ext xb6) ⟨_, hv6⟩ hf6 hR6.out.1 (hR6.out.2.off hI5.out.room.lt k6), fun W hW _ _ => ⟨Fr.mono hF9 (jT hW xb3), Fr.szmono hR6.out.2 (Nat.le_trans (ext_size (jT hW hE4.out)) xt5.size)⟩⟩, (((Tch.of hE4.out).trans xt5).trans (Tch.of xb6)).set 2 _⟩
 case h => simp [results, Tryz.results114, go_sem]
theorem br_set (g : Nat) (minus : Bool) (A : Option Addr) (n c a : Nat) (D : Option Addr) (m k d : Nat) (hd : d ≠ 0) (hn : n ≤ 400000) (hm : m ≤ 400000) (w : World) (hT : Tz w) (hr : RatRoom w g) (hA : Rd w A n c (lim a)) (hD : Rd w D m k (lim d)) (hoA : Off A n g) (hoD : Off D m g) :
  Calls Tryz.prog 114 #[.pointer (some ⟨g, 0, none⟩), .bool minus, .slice A n c, .slice D m k] w (SPost w g (sgn minus (a / Nat.gcd a d : Nat)) (lowD a d) A D) := by
 by_cases h0 : a = 0
 ·subst h0
  have e1 : sgn minus (0 / Nat.gcd 0 d : Nat) = 0 := by rw [Nat.zero_div]; cases minus <;> rfl
  rw [e1]
  exact br_set_zero g minus A n c D m k d w hr hA hD
 ·have e2 : lowD a d = d / Nat.gcd a d := if_neg h0
  rw [e2]
  by_cases h1 : Nat.gcd a d = 1
  ·have := br_set_co g minus A n c a h0 D m k d hd hn hm h1 w hT hr hA hD hoA hoD
   rw [h1, Nat.div_one, Nat.div_one]; exact this
  ·exact br_set_div g minus A n c a h0 D m k d hd hn hm h1 w hT hr hA hD hoA hoD
theorem br_SetFrac (g bx b2 : Nat) (x y : Int) (hy : y ≠ 0) (A : Option Addr) (n c : Nat) (D : Option Addr) (m k : Nat) (hn : n ≤ 400000) (hm : m ≤ 400000) (w : World) (hT : Tz w) (hr : RatRoom w g) (hx : IntIs w bx 0 x A n c) (hyy : IntIs w b2 0 y D m k) :
  Calls Tryz.prog 53 #[.pointer (some ⟨g, 0, none⟩), .pointer (some ⟨bx, 0, none⟩), .pointer (some ⟨b2, 0, none⟩)] w
   (FPost w g (sgn (qneg x y) (x.natAbs / Nat.gcd x.natAbs y.natAbs : Nat)) (lowD x.natAbs y.natAbs)) := by
 have HX := Lib.hid hx
 have HY := Lib.hid hyy
 have HR := Lib.hid hr
 have HT := Lib.hid hT
 have lx := hx.room.lt
 have x0 := hx.neg
 have x1 := hx.words
 have ly := hyy.room.lt
 have v0 := hyy.neg
 have v1 := hyy.words
 have hgl := hr.int.lt
 simp only [Nat.zero_add] at x1 v1
 clear hx hyy hr hT
 go_enter Tryz.func53, Tryz.ntmps53
 go_wp2
 refine wp_drawn_tail 20 (tab [(14, RWord w.heap.size x.natAbs), (19, RWord w.heap.size y.natAbs)]) (by kernel_rfl) (by kernel_rfl) (by kernel_rfl) (tab_stays (by simp [stays_word])) (fun hq hqf => ?_)
 simp only [List.take_succ_cons, List.take_zero, List.drop_succ_cons, List.drop_zero]
 have y0 := fun nq => (hq nq bx 0 lx).trans x0
 have y1 := fun nq => (hq nq bx 1 lx).trans x1
 have y2 := fun nq => (hq nq b2 0 ly).trans v0
 have y3 := fun nq => (hq nq b2 1 ly).trans v1
 iterate 14
  (refine wpK_det rfl (fun K hK => ?_)
   go_simp
   first
    | (refine hK _ ?_; clear hK K)
    | (apply Exists.intro; refine ⟨fun x => ?_, hK _ ?_⟩; (first | exact y0 x | exact y1 x | exact y2 x | exact y3 x | (simp [y0, y1, y2, y3]; rfl)); clear hK K))
 refine wpK_rel _ rfl rfl ?_ ?_
 ·rintro _ ⟨nn, rfl⟩ _
  unfold Oper.relAt
  go_simp
  exact rel_copied _ _ _ _ _ (by omega) _ _ (ext_size nn.use) (HX.out.rd.ext nn.use)
 rintro v ⟨_, ⟨nn, rfl⟩, hr⟩
 obtain ⟨A9, k9, c9, rfl, -, -⟩ := hr
 clear nn
 iterate 4
  (refine wpK_det rfl (fun K hK => ?_)
   go_simp
   first
    | (refine hK _ ?_; clear hK K)
    | (apply Exists.intro; refine ⟨fun x => ?_, hK _ ?_⟩; (first | exact y0 x | exact y1 x | exact y2 x | exact y3 x | (simp [y0, y1, y2, y3]; rfl)); clear hK K))
 refine wpK_rel _ rfl rfl ?_ ?_
 ·rintro _ ⟨nn, rfl⟩ _
  unfold Oper.relAt
  go_simp
  exact rel_copied _ _ _ _ _ (by omega) _ _ (ext_size nn.use) (HY.out.rd.ext nn.use)
 rintro v ⟨_, ⟨nn, rfl⟩, hr⟩
 obtain ⟨B9, m9, d9, rfl, -, -⟩ := hr
 clear nn
 refine wpK_nil ?_
 intro nq hG
 have r9 : RWord w.heap.size x.natAbs [] (.slice A9 k9 c9) nq.out := by have := hG.fact 14; simp [Facts.put] at this; exact this
 have s9 : RWord w.heap.size y.natAbs [] (.slice B9 m9 d9) nq.out := by have := hG.fact 19; simp [Facts.put] at this; exact this
 have hR9 := Lib.hid (rword_at r9)
 have hS9 := Lib.hid (rword_at s9)
 have hF9 : Fr w A9 := hR9.out.2
 have hF8 : Fr w B9 := hS9.out.2
 have hO9 := hF9.off hgl k9
 have hO8 := hF8.off hgl m9
 have l1 : k9 ≤ 400000 := by rw [← hR9.out.1.len, HX.out.rd.len]; exact hn
 have l2 : m9 ≤ 400000 := by rw [← hS9.out.1.len, HY.out.rd.len]; exact hm
 have hE := Lib.hid nq.use
 have hyn : y.natAbs ≠ 0 := by omega
 clear r9 s9 hG
 go_wp2_with (first
  | (go_at_call 114; (with_reducible refine (br_set g _ A9 k9 c9 x.natAbs B9 m9 d9 y.natAbs hyn l1 l2 _ (HT.out.ext hE.out) (HR.out.ext hE.out) hR9.out.1 hS9.out.1 hO9 hO8).mono ?_); rintro e w3 ⟨rfl, A3, n3, c3, D3, m3, k3, hI3, xt3⟩)
  )
 refine bodyPost_ret (v := .pointer (some ⟨g, 0, none⟩)) ?h rfl ⟨rfl, A3, n3, c3, D3, m3, k3, ⟨hI3.out.1, hI3.out.2 w hE.out hF9 hF8⟩, (Tch.of hE.out).trans xt3⟩
 case h => simp [results, Tryz.results53, go_sem]
end Go.Proofs.YtchbefambnhjjaaGreatDoor.NB
end
section
/- Fractions of the library's: above and below the line; bytes, limbs. -/
namespace Go.Proofs.YtchbefambnhjjaaGreatDoor
open Go.RowKit
attribute [local go_sem] sz2 sz3 sz4 sz5 sz6 sz7 sz8
set_option maxHeartbeats 4000000
set_option maxRecDepth 100000
attribute [local irreducible] Calls
abbrev NPost (w : World) (z : Int) : Ending → World → Prop := fun e w' => ∃ (b : Nat) (B : Option Addr) (k l : Nat), e = .returned (.pointer (some ⟨b, 0, none⟩)) ∧ Hid (IntIs w' b 0 z B k l ∧ Fr w B) ∧ w.heap.size ≤ b ∧ Ext w w'
theorem int_room (w : World) : Room (w.alloc (Obj.cells #[.bool false, .slice none 0 0] 79)) w.heap.size 0 :=
 ⟨by simp, ⟨_, by simp [go_sem]; rfl⟩, ⟨_, by simp [go_sem]; rfl⟩, by simp [go_sem], by simp [go_sem]⟩
theorem br_Num (g : Nat) (z : Int) (A : Option Addr) (n c d : Nat) (D : Option Addr) (m e : Nat) (hn : n ≤ 1000000) (w : World) (hx : RatIs w g z A n c d D m e) :
  Calls Tryz.prog 70 #[.pointer (some ⟨g, 0, none⟩)] w (NPost w z) := by
 have HX := Lib.hid hx
 clear hx
 have hrm := Lib.hid (int_room w)
 go_enter Tryz.func70, Tryz.ntmps70
 go_wp2_with (first
  | (go_at_call 120; (with_reducible refine (bi_Set w.heap.size 0 g 0 A n c z hn _ hrm.out (HX.out.int.ext (jA (jR _) _))).mono ?_); rintro e w3 ⟨rfl, A3, n3, c3, hI3, xt3⟩)
  )
 have hEE := Lib.hid (xt3.ext (jA (jR w) _) (Nat.le_refl _))
 refine bodyPost_ret (v := .pointer (some ⟨w.heap.size, 0, none⟩)) ?h rfl ⟨_, A3, n3, c3, rfl, ⟨hI3.out.1, Fr.mono hI3.out.2 (jA (jR w) _)⟩, Nat.le_refl _, hEE.out⟩
 case h => simp [results, Tryz.results70, go_sem]
theorem br_below (g : Nat) (z : Int) (A : Option Addr) (n c d : Nat) (D : Option Addr) (m e : Nat) (w : World) (hx : RatIs w g z A n c d D m e) :
  Calls Tryz.prog 129 #[.pointer (some ⟨g, 0, none⟩)] w fun e' w' => ∃ (B : Option Addr) (k l : Nat), e' = .returned (.slice B k l) ∧ Hid (Rd w' B k l (lim (denOf d)) ∧ (B = D ∨ Fr w B)) ∧ Ext w w' := by
 by_cases hd : d = 0
 ·subst hd
  refine (br_below_new g z A n c D m e w hx).mono ?_
  rintro e w' ⟨rfl, h1, h2⟩
  exact ⟨_, _, _, rfl, ⟨h1.out, .inr (fun q hq => by cases hq; exact Nat.le_refl _)⟩, h2⟩
 ·refine (br_below_old g z A n c d hd D m e w hx).mono ?_
  rintro e w' ⟨rfl, h1⟩
  exact ⟨_, _, _, rfl, ⟨by unfold denOf; rw [if_neg hd]; exact hx.rd.ext h1, .inl rfl⟩, h1⟩
theorem denOf_len {d m : Nat} (h : (lim d).length = m) : (lim (denOf d)).length ≤ m + 1 := by
 unfold denOf
 split
 ·rw [lim_one (by decide) (by decide)]; simp
 ·omega
theorem br_Denom (g : Nat) (z : Int) (A : Option Addr) (n c d : Nat) (D : Option Addr) (m e : Nat) (hm : m ≤ 900000) (w : World) (hx : RatIs w g z A n c d D m e) :
  Calls Tryz.prog 71 #[.pointer (some ⟨g, 0, none⟩)] w (NPost w (denOf d : Nat)) := by
 have HX := Lib.hid hx
 have hld := denOf_len hx.rd.len
 clear hx
 have hrm := Lib.hid (int_room w)
 have hO : ∀ W' : World, w.heap.size < W'.heap.size → ∀ k, Off (some ⟨W'.heap.size, 0, none⟩) k w.heap.size := fun W' h k x hx _ e => by cases hx; simp at e; omega
 go_enter Tryz.func71, Tryz.ntmps71
 go_wp2_with (first
  | (go_at_call 129; (with_reducible refine (br_below g z A n c d D m e _ (HX.out.ext (jA (jR _) _))).mono ?_); rintro e w3 ⟨B3, k3, l3, rfl, hB3, xb3⟩; have hl3 : w.heap.size < w3.heap.size := ext_lt xb3 _ (by simp); have hk3 : k3 ≤ 1000000 := by (have := hB3.out.1.len; omega))
  | (go_at_call 122; (with_reducible refine (bw_copied B3 k3 l3 _ hk3 _ hB3.out.1).mono ?_); rintro e w4 ⟨rfl, hR4, xb4⟩)
  | (go_at_call 119; (with_reducible refine (bi_set w.heap.size 0 false _ k3 k3 (denOf d) _ ((hrm.out.ext xb3).ext xb4) hR4.out (hO w3 hl3 _)).mono ?_); rintro e w5 ⟨rfl, hI5, xt5⟩)
  )
 have hE4 := jT (jT (jA (jR w) _) xb3) xb4
 have hEE := Lib.hid (xt5.ext hE4 (Nat.le_refl _))
 refine bodyPost_ret (v := .pointer (some ⟨w.heap.size, 0, none⟩)) ?h rfl ⟨_, _, _, _, rfl, ⟨hI5.out, fun q hq => by cases hq; exact Nat.le_of_lt hl3⟩, Nat.le_refl _, hEE.out⟩
 case h => simp [results, Tryz.results71, go_sem]
theorem bi_BitLen (b o : Nat) (z : Int) (A : Option Addr) (n c : Nat) (hn : n ≤ 1000000) (w : World) (hx : IntIs w b o z A n c) :
  Calls Tryz.prog 178 #[.pointer (some ⟨b, o, none⟩)] w fun e w' => e = .returned (.int .i64 (bitsOf z.natAbs : Nat)) ∧ Ext w w' := by
 have HX := Lib.hid hx
 have x1 := hx.words
 clear hx
 go_enter Tryz.func178, Tryz.ntmps178
 go_wp2_with (first
  | (go_at_call 204; (with_reducible refine (bw_bitLen A n c z.natAbs hn _ HX.out.rd).mono ?_); rintro e w2 ⟨rfl, xb2⟩)
  )
 refine bodyPost_ret (v := .int .i64 ↑(bitsOf z.natAbs)) ?h rfl ⟨rfl, xb2⟩
 case h => simp [results, Tryz.results178, go_sem]
theorem ra_long (b o : Nat) (z : Int) (A : Option Addr) (n c : Nat) (hn : n ≤ 1000000) (w : World) (hx : IntIs w b o z A n c) :
  Calls Tryz.prog 123 #[.pointer (some ⟨b, o, none⟩)] w fun e w' => e = .returned (.bool (decide ((524288 : Int) < (bitsOf z.natAbs : Nat)))) ∧ Ext w w' := by
 have HX := Lib.hid hx
 clear hx
 go_enter Tryz.func123, Tryz.ntmps123
 go_wp2_with (first
  | (go_at_call 178; (with_reducible refine (bi_BitLen b o z A n c hn _ HX.out).mono ?_); rintro e w2 ⟨rfl, xb2⟩)
  )
 refine bodyPost_ret (v := .bool (decide ((524288:Int) < ↑(bitsOf z.natAbs)))) ?h rfl ⟨rfl, xb2⟩
 case h => simp [results, Tryz.results123, go_sem]
end Go.Proofs.YtchbefambnhjjaaGreatDoor
end
section
/- (The document's library.) Fractions of the library's: above and below the line; bytes, limbs. -/

namespace Go.Proofs.YtchbefambnhjjaaGreatDoor.NB
open Go.RowKit
attribute [local go_sem] sz2 sz3 sz4 sz5 sz6 sz7 sz8
set_option maxHeartbeats 4000000
set_option maxRecDepth 100000
attribute [local irreducible] Calls
theorem int_room (w : World) : Room (w.alloc (Obj.cells #[.bool false, .slice none 0 0] 67)) w.heap.size 0 :=
 ⟨by simp, ⟨_, by simp [go_sem]; rfl⟩, ⟨_, by simp [go_sem]; rfl⟩, by simp [go_sem], by simp [go_sem]⟩
theorem br_Num (g : Nat) (z : Int) (A : Option Addr) (n c d : Nat) (D : Option Addr) (m e : Nat) (hn : n ≤ 1000000) (w : World) (hx : RatIs w g z A n c d D m e) :
  Calls Tryz.prog 74 #[.pointer (some ⟨g, 0, none⟩)] w (NPost w z) := by
 have HX := Lib.hid hx
 clear hx
 have hrm := Lib.hid (int_room w)
 go_enter Tryz.func74, Tryz.ntmps74
 go_wp2_with (first
  | (go_at_call 135; (with_reducible refine (bi_Set w.heap.size 0 g 0 A n c z hn _ hrm.out (HX.out.int.ext (jA (jR _) _))).mono ?_); rintro e w3 ⟨rfl, A3, n3, c3, hI3, xt3⟩)
  )
 have hEE := Lib.hid (xt3.ext (jA (jR w) _) (Nat.le_refl _))
 refine bodyPost_ret (v := .pointer (some ⟨w.heap.size, 0, none⟩)) ?h rfl ⟨_, A3, n3, c3, rfl, ⟨hI3.out.1, Fr.mono hI3.out.2 (jA (jR w) _)⟩, Nat.le_refl _, hEE.out⟩
 case h => simp [results, Tryz.results74, go_sem]
theorem br_below (g : Nat) (z : Int) (A : Option Addr) (n c d : Nat) (D : Option Addr) (m e : Nat) (w : World) (hx : RatIs w g z A n c d D m e) :
  Calls Tryz.prog 136 #[.pointer (some ⟨g, 0, none⟩)] w fun e' w' => ∃ (B : Option Addr) (k l : Nat), e' = .returned (.slice B k l) ∧ Hid (Rd w' B k l (lim (denOf d)) ∧ (B = D ∨ Fr w B)) ∧ Ext w w' := by
 by_cases hd : d = 0
 ·subst hd
  refine (br_below_new g z A n c D m e w hx).mono ?_
  rintro e w' ⟨rfl, h1, h2⟩
  exact ⟨_, _, _, rfl, ⟨h1.out, .inr (fun q hq => by cases hq; exact Nat.le_refl _)⟩, h2⟩
 ·refine (br_below_old g z A n c d hd D m e w hx).mono ?_
  rintro e w' ⟨rfl, h1⟩
  exact ⟨_, _, _, rfl, ⟨by unfold denOf; rw [if_neg hd]; exact hx.rd.ext h1, .inl rfl⟩, h1⟩
theorem br_Denom (g : Nat) (z : Int) (A : Option Addr) (n c d : Nat) (D : Option Addr) (m e : Nat) (hm : m ≤ 900000) (w : World) (hx : RatIs w g z A n c d D m e) :
  Calls Tryz.prog 75 #[.pointer (some ⟨g, 0, none⟩)] w (NPost w (denOf d : Nat)) := by
 have HX := Lib.hid hx
 have hld := denOf_len hx.rd.len
 clear hx
 have hrm := Lib.hid (int_room w)
 have hO : ∀ W' : World, w.heap.size < W'.heap.size → ∀ k, Off (some ⟨W'.heap.size, 0, none⟩) k w.heap.size := fun W' h k x hx _ e => by cases hx; simp at e; omega
 go_enter Tryz.func75, Tryz.ntmps75
 go_wp2_with (first
  | (go_at_call 136; (with_reducible refine (br_below g z A n c d D m e _ (HX.out.ext (jA (jR _) _))).mono ?_); rintro e w3 ⟨B3, k3, l3, rfl, hB3, xb3⟩; have hl3 : w.heap.size < w3.heap.size := ext_lt xb3 _ (by simp); have hk3 : k3 ≤ 1000000 := by (have := hB3.out.1.len; omega))
  | (go_at_call 115; (with_reducible refine (bw_copied B3 k3 l3 _ hk3 _ hB3.out.1).mono ?_); rintro e w4 ⟨rfl, hR4, xb4⟩)
  | (go_at_call 111; (with_reducible refine (bi_set w.heap.size 0 false _ k3 k3 (denOf d) _ ((hrm.out.ext xb3).ext xb4) hR4.out (hO w3 hl3 _)).mono ?_); rintro e w5 ⟨rfl, hI5, xt5⟩)
  )
 have hE4 := jT (jT (jA (jR w) _) xb3) xb4
 have hEE := Lib.hid (xt5.ext hE4 (Nat.le_refl _))
 refine bodyPost_ret (v := .pointer (some ⟨w.heap.size, 0, none⟩)) ?h rfl ⟨_, _, _, _, rfl, ⟨hI5.out, fun q hq => by cases hq; exact Nat.le_of_lt hl3⟩, Nat.le_refl _, hEE.out⟩
 case h => simp [results, Tryz.results75, go_sem]
theorem bi_BitLen (b o : Nat) (z : Int) (A : Option Addr) (n c : Nat) (hn : n ≤ 1000000) (w : World) (hx : IntIs w b o z A n c) :
  Calls Tryz.prog 164 #[.pointer (some ⟨b, o, none⟩)] w fun e w' => e = .returned (.int .i64 (bitsOf z.natAbs : Nat)) ∧ Ext w w' := by
 have HX := Lib.hid hx
 have x1 := hx.words
 clear hx
 go_enter Tryz.func164, Tryz.ntmps164
 go_wp2_with (first
  | (go_at_call 188; (with_reducible refine (bw_bitLen A n c z.natAbs hn _ HX.out.rd).mono ?_); rintro e w2 ⟨rfl, xb2⟩)
  )
 refine bodyPost_ret (v := .int .i64 ↑(bitsOf z.natAbs)) ?h rfl ⟨rfl, xb2⟩
 case h => simp [results, Tryz.results164, go_sem]
end Go.Proofs.YtchbefambnhjjaaGreatDoor.NB
end
section
/- Whole numbers of the library's: told in bytes and in limbs. -/
namespace Go.Proofs.YtchbefambnhjjaaGreatDoor
open Go.RowKit
attribute [local go_sem] sz2 sz3 sz4 sz5 sz6 sz7 sz8
set_option maxHeartbeats 4000000
set_option maxRecDepth 100000
attribute [local irreducible] Calls
theorem bi_Bytes (b o : Nat) (z : Int) (A : Option Addr) (n c : Nat) (hn : n ≤ 1000000) (w : World) (hx : IntIs w b o z A n c) :
  Calls Tryz.prog 130 #[.pointer (some ⟨b, o, none⟩)] w fun e w' => ∃ g, e = .returned (.slice (some ⟨g, 0, none⟩) ((bitsOf z.natAbs + 7) / 8) ((bitsOf z.natAbs + 7) / 8)) ∧ Hid (ByAt w' g ((bitsOf z.natAbs + 7) / 8) (beB ((bitsOf z.natAbs + 7) / 8) z.natAbs)) ∧ w.heap.size ≤ g ∧ Ext w w' := by
 obtain ⟨a, ha⟩ : ∃ a, a = z.natAbs := ⟨_, rfl⟩
 obtain ⟨tb, htb⟩ : ∃ t, t = bitsOf a := ⟨_, rfl⟩
 obtain ⟨N, hN⟩ : ∃ N, N = (tb + 7) / 8 := ⟨_, rfl⟩
 have HX := Lib.hid hx
 have x1 := hx.words
 have lx := hx.room.lt
 have hbl : ∀ w', Ext w w' → Calls Tryz.prog 178 #[.pointer (some ⟨b, o, none⟩)] w' fun e w'' => e = .returned (.int .i64 (tb : Int)) ∧ Ext w' w'' := fun w' he => by
  have := bi_BitLen b o z A n c hn w' (HX.out.ext he); rwa [← ha, ← htb] at this
 have hR := Lib.hid hx.rd
 have hlen := hx.rd.len
 rw [← ha] at hR hlen ⊢
 have hlb := lim_bytes a
 rw [← htb, ← hN] at hlb
 rw [← htb, ← hN]
 have hNn : (N + 3) / 4 = n := by rw [← hlen]; exact hlb.1
 have hN2 : N ≤ 4 * n := by omega
 have eN : ((tb : Int) + 7) / 8 = (N : Int) := by omega
 have htb2 : tb ≤ 40000000 := by omega
 clear hx ha htb hN hlb hlen
 go_enter Tryz.func130, Tryz.ntmps130
 go_wp2_with (first
  | (go_at_call 178; (with_reducible refine (hbl _ (jR _)).mono ?_); rintro e w0 ⟨rfl, xb0⟩)
  | (at_make; refine make_u8 rfl _ _ rfl _ _ _ _ N rfl rfl eN eN (by omega) ?_; intro w1 hx1 ho1; have hext1 := Lib.hid hx1; clear hx1)
  )
 have hE1 := Lib.hid (jT xb0 hext1.out)
 have hg0 : w.heap.size ≤ w0.heap.size := ext_size xb0
 obtain ⟨g, hgg⟩ : ∃ g, g = w0.heap.size := ⟨_, rfl⟩
 rw [← hgg] at ho1 hg0 ⊢
 clear xb0 hext1 hgg
 go_loopw [13] (fun vi wr => ∃ (i : Nat) (l : List UInt8), i ≤ N ∧ vi = .int .i64 (i : Int) ∧ Hid (l.length = N ∧ ∀ p, p < i → (l.getD p 0).toNat = a / 256 ^ (N - 1 - p) % 256) ∧
   Hid (wr.ownsRow g 5 1 (.slice (some ⟨g, 0, none⟩) N N) N (l.map bV)) ∧ Hid (Ext w wr))
  (fun vi _ => N - (intOf vi).toNat)
 case atStart => exact ⟨0, List.replicate N 0, Nat.zero_le _, rfl, ⟨by simp, fun p h => by omega⟩, ho1.out, hE1.out⟩
 case round =>
  clear ho1 hE1
  obtain ⟨i, l, hi, rfl, hl, hown, hext⟩ := hrel
  by_cases h1 : i < N
  ·obtain ⟨bx, ox, hXe⟩ : ∃ b off, A = some ⟨b, off, none⟩ := by
    rcases hR.out.shape with ⟨_, h, _⟩ | h
    ·omega
    ·exact h
   subst hXe
   obtain ⟨k, hk⟩ : ∃ k, k = N - 1 - i := ⟨_, rfl⟩
   obtain ⟨q, hq⟩ : ∃ q, q = k / 4 := ⟨_, rfl⟩
   obtain ⟨r, hr4⟩ : ∃ r, r = k % 4 := ⟨_, rfl⟩
   obtain ⟨s, hs⟩ : ∃ s, s = 8 * r := ⟨_, rfl⟩
   have hqn : q < n := by omega
   obtain ⟨x, hx, hxb, hcx1⟩ := (hR.out.ext hext.out).get q hqn
   have xw := (Below.cell (p := ⟨b, o + 1, none⟩) hext.out lx).trans x1
   have hgl : g < wr.heap.size := (hown.out.lt _ rfl).2
   obtain ⟨hc1, hf1⟩ := ownb_at hown.out i h1
   have e1 : (N : Int) - 1 - (i : Int) = (k : Int) := by omega
   have e2 : (k : Int) / 4 = (q : Int) := by omega
   have e3 : (k : Int) % 4 = (r : Int) := by omega
   have e4 : 8 * (r : Int) = (s : Int) := by omega
   have hs24 : s ≤ 24 := by omega
   have hxl : x = a / Bs ^ q % Bs := by rw [← limb_at]; exact hx.out.symm
   have hcc : x / 2 ^ s % 256 = a / 256 ^ k % 256 := by
    rw [hxl, hs, byte_of_limb _ _ _ (by omega), show 4 * q + r = k by omega]
   have HCC := Lib.hid hcc
   have HK := Lib.hid hk
   clear hcc hk hq hr4 hs hxl
   go_wp2
   case roundEnd =>
    have v1 : Value.int IntKind.u8 ((x : Int) / 2 ^ s % 256) = bV (UInt8.ofNat (x / 2 ^ s % 256)) := by rw [bV_ofNat]; simp
    rw [v1]
    refine ⟨⟨i + 1, l.set i (UInt8.ofNat (x / 2 ^ s % 256)), by omega, by simp, ⟨by simp [hl.out.1], fun p hp => ?_⟩, ?_, ?_⟩, ?_⟩
    ·rw [getD_set8 (by rw [hl.out.1]; exact h1)]
     by_cases p1 : i = p
     ·subst p1
      rw [if_pos rfl, ofNat_byte, HCC.out, HK.out]
     ·rw [if_neg p1]
      exact hl.out.2 p (by omega)
    ·exact ownb_set hown.out _ _
    ·exact jS hext.out hg0 _
    ·simp [intOf]; omega
  ·obtain rfl : i = N := by omega
   have hby : Hid (ByAt wr g i (beB i a)) := by
    refine ⟨(hown.out.lt _ rfl).2, fun p hp => ?_⟩
    rw [(ownb_at hown.out p hp).1, hl.out.2 p hp, beB_getD hp]
   go_wp2
   refine bodyPost_ret (v := .slice (some ⟨g, 0, none⟩) i i) ?h rfl ⟨g, rfl, hby, hg0, hext.out⟩
   case h => simp [results, Tryz.results130, go_sem]
theorem ra_limbs (b o : Nat) (z : Int) (A : Option Addr) (nw c : Nat) (hnw : nw ≤ 200000) (w : World) (hx : IntIs w b o z A nw c) :
  Calls Tryz.prog 72 #[.pointer (some ⟨b, o, none⟩)] w fun e w' => ∃ (B : Option Addr) (k l : Nat), e = .returned (natV B k l) ∧ Hid (RdO w' B k l (lim z.natAbs) none ∧ Fr w B) ∧ Ext w w' := by
 have HX := Lib.hid hx
 have hby := fun w' (he : Ext w w') => bi_Bytes b o z A nw c (by omega) w' (HX.out.ext he)
 obtain ⟨a, ha⟩ : ∃ a, a = z.natAbs := ⟨_, rfl⟩
 rw [← ha] at hby ⊢
 have hlb := lim_bytes a
 have hlen := hx.rd.len
 rw [← ha] at hlen
 obtain ⟨n, hn'⟩ : ∃ n, n = (bitsOf a + 7) / 8 := ⟨_, rfl⟩
 rw [← hn'] at hby hlb
 obtain ⟨N, hN⟩ : ∃ N, N = (n + 3) / 4 := ⟨_, rfl⟩
 have e0 : ((n : Int) + 3) / 4 = (N : Int) := by omega
 have hNl : N = nw := by omega
 have HN := Lib.hid (show 4 * N ≥ n ∧ 4 * N ≤ n + 3 ∧ N = (lim a).length by omega)
 have hN1 : N ≤ 200000 := by omega
 have hn : n ≤ 1000000 := by omega
 have HA := Lib.hid hlb.2
 clear hx hn' hN hlb hlen ha hNl
 go_enter Tryz.func72, Tryz.ntmps72
 go_wp2_with (first
  | (go_at_call 130; (with_reducible refine (hby _ (jA (jR _) _)).mono ?_); rintro e w0 ⟨g, rfl, hB0, hg0, xb0⟩)
  | (at_make; refine make_u32 rfl _ _ rfl _ _ _ _ N rfl rfl e0 e0 (by omega) ?_; intro w1 hx1 ho1; have hext1 := Lib.hid hx1; clear hx1)
  )
 have hE0 := Lib.hid (jT (jA (jR w) _) xb0)
 have hgl := hB0.out.1
 have hwl : w.heap.size < w0.heap.size := ext_lt xb0 _ (by simp)
 have cb0 : w0.cell? ⟨w.heap.size, 0, none⟩ = some (.slice none 0 0) := (Below.cell (p := ⟨w.heap.size, 0, none⟩) xb0 (by simp)).trans (by simp [go_sem])
 have cf0 : w0.frozen? ⟨w.heap.size, 0, none⟩ = false := (Below.frozen (p := ⟨w.heap.size, 0, none⟩) xb0 (by simp)).trans (by simp [go_sem])
 obtain ⟨G, hGG⟩ : ∃ G, G = w0.heap.size := ⟨_, rfl⟩
 have hG0 : w0.heap.size ≤ G := by omega
 rw [← hGG] at ho1
 simp only [← hGG]
 have hGw : w.heap.size < G := by omega
 clear hGG
 go_loopw [17] (fun vi wr => ∃ (i : Nat) (os : List Nat), i ≤ n ∧ vi = .int .i64 (i : Int) ∧ Hid (os.length = N ∧ Lb os ∧ val os = 256 ^ (n - i) * (a / 256 ^ (n - i))) ∧
   Hid (wr.ownsRow G 54 1 (.slice (some ⟨G, 0, none⟩) N N) N (os.map u32V)) ∧ Hid (Ext w0 wr))
  (fun vi _ => n - (intOf vi).toNat)
 case atStart => exact ⟨0, List.replicate N 0, Nat.zero_le _, rfl, ⟨by simp, lb_replicate _, by rw [val_replicate, Nat.sub_zero, Nat.div_eq_of_lt HA.out, Nat.mul_zero]⟩, ho1.out, hext1.out⟩
 case round =>
  clear ho1 hext1
  obtain ⟨i, os, hi, rfl, hos, hown, hext⟩ := hrel
  by_cases h1 : i < n
  ·obtain ⟨k, hk⟩ : ∃ k, k = n - 1 - i := ⟨_, rfl⟩
   obtain ⟨q, hq⟩ : ∃ q, q = k / 4 := ⟨_, rfl⟩
   obtain ⟨r, hr4⟩ : ∃ r, r = k % 4 := ⟨_, rfl⟩
   obtain ⟨c, hc⟩ : ∃ c, c = a / 256 ^ k % 256 := ⟨_, rfl⟩
   obtain ⟨s, hs⟩ : ∃ s, s = 8 * r := ⟨_, rfl⟩
   have hcell := (hB0.out.ext hext.out).2 i h1
   rw [beB_getD h1, ← hk, ← hc] at hcell
   have hc256 : c < 256 := by rw [hc]; exact Nat.mod_lt _ (by decide)
   obtain ⟨x, hx⟩ : ∃ x, os.getD q 0 = x := ⟨_, rfl⟩
   have hqN : q < N := by have := HN.out; omega
   obtain ⟨hc1, hf1⟩ := own_at hown.out q hqN
   rw [hx] at hc1
   have hob := or_byte (V := a / 256 ^ (k + 1)) hos.out.2.1 (show r < 4 by omega) (by rw [hos.out.1]; exact hqN) (by rw [hos.out.2.2, show n - i = 4 * q + r + 1 by omega, show 4 * q + r + 1 = k + 1 by omega]) hc256 hx
   rw [show 4 * q + r = k by omega, hc, byte_next, ← hc, ← hs] at hob
   have e1 : (n : Int) - 1 - (i : Int) = (k : Int) := by omega
   have e2 : (k : Int) / 4 = (q : Int) := by omega
   have e3 : (k : Int) % 4 = (r : Int) := by omega
   have e4 : 8 * (r : Int) = (s : Int) := by omega
   have hs24 : s ≤ 24 := by omega
   have HOB := Lib.hid hob
   have hgl2 : G < wr.heap.size := (hown.out.lt G rfl).2
   clear hob hk hq hr4 hc hs
   go_wp2
   refine wp_aft_tail 13 (by kernel_rfl) (by kernel_rfl) (by kernel_rfl) (fun hq hqf => ?_)
   simp only [List.take_succ_cons, List.take_zero, List.drop_succ_cons, List.drop_zero]
   repeat (go_big_quiet_step (first | fail
    ))
   refine wpQuiet_nil ?_
   rintro _ ⟨nq, rfl⟩
   have xl := ext_lt nq.use
   have xz := ext_size nq.use
   try simp at xz
   have y1 := (hq nq G q hgl2).trans hc1
   have y2 := (hqf nq G q hgl2).trans hf1
   clear hq hqf
   have hE2 := Lib.hid nq.use
   have hor : Hid (bits BinOp.or IntKind.u32 (x : Int) ((c : Int) * 2 ^ s % 4294967296) = ((x + c * 2 ^ s : Nat) : Int)) := by
    obtain ⟨o1, o2, o3, -, -⟩ := HOB.out
    have e5 : (c : Int) * 2 ^ s % 4294967296 = ((c * 2 ^ s : Nat) : Int) := by
     have : (c : Int) * 2 ^ s = ((c * 2 ^ s : Nat) : Int) := by simp
     rw [this]; omega
    show _ = _
    rw [e5, bits_or32 _ _ (by omega) o1, o2]
   go_wp2
   case roundEnd =>
    refine ⟨⟨i + 1, os.set q (x + c * 2 ^ s), by omega, by simp, ⟨by simp [hos.out.1], HOB.out.2.2.2.2, ?_⟩, ?_, ?_⟩, ?_⟩
    ·rw [HOB.out.2.2.2.1, show n - (i + 1) = k by omega]
    ·show World.ownsRow _ _ _ _ _ _ _
     rw [hor.out]
     exact own_set (own_ext hown.out hE2.out) _ _
    ·exact jS (jT hext.out hE2.out) hG0 _
    ·simp [intOf]; omega
  ·obtain rfl : i = n := by omega
   have hv : os = lim a := by
    refine val_inj _ _ hos.out.2.1 (lb_lim a) ?_ ?_
    ·rw [hos.out.1]; exact HN.out.2.2
    ·rw [val_lim, hos.out.2.2, Nat.sub_self, Nat.pow_zero, Nat.div_one, Nat.one_mul]
   subst hv
   have cb := (Below.cell (p := ⟨w.heap.size, 0, none⟩) hext.out hwl).trans cb0
   have cf := (Below.frozen (p := ⟨w.heap.size, 0, none⟩) hext.out hwl).trans cf0
   have hwr : w.heap.size < wr.heap.size := ext_lt hext.out _ hwl
   have hRd : Hid (RdO wr (some ⟨G, 0, none⟩) N N (lim a) none) := by
    obtain ⟨A', c', he, hR⟩ := Rd.own hown.out (lb_lim a)
    cases he
    exact ⟨hR, own_zero hown.out, (fun _ _ _ h => by cases h), rfl⟩
   go_wp2
   have hE9 := Lib.hid (jT hE0.out hext.out)
   have hcr := World.cell?_setCell_same _ _ (.slice (some ⟨G, 0, none⟩) N N) cb
   refine bodyPost_ret (v := natV (some ⟨G, 0, none⟩) N N) ?h rfl ⟨_, _, _, rfl, ⟨hRd.out.set _ (fun x hx => by cases hx; exact hGw), fun x hx => by cases hx; exact Nat.le_of_lt hGw⟩, jS hE9.out (Nat.le_refl _) _⟩
   case h => simp [results, Tryz.results72, go_sem, hcr, natV]
end Go.Proofs.YtchbefambnhjjaaGreatDoor
end
section
/- Fractions of the library's: the sign; told. -/
namespace Go.Proofs.YtchbefambnhjjaaGreatDoor
open Go.RowKit
attribute [local go_sem] sz2 sz3 sz4 sz5 sz6 sz7 sz8
set_option maxHeartbeats 4000000
set_option maxRecDepth 100000
attribute [local irreducible] Calls
theorem int_nil {w : World} {b o : Nat} {z : Int} {A : Option Addr} {n c : Nat} (h : IntIs w b o z A n c) : n = 0 ↔ z = 0 := by
 rw [← h.rd.len]
 constructor
 ·intro e; have := lim_nil.1 (List.eq_nil_of_length_eq_zero e); omega
 ·intro e; subst e; simp [lim_zero]
theorem bi_Sign (b o : Nat) (z : Int) (A : Option Addr) (n c : Nat) (w : World) (hx : IntIs w b o z A n c) :
  Calls Tryz.prog 58 #[.pointer (some ⟨b, o, none⟩)] w fun e w' => e = .returned (.int .i64 z.sign) ∧ Ext w w' := by
 have x0 := hx.neg
 have x1 := hx.words
 have hn := int_nil hx
 clear hx
 by_cases hz : z = 0
 ·obtain rfl : n = 0 := hn.2 hz
  subst hz
  clear hn
  go_enter Tryz.func58, Tryz.ntmps58
  go_wp2
  refine bodyPost_ret (v := .int .i64 0) ?h rfl ⟨rfl, jR _⟩
  case h => simp [results, Tryz.results58, go_sem]
 ·have h1 : ((n : Int) == 0) = false := by rw [beq_eq_false_iff_ne]; omega
  clear hn
  by_cases hs : z < 0
  ·have e1 : decide (z < 0) = true := decide_eq_true hs
   rw [e1] at x0
   have e2 : z.sign = -1 := Int.sign_eq_neg_one_of_neg hs
   clear hs e1 hz
   go_enter Tryz.func58, Tryz.ntmps58
   go_wp2
   refine bodyPost_ret (v := .int .i64 (-1)) ?h rfl ⟨by rw [e2], jR _⟩
   case h => simp [results, Tryz.results58, go_sem]
  ·have e1 : decide (z < 0) = false := decide_eq_false hs
   rw [e1] at x0
   have e2 : z.sign = 1 := Int.sign_eq_one_of_pos (by omega)
   clear hs e1 hz
   go_enter Tryz.func58, Tryz.ntmps58
   go_wp2
   refine bodyPost_ret (v := .int .i64 1) ?h rfl ⟨by rw [e2], jR _⟩
   case h => simp [results, Tryz.results58, go_sem]
theorem br_Sign (g : Nat) (z : Int) (A : Option Addr) (n c : Nat) (w : World) (hx : IntIs w g 0 z A n c) :
  Calls Tryz.prog 101 #[.pointer (some ⟨g, 0, none⟩)] w fun e w' => e = .returned (.int .i64 z.sign) ∧ Ext w w' := by
 have HX := Lib.hid hx
 clear hx
 go_enter Tryz.func101, Tryz.ntmps101
 go_wp2_with (first
  | (go_at_call 58; (with_reducible refine (bi_Sign g 0 z A n c _ HX.out).mono ?_); rintro e w2 ⟨rfl, xb2⟩)
  )
 refine bodyPost_ret (v := .int .i64 z.sign) ?h rfl ⟨rfl, xb2⟩
 case h => simp [results, Tryz.results101, go_sem]
theorem bits_len (a : Nat) : 524288 < bitsOf a ↔ 16384 < (lim a).length := by
 by_cases h : a = 0
 ·subst h; simp [bitsOf, lim_zero]
 ·obtain ⟨h0, h1, h2⟩ := bitsOf_spec h
  obtain ⟨h3, h4⟩ := lim_len h
  have h5 := lim_lt a
  have e1 : ∀ k, Bs ^ k = 2 ^ (32 * k) := fun k => by rw [Nat.pow_mul]
  rw [e1] at h3 h5
  have h6 : 32 * ((lim a).length - 1) < bitsOf a := (Nat.pow_lt_pow_iff_right (a := 2) (by decide)).1 (Nat.lt_of_le_of_lt h3 h2)
  have h7 : bitsOf a - 1 < 32 * (lim a).length := (Nat.pow_lt_pow_iff_right (a := 2) (by decide)).1 (Nat.lt_of_le_of_lt h1 h5)
  omega
abbrev ratV (neg : Bool) (A : Option Addr) (n c : Nat) (D : Option Addr) (m k : Nat) : Value := .agg #[.bool neg, .slice A n c, .slice D m k]
theorem res3 (w wx : World) (t : TypeId) (he : Ext (w.alloc (Obj.cells #[.bool false, .slice none 0 0, .slice none 0 0] t)) wx) :
  wx.cell? ⟨w.heap.size, 0, none⟩ = some (.bool false) ∧ wx.cell? ⟨w.heap.size, 1, none⟩ = some (.slice none 0 0) ∧ wx.cell? ⟨w.heap.size, 2, none⟩ = some (.slice none 0 0) ∧
  wx.frozen? ⟨w.heap.size, 0, none⟩ = false ∧ wx.frozen? ⟨w.heap.size, 1, none⟩ = false ∧ wx.frozen? ⟨w.heap.size, 2, none⟩ = false ∧ w.heap.size < wx.heap.size := by
 have hl : w.heap.size < (w.alloc (Obj.cells #[.bool false, .slice none 0 0, .slice none 0 0] t)).heap.size := by simp
 exact ⟨(Below.cell (p := ⟨w.heap.size, 0, none⟩) he hl).trans (by simp [go_sem]), (Below.cell (p := ⟨w.heap.size, 1, none⟩) he hl).trans (by simp [go_sem]), (Below.cell (p := ⟨w.heap.size, 2, none⟩) he hl).trans (by simp [go_sem]),
  (Below.frozen (p := ⟨w.heap.size, 0, none⟩) he hl).trans (by simp [go_sem]), (Below.frozen (p := ⟨w.heap.size, 1, none⟩) he hl).trans (by simp [go_sem]), (Below.frozen (p := ⟨w.heap.size, 2, none⟩) he hl).trans (by simp [go_sem]), ext_lt he _ hl⟩
theorem set3 {W : World} {b : Nat} {x0 x1 x2 : Value} (r0 : W.cell? ⟨b, 0, none⟩ = some x0) (r1 : W.cell? ⟨b, 1, none⟩ = some x1) (r2 : W.cell? ⟨b, 2, none⟩ = some x2) (v0 v1 v2 : Value) :
  (((W.setCell ⟨b, 0, none⟩ v0).setCell ⟨b, 1, none⟩ v1).setCell ⟨b, 2, none⟩ v2).cell? ⟨b, 0, none⟩ = some v0 ∧ (((W.setCell ⟨b, 0, none⟩ v0).setCell ⟨b, 1, none⟩ v1).setCell ⟨b, 2, none⟩ v2).cell? ⟨b, 1, none⟩ = some v1 ∧
  (((W.setCell ⟨b, 0, none⟩ v0).setCell ⟨b, 1, none⟩ v1).setCell ⟨b, 2, none⟩ v2).cell? ⟨b, 2, none⟩ = some v2 := by
 refine ⟨?_, ?_, ?_⟩
 ·rw [World.cell?_setCell_other _ _ _ _ (by intro e; simp at e), World.cell?_setCell_other _ _ _ _ (by intro e; simp at e)]; exact World.cell?_setCell_same _ _ _ r0
 ·rw [World.cell?_setCell_other _ _ _ _ (by intro e; simp at e)]
  refine World.cell?_setCell_same _ _ _ (u := x1) ?_
  rw [World.cell?_setCell_other _ _ _ _ (by intro e; simp at e)]; exact r1
 ·refine World.cell?_setCell_same _ _ _ (u := x2) ?_
  rw [World.cell?_setCell_other _ _ _ _ (by intro e; simp at e), World.cell?_setCell_other _ _ _ _ (by intro e; simp at e)]; exact r2
theorem ext_set3 {w W : World} (h : Ext w W) {b : Nat} (hb : w.heap.size ≤ b) (v0 v1 v2 : Value) : Ext w (((W.setCell ⟨b, 0, none⟩ v0).setCell ⟨b, 1, none⟩ v1).setCell ⟨b, 2, none⟩ v2) :=
 jS (jS (jS h hb _) hb _) hb _
theorem Rd.set3 {w : World} {A : Option Addr} {n c : Nat} {xs : List Nat} (h : Rd w A n c xs) {b : Nat} (hne : ∀ a, A = some a → b < a.block) (v0 v1 v2 : Value) : Rd (((w.setCell ⟨b, 0, none⟩ v0).setCell ⟨b, 1, none⟩ v1).setCell ⟨b, 2, none⟩ v2) A n c xs :=
 ((h.set v0 hne).set v1 hne).set v2 hne
abbrev TPost (w : World) (z : Int) (d : Nat) : Ending → World → Prop := fun e w' => ∃ (A : Option Addr) (n c : Nat) (D : Option Addr) (m k : Nat), e = .returned (.tuple #[ratV (decide (z < 0)) A n c D m k, .int .i64 0]) ∧
 Hid (RdO w' A n c (lim z.natAbs) none ∧ Fr w A ∧ RdO w' D m k (lim d) A ∧ Fr w D) ∧ Ext w w'
theorem ra_told_ok (g : Nat) (z : Int) (A : Option Addr) (n c d : Nat) (D : Option Addr) (m e : Nat) (hn : n ≤ 16384) (hm : m ≤ 100000) (hl : (lim (denOf d)).length ≤ 16384) (w : World) (hx : RatIs w g z A n c d D m e) :
  Calls Tryz.prog 60 #[.pointer (some ⟨g, 0, none⟩)] w (TPost w z (denOf d)) := by
 have HX := Lib.hid hx
 have hbl : decide ((524288 : Int) < (bitsOf z.natAbs : Nat)) = false := decide_eq_false (by have := (bits_len z.natAbs).1; rw [hx.int.rd.len] at this; omega)
 have HBL := Lib.hid hbl
 have hbd : decide ((524288 : Int) < (bitsOf (denOf d) : Nat)) = false := decide_eq_false (by have := (bits_len (denOf d)).1; omega)
 have HBD := Lib.hid hbd
 have hxl := hx.int.rd.len
 have hsg : decide (z.sign < 0) = decide (z < 0) := by rw [decide_eq_decide]; exact Int.sign_neg_iff
 have HSG := Lib.hid hsg
 clear hx hbl hbd hsg
 go_enter Tryz.func60, Tryz.ntmps60
 go_wp2_with (first
  | (go_at_call 70; (with_reducible refine (br_Num g z A n c d D m e (by omega) _ (HX.out.ext (jA (jR _) _))).mono ?_); rintro e w1 ⟨b1, B1, k1, l1, rfl, hI1, hb1, xb1⟩; have hk1 : k1 ≤ 1000000 := by (have := hI1.out.1.rd.len; omega))
  | (go_at_call 123; (with_reducible refine (ra_long b1 0 z B1 k1 l1 hk1 _ hI1.out.1).mono ?_); rintro e w2 ⟨rfl, xb2⟩; rw [HBL.out])
  | (go_at_call 71; (with_reducible refine (br_Denom g z A n c d D m e (by omega) _ (HX.out.ext (jT (jA (jR _) _) (jT xb1 xb2)))).mono ?_); rintro e w3 ⟨b3, B3, k3, l3, rfl, hI3, hb3, xb3⟩; have hk3 : k3 ≤ 1000000 := by (have := hI3.out.1.rd.len; simp at this; omega))
  | (go_at_call 123; (with_reducible refine (ra_long b3 0 (denOf d : Nat) B3 k3 l3 hk3 _ hI3.out.1).mono ?_); rintro e w4 ⟨rfl, xb4⟩; rw [Int.natAbs_natCast, HBD.out]; have hE4 := Lib.hid (jT (jA (jR w) (Obj.cells #[.bool false, .slice none 0 0, .slice none 0 0] 32)) (jT (jT xb1 xb2) (jT xb3 xb4))); have hF4 := Lib.hid (jT (jT xb1 xb2) (jT xb3 xb4)))
  | (go_at_call 101; (with_reducible refine (br_Sign g z A n c _ (HX.out.ext hE4.out).int).mono ?_); rintro e w5 ⟨rfl, xb5⟩)
  | (go_at_call 70; (with_reducible refine (br_Num g z A n c d D m e (by omega) _ (HX.out.ext (jT hE4.out xb5))).mono ?_); rintro e w6 ⟨b6, B6, k6, l6, rfl, hI6, hb6, xb6⟩; have hk6 : k6 ≤ 200000 := by (have := hI6.out.1.rd.len; omega))
  | (go_at_call 72; (with_reducible refine (ra_limbs b6 0 z B6 k6 l6 hk6 _ hI6.out.1).mono ?_); rintro e w7 ⟨A7, k7, c7, rfl, hR7, xb7⟩)
  | (go_at_call 71; (with_reducible refine (br_Denom g z A n c d D m e (by omega) _ (HX.out.ext (jT hE4.out (jT xb5 (jT xb6 xb7))))).mono ?_); rintro e w8 ⟨b8, B8, k8, l8, rfl, hI8, hb8, xb8⟩; have hk8 : k8 ≤ 200000 := by (have := hI8.out.1.rd.len; simp at this; omega))
  | (go_at_call 72; (with_reducible refine (ra_limbs b8 0 (denOf d : Nat) B8 k8 l8 hk8 _ hI8.out.1).mono ?_); rintro e w9 ⟨A9, k9, c9, rfl, hR9, xb9⟩; obtain ⟨r0, r1, r2, f0, f1, f2, rl⟩ := res3 w w9 _ (jT hF4.out (jT xb5 (jT xb6 (jT xb7 (jT xb8 xb9))))))
  )
 have hA7 : RdO w9 A7 k7 c7 (lim z.natAbs) none := hR7.out.1.ext (jT xb8 xb9)
 have hA9 : RdO w9 A9 k9 c9 (lim (denOf d)) A7 := by
  have := hR9.out.1
  rw [Int.natAbs_natCast] at this
  refine this.weak fun a z ha hz => ?_
  have h1 := hR9.out.2 a ha
  have h2 := own_lt hR7.out.1.own hz
  have h3 := ext_size xb8
  omega
 have hs4 : w.heap.size + 1 ≤ w4.heap.size := by have := ext_size hF4.out; simpa using this
 have hF7 : Fr w4 A7 := hR7.out.2.mono (jT xb5 xb6)
 have hF9 : Fr w4 A9 := hR9.out.2.mono (jT (jT xb5 xb6) (jT xb7 xb8))
 have n7 : ∀ a, A7 = some a → w.heap.size < a.block := fun a ha => by have := hF7 a ha; omega
 have n9 : ∀ a, A9 = some a → w.heap.size < a.block := fun a ha => by have := hF9 a ha; omega
 have hE := Lib.hid (jT hE4.out (jT xb5 (jT xb6 (jT xb7 (jT xb8 xb9)))))
 obtain ⟨q0, q1, q2⟩ := set3 r0 r1 r2 (.bool (decide (z < 0))) (.slice A7 k7 c7) (.slice A9 k9 c9)
 refine bodyPost_ret (v := .tuple #[ratV (decide (z < 0)) A7 k7 c7 A9 k9 c9, .int .i64 0]) ?h rfl ⟨A7, k7, c7, A9, k9, c9, rfl, ⟨hA7.set3 n7 _ _ _, fun a ha => Nat.le_of_lt (n7 a ha), hA9.set3 n9 _ _ _, fun a ha => Nat.le_of_lt (n9 a ha)⟩, ext_set3 hE.out (Nat.le_refl _) _ _ _⟩
 case h => simp [results, Tryz.results60, go_sem, q0, q1, q2, natV]
end Go.Proofs.YtchbefambnhjjaaGreatDoor
end
section
/- (The document's library.) Fractions of the library's: the sign; told. -/

namespace Go.Proofs.YtchbefambnhjjaaGreatDoor.NB
open Go.RowKit
attribute [local go_sem] sz2 sz3 sz4 sz5 sz6 sz7 sz8
set_option maxHeartbeats 4000000
set_option maxRecDepth 100000
attribute [local irreducible] Calls
theorem bi_Sign (b o : Nat) (z : Int) (A : Option Addr) (n c : Nat) (w : World) (hx : IntIs w b o z A n c) :
  Calls Tryz.prog 51 #[.pointer (some ⟨b, o, none⟩)] w fun e w' => e = .returned (.int .i64 z.sign) ∧ Ext w w' := by
 have x0 := hx.neg
 have x1 := hx.words
 have hn := int_nil hx
 clear hx
 by_cases hz : z = 0
 ·obtain rfl : n = 0 := hn.2 hz
  subst hz
  clear hn
  go_enter Tryz.func51, Tryz.ntmps51
  go_wp2
  refine bodyPost_ret (v := .int .i64 0) ?h rfl ⟨rfl, jR _⟩
  case h => simp [results, Tryz.results51, go_sem]
 ·have h1 : ((n : Int) == 0) = false := by rw [beq_eq_false_iff_ne]; omega
  clear hn
  by_cases hs : z < 0
  ·have e1 : decide (z < 0) = true := decide_eq_true hs
   rw [e1] at x0
   have e2 : z.sign = -1 := Int.sign_eq_neg_one_of_neg hs
   clear hs e1 hz
   go_enter Tryz.func51, Tryz.ntmps51
   go_wp2
   refine bodyPost_ret (v := .int .i64 (-1)) ?h rfl ⟨by rw [e2], jR _⟩
   case h => simp [results, Tryz.results51, go_sem]
  ·have e1 : decide (z < 0) = false := decide_eq_false hs
   rw [e1] at x0
   have e2 : z.sign = 1 := Int.sign_eq_one_of_pos (by omega)
   clear hs e1 hz
   go_enter Tryz.func51, Tryz.ntmps51
   go_wp2
   refine bodyPost_ret (v := .int .i64 1) ?h rfl ⟨by rw [e2], jR _⟩
   case h => simp [results, Tryz.results51, go_sem]
theorem br_Sign (g : Nat) (z : Int) (A : Option Addr) (n c : Nat) (w : World) (hx : IntIs w g 0 z A n c) :
  Calls Tryz.prog 99 #[.pointer (some ⟨g, 0, none⟩)] w fun e w' => e = .returned (.int .i64 z.sign) ∧ Ext w w' := by
 have HX := Lib.hid hx
 clear hx
 go_enter Tryz.func99, Tryz.ntmps99
 go_wp2_with (first
  | (go_at_call 51; (with_reducible refine (bi_Sign g 0 z A n c _ HX.out).mono ?_); rintro e w2 ⟨rfl, xb2⟩)
  )
 refine bodyPost_ret (v := .int .i64 z.sign) ?h rfl ⟨rfl, xb2⟩
 case h => simp [results, Tryz.results99, go_sem]
end Go.Proofs.YtchbefambnhjjaaGreatDoor.NB
end
section
/- The program's fractions: made. -/
namespace Go.Proofs.YtchbefambnhjjaaGreatDoor
open Go.RowKit
attribute [local go_sem] sz2 sz3 sz4 sz5 sz6 sz7 sz8
set_option maxHeartbeats 4000000
set_option maxRecDepth 100000
attribute [local irreducible] Calls
abbrev mkW (w : World) (A : Option Addr) (n c : Nat) (D : Option Addr) (m k : Nat) : World :=
 (((w.alloc (Obj.cells #[.slice A n c] 30)).alloc (Obj.cells #[.slice D m k] 30)).alloc (Obj.cells #[.bool false, .slice none 0 0, .slice none 0 0] 32)).alloc (Obj.cells #[.slice A n c, .slice D m k] 30)
theorem mkW_facts (w : World) (A : Option Addr) (n c : Nat) (D : Option Addr) (m k : Nat) (wr : World) (he : Ext (mkW w A n c D m k) wr) :
  (wr.cell? ⟨w.heap.size, 0, none⟩ = some (.slice A n c) ∧ wr.cell? ⟨w.heap.size + 1, 0, none⟩ = some (.slice D m k) ∧ wr.cell? ⟨w.heap.size + 3, 0, none⟩ = some (.slice A n c) ∧ wr.cell? ⟨w.heap.size + 3, 1, none⟩ = some (.slice D m k)) ∧
  (wr.cell? ⟨w.heap.size + 2, 0, none⟩ = some (.bool false) ∧ wr.cell? ⟨w.heap.size + 2, 1, none⟩ = some (.slice none 0 0) ∧ wr.cell? ⟨w.heap.size + 2, 2, none⟩ = some (.slice none 0 0)) ∧
  (wr.frozen? ⟨w.heap.size + 2, 0, none⟩ = false ∧ wr.frozen? ⟨w.heap.size + 2, 1, none⟩ = false ∧ wr.frozen? ⟨w.heap.size + 2, 2, none⟩ = false) ∧ w.heap.size + 4 ≤ wr.heap.size := by
 have hs : (mkW w A n c D m k).heap.size = w.heap.size + 4 := by simp [mkW]
 have hz := ext_size he
 rw [hs] at hz
 have f : ∀ b o, b < w.heap.size + 4 → wr.cell? ⟨b, o, none⟩ = (mkW w A n c D m k).cell? ⟨b, o, none⟩ := fun b o hb => Below.cell (p := ⟨b, o, none⟩) he (by rw [hs]; exact hb)
 have fz : ∀ b o, b < w.heap.size + 4 → wr.frozen? ⟨b, o, none⟩ = (mkW w A n c D m k).frozen? ⟨b, o, none⟩ := fun b o hb => Below.frozen (p := ⟨b, o, none⟩) he (by rw [hs]; exact hb)
 refine ⟨⟨?_, ?_, ?_, ?_⟩, ⟨?_, ?_, ?_⟩, ⟨?_, ?_, ?_⟩, hz⟩
 all_goals first | (rw [f _ _ (by omega)]; simp [mkW, go_sem]) | (rw [fz _ _ (by omega)]; simp [mkW, go_sem])
theorem ext_mkW (w : World) (A : Option Addr) (n c : Nat) (D : Option Addr) (m k : Nat) : Ext w (mkW w A n c D m k) := jA (jA (jA (jA (jR w) _) _) _) _
theorem br_SetFrac' (g bx b2 : Nat) (s : Bool) (a d : Nat) (hd : d ≠ 0) (A : Option Addr) (n c : Nat) (D : Option Addr) (m k : Nat) (hn : n ≤ 400000) (hm : m ≤ 400000) (w : World) (hT : Tz w) (hr : RatRoom w g) (hx : IntIs w bx 0 (sgn s a) A n c) (hyy : IntIs w b2 0 (d : Int) D m k) :
  Calls Tryz.prog 59 #[.pointer (some ⟨g, 0, none⟩), .pointer (some ⟨bx, 0, none⟩), .pointer (some ⟨b2, 0, none⟩)] w (FPost w g (sgn s (a / Nat.gcd a d : Nat)) (lowD a d)) := by
 have h := br_SetFrac g bx b2 (sgn s a) d (by omega) A n c D m k hn hm w hT hr hx hyy
 rw [sgn_abs, Int.natAbs_natCast] at h
 have e : sgn (qneg (sgn s a) d) (a / Nat.gcd a d : Nat) = sgn s (a / Nat.gcd a d : Nat) := by
  have h1 : qneg (sgn s a) d = (s && decide (0 < a)) := by
   unfold qneg
   rw [sgn_lt, decide_eq_false (show ¬ (d : Int) < 0 by omega)]
   cases (s && decide (0 < a)) <;> rfl
  rw [h1]
  by_cases h0 : a = 0
  ·subst h0; rw [Nat.zero_div]; cases s <;> rfl
  ·have : decide (0 < a) = true := decide_eq_true (by omega)
   rw [this, Bool.and_true]
 rw [e] at h
 exact h
theorem rat_room (w : World) : RatRoom (w.alloc (Obj.cells #[.bool false, .slice none 0 0, .slice none 0 0] 81)) w.heap.size :=
 ⟨⟨by simp, ⟨_, by simp [go_sem]; rfl⟩, ⟨_, by simp [go_sem]; rfl⟩, by simp [go_sem], by simp [go_sem]⟩, ⟨_, by simp [go_sem]; rfl⟩, by simp [go_sem]⟩
theorem lowD_len {a d : Nat} (hd : d ≠ 0) : (lim (denOf (lowD a d))).length ≤ (lim d).length ∧ (lim (lowD a d)).length ≤ (lim d).length ∧ (lim (a / Nat.gcd a d)).length ≤ (lim a).length := by
 have h1 : lowD a d ≤ d := by
  unfold lowD; split
  ·omega
  ·exact Nat.div_le_self _ _
 have h2 : denOf (lowD a d) ≤ d := by
  unfold denOf; split <;> omega
 exact ⟨lim_mono h2, lim_mono h1, lim_mono (Nat.div_le_self _ _)⟩
theorem IntIs.lenNat {w : World} {b o a : Nat} {B : Option Addr} {k l : Nat} (h : IntIs w b o ((a : Nat) : Int) B k l) : (lim a).length = k := by have := h.rd.len; rwa [Int.natAbs_natCast] at this
theorem IntIs.lenSgn {w : World} {b o a : Nat} {s : Bool} {B : Option Addr} {k l : Nat} (h : IntIs w b o (sgn s a) B k l) : (lim a).length = k := by have := h.rd.len; rwa [sgn_abs] at this
theorem ra_make (neg : Bool) (A : Option Addr) (n c a : Nat) (D : Option Addr) (m k d : Nat) (hd : d ≠ 0) (hn : n ≤ 16384) (hm : m ≤ 16384) (w : World) (hT : Tz w) (hA : Rd w A n c (lim a)) (hD : Rd w D m k (lim d)) :
  Calls Tryz.prog 31 #[.bool neg, natV A n c, natV D m k] w (TPost w (sgn neg (a / Nat.gcd a d : Nat)) (denOf (lowD a d))) := by
 have HA := Lib.hid hA
 have HD := Lib.hid hD
 have HT := Lib.hid hT
 have hm0 : ((m : Int) == 0) = false := by
  rw [beq_eq_false_iff_ne]
  have := hD.len; intro h; exact hd (lim_nil.1 (List.eq_nil_of_length_eq_zero (by omega)))
 have hla := hA.len
 have hld := hD.len
 have chA : ∀ w', Ext w w' → Calls Tryz.prog 86 #[natV A n c] w' fun e w'' => e = .returned (.int .i64 0) ∧ Ext w' w'' := fun w' he => by
  have := ncheck_any A n c (lim a) w' (HA.out.ext he); rwa [chk_lim (by omega)] at this
 have chD : ∀ w', Ext w w' → Calls Tryz.prog 86 #[natV D m k] w' fun e w'' => e = .returned (.int .i64 0) ∧ Ext w' w'' := fun w' he => by
  have := ncheck_any D m k (lim d) w' (HD.out.ext he); rwa [chk_lim (by omega)] at this
 clear hA hD hT
 go_enter Tryz.func31, Tryz.ntmps31
 go_wp2
 go_loopw [16] (fun vi wr => ∃ i : Nat, i ≤ 2 ∧ vi = .int .i64 (i : Int) ∧ Hid (Ext (mkW w A n c D m k) wr)) (fun vi _ => 2 - (intOf vi).toNat)
 case atStart => exact ⟨0, by omega, rfl, jR _⟩
 case round =>
  obtain ⟨i, hi, rfl, hext⟩ := hrel
  obtain ⟨⟨c0, c1, c2, c3⟩, ⟨r0, r1, r2⟩, ⟨f0, f1, f2⟩, hsz⟩ := mkW_facts w A n c D m k wr hext.out
  have hE0 := Lib.hid (jT (ext_mkW w A n c D m k) hext.out)
  by_cases h2 : i = 2
  ·subst h2
   have hl3 := lowD_len (a := a) hd
   rw [hla, hld] at hl3
   have hTr := Lib.hid (HT.out.ext hE0.out)
   have hn400 : n ≤ 400000 := by omega
   have hn1000 : n ≤ 1000000 := by omega
   have hm100 : m ≤ 100000 := by omega
   have hdl := Nat.le_trans hl3.1 hm
   have hm400 : m ≤ 400000 := by omega
   cases neg with
   | false =>
    go_wp2_with (first
     | (go_at_call 87; (with_reducible refine (ra_whole A n c a (by omega) _ (HA.out.ext hE0.out)).mono ?_); rintro e w1 ⟨b1, B1, k1, l1, rfl, hI1, hb1, xb1⟩; have hI1s : IntIs w1 b1 0 (sgn false a) B1 k1 l1 := hI1.out.1; have hx1 := (Below.cell (p := ⟨w.heap.size + 1, 0, none⟩) xb1 (by show w.heap.size + 1 < _; omega)).trans c1; have hsz1 : w.heap.size + 1 < w1.heap.size := by (have := ext_size xb1; omega))
     | (go_at_call 87; (with_reducible refine (ra_whole D m k d (by omega) _ (HD.out.ext (jA (jT hE0.out xb1) _))).mono ?_); rintro e w3 ⟨b3, B3, k3, l3, rfl, hI3, hb3, xb3⟩; have hk1 := Nat.le_trans (Nat.le_of_eq (hI1.out.1.lenNat.symm.trans hla)) hn400; have hk3 := Nat.le_trans (Nat.le_of_eq (hI3.out.1.lenNat.symm.trans hld)) hm400; have hE3 := Lib.hid (jT (jA xb1 (Obj.cells #[.bool false, .slice none 0 0, .slice none 0 0] 81)) xb3))
     | (go_at_call 59; (with_reducible refine (br_SetFrac' _ b1 b3 false a d hd B1 k1 l1 B3 k3 l3 hk1 hk3 _ (hTr.out.ext hE3.out) ((rat_room w1).ext xb3) (hI1s.ext (jT (jA (jR _) _) xb3)) hI3.out.1).mono ?_); rintro e w4 ⟨rfl, A4, n4, c4, D4, m4, e4, hI4, xt4⟩; have hn4 := Nat.le_trans (Nat.le_trans (Nat.le_of_eq hI4.out.1.int.lenSgn.symm) hl3.2.2) hn; have hm4 := Nat.le_trans (Nat.le_trans (Nat.le_of_eq hI4.out.1.rd.len.symm) hl3.2.1) hm100)
     | (go_at_call 60; (with_reducible refine (ra_told_ok _ _ A4 n4 c4 _ D4 m4 e4 hn4 hm4 hdl _ hI4.out.1).mono ?_); rintro e w5 ⟨A5, n5, c5, D5, m5, e5, rfl, hI5, xb5⟩; have hE5 := Lib.hid (jT (xt4.ext hE3.out (ext_size xb1)) xb5); obtain ⟨-, ⟨s0, s1, s2⟩, ⟨p0, p1, p2⟩, hs5⟩ := mkW_facts w A n c D m k w5 (jT hext.out hE5.out))
     )
    have hs4 : w.heap.size + 4 ≤ w4.heap.size := by
     have h1 := (mkW_facts w A n c D m k w4 (jT hext.out (xt4.ext hE3.out (ext_size xb1)))).2.2.2; exact h1
    have n5' : ∀ x, A5 = some x → w.heap.size + 1 + 1 < x.block := fun x hx => by have := hI5.out.2.1 x hx; omega
    have n6' : ∀ x, D5 = some x → w.heap.size + 1 + 1 < x.block := fun x hx => by have := hI5.out.2.2.2 x hx; omega
    obtain ⟨q0, q1, q2⟩ := set3 (b := w.heap.size + 1 + 1) s0 s1 s2 (.bool (decide (sgn false (a / a.gcd d : Nat) < 0))) (.slice A5 n5 c5) (.slice D5 m5 e5)
    have hEE := Lib.hid (jT hE0.out hE5.out)
    refine bodyPost_ret (v := .tuple #[ratV (decide (sgn false ↑(a / a.gcd d) < 0)) A5 n5 c5 D5 m5 e5, .int .i64 0]) ?h rfl ⟨A5, n5, c5, D5, m5, e5, rfl, ⟨hI5.out.1.set3 n5' _ _ _, fun x hx => Nat.le_of_lt (by have := n5' x hx; omega), hI5.out.2.2.1.set3 n6' _ _ _, fun x hx => Nat.le_of_lt (by have := n6' x hx; omega)⟩, ext_set3 hEE.out (by omega) _ _ _⟩
    case h => simp [results, Tryz.results31, go_sem, q0, q1, q2]
   | true =>
    go_wp2_with (first
     | (go_at_call 87; (with_reducible refine (ra_whole A n c a (by omega) _ (HA.out.ext hE0.out)).mono ?_); rintro e w1 ⟨b1, B1, k1, l1, rfl, hI1, hb1, xb1⟩; have hk0 := Nat.le_trans (Nat.le_of_eq (hI1.out.1.lenNat.symm.trans hla)) hn1000)
     | (go_at_call 88; (with_reducible refine (bi_Neg b1 0 b1 0 B1 k1 l1 a hk0 _ hI1.out.1.room hI1.out.1).mono ?_); rintro e w2 ⟨rfl, B2, k2, l2, hI2, xt2⟩; have xb2 := xt2.ext xb1 hb1; have hI1s : IntIs w2 b1 0 (sgn true a) B2 k2 l2 := hI2.out.1; have hx1 := (Below.cell (p := ⟨w.heap.size + 1, 0, none⟩) xb2 (by show w.heap.size + 1 < _; omega)).trans c1; have hsz1 : w.heap.size + 1 < w2.heap.size := by (have := ext_size xb2; omega))
     | (go_at_call 87; (with_reducible refine (ra_whole D m k d (by omega) _ (HD.out.ext (jA (jT hE0.out xb2) _))).mono ?_); rintro e w3 ⟨b3, B3, k3, l3, rfl, hI3, hb3, xb3⟩; have hk1 := Nat.le_trans (Nat.le_of_eq (hI1s.lenSgn.symm.trans hla)) hn400; have hk3 := Nat.le_trans (Nat.le_of_eq (hI3.out.1.lenNat.symm.trans hld)) hm400; have hE3 := Lib.hid (jT (jA xb2 (Obj.cells #[.bool false, .slice none 0 0, .slice none 0 0] 81)) xb3))
     | (go_at_call 59; (with_reducible refine (br_SetFrac' _ b1 b3 true a d hd B2 k2 l2 B3 k3 l3 hk1 hk3 _ (hTr.out.ext hE3.out) ((rat_room w2).ext xb3) (hI1s.ext (jT (jA (jR _) _) xb3)) hI3.out.1).mono ?_); rintro e w4 ⟨rfl, A4, n4, c4, D4, m4, e4, hI4, xt4⟩; have hn4 := Nat.le_trans (Nat.le_trans (Nat.le_of_eq hI4.out.1.int.lenSgn.symm) hl3.2.2) hn; have hm4 := Nat.le_trans (Nat.le_trans (Nat.le_of_eq hI4.out.1.rd.len.symm) hl3.2.1) hm100)
     | (go_at_call 60; (with_reducible refine (ra_told_ok _ _ A4 n4 c4 _ D4 m4 e4 hn4 hm4 hdl _ hI4.out.1).mono ?_); rintro e w5 ⟨A5, n5, c5, D5, m5, e5, rfl, hI5, xb5⟩; have hE5 := Lib.hid (jT (xt4.ext hE3.out (ext_size xb2)) xb5); obtain ⟨-, ⟨s0, s1, s2⟩, ⟨p0, p1, p2⟩, hs5⟩ := mkW_facts w A n c D m k w5 (jT hext.out hE5.out))
     )
    have hs4 : w.heap.size + 4 ≤ w4.heap.size := by
     have h1 := (mkW_facts w A n c D m k w4 (jT hext.out (xt4.ext hE3.out (ext_size xb2)))).2.2.2; exact h1
    have n5' : ∀ x, A5 = some x → w.heap.size + 1 + 1 < x.block := fun x hx => by have := hI5.out.2.1 x hx; omega
    have n6' : ∀ x, D5 = some x → w.heap.size + 1 + 1 < x.block := fun x hx => by have := hI5.out.2.2.2 x hx; omega
    obtain ⟨q0, q1, q2⟩ := set3 (b := w.heap.size + 1 + 1) s0 s1 s2 (.bool (decide (sgn true (a / a.gcd d : Nat) < 0))) (.slice A5 n5 c5) (.slice D5 m5 e5)
    have hEE := Lib.hid (jT hE0.out hE5.out)
    refine bodyPost_ret (v := .tuple #[ratV (decide (sgn true ↑(a / a.gcd d) < 0)) A5 n5 c5 D5 m5 e5, .int .i64 0]) ?h rfl ⟨A5, n5, c5, D5, m5, e5, rfl, ⟨hI5.out.1.set3 n5' _ _ _, fun x hx => Nat.le_of_lt (by have := n5' x hx; omega), hI5.out.2.2.1.set3 n6' _ _ _, fun x hx => Nat.le_of_lt (by have := n6' x hx; omega)⟩, ext_set3 hEE.out (by omega) _ _ _⟩
    case h => simp [results, Tryz.results31, go_sem, q0, q1, q2]
  ·by_cases h1 : i = 1
   ·subst h1
    go_wp2_with (first
     | (go_at_call 86; (with_reducible refine (chD _ (jA hE0.out _)).mono ?_); rintro e w5 ⟨rfl, xb5⟩)
     )
    case roundEnd => exact ⟨⟨2, by omega, rfl, jT (jA hext.out _) xb5⟩, by simp [intOf]⟩
   ·obtain rfl : i = 0 := by omega
    go_wp2_with (first
     | (go_at_call 86; (with_reducible refine (chA _ (jA hE0.out _)).mono ?_); rintro e w5 ⟨rfl, xb5⟩)
     )
    case roundEnd => exact ⟨⟨1, by omega, rfl, jT (jA hext.out _) xb5⟩, by simp [intOf]⟩
end Go.Proofs.YtchbefambnhjjaaGreatDoor
end
section
/- The program's whole numbers: small ones; powers. -/
namespace Go.Proofs.YtchbefambnhjjaaGreatDoor
open Go.RowKit
attribute [local go_sem] sz2 sz3 sz4 sz5 sz6 sz7 sz8
set_option maxHeartbeats 4000000
set_option maxRecDepth 100000
attribute [local irreducible] Calls
theorem and_one (r : Nat) (hr : r < 9223372036854775808) : bits BinOp.and IntKind.i64 (r : Int) 1 = ((r % 2 : Nat) : Int) := by
 have h1 : (BitVec.ofInt 64 (r : Int)).toNat = r := by rw [BitVec.ofInt_natCast, BitVec.toNat_ofNat]; exact Nat.mod_eq_of_lt (by omega)
 have h2 : (BitVec.ofInt 64 1).toNat = 1 := by decide
 show IntKind.i64.wrap ((BitVec.ofInt 64 (r : Int) &&& BitVec.ofInt 64 1).toNat : Int) = _
 rw [BitVec.toNat_and, h1, h2, Nat.and_one_is_mod, IntKind.wrap_i64]
 omega
structure PC (w : World) (G6 G7 Gr : Nat) (v6 v7 vr : Value) : Prop where
 c6 : w.cell? ⟨G6, 0, none⟩ = some v6
 c7 : w.cell? ⟨G7, 0, none⟩ = some v7
 cr : w.cell? ⟨Gr, 0, none⟩ = some vr
 f6 : w.frozen? ⟨G6, 0, none⟩ = false
 f7 : w.frozen? ⟨G7, 0, none⟩ = false
 fr : w.frozen? ⟨Gr, 0, none⟩ = false
 l7 : G7 < w.heap.size
theorem PC.ext {w w' : World} {G6 G7 Gr : Nat} {v6 v7 vr : Value} (h : PC w G6 G7 Gr v6 v7 vr) (h6 : G6 < G7) (hr : Gr < G7) (he : Ext w w') : PC w' G6 G7 Gr v6 v7 vr :=
 ⟨(Below.cell (p := ⟨G6, 0, none⟩) he (Nat.lt_trans h6 h.l7)).trans h.c6, (Below.cell (p := ⟨G7, 0, none⟩) he h.l7).trans h.c7, (Below.cell (p := ⟨Gr, 0, none⟩) he (Nat.lt_trans hr h.l7)).trans h.cr,
  (Below.frozen (p := ⟨G6, 0, none⟩) he (Nat.lt_trans h6 h.l7)).trans h.f6, (Below.frozen (p := ⟨G7, 0, none⟩) he h.l7).trans h.f7, (Below.frozen (p := ⟨Gr, 0, none⟩) he (Nat.lt_trans hr h.l7)).trans h.fr, ext_lt he _ h.l7⟩
end Go.Proofs.YtchbefambnhjjaaGreatDoor
end
