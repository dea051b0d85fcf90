/- Lemmas of this proof, laid together: RatE, NtK, RatF, RatG, IntG, IntH, RatP, NtL, DbA, LookQ, RatK0. -/
import Derived.Test.YtiapoflkeliljaaGreatDoorMg23
import Derived.Test.YtiapoflkeliljaaGreatDoorMg07
import Derived.Deep.DeepCutAuto
import Derived.Deep.RegionWith
import Derived.Deep.LoopGhost
import Derived.Test.YtiapoflkeliljaaGreatDoorMg13
import Derived.Test.YtiapoflkeliljaaGreatDoorMg08
import Derived.Test.YtiapoflkeliljaaGreatDoorMg19
set_option linter.unusedSimpArgs false
set_option linter.unusedVariables false
section
/- The program's fractions: made. -/
namespace Go.Proofs.YtiapoflkeliljaaGreatDoor
open Go.RowKit
attribute [local go_sem] sz2 sz3 sz4 sz5 sz6 sz7 sz8
set_option maxHeartbeats 4000000
set_option maxRecDepth 100000
attribute [local irreducible] Calls
abbrev mkW (w : World) (A : Option Addr) (n c : Nat) (D : Option Addr) (m k : Nat) : World :=
  (((w.alloc (Obj.cells #[.slice A n c] 30)).alloc (Obj.cells #[.slice D m k] 30)).alloc (Obj.cells #[.bool false, .slice none 0 0, .slice none 0 0] 32)).alloc (Obj.cells #[.slice A n c, .slice D m k] 30)
theorem mkW_facts (w : World) (A : Option Addr) (n c : Nat) (D : Option Addr) (m k : Nat) (wr : World) (he : Ext (mkW w A n c D m k) wr) :
    (wr.cell? ⟨w.heap.size, 0, none⟩ = some (.slice A n c) ∧ wr.cell? ⟨w.heap.size + 1, 0, none⟩ = some (.slice D m k) ∧ wr.cell? ⟨w.heap.size + 3, 0, none⟩ = some (.slice A n c) ∧ wr.cell? ⟨w.heap.size + 3, 1, none⟩ = some (.slice D m k)) ∧
    (wr.cell? ⟨w.heap.size + 2, 0, none⟩ = some (.bool false) ∧ wr.cell? ⟨w.heap.size + 2, 1, none⟩ = some (.slice none 0 0) ∧ wr.cell? ⟨w.heap.size + 2, 2, none⟩ = some (.slice none 0 0)) ∧
    (wr.frozen? ⟨w.heap.size + 2, 0, none⟩ = false ∧ wr.frozen? ⟨w.heap.size + 2, 1, none⟩ = false ∧ wr.frozen? ⟨w.heap.size + 2, 2, none⟩ = false) ∧ w.heap.size + 4 ≤ wr.heap.size := by
  have hs : (mkW w A n c D m k).heap.size = w.heap.size + 4 := by simp [mkW]
  have hz := ext_size he
  rw [hs] at hz
  have f : ∀ b o, b < w.heap.size + 4 → wr.cell? ⟨b, o, none⟩ = (mkW w A n c D m k).cell? ⟨b, o, none⟩ := fun b o hb => Below.cell (p := ⟨b, o, none⟩) he (by rw [hs]; exact hb)
  have fz : ∀ b o, b < w.heap.size + 4 → wr.frozen? ⟨b, o, none⟩ = (mkW w A n c D m k).frozen? ⟨b, o, none⟩ := fun b o hb => Below.frozen (p := ⟨b, o, none⟩) he (by rw [hs]; exact hb)
  refine ⟨⟨?_, ?_, ?_, ?_⟩, ⟨?_, ?_, ?_⟩, ⟨?_, ?_, ?_⟩, hz⟩
  all_goals first | (rw [f _ _ (by omega)]; simp [mkW, go_sem]) | (rw [fz _ _ (by omega)]; simp [mkW, go_sem])
theorem ext_mkW (w : World) (A : Option Addr) (n c : Nat) (D : Option Addr) (m k : Nat) : Ext w (mkW w A n c D m k) := ext_alloc (ext_alloc (ext_alloc (ext_alloc (ext_refl w) _) _) _) _
theorem br_SetFrac' (g bx b2 : Nat) (s : Bool) (a d : Nat) (hd : d ≠ 0) (A : Option Addr) (n c : Nat) (D : Option Addr) (m k : Nat) (hn : n ≤ 400000) (hm : m ≤ 400000) (w : World) (hT : Tz w) (hr : RatRoom w g) (hx : IntIs w bx 0 (sgn s a) A n c) (hyy : IntIs w b2 0 (d : Int) D m k) :
    Calls Tryz.prog 71 #[.pointer (some ⟨g, 0, none⟩), .pointer (some ⟨bx, 0, none⟩), .pointer (some ⟨b2, 0, none⟩)] w (FPost w g (sgn s (a / Nat.gcd a d : Nat)) (lowD a d)) := by
  have h := br_SetFrac g bx b2 (sgn s a) d (by omega) A n c D m k hn hm w hT hr hx hyy
  rw [sgn_abs, Int.natAbs_natCast] at h
  have e : sgn (qneg (sgn s a) d) (a / Nat.gcd a d : Nat) = sgn s (a / Nat.gcd a d : Nat) := by
    have h1 : qneg (sgn s a) d = (s && decide (0 < a)) := by
      unfold qneg
      rw [sgn_lt, decide_eq_false (show ¬ (d : Int) < 0 by omega)]
      cases (s && decide (0 < a)) <;> rfl
    rw [h1]
    by_cases h0 : a = 0
    · subst h0; rw [Nat.zero_div]; cases s <;> rfl
    · have : decide (0 < a) = true := decide_eq_true (by omega)
      rw [this, Bool.and_true]
  rw [e] at h
  exact h
theorem rat_room (w : World) : RatRoom (w.alloc (Obj.cells #[.bool false, .slice none 0 0, .slice none 0 0] 96)) w.heap.size :=
  ⟨⟨by simp, ⟨_, by simp [go_sem]; rfl⟩, ⟨_, by simp [go_sem]; rfl⟩, by simp [go_sem], by simp [go_sem]⟩, ⟨_, by simp [go_sem]; rfl⟩, by simp [go_sem]⟩
theorem lowD_len {a d : Nat} (hd : d ≠ 0) : (lim (denOf (lowD a d))).length ≤ (lim d).length ∧ (lim (lowD a d)).length ≤ (lim d).length ∧ (lim (a / Nat.gcd a d)).length ≤ (lim a).length := by
  have h1 : lowD a d ≤ d := by
    unfold lowD; split
    · omega
    · exact Nat.div_le_self _ _
  have h2 : denOf (lowD a d) ≤ d := by
    unfold denOf; split <;> omega
  exact ⟨lim_mono h2, lim_mono h1, lim_mono (Nat.div_le_self _ _)⟩
theorem IntIs.lenNat {w : World} {b o a : Nat} {B : Option Addr} {k l : Nat} (h : IntIs w b o ((a : Nat) : Int) B k l) : (lim a).length = k := by have := h.rd.len; rwa [Int.natAbs_natCast] at this
theorem IntIs.lenSgn {w : World} {b o a : Nat} {s : Bool} {B : Option Addr} {k l : Nat} (h : IntIs w b o (sgn s a) B k l) : (lim a).length = k := by have := h.rd.len; rwa [sgn_abs] at this
theorem ra_make (neg : Bool) (A : Option Addr) (n c a : Nat) (D : Option Addr) (m k d : Nat) (hd : d ≠ 0) (hn : n ≤ 16384) (hm : m ≤ 16384) (w : World) (hT : Tz w) (hA : Rd w A n c (lim a)) (hD : Rd w D m k (lim d)) :
    Calls Tryz.prog 35 #[.bool neg, natV A n c, natV D m k] w (TPost w (sgn neg (a / Nat.gcd a d : Nat)) (denOf (lowD a d))) := by
  have HA := Lib.hid hA
  have HD := Lib.hid hD
  have HT := Lib.hid hT
  have hm0 : ((m : Int) == 0) = false := by
    rw [beq_eq_false_iff_ne]
    have := hD.len; intro h; exact hd (lim_nil.1 (List.eq_nil_of_length_eq_zero (by omega)))
  have hla := hA.len
  have hld := hD.len
  have chA : ∀ w', Ext w w' → Calls Tryz.prog 98 #[natV A n c] w' fun e w'' => e = .returned (.int .i64 0) ∧ Ext w' w'' := fun w' he => by
    have := ncheck_any A n c (lim a) w' (HA.out.ext he); rwa [chk_lim (by omega)] at this
  have chD : ∀ w', Ext w w' → Calls Tryz.prog 98 #[natV D m k] w' fun e w'' => e = .returned (.int .i64 0) ∧ Ext w' w'' := fun w' he => by
    have := ncheck_any D m k (lim d) w' (HD.out.ext he); rwa [chk_lim (by omega)] at this
  clear hA hD hT
  go_enter Tryz.func35, Tryz.ntmps35
  go_wp2
  go_loopw [16] (fun vi wr => ∃ i : Nat, i ≤ 2 ∧ vi = .int .i64 (i : Int) ∧ Hid (Ext (mkW w A n c D m k) wr)) (fun vi _ => 2 - (intOf vi).toNat)
  case atStart => exact ⟨0, by omega, rfl, ext_refl _⟩
  case round =>
    obtain ⟨i, hi, rfl, hext⟩ := hrel
    obtain ⟨⟨c0, c1, c2, c3⟩, ⟨r0, r1, r2⟩, ⟨f0, f1, f2⟩, hsz⟩ := mkW_facts w A n c D m k wr hext.out
    have hE0 := Lib.hid (ext_trans (ext_mkW w A n c D m k) hext.out)
    by_cases h2 : i = 2
    · subst h2
      have hl3 := lowD_len (a := a) hd
      rw [hla, hld] at hl3
      have hTr := Lib.hid (HT.out.ext hE0.out)
      have hn400 : n ≤ 400000 := by omega
      have hn1000 : n ≤ 1000000 := by omega
      have hm100 : m ≤ 100000 := by omega
      have hdl := Nat.le_trans hl3.1 hm
      have hm400 : m ≤ 400000 := by omega
      cases neg with
      | false =>
        go_wp2_with (first
          | (go_at_call 99; (with_reducible refine (ra_whole A n c a (by omega) _ (HA.out.ext hE0.out)).mono ?_); rintro e w1 ⟨b1, B1, k1, l1, rfl, hI1, hb1, xb1⟩; have hI1s : IntIs w1 b1 0 (sgn false a) B1 k1 l1 := hI1.out.1; have hx1 := (Below.cell (p := ⟨w.heap.size + 1, 0, none⟩) xb1 (by show w.heap.size + 1 < _; omega)).trans c1; have hsz1 : w.heap.size + 1 < w1.heap.size := by (have := ext_size xb1; omega))
          | (go_at_call 99; (with_reducible refine (ra_whole D m k d (by omega) _ (HD.out.ext (ext_alloc (ext_trans hE0.out xb1) _))).mono ?_); rintro e w3 ⟨b3, B3, k3, l3, rfl, hI3, hb3, xb3⟩; have hk1 := Nat.le_trans (Nat.le_of_eq (hI1.out.1.lenNat.symm.trans hla)) hn400; have hk3 := Nat.le_trans (Nat.le_of_eq (hI3.out.1.lenNat.symm.trans hld)) hm400; have hE3 := Lib.hid (ext_trans (ext_alloc xb1 (Obj.cells #[.bool false, .slice none 0 0, .slice none 0 0] 96)) xb3))
          | (go_at_call 71; (with_reducible refine (br_SetFrac' _ b1 b3 false a d hd B1 k1 l1 B3 k3 l3 hk1 hk3 _ (hTr.out.ext hE3.out) ((rat_room w1).ext xb3) (hI1s.ext (ext_trans (ext_alloc (ext_refl _) _) xb3)) hI3.out.1).mono ?_); rintro e w4 ⟨rfl, A4, n4, c4, D4, m4, e4, hI4, xt4⟩; have hn4 := Nat.le_trans (Nat.le_trans (Nat.le_of_eq hI4.out.1.int.lenSgn.symm) hl3.2.2) hn; have hm4 := Nat.le_trans (Nat.le_trans (Nat.le_of_eq hI4.out.1.rd.len.symm) hl3.2.1) hm100)
          | (go_at_call 72; (with_reducible refine (ra_told_ok _ _ A4 n4 c4 _ D4 m4 e4 hn4 hm4 hdl _ hI4.out.1).mono ?_); rintro e w5 ⟨A5, n5, c5, D5, m5, e5, rfl, hI5, xb5⟩; have hE5 := Lib.hid (ext_trans (xt4.ext hE3.out (ext_size xb1)) xb5); obtain ⟨-, ⟨s0, s1, s2⟩, ⟨p0, p1, p2⟩, hs5⟩ := mkW_facts w A n c D m k w5 (ext_trans hext.out hE5.out))
         )
        have hs4 : w.heap.size + 4 ≤ w4.heap.size := by
          have h1 := (mkW_facts w A n c D m k w4 (ext_trans hext.out (xt4.ext hE3.out (ext_size xb1)))).2.2.2; exact h1
        have n5' : ∀ x, A5 = some x → w.heap.size + 1 + 1 < x.block := fun x hx => by have := hI5.out.2.1 x hx; omega
        have n6' : ∀ x, D5 = some x → w.heap.size + 1 + 1 < x.block := fun x hx => by have := hI5.out.2.2.2 x hx; omega
        obtain ⟨q0, q1, q2⟩ := set3 (b := w.heap.size + 1 + 1) s0 s1 s2 (.bool (decide (sgn false (a / a.gcd d : Nat) < 0))) (.slice A5 n5 c5) (.slice D5 m5 e5)
        have hEE := Lib.hid (ext_trans hE0.out hE5.out)
        refine bodyPost_ret (v := .tuple #[ratV (decide (sgn false ↑(a / a.gcd d) < 0)) A5 n5 c5 D5 m5 e5, .int .i64 0]) ?h rfl ⟨A5, n5, c5, D5, m5, e5, rfl, ⟨hI5.out.1.set3 n5' _ _ _, fun x hx => Nat.le_of_lt (by have := n5' x hx; omega), hI5.out.2.2.1.set3 n6' _ _ _, fun x hx => Nat.le_of_lt (by have := n6' x hx; omega)⟩, ext_set3 hEE.out (by omega) _ _ _⟩
        case h => simp [results, Tryz.results35, go_sem, q0, q1, q2]
      | true =>
        go_wp2_with (first
          | (go_at_call 99; (with_reducible refine (ra_whole A n c a (by omega) _ (HA.out.ext hE0.out)).mono ?_); rintro e w1 ⟨b1, B1, k1, l1, rfl, hI1, hb1, xb1⟩; have hk0 := Nat.le_trans (Nat.le_of_eq (hI1.out.1.lenNat.symm.trans hla)) hn1000)
          | (go_at_call 100; (with_reducible refine (bi_Neg b1 0 b1 0 B1 k1 l1 a hk0 _ hI1.out.1.room hI1.out.1).mono ?_); rintro e w2 ⟨rfl, B2, k2, l2, hI2, xt2⟩; have xb2 := xt2.ext xb1 hb1; have hI1s : IntIs w2 b1 0 (sgn true a) B2 k2 l2 := hI2.out.1; have hx1 := (Below.cell (p := ⟨w.heap.size + 1, 0, none⟩) xb2 (by show w.heap.size + 1 < _; omega)).trans c1; have hsz1 : w.heap.size + 1 < w2.heap.size := by (have := ext_size xb2; omega))
          | (go_at_call 99; (with_reducible refine (ra_whole D m k d (by omega) _ (HD.out.ext (ext_alloc (ext_trans hE0.out xb2) _))).mono ?_); rintro e w3 ⟨b3, B3, k3, l3, rfl, hI3, hb3, xb3⟩; have hk1 := Nat.le_trans (Nat.le_of_eq (hI1s.lenSgn.symm.trans hla)) hn400; have hk3 := Nat.le_trans (Nat.le_of_eq (hI3.out.1.lenNat.symm.trans hld)) hm400; have hE3 := Lib.hid (ext_trans (ext_alloc xb2 (Obj.cells #[.bool false, .slice none 0 0, .slice none 0 0] 96)) xb3))
          | (go_at_call 71; (with_reducible refine (br_SetFrac' _ b1 b3 true a d hd B2 k2 l2 B3 k3 l3 hk1 hk3 _ (hTr.out.ext hE3.out) ((rat_room w2).ext xb3) (hI1s.ext (ext_trans (ext_alloc (ext_refl _) _) xb3)) hI3.out.1).mono ?_); rintro e w4 ⟨rfl, A4, n4, c4, D4, m4, e4, hI4, xt4⟩; have hn4 := Nat.le_trans (Nat.le_trans (Nat.le_of_eq hI4.out.1.int.lenSgn.symm) hl3.2.2) hn; have hm4 := Nat.le_trans (Nat.le_trans (Nat.le_of_eq hI4.out.1.rd.len.symm) hl3.2.1) hm100)
          | (go_at_call 72; (with_reducible refine (ra_told_ok _ _ A4 n4 c4 _ D4 m4 e4 hn4 hm4 hdl _ hI4.out.1).mono ?_); rintro e w5 ⟨A5, n5, c5, D5, m5, e5, rfl, hI5, xb5⟩; have hE5 := Lib.hid (ext_trans (xt4.ext hE3.out (ext_size xb2)) xb5); obtain ⟨-, ⟨s0, s1, s2⟩, ⟨p0, p1, p2⟩, hs5⟩ := mkW_facts w A n c D m k w5 (ext_trans hext.out hE5.out))
         )
        have hs4 : w.heap.size + 4 ≤ w4.heap.size := by
          have h1 := (mkW_facts w A n c D m k w4 (ext_trans hext.out (xt4.ext hE3.out (ext_size xb2)))).2.2.2; exact h1
        have n5' : ∀ x, A5 = some x → w.heap.size + 1 + 1 < x.block := fun x hx => by have := hI5.out.2.1 x hx; omega
        have n6' : ∀ x, D5 = some x → w.heap.size + 1 + 1 < x.block := fun x hx => by have := hI5.out.2.2.2 x hx; omega
        obtain ⟨q0, q1, q2⟩ := set3 (b := w.heap.size + 1 + 1) s0 s1 s2 (.bool (decide (sgn true (a / a.gcd d : Nat) < 0))) (.slice A5 n5 c5) (.slice D5 m5 e5)
        have hEE := Lib.hid (ext_trans hE0.out hE5.out)
        refine bodyPost_ret (v := .tuple #[ratV (decide (sgn true ↑(a / a.gcd d) < 0)) A5 n5 c5 D5 m5 e5, .int .i64 0]) ?h rfl ⟨A5, n5, c5, D5, m5, e5, rfl, ⟨hI5.out.1.set3 n5' _ _ _, fun x hx => Nat.le_of_lt (by have := n5' x hx; omega), hI5.out.2.2.1.set3 n6' _ _ _, fun x hx => Nat.le_of_lt (by have := n6' x hx; omega)⟩, ext_set3 hEE.out (by omega) _ _ _⟩
        case h => simp [results, Tryz.results35, go_sem, q0, q1, q2]
    · by_cases h1 : i = 1
      · subst h1
        go_wp2_with (first
          | (go_at_call 98; (with_reducible refine (chD _ (ext_alloc hE0.out _)).mono ?_); rintro e w5 ⟨rfl, xb5⟩)
         )
        case roundEnd => exact ⟨⟨2, by omega, rfl, ext_trans (ext_alloc hext.out _) xb5⟩, by simp [intOf]⟩
      · obtain rfl : i = 0 := by omega
        go_wp2_with (first
          | (go_at_call 98; (with_reducible refine (chA _ (ext_alloc hE0.out _)).mono ?_); rintro e w5 ⟨rfl, xb5⟩)
         )
        case roundEnd => exact ⟨⟨1, by omega, rfl, ext_trans (ext_alloc hext.out _) xb5⟩, by simp [intOf]⟩
end Go.Proofs.YtiapoflkeliljaaGreatDoor
end
section
/- The program's whole numbers: small ones; powers. -/
namespace Go.Proofs.YtiapoflkeliljaaGreatDoor
open Go.RowKit
attribute [local go_sem] sz2 sz3 sz4 sz5 sz6 sz7 sz8
set_option maxHeartbeats 4000000
set_option maxRecDepth 100000
attribute [local irreducible] Calls
/-- A natural number with no room behind it. -/
abbrev NatPost (w : World) (v : Nat) : Ending → World → Prop := fun e w' => ∃ (A : Option Addr) (k : Nat), e = .returned (natV A k k) ∧ Hid (Rd w' A k k (lim v) ∧ Fr w A) ∧ Ext w w'
theorem nof_any (v : Nat) (hv : v < 18446744073709551616) (w : World) : Calls Tryz.prog 136 #[.int .u64 (v : Int)] w (NatPost w v) := by
  have hval : val [v % 4294967296, v / 4294967296] = v := by
    have := Nat.mod_add_div v 4294967296
    simp [val, Bs]; omega
  have hlb : Lb [v % 4294967296, v / 4294967296] := by
    intro x hx
    simp at hx
    unfold Bs
    rcases hx with rfl | rfl <;> omega
  have hR : Rd ((w.alloc (Obj.cells #[.slice none 0 0] 30)).alloc (Obj.cells #[.int .u32 ((v : Int) % 4294967296), .int .u32 ((v : Int) / 4294967296)] 54)) (some ⟨w.heap.size + 1, 0, none⟩) 2 2 [v % 4294967296, v / 4294967296] :=
    Rd.made _ _ _ _ hlb (by simp [u32V]) (by simp) (by simp) rfl
  have hT : Calls Tryz.prog 205 #[.slice (some ⟨w.heap.size + 1, 0, none⟩) 2 2] ((w.alloc (Obj.cells #[.slice none 0 0] 30)).alloc (Obj.cells #[.int .u32 ((v : Int) % 4294967296), .int .u32 ((v : Int) / 4294967296)] 54)) fun e w'' => ∃ (A' : Option Addr) (k : Nat), e = .returned (natV A' k k) ∧ Hid (Rd w'' A' k k (lim v) ∧ ∀ a, A' = some a → w.heap.size < a.block) ∧ Ext ((w.alloc (Obj.cells #[.slice none 0 0] 30)).alloc (Obj.cells #[.int .u32 ((v : Int) % 4294967296), .int .u32 ((v : Int) / 4294967296)] 54)) w'' := by
    refine (trimmed_any _ _ _ _ _ hR).mono ?_
    rintro e w'' ⟨A', k, rfl, h2, h3⟩
    refine ⟨A', k, rfl, ⟨?_, fun a ha => ?_⟩, h3⟩
    · have := h2.out.1 _ (hR.ext h3); rwa [hval] at this
    · have := h2.out.2 a ha; cases this; exact Nat.lt_succ_self _
  clear hR hval hlb
  go_enter Tryz.func136, Tryz.ntmps136
  go_wp2_with (first
    | (go_at_call 205; (with_reducible refine hT.mono ?_); rintro e w3 ⟨A3, k3, rfl, hR3, xb3⟩; have r0 := (Below.cell (p := ⟨w.heap.size, 0, none⟩) xb3 (by simp; omega)).trans (show _ = some (Value.slice none 0 0) by simp [go_sem]); have f0 := (Below.frozen (p := ⟨w.heap.size, 0, none⟩) xb3 (by simp; omega)).trans (show _ = false by simp [go_sem]))
   )
  have hcr := World.cell?_setCell_same _ _ (.slice A3 k3 k3) r0
  refine bodyPost_ret (v := natV A3 k3 k3) ?h rfl ⟨A3, k3, rfl, ⟨hR3.out.1.set _ hR3.out.2, fun a ha => Nat.le_of_lt (hR3.out.2 a ha)⟩, ext_setCell (ext_trans (ext_alloc (ext_alloc (ext_refl _) _) _) xb3) (Nat.le_refl _) _⟩
  case h => simp [results, Tryz.results136, go_sem, hcr]
theorem nof_one (w : World) : Calls Tryz.prog 136 #[.int .u64 1] w (NatPost w 1) := nof_any 1 (by decide) w
theorem pow_le' {o s r N : Nat} (h : o * s ^ r = N) (hN : 0 < N) (hr : 1 ≤ r) : o ≤ N ∧ s ≤ N ∧ o * s ≤ N ∧ (2 ≤ r → s * s ≤ N) := by
  have ho : 0 < o := Nat.pos_of_ne_zero (fun e => by subst e; simp at h; omega)
  have hs : 0 < s := Nat.pos_of_ne_zero (fun e => by subst e; rw [Nat.zero_pow (by omega)] at h; simp at h; omega)
  have h1 : s ≤ s ^ r := by have := Nat.pow_le_pow_right hs hr; rwa [Nat.pow_one] at this
  have h2 : 1 ≤ s ^ r := Nat.one_le_pow _ _ hs
  refine ⟨?_, ?_, ?_, fun h3 => ?_⟩
  · rw [← h]; exact Nat.le_mul_of_pos_right _ h2
  · rw [← h]; exact Nat.le_trans h1 (Nat.le_mul_of_pos_left _ ho)
  · rw [← h]; exact Nat.mul_le_mul_left _ h1
  · rw [← h]
    have h4 : s ^ 2 ≤ s ^ r := Nat.pow_le_pow_right hs h3
    rw [Nat.pow_two] at h4
    exact Nat.le_trans h4 (Nat.le_mul_of_pos_left _ ho)
theorem pow_odd {o s r N : Nat} (h : o * s ^ r = N) (hr : r % 2 = 1) : o * s * (s * s) ^ (r / 2) = N := by
  have e : r = 2 * (r / 2) + 1 := by omega
  have h2 : (s * s) ^ (r / 2) = s ^ (2 * (r / 2)) := by rw [← Nat.pow_two, ← Nat.pow_mul]
  rw [h2, Nat.mul_assoc, ← Nat.pow_succ']
  show o * s ^ (2 * (r / 2) + 1) = N
  rw [← e, h]
theorem pow_even {o s r N : Nat} (h : o * s ^ r = N) (hr : r % 2 = 0) : o * (s * s) ^ (r / 2) = N := by
  have e : r = 2 * (r / 2) := by omega
  have h2 : (s * s) ^ (r / 2) = s ^ (2 * (r / 2)) := by rw [← Nat.pow_two, ← Nat.pow_mul]
  rw [h2, ← e, h]
theorem and_one (r : Nat) (hr : r < 9223372036854775808) : bits BinOp.and IntKind.i64 (r : Int) 1 = ((r % 2 : Nat) : Int) := by
  have h1 : (BitVec.ofInt 64 (r : Int)).toNat = r := by rw [BitVec.ofInt_natCast, BitVec.toNat_ofNat]; exact Nat.mod_eq_of_lt (by omega)
  have h2 : (BitVec.ofInt 64 1).toNat = 1 := by decide
  show IntKind.i64.wrap ((BitVec.ofInt 64 (r : Int) &&& BitVec.ofInt 64 1).toNat : Int) = _
  rw [BitVec.toNat_and, h1, h2, Nat.and_one_is_mod, IntKind.wrap_i64]
  omega
/-- A number with an error of nought. -/
abbrev NatPost0 (w : World) (v : Nat) : Ending → World → Prop := fun e w' => ∃ (A : Option Addr) (k : Nat), e = .returned (.tuple #[natV A k k, .int .i64 0]) ∧ Hid (Rd w' A k k (lim v) ∧ Fr w A) ∧ Ext w w'
theorem npow_zero (b : Nat) (w : World) : Calls Tryz.prog 134 #[.int .u32 (b : Int), .int .i64 0] w (NatPost0 w 1) := by
  go_enter Tryz.func134, Tryz.ntmps134
  go_wp2_with (first
    | (go_at_call 136; (with_reducible refine (nof_one _).mono ?_); rintro e w3 ⟨A3, k3, rfl, hR3, xb3⟩; have r0 := (Below.cell (p := ⟨w.heap.size, 0, none⟩) xb3 (by simp)).trans (show _ = some (Value.slice none 0 0) by simp [go_sem]); have f0 := (Below.frozen (p := ⟨w.heap.size, 0, none⟩) xb3 (by simp)).trans (show _ = false by simp [go_sem]))
   )
  have hcr := World.cell?_setCell_same _ _ (.slice A3 k3 k3) r0
  have hlt : ∀ a, A3 = some a → w.heap.size < a.block := fun a ha => by have := hR3.out.2 a ha; simp at this; omega
  refine bodyPost_ret (v := .tuple #[natV A3 k3 k3, .int .i64 0]) ?h rfl ⟨A3, k3, rfl, ⟨hR3.out.1.set _ hlt, fun a ha => Nat.le_of_lt (hlt a ha)⟩, ext_setCell (ext_trans (ext_alloc (ext_refl _) _) xb3) (Nat.le_refl _) _⟩
  case h => simp [results, Tryz.results134, go_sem, hcr]
/-- Three cells: two of the loop's and the answer's. -/
structure PC (w : World) (G6 G7 Gr : Nat) (v6 v7 vr : Value) : Prop where
  c6 : w.cell? ⟨G6, 0, none⟩ = some v6
  c7 : w.cell? ⟨G7, 0, none⟩ = some v7
  cr : w.cell? ⟨Gr, 0, none⟩ = some vr
  f6 : w.frozen? ⟨G6, 0, none⟩ = false
  f7 : w.frozen? ⟨G7, 0, none⟩ = false
  fr : w.frozen? ⟨Gr, 0, none⟩ = false
  l7 : G7 < w.heap.size
theorem PC.ext {w w' : World} {G6 G7 Gr : Nat} {v6 v7 vr : Value} (h : PC w G6 G7 Gr v6 v7 vr) (h6 : G6 < G7) (hr : Gr < G7) (he : Ext w w') : PC w' G6 G7 Gr v6 v7 vr :=
  ⟨(Below.cell (p := ⟨G6, 0, none⟩) he (Nat.lt_trans h6 h.l7)).trans h.c6, (Below.cell (p := ⟨G7, 0, none⟩) he h.l7).trans h.c7, (Below.cell (p := ⟨Gr, 0, none⟩) he (Nat.lt_trans hr h.l7)).trans h.cr,
   (Below.frozen (p := ⟨G6, 0, none⟩) he (Nat.lt_trans h6 h.l7)).trans h.f6, (Below.frozen (p := ⟨G7, 0, none⟩) he h.l7).trans h.f7, (Below.frozen (p := ⟨Gr, 0, none⟩) he (Nat.lt_trans hr h.l7)).trans h.fr, ext_lt he _ h.l7⟩
theorem PC.set6 {w : World} {G6 G7 Gr : Nat} {v6 v7 vr : Value} (h : PC w G6 G7 Gr v6 v7 vr) (h6 : G6 < G7) (hr : Gr < G6) (v : Value) : PC (w.setCell ⟨G6, 0, none⟩ v) G6 G7 Gr v v7 vr :=
  ⟨World.cell?_setCell_same _ _ _ h.c6, (World.cell?_setCell_other _ _ _ _ (by intro e; simp at e; try omega)).trans h.c7, (World.cell?_setCell_other _ _ _ _ (by intro e; simp at e; try omega)).trans h.cr, by simpa using h.f6, by simpa using h.f7, by simpa using h.fr, by simpa using h.l7⟩
theorem PC.set7 {w : World} {G6 G7 Gr : Nat} {v6 v7 vr : Value} (h : PC w G6 G7 Gr v6 v7 vr) (h6 : G6 < G7) (hr : Gr < G6) (v : Value) : PC (w.setCell ⟨G7, 0, none⟩ v) G6 G7 Gr v6 v vr :=
  ⟨(World.cell?_setCell_other _ _ _ _ (by intro e; simp at e; try omega)).trans h.c6, World.cell?_setCell_same _ _ _ h.c7, (World.cell?_setCell_other _ _ _ _ (by intro e; simp at e; try omega)).trans h.cr, by simpa using h.f6, by simpa using h.f7, by simpa using h.fr, by simpa using h.l7⟩
/-- The loop of a power. -/
def PowRel (w : World) (G6 G7 N : Nat) (vi : Value) (wr : World) : Prop := ∃ (rem o s : Nat) (O : Option Addr) (ko : Nat) (Q : Option Addr) (kq : Nat), (1 ≤ rem ∧ rem ≤ 524288) ∧ vi = .int .i64 (rem : Int) ∧ Hid (o * s ^ rem = N) ∧ Hid (Rd wr O ko ko (lim o)) ∧ Hid (Rd wr Q kq kq (lim s)) ∧
  Hid (Off O ko G6 ∧ Off O ko G7 ∧ Off Q kq G6 ∧ Off Q kq G7 ∧ ∀ x, O = some x → w.heap.size < x.block) ∧ Hid (PC wr G6 G7 w.heap.size (.slice O ko ko) (.slice Q kq kq) (.slice none 0 0)) ∧ Hid (Ext w wr)
theorem npow_pos (b n : Nat) (hb : 2 ≤ b) (hb2 : b < 4294967296) (hn : 1 ≤ n) (hn2 : n ≤ 524288) (hl : (lim (b ^ n)).length ≤ 8000) (w : World) : Calls Tryz.prog 134 #[.int .u32 (b : Int), .int .i64 (n : Int)] w (NatPost0 w (b ^ n)) := by
  obtain ⟨N, hN⟩ : ∃ N, N = b ^ n := ⟨_, rfl⟩
  have hN0 : 0 < N := by rw [hN]; exact Nat.pow_pos (by omega)
  have hst : 1 * b ^ n = N := by rw [hN, Nat.one_mul]
  rw [← hN] at hl ⊢
  have HL := Lib.hid hl
  have HST := Lib.hid hst
  clear hl hst hN
  have hn1 : ((n : Int) == 0) = false := by rw [beq_eq_false_iff_ne]; omega
  go_enter Tryz.func134, Tryz.ntmps134
  go_wp2_with (first
    | (go_at_call 136; (with_reducible refine (nof_one _).mono ?_); rintro e w3 ⟨A3, k3, rfl, hR3, xb3⟩)
    | (go_at_call 136; (with_reducible refine (nof_any b (by omega) _).mono ?_); rintro e w4 ⟨A4, k4, rfl, hR4, xb4⟩)
   )
  have hs3 : w.heap.size + 1 ≤ w3.heap.size := by have := ext_size xb3; simpa using this
  have hs4 : w3.heap.size ≤ w4.heap.size := ext_size xb4
  have hE4 := Lib.hid (ext_trans (ext_alloc (ext_refl w) (Obj.cells #[.slice none 0 0] 30)) (ext_trans xb3 xb4))
  have r0 := (Below.cell (p := ⟨w.heap.size, 0, none⟩) (ext_trans xb3 xb4) (by simp)).trans (show _ = some (Value.slice none 0 0) by simp [go_sem])
  have f0 := (Below.frozen (p := ⟨w.heap.size, 0, none⟩) (ext_trans xb3 xb4) (by simp)).trans (show _ = false by simp [go_sem])
  have hR3' := Lib.hid (hR3.out.1.ext xb4)
  have hF3 : ∀ x, A3 = some x → w.heap.size < x.block := fun x hx => by have := hR3.out.2 x hx; simp at this; omega
  have o36 : Off A3 k3 w4.heap.size := hR3'.out.off (Nat.le_refl _)
  have o37 : Off A3 k3 (w4.heap.size + 1) := hR3'.out.off (by omega)
  have o46 : Off A4 k4 w4.heap.size := hR4.out.1.off (Nat.le_refl _)
  have o47 : Off A4 k4 (w4.heap.size + 1) := hR4.out.1.off (by omega)
  have hlt : w.heap.size < w4.heap.size := by omega
  have HOFF := Lib.hid (And.intro o36 (And.intro o37 (And.intro o46 (And.intro o47 hF3))))
  clear o36 o37 o46 o47
  go_loopw [1] (fun vi wr => PowRel w w4.heap.size (w4.heap.size + 1) N vi wr) (fun vi _ => (intOf vi).toNat)
  case atStart =>
    have k1 : w.heap.size < ((w4.alloc (Obj.cells #[.slice A3 k3 k3] 30)).heap.size) := by simp; omega
    exact ⟨n, 1, b, A3, k3, A4, k4, ⟨hn, hn2⟩, rfl, HST.out, hR3'.out.ext (ext_alloc (ext_alloc (ext_refl _) _) _), hR4.out.1.ext (ext_alloc (ext_alloc (ext_refl _) _) _), HOFF.out,
      ⟨by simp [go_sem], by simp [go_sem], by rw [World.cell?_alloc_lt _ _ _ k1, World.cell?_alloc_lt _ _ _ hlt]; exact r0, by simp [go_sem], by simp [go_sem], by simp [go_sem, hlt, f0], by simp⟩, ext_alloc (ext_alloc hE4.out _) _⟩
  case round =>
    obtain ⟨G6, hG6⟩ : ∃ G, G = w4.heap.size := ⟨_, rfl⟩
    rw [← hG6] at hrel hlt
    simp only [← hG6]
    obtain ⟨G7, hG7⟩ : ∃ G, G = G6 + 1 := ⟨_, rfl⟩
    rw [← hG7] at hrel
    simp only [← hG7]
    have h67 : G6 < G7 := by omega
    have hr7 : w.heap.size < G7 := by omega
    have h67' : ¬ G6 = G7 := by omega
    have h76' : ¬ G7 = G6 := by omega
    clear hG6 hG7 HOFF hR3' hF3 r0 f0 hE4 hs3 hs4 hR3 hR4 xb3 xb4 HST
    obtain ⟨rem, o, s, O, ko, Q, kq, ⟨h1, h2⟩, rfl, hst, hO, hQ, hoff, hpc, hE⟩ := hrel
    obtain ⟨p1, p2, p3, p4⟩ := pow_le' hst.out hN0 h1
    have lo := hO.out.len
    have lq := hQ.out.len
    have lo1 : (lim o).length ≤ 8000 := Nat.le_trans (lim_mono p1) HL.out
    have lq1 : (lim s).length ≤ 8000 := Nat.le_trans (lim_mono p2) HL.out
    have c1 : ∀ wx, Ext wr wx → Calls Tryz.prog 135 #[natV O ko ko, natV Q kq kq] wx (NatPost0 wx (o * s)) := fun wx hx =>
      pmul_any O Q ko ko kq kq o s wx (hO.out.ext hx) (hQ.out.ext hx) (by omega) (by omega) (by omega) (Nat.le_trans (lim_mono p3) (Nat.le_trans HL.out (by omega)))
    have c2 : 2 ≤ rem → ∀ wx, Rd wx Q kq kq (lim s) → Calls Tryz.prog 135 #[natV Q kq kq, natV Q kq kq] wx (NatPost0 wx (s * s)) := fun h wx hx =>
      pmul_any Q Q kq kq kq kq s s wx hx hx (by omega) (by omega) (by omega) (Nat.le_trans (lim_mono (p4 h)) (Nat.le_trans HL.out (by omega)))
    obtain ⟨c6, c7, cr, f6, f7, fr, l7⟩ := hpc.out
    have eand := and_one rem (by omega)
    obtain ⟨rem2, hrem2⟩ : ∃ r, r = rem / 2 := ⟨_, rfl⟩
    have e2 : (rem : Int) / 2 = (rem2 : Int) := by omega
    clear p1 p2 p3 p4 lo1 lq1 lo lq
    by_cases hodd : rem % 2 = 1
    · rw [hodd] at eand
      have hodd' := Lib.hid (pow_odd hst.out hodd)
      rw [← hrem2] at hodd'
      have HR2 := Lib.hid hrem2
      clear hrem2
      by_cases h0 : rem2 = 0
      · subst h0
        rw [Nat.pow_zero, Nat.mul_one] at hodd'
        go_wp2_with (first
          | (go_at_call 135; (with_reducible refine (c1 _ (ext_refl _)).mono ?_); rintro e w5 ⟨O5, k5, rfl, hR5, xb5⟩; have hp5 := Lib.hid ((hpc.out.ext h67 hr7 xb5).set6 h67 hlt (.slice O5 k5 k5)); have hq5 := Lib.hid (hpc.out.ext h67 hr7 xb5); obtain ⟨d6, d7, dr, g6, g7, gr, m7⟩ := hq5.out; obtain ⟨i6, i7, ir, j6, j7, jr, n7⟩ := hp5.out)
         )
        have hcr := World.cell?_setCell_same _ _ (.slice O5 k5 k5) ir
        have n5 : ∀ x, O5 = some x → G7 < x.block := fun x hx => by have := hR5.out.2 x hx; have := hpc.out.l7; omega
        have hRv : Rd w5 O5 k5 k5 (lim N) := by have := hR5.out.1; rwa [hodd'.out] at this
        refine bodyPost_ret (v := .tuple #[natV O5 k5 k5, .int .i64 0]) ?h rfl ⟨O5, k5, rfl, ⟨(hRv.set _ (fun x hx => Nat.lt_trans h67 (n5 x hx))).set _ (fun x hx => by have := n5 x hx; show w.heap.size < x.block; omega), fun x hx => by have := n5 x hx; show w.heap.size ≤ x.block; omega⟩, ext_setCell (ext_setCell (ext_trans hE.out xb5) (Nat.le_of_lt hlt) _) (Nat.le_refl _) _⟩
        case h => simp [results, Tryz.results134, go_sem, hcr]
      · have h0' : ((rem2 : Int) == 0) = false := by rw [beq_eq_false_iff_ne]; omega
        have hrm := HR2.out
        have c2' := c2 (by omega)
        clear c2 hrm
        go_wp2_with (first
          | (go_at_call 135; (with_reducible refine (c1 _ (ext_refl _)).mono ?_); rintro e w5 ⟨O5, k5, rfl, hR5, xb5⟩; have hp5 := Lib.hid ((hpc.out.ext h67 hr7 xb5).set6 h67 hlt (.slice O5 k5 k5)); have hq5 := Lib.hid (hpc.out.ext h67 hr7 xb5); obtain ⟨d6, d7, dr, g6, g7, gr, m7⟩ := hq5.out; obtain ⟨i6, i7, ir, j6, j7, jr, n7⟩ := hp5.out; have hQ5 := Lib.hid ((hQ.out.ext xb5).tch ((Tch.refl _ w5).set 0 (.slice O5 k5 k5)) hoff.out.2.2.1))
          | (go_at_call 135; (with_reducible refine (c2' _ hQ5.out).mono ?_); rintro e w6 ⟨Q6, k6, rfl, hR6, xb6⟩; have hp6 := Lib.hid (hp5.out.ext h67 hr7 xb6); obtain ⟨s6, s7, sr, t6, t7, tr, q7⟩ := hp6.out)
         )
        have n5 : ∀ x, O5 = some x → G7 < x.block := fun x hx => by have := hR5.out.2 x hx; have := hpc.out.l7; omega
        have n6 : ∀ x, Q6 = some x → G7 < x.block := fun x hx => by have := hR6.out.2 x hx; simp at this; omega
        case roundEnd =>
          refine ⟨⟨rem2, o * s, s * s, O5, k5, Q6, k6, ⟨by omega, by have := HR2.out; omega⟩, rfl, hodd'.out, ?_, ?_, ⟨?_, ?_, ?_, ?_, ?_⟩, hp6.out.set7 h67 hlt _, ?_⟩, ?_⟩
          · exact ((hR5.out.1.set _ (fun x hx => Nat.lt_trans h67 (n5 x hx))).ext xb6).set _ n5
          · exact hR6.out.1.set _ n6
          · exact fun x hx _ e => by have := n5 x hx; omega
          · exact fun x hx _ e => by have := n5 x hx; omega
          · exact fun x hx _ e => by have := n6 x hx; omega
          · exact fun x hx _ e => by have := n6 x hx; omega
          · exact fun x hx => by have := n5 x hx; omega
          · exact ext_setCell (ext_trans (ext_setCell (ext_trans hE.out xb5) (Nat.le_of_lt hlt) _) xb6) (Nat.le_of_lt hr7) _
          · have := HR2.out; simp [intOf]; omega
    · have hev : rem % 2 = 0 := by omega
      rw [hev] at eand
      have hev' := Lib.hid (pow_even hst.out hev)
      rw [← hrem2] at hev'
      have HR2 := Lib.hid hrem2
      have c2' := c2 (by omega)
      have h0' : ((rem2 : Int) == 0) = false := by rw [beq_eq_false_iff_ne]; omega
      clear hrem2 c2 hodd hev
      go_wp2_with (first
        | (go_at_call 135; (with_reducible refine (c2' _ hQ.out).mono ?_); rintro e w6 ⟨Q6, k6, rfl, hR6, xb6⟩; have hp6 := Lib.hid (hpc.out.ext h67 hr7 xb6); obtain ⟨s6, s7, sr, t6, t7, tr, q7⟩ := hp6.out)
       )
      have n6 : ∀ x, Q6 = some x → G7 < x.block := fun x hx => by have := hR6.out.2 x hx; have := hpc.out.l7; omega
      case roundEnd =>
        refine ⟨⟨rem2, o, s * s, O, ko, Q6, k6, ⟨?_, ?_⟩, rfl, hev'.out, ?_, ?_, ⟨hoff.out.1, hoff.out.2.1, ?_, ?_, hoff.out.2.2.2.2⟩, hp6.out.set7 h67 hlt _, ?_⟩, ?_⟩
        · have : rem2 ≠ 0 := by intro h; subst h; simp at h0'
          omega
        · have := HR2.out; omega
        · exact (hO.out.ext xb6).tch ((Tch.refl _ w6).set 0 _) hoff.out.2.1
        · exact hR6.out.1.set _ n6
        · exact fun x hx _ e => by have := n6 x hx; omega
        · exact fun x hx _ e => by have := n6 x hx; omega
        · exact ext_setCell (ext_trans hE.out xb6) (Nat.le_of_lt hr7) _
        · have := HR2.out; simp [intOf]; omega
end Go.Proofs.YtiapoflkeliljaaGreatDoor
end
section
/- The program's decimals as fractions. -/
namespace Go.Proofs.YtiapoflkeliljaaGreatDoor
open Go.RowKit
attribute [local go_sem] bs_size bs_extract bs_get bs_append bs_toList const_get
attribute [local go_sem] sz2 sz3 sz4 sz5 sz6 sz7 sz8
set_option maxHeartbeats 4000000
set_option maxRecDepth 100000
attribute [local irreducible] Calls
theorem pnumber_nil (w : World) : Calls Tryz.prog 133 #[.string (bs [])] w (NatPost0 w 0) := by
  go_enter Tryz.func133, Tryz.ntmps133
  go_wp2
  refine bodyPost_ret (v := .tuple #[natV none 0 0, .int .i64 0]) ?h rfl ⟨none, 0, rfl, ⟨by rw [lim_zero]; exact Rd.nil _, Fr.none _⟩, ?_⟩
  case h => simp [results, Tryz.results133, go_sem, *]
  repeat (first | exact ext_refl _ | assumption | refine ext_setCell ?_ (by simp; try omega) _ | refine ext_alloc ?_ _ | refine ext_drew ?_ | refine ext_drewN ?_ _ | refine ext_trans ?_ (Aft.use _) | refine ext_trans ?_ (by assumption))
theorem pnumber_any (l : List UInt8) (hd : digsB l = true) (hl : l.length ≤ 65536) (w : World) : Calls Tryz.prog 133 #[.string (bs l)] w (NatPost0 w (dval l)) := by
  by_cases h0 : 0 < l.length
  · exact pnumber_some l hd h0 hl w
  · obtain rfl : l = [] := List.eq_nil_of_length_eq_zero (by omega)
    exact pnumber_nil w
/-- A number with an error of nought, not long. -/
abbrev NatPostL (w : World) (v L : Nat) : Ending → World → Prop := fun e w' => ∃ (A : Option Addr) (k : Nat), (e = .returned (.tuple #[natV A k k, .int .i64 0]) ∧ k ≤ L) ∧ Hid (Rd w' A k k (lim v) ∧ Fr w A) ∧ Ext w w'
theorem natPostL {w : World} {v L : Nat} (h : (lim v).length ≤ L) {e : Ending} {w' : World} (hp : NatPost0 w v e w') : NatPostL w v L e w' := by
  obtain ⟨A, k, he, hR, hx⟩ := hp
  exact ⟨A, k, ⟨he, by rw [← hR.out.1.len]; exact h⟩, hR, hx⟩
theorem ten_len (n : Nat) (hn : n ≤ 16000) : (lim (10 ^ n)).length ≤ 4001 := lim_fits (n := n) (Nat.le_refl _) (by omega) (by omega)
theorem dratio_neg (neg : Bool) (l : List UInt8) (E : Nat) (hE1 : 1 ≤ E) (hE2 : E ≤ 4000) (hl : l.length ≤ 4000) (hok : dcE ⟨neg, l, -(E : Int)⟩ = 0) (hdg : digsB l = true) (w : World) (hT : Tz w) :
    Calls Tryz.prog 57 #[dcV ⟨neg, l, -(E : Int)⟩] w (TPost w (sgn neg (dval l / Nat.gcd (dval l) (10 ^ E) : Nat)) (denOf (lowD (dval l) (10 ^ E)))) := by
  have HT := Lib.hid hT
  have hnl : (lim (dval l)).length ≤ 4001 := Nat.le_trans (lim_mono (Nat.le_of_lt (Nat.lt_of_lt_of_le (dval_lt l hdg) (Nat.pow_le_pow_right (by decide) hl)))) (ten_len 4000 (by omega))
  have hx := fun w => (pnumber_any l hdg (by omega) w).mono (fun e w' h => natPostL hnl h)
  have hp : ∀ w, Calls Tryz.prog 134 #[.int .u32 10, .int .i64 (E : Int)] w (NatPostL w (10 ^ E) 4001) := fun w => (npow_pos 10 E (by omega) (by omega) hE1 (by omega) (Nat.le_trans (ten_len E (by omega)) (by omega)) w).mono (fun e w' h => natPostL (ten_len E (by omega)) h)
  have hc := fun w => check_any' ⟨neg, l, -(E : Int)⟩ (by simp; omega) w
  rw [hok] at hc
  have h10 : 10 ^ E ≠ 0 := by have := Nat.pow_pos (n := E) (show 0 < 10 by decide); omega
  generalize dval l = X at hx hnl ⊢
  generalize 10 ^ E = Y at hp h10 ⊢
  clear hT hok hdg
  have hmax : max (-(E : Int)) (E : Int) = (E : Int) := by omega
  have hlt : -(E : Int) < 0 := by omega
  go_enter Tryz.func57, Tryz.ntmps57
  go_wp2_with (first
    | (go_at_call 132; (with_reducible refine (hc _).mono ?_); rintro e w1 ⟨rfl, xb1⟩; obtain ⟨xc1, xf1, xl1, xz1⟩ := ext_use xb1; (try simp at xz1); obtain ⟨l1_0, gc, gf⟩ := kp xb1 (w.heap.size) (by first | omega | (simp; try omega)); have r1_0 := gc 0; have f1_0 := gf 0; have r1_0_1 := gc 1; have f1_0_1 := gf 1; have r1_0_2 := gc 2; have f1_0_2 := gf 2; clear gc gf; obtain ⟨l1_1, gc, gf⟩ := kp xb1 (w.heap.size + 1) (by first | omega | (simp; try omega)); have r1_1 := gc 0; have f1_1 := gf 0; have r1_1_1 := gc 1; have f1_1_1 := gf 1; have r1_1_2 := gc 2; have f1_1_2 := gf 2; clear gc gf)
    | (go_at_call 133; (with_reducible refine (hx _).mono ?_); rintro e w2 ⟨A, k, ⟨rfl, hk⟩, hX, xb2⟩; obtain ⟨xc2, xf2, xl2, xz2⟩ := ext_use xb2; (try simp at xz2); obtain ⟨l2_0, gc, gf⟩ := kp xb2 (w.heap.size) (by first | omega | (simp; try omega)); have r2_0 := gc 0; have f2_0 := gf 0; have r2_0_1 := gc 1; have f2_0_1 := gf 1; have r2_0_2 := gc 2; have f2_0_2 := gf 2; clear gc gf; obtain ⟨l2_1, gc, gf⟩ := kp xb2 (w.heap.size + 1) (by first | omega | (simp; try omega)); have r2_1 := gc 0; have f2_1 := gf 0; have r2_1_1 := gc 1; have f2_1_1 := gf 1; have r2_1_2 := gc 2; have f2_1_2 := gf 2; clear gc gf)
    | (go_at_call 134; (with_reducible refine (hp _).mono ?_); rintro e w3 ⟨B, j, ⟨rfl, hj⟩, hY, xb3⟩; obtain ⟨xc3, xf3, xl3, xz3⟩ := ext_use xb3; (try simp at xz3); obtain ⟨l3_0, gc, gf⟩ := kp xb3 (w.heap.size) (by first | omega | (simp; try omega)); have r3_0 := gc 0; have f3_0 := gf 0; have r3_0_1 := gc 1; have f3_0_1 := gf 1; have r3_0_2 := gc 2; have f3_0_2 := gf 2; clear gc gf; obtain ⟨l3_1, gc, gf⟩ := kp xb3 (w.heap.size + 1) (by first | omega | (simp; try omega)); have r3_1 := gc 0; have f3_1 := gf 0; have r3_1_1 := gc 1; have f3_1_1 := gf 1; have r3_1_2 := gc 2; have f3_1_2 := gf 2; clear gc gf; obtain ⟨l3_2, gc, gf⟩ := kp xb3 (w2.heap.size) (by first | omega | (simp; try omega)); have r3_2 := gc 0; have f3_2 := gf 0; clear gc gf)
    | (go_at_call 35; (with_reducible refine (ra_make neg A k k X B j j Y h10 (by omega) (by omega) _ (HT.out.ext (by (repeat (first | exact ext_refl _ | assumption | refine ext_setCell ?_ (by simp; try omega) _ | refine ext_alloc ?_ _ | refine ext_drew ?_ | refine ext_drewN ?_ _ | refine ext_trans ?_ (Aft.use _) | refine ext_trans ?_ (by assumption))))) (hX.out.1.ext (by (repeat (first | exact ext_refl _ | assumption | refine ext_setCell ?_ (by simp; try omega) _ | refine ext_alloc ?_ _ | refine ext_drew ?_ | refine ext_drewN ?_ _ | refine ext_trans ?_ (Aft.use _) | refine ext_trans ?_ (by assumption))))) (hY.out.1.ext (by (repeat (first | exact ext_refl _ | assumption | refine ext_setCell ?_ (by simp; try omega) _ | refine ext_alloc ?_ _ | refine ext_drew ?_ | refine ext_drewN ?_ _ | refine ext_trans ?_ (Aft.use _) | refine ext_trans ?_ (by assumption)))))).mono ?_); rintro e w4 ⟨C, n, c, D, m, d, rfl, hZ, xb4⟩; obtain ⟨xc4, xf4, xl4, xz4⟩ := ext_use xb4; (try simp at xz4); obtain ⟨l4_0, gc, gf⟩ := kp xb4 (w.heap.size) (by first | omega | (simp; try omega)); have r4_0 := gc 0; have f4_0 := gf 0; have r4_0_1 := gc 1; have f4_0_1 := gf 1; have r4_0_2 := gc 2; have f4_0_2 := gf 2; clear gc gf; obtain ⟨l4_1, gc, gf⟩ := kp xb4 (w.heap.size + 1) (by first | omega | (simp; try omega)); have r4_1 := gc 0; have f4_1 := gf 0; have r4_1_1 := gc 1; have f4_1_1 := gf 1; have r4_1_2 := gc 2; have f4_1_2 := gf 2; clear gc gf)
   )
  have n5 : ∀ x, C = some x → w.heap.size + 1 < x.block := fun x hx => by have := hZ.out.2.1 x hx; simp at this; omega
  have n6 : ∀ x, D = some x → w.heap.size + 1 < x.block := fun x hx => by have := hZ.out.2.2.2 x hx; simp at this; omega
  have z0 : w4.cell? ⟨w.heap.size + 1, 0, none⟩ = some (.bool false) := by simp [go_sem, *]
  have z1 : w4.cell? ⟨w.heap.size + 1, 1, none⟩ = some (.slice none 0 0) := by simp [go_sem, *]
  have z2 : w4.cell? ⟨w.heap.size + 1, 2, none⟩ = some (.slice none 0 0) := by simp [go_sem, *]
  obtain ⟨q0, q1, q2⟩ := set3 (b := w.heap.size + 1) z0 z1 z2 (.bool (decide (sgn neg (X / X.gcd Y : Nat) < 0))) (.slice C n c) (.slice D m d)
  have hEE : Ext w w4 := by (repeat (first | exact ext_refl _ | assumption | refine ext_setCell ?_ (by simp; try omega) _ | refine ext_alloc ?_ _ | refine ext_drew ?_ | refine ext_drewN ?_ _ | refine ext_trans ?_ (Aft.use _) | refine ext_trans ?_ (by assumption)))
  refine bodyPost_ret (v := .tuple #[ratV (decide (sgn neg ↑(X / X.gcd Y) < 0)) C n c D m d, .int .i64 0]) ?h rfl ⟨C, n, c, D, m, d, rfl, ⟨hZ.out.1.set3 n5 _ _ _, fun x hx => Nat.le_of_lt (by have := n5 x hx; omega), hZ.out.2.2.1.set3 n6 _ _ _, fun x hx => Nat.le_of_lt (by have := n6 x hx; omega)⟩, ext_set3 hEE (by omega) _ _ _⟩
  case h => simp [results, Tryz.results57, go_sem, q0, q1, q2]
end Go.Proofs.YtiapoflkeliljaaGreatDoor
end
section
/- The program's small numbers told. -/
namespace Go.Proofs.YtiapoflkeliljaaGreatDoor
open Go.RowKit
attribute [local go_sem] sz2 sz3 sz4 sz5 sz6 sz7 sz8
set_option maxHeartbeats 4000000
set_option maxRecDepth 100000
attribute [local irreducible] Calls
theorem nlow_small (v : Nat) (h0 : 0 < v) (hv : v < 4294967296) (A : Option Addr) (n c : Nat) (w : World) (hA : Rd w A n c (lim v)) :
    Calls Tryz.prog 131 #[natV A n c] w fun e w' => e = .returned (.tuple #[.int .u64 (v : Int), .bool true]) ∧ Ext w w' := by
  have hc : ∀ w', Ext w w' → Calls Tryz.prog 98 #[natV A n c] w' fun e w'' => e = .returned (.int .i64 0) ∧ Ext w' w'' := fun w' he => by
    have := ncheck_any A n c (lim v) w' (hA.ext he); rwa [chk_lim (by rw [lim_one h0 hv]; simp)] at this
  have HA := Lib.hid hA
  have hln : n = 1 := by have := hA.len; rw [lim_one h0 hv] at this; simpa using this.symm
  subst hln
  obtain ⟨bx, ox, hXe⟩ : ∃ b off, A = some ⟨b, off, none⟩ := by
    rcases HA.out.shape with ⟨_, h, _⟩ | h
    · omega
    · exact h
  subst hXe
  clear hA
  go_enter Tryz.func131, Tryz.ntmps131
  go_wp2_with (first
    | (go_at_call 98; (with_reducible refine (hc _ (ext_alloc (ext_refl _) _)).mono ?_); rintro e w1 ⟨rfl, xb1⟩; obtain ⟨xc1, xf1, xl1, xz1⟩ := ext_use xb1; (try simp at xz1); obtain ⟨l1_0, gc, gf⟩ := kp xb1 (w.heap.size) (by first | omega | (simp; try omega)); have r1_0 := gc 0; have f1_0 := gf 0; clear gc gf)
   )
  have hE1 := Lib.hid (ext_trans (ext_alloc (ext_refl w) _) xb1)
  go_loopw [4, 19] (fun vn vi wr => ∃ i : Nat, i ≤ 1 ∧ vi = .int .i64 (i : Int) ∧ vn = .int .u64 ((if i = 0 then 0 else v : Nat) : Int) ∧ Hid (Ext w wr)) (fun _ vi _ => 1 - (intOf vi).toNat)
  case atStart => exact ⟨0, by omega, rfl, rfl, hE1.out⟩
  case round =>
    obtain ⟨i, hi, rfl, rfl, hE⟩ := hrel
    by_cases h1 : i = 1
    · subst h1
      go_wp2
      refine bodyPost_ret (v := .tuple #[.int .u64 ↑v, .bool true]) ?h rfl ⟨rfl, hE.out⟩
      case h => simp [results, Tryz.results131, go_sem]
    · obtain rfl : i = 0 := by omega
      obtain ⟨x, hx, hxb, hcx⟩ := (HA.out.ext hE.out).get 0 (by omega)
      rw [lim_one h0 hv] at hx
      rw [Nat.add_zero] at hcx
      have hxv : x = v := hx.out.symm
      subst hxv
      have hor := bits_or64_0 x (by omega)
      have hor2 : bits BinOp.or IntKind.u64 0 (x : Int) = (x : Int) := by have := bits_or64 0 x (by decide) (by omega); rwa [Nat.zero_or] at this
      go_wp2
      case roundEnd => exact ⟨⟨1, by omega, rfl, by simp, hE.out⟩, by simp [intOf]⟩
end Go.Proofs.YtiapoflkeliljaaGreatDoor
end
section
/- Whole numbers of the library's: order, sums. -/
namespace Go.Proofs.YtiapoflkeliljaaGreatDoor
open Go.RowKit
attribute [local go_sem] sz2 sz3 sz4 sz5 sz6 sz7 sz8
set_option maxHeartbeats 4000000
set_option maxRecDepth 100000
attribute [local irreducible] Calls
theorem cmpN_sign (a b : Nat) : cmpN a b = ((a : Int) - b).sign := by
  unfold cmpN
  split
  · rw [Int.sign_eq_neg_one_of_neg (by omega)]
  · split
    · rw [Int.sign_eq_one_of_pos (by omega)]
    · rw [show (a : Int) - b = 0 by omega]; rfl
theorem bi_Cmp (b o g p : Nat) (x y : Int) (A : Option Addr) (n c : Nat) (B : Option Addr) (m d : Nat) (w : World) (hx : IntIs w b o x A n c) (hy : IntIs w g p y B m d) :
    Calls Tryz.prog 161 #[.pointer (some ⟨b, o, none⟩), .pointer (some ⟨g, p, none⟩)] w fun e w' => e = .returned (.int .i64 (x - y).sign) ∧ Ext w w' := by
  have HX := Lib.hid hx
  have HY := Lib.hid hy
  have lx := hx.room.lt
  have x0 := hx.neg
  have x1 := hx.words
  have ly := hy.room.lt
  have y0 := hy.neg
  have y1 := hy.words
  have kc : ∀ w', Ext w w' → Calls Tryz.prog 180 #[.slice A n c, .slice B m d] w' fun e w'' => e = .returned (.int .i64 (cmpN x.natAbs y.natAbs)) ∧ Ext w' w'' := fun w' he => bw_cmp A B n c m d _ _ w' (HX.out.rd.ext he) (HY.out.rd.ext he)
  clear hx hy HX HY
  by_cases hs : x < 0
  · rw [decide_eq_true hs] at x0
    by_cases ht : y < 0
    · rw [decide_eq_true ht] at y0
      have e1 : -(cmpN x.natAbs y.natAbs) = (x - y).sign := by
        rw [cmpN_sign, ← Int.sign_neg]; congr 1; omega
      have e2 : IntKind.i64.wrap (-(cmpN x.natAbs y.natAbs)) = (x - y).sign := by
        rw [e1]
        have : (x - y).sign = -1 ∨ (x - y).sign = 0 ∨ (x - y).sign = 1 := by
          rcases Int.lt_trichotomy (x - y) 0 with h | h | h
          · exact .inl (Int.sign_eq_neg_one_of_neg h)
          · rw [h]; exact .inr (.inl rfl)
          · exact .inr (.inr (Int.sign_eq_one_of_pos h))
        rcases this with h | h | h <;> rw [h] <;> decide
      generalize cmpN x.natAbs y.natAbs = C at kc e1 e2
      generalize (x - y).sign = R at e1 e2 ⊢
      clear hs ht e1
      go_enter Tryz.func161, Tryz.ntmps161
      go_wp2
      refine wp_aft (by kernel_rfl) (by kernel_rfl) (fun hq hqf => ?_)
      repeat (go_big_quiet_step (first | fail
        ))
      refine wpQuiet_nil ?_
      rintro _ ⟨nq, rfl⟩
      have xl := ext_lt nq.use
      have xz := ext_size nq.use
      try simp at xz
      have hE1 := Lib.hid nq.use
      have z0 := (Below.cell (p := ⟨b, o, none⟩) nq.use lx).trans x0
      have z1 := (Below.cell (p := ⟨b, o + 1, none⟩) nq.use lx).trans x1
      have z2 := (Below.cell (p := ⟨g, p + 1, none⟩) nq.use ly).trans y1
      go_wp2
      have lx2 := xl b lx
      have ly2 := xl g ly
      refine wp_aft (by kernel_rfl) (by kernel_rfl) (fun hq hqf => ?_)
      repeat (go_big_quiet_step (first
        | (go_at_call 180; exact aft_of (kc _ (ext_trans hE1.out (Aft.use _))))
        ))
      refine wpQuiet_nil ?_
      rintro _ ⟨nq, rfl⟩
      have xl := ext_lt nq.use
      have xz := ext_size nq.use
      try simp at xz
      go_wp2
      refine bodyPost_ret (v := .int .i64 R) ?h rfl ⟨rfl, ext_trans hE1.out nq.use⟩
      case h => simp [results, Tryz.results161, go_sem]
    · rw [decide_eq_false ht] at y0
      have e1 : (x - y).sign = -1 := Int.sign_eq_neg_one_of_neg (by omega)
      rw [e1]
      clear hs ht e1 kc
      go_enter Tryz.func161, Tryz.ntmps161
      go_wp2
      refine wp_aft (by kernel_rfl) (by kernel_rfl) (fun hq hqf => ?_)
      repeat (go_big_quiet_step (first | fail
        ))
      refine wpQuiet_nil ?_
      rintro _ ⟨nq, rfl⟩
      have xl := ext_lt nq.use
      have xz := ext_size nq.use
      try simp at xz
      have hE1 := Lib.hid nq.use
      have z0 := (Below.cell (p := ⟨b, o, none⟩) nq.use lx).trans x0
      go_wp2
      refine bodyPost_ret (v := .int .i64 (-1)) ?h rfl ⟨rfl, hE1.out⟩
      case h => simp [results, Tryz.results161, go_sem]
  · rw [decide_eq_false hs] at x0
    by_cases ht : y < 0
    · rw [decide_eq_true ht] at y0
      have e1 : (x - y).sign = 1 := Int.sign_eq_one_of_pos (by omega)
      rw [e1]
      clear hs ht e1 kc
      go_enter Tryz.func161, Tryz.ntmps161
      go_wp2
      refine wp_aft (by kernel_rfl) (by kernel_rfl) (fun hq hqf => ?_)
      repeat (go_big_quiet_step (first | fail
        ))
      refine wpQuiet_nil ?_
      rintro _ ⟨nq, rfl⟩
      have xl := ext_lt nq.use
      have xz := ext_size nq.use
      try simp at xz
      have hE1 := Lib.hid nq.use
      have z0 := (Below.cell (p := ⟨b, o, none⟩) nq.use lx).trans x0
      go_wp2
      refine bodyPost_ret (v := .int .i64 1) ?h rfl ⟨rfl, hE1.out⟩
      case h => simp [results, Tryz.results161, go_sem]
    · rw [decide_eq_false ht] at y0
      have e1 : cmpN x.natAbs y.natAbs = (x - y).sign := by
        rw [cmpN_sign]; congr 1; omega
      generalize cmpN x.natAbs y.natAbs = C at kc e1
      generalize (x - y).sign = R at e1 ⊢
      subst e1
      clear hs ht
      go_enter Tryz.func161, Tryz.ntmps161
      go_wp2
      refine wp_aft (by kernel_rfl) (by kernel_rfl) (fun hq hqf => ?_)
      repeat (go_big_quiet_step (first | fail
        ))
      refine wpQuiet_nil ?_
      rintro _ ⟨nq, rfl⟩
      have xl := ext_lt nq.use
      have xz := ext_size nq.use
      try simp at xz
      have hE1 := Lib.hid nq.use
      have z0 := (Below.cell (p := ⟨b, o, none⟩) nq.use lx).trans x0
      have z1 := (Below.cell (p := ⟨b, o + 1, none⟩) nq.use lx).trans x1
      have z2 := (Below.cell (p := ⟨g, p + 1, none⟩) nq.use ly).trans y1
      go_wp2
      have lx2 := xl b lx
      have ly2 := xl g ly
      refine wp_aft (by kernel_rfl) (by kernel_rfl) (fun hq hqf => ?_)
      repeat (go_big_quiet_step (first
        | (go_at_call 180; exact aft_of (kc _ (ext_trans hE1.out (Aft.use _))))
        ))
      refine wpQuiet_nil ?_
      rintro _ ⟨nq, rfl⟩
      have xl := ext_lt nq.use
      have xz := ext_size nq.use
      try simp at xz
      go_wp2
      refine bodyPost_ret (v := .int .i64 C) ?h rfl ⟨rfl, ext_trans hE1.out nq.use⟩
      case h => simp [results, Tryz.results161, go_sem]
end Go.Proofs.YtiapoflkeliljaaGreatDoor
end
section
/- Whole numbers of the library's: sums. -/
namespace Go.Proofs.YtiapoflkeliljaaGreatDoor
open Go.RowKit
attribute [local go_sem] sz2 sz3 sz4 sz5 sz6 sz7 sz8
set_option maxHeartbeats 4000000
set_option maxRecDepth 100000
attribute [local irreducible] Calls
end Go.Proofs.YtiapoflkeliljaaGreatDoor
end
section
/- Fractions in their lowest terms, plainly. -/
namespace Go.Proofs.YtiapoflkeliljaaGreatDoor
/-- Of two that are the same, the one in lowest terms. -/
theorem low_uniq {a d A D : Nat} (hd : d ≠ 0) (hD : D ≠ 0) (hg : Nat.gcd a d = 1) (hx : a * D = A * d) : a = A / Nat.gcd A D ∧ d = D / Nat.gcd A D := by
  have hG : 0 < Nat.gcd A D := Nat.pos_of_ne_zero (fun h => hD (Nat.eq_zero_of_gcd_eq_zero_right h))
  obtain ⟨u, hu⟩ := Nat.gcd_dvd_left A D
  obtain ⟨v, hv⟩ := Nat.gcd_dvd_right A D
  have hc : Nat.gcd (A / Nat.gcd A D) (D / Nat.gcd A D) = 1 := Nat.coprime_div_gcd_div_gcd hG
  have e1 : A / Nat.gcd A D = u := Nat.div_eq_of_eq_mul_right hG hu
  have e2 : D / Nat.gcd A D = v := Nat.div_eq_of_eq_mul_right hG hv
  rw [e1, e2] at hc ⊢
  have hx' : a * v = u * d := by
    refine Nat.eq_of_mul_eq_mul_left hG ?_
    calc Nat.gcd A D * (a * v) = a * (Nat.gcd A D * v) := by grind
      _ = a * D := by rw [← hv]
      _ = A * d := hx
      _ = (Nat.gcd A D * u) * d := by rw [← hu]
      _ = Nat.gcd A D * (u * d) := by grind
  have d1 : a ∣ u := Nat.Coprime.dvd_of_dvd_mul_right (show Nat.Coprime a d from hg) ⟨v, hx'.symm⟩
  have d2 : u ∣ a := Nat.Coprime.dvd_of_dvd_mul_right (show Nat.Coprime u v from hc) ⟨d, hx'⟩
  have e3 : a = u := Nat.dvd_antisymm d1 d2
  refine ⟨e3, ?_⟩
  have d3 : d ∣ v := Nat.Coprime.dvd_of_dvd_mul_left (show Nat.Coprime d a by rw [Nat.coprime_comm]; exact hg) ⟨u, by rw [hx']; exact Nat.mul_comm _ _⟩
  have d4 : v ∣ d := Nat.Coprime.dvd_of_dvd_mul_left (show Nat.Coprime v u by rw [Nat.coprime_comm]; exact hc) ⟨a, by rw [← hx']; exact Nat.mul_comm _ _⟩
  exact Nat.dvd_antisymm d3 d4
/-- Above the line and below it, in lowest terms. -/
def canN (z : Int) (d : Nat) : Int := sgn (decide (z < 0)) (z.natAbs / Nat.gcd z.natAbs d : Nat)
def canD (z : Int) (d : Nat) : Nat := d / Nat.gcd z.natAbs d
theorem can_uniq {z : Int} {d : Nat} {Z : Int} {D : Nat} (hd : d ≠ 0) (hD : D ≠ 0) (hg : Nat.gcd z.natAbs d = 1) (hx : z * (D : Int) = Z * (d : Int)) : z = canN Z D ∧ d = canD Z D := by
  have ha : z.natAbs * D = Z.natAbs * d := by
    have := congrArg Int.natAbs hx
    rwa [Int.natAbs_mul, Int.natAbs_mul, Int.natAbs_natCast, Int.natAbs_natCast] at this
  have h := low_uniq hd hD hg ha
  have hs : decide (z < 0) = decide (Z < 0) := by
    have hd' : (0 : Int) < d := by omega
    have hD' : (0 : Int) < D := by omega
    by_cases h1 : z < 0
    · have : Z * (d : Int) < 0 := by rw [← hx]; exact Int.mul_neg_of_neg_of_pos h1 hD'
      have h2 : Z < 0 := by
        rcases Int.lt_or_le Z 0 with h | h
        · exact h
        · have := Int.mul_nonneg h (Int.le_of_lt hd'); omega
      rw [decide_eq_true h1, decide_eq_true h2]
    · have h3 : 0 ≤ z * (D : Int) := Int.mul_nonneg (by omega) (Int.le_of_lt hD')
      have h2 : ¬ Z < 0 := by
        intro h
        have := Int.mul_neg_of_neg_of_pos h hd'; omega
      rw [decide_eq_false h1, decide_eq_false h2]
  refine ⟨?_, h.2⟩
  unfold canN
  rw [← hs, ← h.1, sgn_self]
theorem canD_pos {z : Int} {d : Nat} (hd : d ≠ 0) : canD z d ≠ 0 := by
  unfold canD
  have := Nat.div_pos (Nat.le_of_dvd (Nat.pos_of_ne_zero hd) (Nat.gcd_dvd_right z.natAbs d)) (Nat.gcd_pos_of_pos_right z.natAbs (Nat.pos_of_ne_zero hd))
  omega
theorem can_gcd {z : Int} {d : Nat} (hd : d ≠ 0) : Nat.gcd (canN z d).natAbs (canD z d) = 1 := by
  unfold canN canD
  rw [sgn_abs]
  exact Nat.coprime_div_gcd_div_gcd (Nat.gcd_pos_of_pos_right z.natAbs (Nat.pos_of_ne_zero hd))
theorem can_worth {z : Int} {d : Nat} (hd : d ≠ 0) : canN z d * (d : Int) = z * (canD z d : Int) := by
  obtain ⟨u, hu⟩ := Nat.gcd_dvd_left z.natAbs d
  obtain ⟨v, hv⟩ := Nat.gcd_dvd_right z.natAbs d
  have hG : 0 < Nat.gcd z.natAbs d := Nat.gcd_pos_of_pos_right z.natAbs (Nat.pos_of_ne_zero hd)
  have e1 : z.natAbs / Nat.gcd z.natAbs d = u := Nat.div_eq_of_eq_mul_right hG hu
  have e2 : d / Nat.gcd z.natAbs d = v := Nat.div_eq_of_eq_mul_right hG hv
  have hz := sgn_self z
  have key : u * d = z.natAbs * v := by
    calc u * d = u * (Nat.gcd z.natAbs d * v) := by rw [← hv]
      _ = (Nat.gcd z.natAbs d * u) * v := by grind
      _ = z.natAbs * v := by rw [← hu]
  unfold canN canD
  rw [e1, e2]
  have kz : ((u * d : Nat) : Int) = ((z.natAbs * v : Nat) : Int) := congrArg _ key
  rw [Int.natCast_mul, Int.natCast_mul] at kz
  have hs : ∀ s : Bool, sgn s u * (d : Int) = sgn s z.natAbs * (v : Int) := fun s => by
    cases s
    · exact kz
    · show -(u : Int) * d = -(z.natAbs : Int) * v
      rw [Int.neg_mul, Int.neg_mul, kz]
  rw [hs, hz]
theorem canN_zero (d : Nat) : canN 0 d = 0 := by unfold canN; rw [Int.natAbs_zero, Nat.zero_div]; rfl
end Go.Proofs.YtiapoflkeliljaaGreatDoor
end
section
/- The program's numbers: bits, shifts down. -/
namespace Go.Proofs.YtiapoflkeliljaaGreatDoor
open Go.RowKit
attribute [local go_sem] sz2 sz3 sz4 sz5 sz6 sz7 sz8
set_option maxHeartbeats 4000000
set_option maxRecDepth 100000
attribute [local irreducible] Calls
theorem lower_step {xs os : List Nat} {j s x V O : Nat} (hs : s < 32) (hj : 0 < j) (hjn : j ≤ xs.length) (hl : os.length = xs.length) (hb : Lb xs) (hV : val (xs.drop j) = V) (hO : val (os.drop j) = O) (hOV : O = V / 2 ^ s) (hx : xs.getD (j - 1) 0 = x) :
    val ((os.set (j - 1) ((V % Bs * 4294967296 + x) / 2 ^ s % 4294967296)).drop (j - 1)) = val (xs.drop (j - 1)) / 2 ^ s ∧ x = val (xs.drop (j - 1)) % Bs := by
  have h1 : j - 1 < xs.length := by omega
  have e1 : xs.drop (j - 1) = x :: xs.drop j := by
    rw [List.drop_eq_getElem_cons h1, show j - 1 + 1 = j by omega]
    rw [List.getD_eq_getElem?_getD, List.getElem?_eq_getElem h1] at hx
    congr 1
  have h2 : j - 1 < (os.set (j - 1) ((V % Bs * 4294967296 + x) / 2 ^ s % 4294967296)).length := by rw [List.length_set]; omega
  have e2 : (os.set (j - 1) ((V % Bs * 4294967296 + x) / 2 ^ s % 4294967296)).drop (j - 1) = (V % Bs * 4294967296 + x) / 2 ^ s % 4294967296 :: os.drop j := by
    rw [List.drop_eq_getElem_cons h2, show j - 1 + 1 = j by omega, List.getElem_set_self, List.drop_set_of_lt (by omega)]
  have hxb : x < Bs := by
    have := lb_getD hb (j - 1); rw [hx] at this; exact this
  rw [e1, e2]
  simp only [val]
  rw [hV, hO]
  have q1 : (x + Bs * V) / Bs = V := by rw [Nat.add_mul_div_left _ _ (by decide), Nat.div_eq_of_lt hxb, Nat.zero_add]
  have q2 : (x + Bs * V) % Bs = x := by rw [Nat.add_mul_mod_self_left, Nat.mod_eq_of_lt hxb]
  have q3 := div_limb (D := x + Bs * V) (T := V % Bs * 4294967296 + x) hs (by rw [q1, q2])
  refine ⟨?_, q2.symm⟩
  rw [q3, hOV]
  have q4 : V / 2 ^ s = (x + Bs * V) / 2 ^ s / Bs := by rw [Nat.div_div_eq_div_mul, Nat.mul_comm (2 ^ s), ← Nat.div_div_eq_div_mul, q1]
  rw [q4]
  exact Nat.mod_add_div _ _
theorem lowered_any (A : Option Addr) (n c : Nat) (xs : List Nat) (s : Nat) (hs : s < 32) (hn : n ≤ 1000000) (w : World) (hA : Rd w A n c xs) :
    Calls Tryz.prog 265 #[.slice A n c, .int .i64 (s : Int)] w fun e w' => ∃ (A' : Option Addr) (os : List Nat), e = .returned (.slice A' n n) ∧ Hid (Rd w' A' n n os ∧ val os = val xs / 2 ^ s ∧ Fr w A') ∧ Ext w w' := by
  have hmx := hA.mx
  have hcx := hA.cap
  have HA := Lib.hid hA
  have hlx := Lib.hid hA.len
  clear hA
  go_enter Tryz.func265, Tryz.ntmps265
  go_wp2_with (first
    | (at_make; refine make_u32 rfl _ _ rfl _ _ _ _ n rfl rfl rfl rfl (by omega) ?_; intro w1 hx1 ho1; have hext1 := Lib.hid hx1; clear hx1)
    | go_in)
  have hfr : w.heap.size < w1.heap.size := (ho1.out.lt w.heap.size rfl).2
  go_loopw [6, 7] (fun vr vi wr => ∃ (j V : Nat) (os : List Nat), j ≤ n ∧ vi = .int .i64 ((j : Int) - 1) ∧ vr = .int .u64 ((V % Bs : Nat) : Int) ∧ Hid (os.length = n ∧ Lb os ∧ val (xs.drop j) = V ∧ val (os.drop j) = V / 2 ^ s) ∧
      Hid (wr.ownsRow w.heap.size 54 1 (.slice (some ⟨w.heap.size, 0, none⟩) n n) n (os.map u32V)) ∧ Hid (Ext w wr))
    (fun _ vi _ => (intOf vi + 1).toNat)
  case atStart => exact ⟨n, 0, List.replicate n 0, Nat.le_refl _, by go_num, rfl, ⟨by simp, lb_replicate n, by rw [List.drop_eq_nil_of_le (by rw [hlx.out]; exact Nat.le_refl _)]; rfl, by rw [List.drop_eq_nil_of_le (by simp)]; simp [val]⟩, ho1.out, hext1.out⟩
  case round =>
    obtain ⟨j, V, os, hj, rfl, rfl, hos, hown, hext⟩ := hrel
    by_cases h0 : 0 < j
    · obtain ⟨b, off, hAe⟩ : ∃ b off, A = some ⟨b, off, none⟩ := by
        rcases HA.out.shape with ⟨_, h, _⟩ | h
        · omega
        · exact h
      subst hAe
      obtain ⟨x, hx, hxb, hcell⟩ := (HA.out.ext hext.out).get (j - 1) (by omega)
      obtain ⟨hc1, hf1⟩ := own_at hown.out (j - 1) (by omega)
      have hst := Lib.hid (lower_step (O := V / 2 ^ s) hs h0 (by rw [hlx.out]; omega) (by rw [hos.out.1, hlx.out]) HA.out.lb hos.out.2.2.1 hos.out.2.2.2 rfl hx.out)
      have hVb : V % Bs < 4294967296 := Nat.mod_lt _ (by decide)
      have O1 := or_shift (V % Bs) x hVb hxb
      generalize V % Bs = ab at hst hVb O1 ⊢
      go_wp2
      case roundEnd =>
        refine ⟨⟨j - 1, val (xs.drop (j - 1)), os.set (j - 1) ((ab * 4294967296 + x) / 2 ^ s % 4294967296), by omega, ?_, ?_, ⟨by rw [List.length_set]; exact hos.out.1, lb_set hos.out.2.1 _ (Nat.mod_lt _ (by decide)), rfl, hst.out.1⟩, ?_, ?_⟩, ?_⟩
        · simp; omega
        · rw [← hst.out.2]
        · have e : ((ab : Int) * 4294967296 + (x : Int)) / 2 ^ s % 4294967296 = (((ab * 4294967296 + x) / 2 ^ s % 4294967296 : Nat) : Int) := by simp
          rw [e]
          exact own_set hown.out _ _
        · exact ext_setCell hext.out (Nat.le_refl _) _
        · simp [intOf]; omega
    · obtain rfl : j = 0 := by omega
      obtain ⟨A', c', he, hR⟩ := Rd.own hown.out hos.out.2.1
      cases he
      have hv := hos.out.2.2
      simp only [List.drop_zero] at hv
      have HX := Lib.hid (show Rd wr (some ⟨w.heap.size, 0, none⟩) n n os ∧ val os = val xs / 2 ^ s ∧ Fr w (some ⟨w.heap.size, 0, none⟩) from ⟨hR, by rw [hv.2, hv.1], fun q hq => by cases hq; exact Nat.le_refl _⟩)
      clear hR hv h0 hj
      go_wp2
      refine bodyPost_ret (v := .slice (some ⟨w.heap.size, 0, none⟩) n n) ?h rfl ⟨_, os, rfl, HX, hext.out⟩
      case h => simp [results, Tryz.results265, go_sem]
theorem and_one32 (r : Nat) (hr : r < 4294967296) : bits BinOp.and IntKind.u32 (r : Int) 1 = ((r % 2 : Nat) : Int) := by
  have h1 : (BitVec.ofInt 32 (r : Int)).toNat = r := by rw [BitVec.ofInt_natCast, BitVec.toNat_ofNat]; exact Nat.mod_eq_of_lt (by omega)
  have h2 : (BitVec.ofInt 32 1).toNat = 1 := by decide
  show IntKind.u32.wrap ((BitVec.ofInt 32 (r : Int) &&& BitVec.ofInt 32 1).toNat : Int) = _
  rw [BitVec.toNat_and, h1, h2, Nat.and_one_is_mod, IntKind.wrap_u32]
  omega
theorem bit_limb {D s x : Nat} (hs : s < 32) (hx : x = D % Bs) : x / 2 ^ s % 2 = D / 2 ^ s % 2 := by
  have h1 := Nat.mod_add_div D Bs
  rw [← hx] at h1
  have h2 : Bs = 2 ^ s * (2 * 2 ^ (31 - s)) := by
    rw [← Nat.pow_succ', ← Nat.pow_add, show s + (31 - s + 1) = 32 by omega]
  have h3 : D / 2 ^ s = x / 2 ^ s + (2 * 2 ^ (31 - s)) * (D / Bs) := by
    conv => lhs; rw [← h1, h2]
    rw [Nat.mul_assoc, Nat.add_mul_div_left _ _ (Nat.two_pow_pos s), ← h2]
  rw [h3, Nat.mul_assoc, Nat.add_mul_mod_self_left]
theorem nbit_any (A : Option Addr) (n c v i : Nat) (hi : i ≤ 1000000) (hl : n ≤ 16384) (w : World) (hA : Rd w A n c (lim v)) :
    Calls Tryz.prog 206 #[natV A n c, .int .i64 (i : Int)] w fun e w' => e = .returned (.tuple #[.bool (decide (v / 2 ^ i % 2 = 1)), .int .i64 0]) ∧ Ext w w' := by
  have hla := hA.len
  have chA : ∀ w', Ext w w' → Calls Tryz.prog 98 #[natV A n c] w' fun e w'' => e = .returned (.int .i64 0) ∧ Ext w' w'' := fun w' he => by
    have := ncheck_any A n c (lim v) w' (hA.ext he); rwa [chk_lim (by omega)] at this
  have HA := Lib.hid hA
  clear hA
  obtain ⟨k, hk⟩ : ∃ k, k = i / 32 := ⟨_, rfl⟩
  obtain ⟨s, hs⟩ : ∃ s, s = i % 32 := ⟨_, rfl⟩
  have hs32 : s < 32 := by omega
  have hkz : i = 32 * k + s := by omega
  have e1 : (i : Int) / 32 = (k : Int) := by omega
  have e2 : (i : Int) % 32 = (s : Int) := by omega
  have e3 : v / 2 ^ i = v / Bs ^ k / 2 ^ s := by
    rw [hkz, Nat.pow_add, Nat.pow_mul, Nat.div_div_eq_div_mul]
  rw [e3]
  have hk6 : k ≤ 1000000 := by omega
  clear hk hs hkz e3
  by_cases h0 : k < n
  · obtain ⟨b, off, hAe⟩ : ∃ b off, A = some ⟨b, off, none⟩ := by
      rcases HA.out.shape with ⟨_, h, _⟩ | h
      · omega
      · exact h
    subst hAe
    obtain ⟨x, hx, hxb, hcell⟩ := HA.out.get k h0
    have hbl : b < w.heap.size := (HA.out.cells b off rfl k (by omega)).1
    have e4 := bit_limb (D := v / Bs ^ k) (x := x) hs32 (by rw [← hx.out]; exact limb_at _ _)
    rw [← e4]
    have hq : x / 2 ^ s < 4294967296 := Nat.lt_of_le_of_lt (Nat.div_le_self _ _) hxb
    have O1 := and_one32 (x / 2 ^ s) hq
    clear e4
    have e5 : ((x / 2 ^ s : Nat) : Int) = (x : Int) / 2 ^ s := by simp
    rw [e5] at O1
    have HX := Lib.hid hx.out
    clear hx e5
    have hdd : (((x / 2 ^ s % 2 : Nat) : Int) == 1) = decide (x / 2 ^ s % 2 = 1) := by rw [Bool.eq_iff_iff, beq_iff_eq, decide_eq_true_iff]; omega
    generalize x / 2 ^ s % 2 = y at *
    have hcw : ∀ w', Ext w w' → w'.cell? ⟨b, off + k, none⟩ = some (.int .u32 (x : Int)) := fun w' he => (Below.cell (p := ⟨b, off + k, none⟩) he hbl).trans hcell
    go_enter Tryz.func206, Tryz.ntmps206
    go_upto_region 6 with (first
      | (go_at_call 98; (with_reducible refine (chA _ (by (repeat (first | exact ext_refl _ | assumption | refine ext_setCell ?_ (by simp; try omega) _ | refine ext_alloc ?_ _ | refine ext_drew ?_ | refine ext_drewN ?_ _ | refine ext_trans ?_ (Aft.use _) | refine ext_trans ?_ (by assumption))))).mono ?_); rintro e w1 ⟨rfl, xb1⟩; obtain ⟨xc1, xf1, xl1, xz1⟩ := ext_use xb1; (try simp at xz1); obtain ⟨l1_0, gc, gf⟩ := kp xb1 (w.heap.size) (by first | omega | (simp; try omega)); have r1_0 := gc 0; have f1_0 := gf 0; clear gc gf)
     )
    have hcx := hcw w1 (by (repeat (first | exact ext_refl _ | assumption | refine ext_setCell ?_ (by simp; try omega) _ | refine ext_alloc ?_ _ | refine ext_drew ?_ | refine ext_drewN ?_ _ | refine ext_trans ?_ (Aft.use _) | refine ext_trans ?_ (by assumption))))
    go_wp2
    refine bodyPost_ret (v := .tuple #[.bool (decide (y = 1)), .int .i64 0]) ?h rfl ⟨rfl, ?_⟩
    case h => simp [results, Tryz.results206, go_sem, hdd]
    repeat (first | exact ext_refl _ | assumption | refine ext_setCell ?_ (by simp; try omega) _ | refine ext_alloc ?_ _ | refine ext_drew ?_ | refine ext_drewN ?_ _ | refine ext_trans ?_ (Aft.use _) | refine ext_trans ?_ (by assumption))
  · have h2 : v / Bs ^ k / 2 ^ s % 2 = 0 := by
      rw [Nat.div_eq_of_lt (Nat.lt_of_lt_of_le (lim_lt v) (Nat.pow_le_pow_right (by decide) (by omega))), Nat.zero_div]
    rw [h2]
    clear h2
    go_enter Tryz.func206, Tryz.ntmps206
    go_wp2_with (first
      | (go_at_call 98; (with_reducible refine (chA _ (by (repeat (first | exact ext_refl _ | assumption | refine ext_setCell ?_ (by simp; try omega) _ | refine ext_alloc ?_ _ | refine ext_drew ?_ | refine ext_drewN ?_ _ | refine ext_trans ?_ (Aft.use _) | refine ext_trans ?_ (by assumption))))).mono ?_); rintro e w1 ⟨rfl, xb1⟩; obtain ⟨xc1, xf1, xl1, xz1⟩ := ext_use xb1; (try simp at xz1); obtain ⟨l1_0, gc, gf⟩ := kp xb1 (w.heap.size) (by first | omega | (simp; try omega)); have r1_0 := gc 0; have f1_0 := gf 0; clear gc gf)
     )
    refine bodyPost_ret (v := .tuple #[.bool false, .int .i64 0]) ?h rfl ⟨rfl, ?_⟩
    case h => simp [results, Tryz.results206, go_sem]
    repeat (first | exact ext_refl _ | assumption | refine ext_setCell ?_ (by simp; try omega) _ | refine ext_alloc ?_ _ | refine ext_drew ?_ | refine ext_drewN ?_ _ | refine ext_trans ?_ (Aft.use _) | refine ext_trans ?_ (by assumption))
theorem ndown_any (A : Option Addr) (n c v i : Nat) (hi : i ≤ 1000000) (hl : n ≤ 16384) (hv : v / 2 ^ i ≠ 0) (w : World) (hA : Rd w A n c (lim v)) :
    Calls Tryz.prog 207 #[natV A n c, .int .i64 (i : Int)] w (NatPost0 w (v / 2 ^ i)) := by
  have hla := hA.len
  have hmx := hA.mx
  have hcx := hA.cap
  have chA : ∀ w', Ext w w' → Calls Tryz.prog 98 #[natV A n c] w' fun e w'' => e = .returned (.int .i64 0) ∧ Ext w' w'' := fun w' he => by
    have := ncheck_any A n c (lim v) w' (hA.ext he); rwa [chk_lim (by omega)] at this
  obtain ⟨k, hk⟩ : ∃ k, k = i / 32 := ⟨_, rfl⟩
  obtain ⟨s, hs⟩ : ∃ s, s = i % 32 := ⟨_, rfl⟩
  have hs32 : s < 32 := by omega
  have hkz : i = 32 * k + s := by omega
  have e1 : (i : Int) / 32 = (k : Int) := by omega
  have e2 : (i : Int) % 32 = (s : Int) := by omega
  have e3 : v / 2 ^ i = v / Bs ^ k / 2 ^ s := by
    rw [hkz, Nat.pow_add, Nat.pow_mul, Nat.div_div_eq_div_mul]
  have hkn : k < n := by
    rcases Nat.lt_or_ge k n with h | h
    · exact h
    · exfalso; apply hv
      rw [e3, Nat.div_eq_of_lt (Nat.lt_of_lt_of_le (lim_lt v) (Nat.pow_le_pow_right (by decide) (by omega))), Nat.zero_div]
  have kL : ∀ A' m c' w', Ext w w' → m ≤ 1000000 → Rd w' A' m c' ((lim v).drop k) → Calls Tryz.prog 265 #[.slice A' m c', .int .i64 (s : Int)] w' fun e w'' => ∃ (B : Option Addr) (os : List Nat), e = .returned (.slice B m m) ∧ Hid (Rd w'' B m m os ∧ val os = v / 2 ^ i ∧ Fr w' B) ∧ Ext w' w'' := fun A' m c' w' _ hm hR => by
    have := lowered_any A' m c' _ s hs32 hm w' hR
    rw [show val ((lim v).drop k) = v / Bs ^ k by rw [lim_drop, val_lim], ← e3] at this
    exact this
  have HA := Lib.hid hA
  obtain ⟨b, off, hAe⟩ : ∃ b off, A = some ⟨b, off, none⟩ := by
    rcases HA.out.shape with ⟨_, h, _⟩ | h
    · omega
    · exact h
  subst hAe
  clear hA hk hs hkz e3 hv
  generalize v / 2 ^ i = V at *
  have hnk : n - k ≤ 1000000 := by omega
  have hkn' : k ≤ n := Nat.le_of_lt hkn
  go_enter Tryz.func207, Tryz.ntmps207
  go_wp2_with (first
    | (go_at_call 98; (with_reducible refine (chA _ (by (repeat (first | exact ext_refl _ | assumption | refine ext_setCell ?_ (by simp; try omega) _ | refine ext_alloc ?_ _ | refine ext_drew ?_ | refine ext_drewN ?_ _ | refine ext_trans ?_ (Aft.use _) | refine ext_trans ?_ (by assumption))))).mono ?_); rintro e w1 ⟨rfl, xb1⟩; obtain ⟨xc1, xf1, xl1, xz1⟩ := ext_use xb1; (try simp at xz1); obtain ⟨l1_0, gc, gf⟩ := kp xb1 (w.heap.size) (by first | omega | (simp; try omega)); have r1_0 := gc 0; have f1_0 := gf 0; clear gc gf; obtain ⟨l1_1, gc, gf⟩ := kp xb1 (w.heap.size + 1) (by first | omega | (simp; try omega)); have r1_1 := gc 0; have f1_1 := gf 0; clear gc gf)
    | (go_at_call 265; (with_reducible refine (kL _ _ _ _ (by (repeat (first | exact ext_refl _ | assumption | refine ext_setCell ?_ (by simp; try omega) _ | refine ext_alloc ?_ _ | refine ext_drew ?_ | refine ext_drewN ?_ _ | refine ext_trans ?_ (Aft.use _) | refine ext_trans ?_ (by assumption)))) hnk ((HA.out.ext (by (repeat (first | exact ext_refl _ | assumption | refine ext_setCell ?_ (by simp; try omega) _ | refine ext_alloc ?_ _ | refine ext_drew ?_ | refine ext_drewN ?_ _ | refine ext_trans ?_ (Aft.use _) | refine ext_trans ?_ (by assumption))))).drop hkn')).mono ?_); rintro e w2 ⟨B, os, rfl, hR2, xb2⟩; obtain ⟨xc2, xf2, xl2, xz2⟩ := ext_use xb2; (try simp at xz2); obtain ⟨l2_0, gc, gf⟩ := kp xb2 (w.heap.size + 1) (by first | omega | (simp; try omega)); have r2_0 := gc 0; have f2_0 := gf 0; clear gc gf)
    | (go_at_call 205; (with_reducible refine (trimmed_any B _ _ os _ hR2.out.1).mono ?_); rintro e w3 ⟨D, m, rfl, hR3, xb3⟩; obtain ⟨xc3, xf3, xl3, xz3⟩ := ext_use xb3; (try simp at xz3); obtain ⟨l3_0, gc, gf⟩ := kp xb3 (w.heap.size + 1) (by first | omega | (simp; try omega)); have r3_0 := gc 0; have f3_0 := gf 0; clear gc gf)
  )
  have hF : ∀ x, D = some x → w.heap.size + 1 < x.block := fun x hx => by have := hR2.out.2.2 x (hR3.out.2 x hx); have := ext_size xb1; simp at *; omega
  have hRv : Rd w3 D m m (lim V) := by have := hR3.out.1 w3 (hR2.out.1.ext xb3); rwa [hR2.out.2.1] at this
  have hEE : Ext w w3 := by (repeat (first | exact ext_refl _ | assumption | refine ext_setCell ?_ (by simp; try omega) _ | refine ext_alloc ?_ _ | refine ext_drew ?_ | refine ext_drewN ?_ _ | refine ext_trans ?_ (Aft.use _) | refine ext_trans ?_ (by assumption)))
  have z0 : w3.cell? ⟨w.heap.size + 1, 0, none⟩ = some (.slice none 0 0) := by simp [go_sem, *]
  have q0 : (w3.setCell ⟨w.heap.size + 1, 0, none⟩ (.slice D m m)).cell? ⟨w.heap.size + 1, 0, none⟩ = some (.slice D m m) := World.cell?_setCell_same _ _ _ z0
  refine bodyPost_ret (v := .tuple #[natV D m m, .int .i64 0]) ?h rfl ⟨D, m, rfl, ⟨hRv.set _ (fun x hx => hF x hx), fun x hx => Nat.le_of_lt (by have := hF x hx; omega)⟩, ext_setCell hEE (by simp) _⟩
  case h => simp [results, Tryz.results207, go_sem, q0]
end Go.Proofs.YtiapoflkeliljaaGreatDoor
end
section
/- The program's decimals: what a number has of twos and fives. -/
namespace Go.Proofs.YtiapoflkeliljaaGreatDoor
open Go.RowKit
attribute [local go_sem] sz2 sz3 sz4 sz5 sz6 sz7 sz8
set_option maxHeartbeats 4000000
set_option maxRecDepth 100000
attribute [local irreducible] Calls
theorem bit_below {v t i : Nat} (h : 2 ^ t ∣ v) (hi : i < t) : v / 2 ^ i % 2 = 0 := by
  obtain ⟨q, rfl⟩ := h
  obtain ⟨d, rfl⟩ : ∃ d, t = i + (d + 1) := ⟨t - i - 1, by omega⟩
  rw [Nat.pow_add, Nat.mul_assoc, Nat.mul_div_cancel_left _ (Nat.two_pow_pos i), Nat.pow_succ, Nat.mul_comm (2 ^ d) 2, Nat.mul_assoc]
  exact Nat.mul_mod_right 2 _
theorem twos_lt {v t n : Nat} (h0 : v ≠ 0) (h : 2 ^ t ∣ v) (hl : (lim v).length ≤ n) : t < 32 * n := by
  have h1 := Nat.le_of_dvd (Nat.pos_of_ne_zero h0) h
  have h2 : v < 2 ^ (32 * n) := by
    rw [Nat.pow_mul]
    exact Nat.lt_of_lt_of_le (lim_lt v) (Nat.pow_le_pow_right (by decide) hl)
  exact (Nat.pow_lt_pow_iff_right (by decide)).1 (Nat.lt_of_le_of_lt h1 h2)
theorem twos_any (A : Option Addr) (n c v t : Nat) (h0 : v ≠ 0) (ht : 2 ^ t ∣ v) (ht1 : v / 2 ^ t % 2 = 1) (hl : n ≤ 16384) (w : World) (hA : Rd w A n c (lim v)) :
    Calls Tryz.prog 137 #[natV A n c] w fun e w' => ∃ (A' : Option Addr) (k : Nat), e = .returned (.tuple #[.int .i64 (t : Int), natV A' k k]) ∧ Hid (Rd w' A' k k (lim (v / 2 ^ t)) ∧ Fr w A') ∧ Ext w w' := by
  have htl := twos_lt h0 ht (Nat.le_of_eq hA.len)
  have kB0 : ∀ i w', i < t → Ext w w' → Calls Tryz.prog 206 #[natV A n c, .int .i64 (i : Int)] w' fun e w'' => e = .returned (.tuple #[.bool false, .int .i64 0]) ∧ Ext w' w'' := fun i w' hi he => by
    have := nbit_any A n c v i (by omega) hl w' (hA.ext he)
    rwa [bit_below ht hi] at this
  have kB1 : ∀ w', Ext w w' → Calls Tryz.prog 206 #[natV A n c, .int .i64 (t : Int)] w' fun e w'' => e = .returned (.tuple #[.bool true, .int .i64 0]) ∧ Ext w' w'' := fun w' he => by
    have := nbit_any A n c v t (by omega) hl w' (hA.ext he)
    rwa [ht1] at this
  have kD : ∀ w', Ext w w' → Calls Tryz.prog 207 #[natV A n c, .int .i64 (t : Int)] w' (NatPost0 w' (v / 2 ^ t)) := fun w' he => ndown_any A n c v t (by omega) hl (by intro h; rw [h] at ht1; exact absurd ht1 (by decide)) w' (hA.ext he)
  clear hA ht ht1 h0
  generalize v / 2 ^ t = V at *
  have ht6 : t ≤ 1000000 := by omega
  clear htl
  go_enter Tryz.func137, Tryz.ntmps137
  go_wp2
  go_loopw [4] (fun vi wr => ∃ i : Nat, i ≤ t ∧ vi = .int .i64 (i : Int) ∧ Hid (Ext w wr) ∧ (w.heap.size + 1 < wr.heap.size ∧ wr.cell? ⟨w.heap.size, 0, none⟩ = some (.slice A n c) ∧ wr.cell? ⟨w.heap.size + 1, 0, none⟩ = some (.slice none 0 0) ∧ wr.frozen? ⟨w.heap.size + 1, 0, none⟩ = false))
    (fun vi _ => t - (intOf vi).toNat)
  case atStart => exact ⟨0, Nat.zero_le _, rfl, (show Ext _ _ by (repeat (first | exact ext_refl _ | assumption | refine ext_setCell ?_ (by simp; try omega) _ | refine ext_alloc ?_ _ | refine ext_drew ?_ | refine ext_drewN ?_ _ | refine ext_trans ?_ (Aft.use _) | refine ext_trans ?_ (by assumption)))), by simp [go_sem]⟩
  case round =>
    obtain ⟨i, hi, rfl, hEr, hsz, c0, c1, f1⟩ := hrel
    by_cases h1 : i < t
    · go_wp2_with (first
        | (go_at_call 206; (with_reducible refine (kB0 i _ h1 hEr.out).mono ?_); rintro e w1 ⟨rfl, xb1⟩; obtain ⟨xc1, xf1, xl1, xz1⟩ := ext_use xb1; (try simp at xz1); obtain ⟨l1_0, gc, gf⟩ := kp xb1 (w.heap.size) (by first | omega | (simp; try omega)); have r1_0 := gc 0; have f1_0 := gf 0; clear gc gf; obtain ⟨l1_1, gc, gf⟩ := kp xb1 (w.heap.size + 1) (by first | omega | (simp; try omega)); have r1_1 := gc 0; have f1_1 := gf 0; clear gc gf)
      )
      case roundEnd =>
        refine ⟨⟨i + 1, by omega, by simp, ext_trans hEr.out xb1, ?_⟩, ?_⟩
        · simp [go_sem, *]
        · simp [intOf]; omega
    · obtain rfl : i = t := by omega
      go_wp2_with (first
        | (go_at_call 206; (with_reducible refine (kB1 _ hEr.out).mono ?_); rintro e w1 ⟨rfl, xb1⟩; obtain ⟨xc1, xf1, xl1, xz1⟩ := ext_use xb1; (try simp at xz1); obtain ⟨l1_0, gc, gf⟩ := kp xb1 (w.heap.size) (by first | omega | (simp; try omega)); have r1_0 := gc 0; have f1_0 := gf 0; clear gc gf; obtain ⟨l1_1, gc, gf⟩ := kp xb1 (w.heap.size + 1) (by first | omega | (simp; try omega)); have r1_1 := gc 0; have f1_1 := gf 0; clear gc gf)
        | (go_at_call 207; (with_reducible refine (kD _ (ext_trans hEr.out xb1)).mono ?_); rintro e w2 ⟨B, k, rfl, hR2, xb2⟩; obtain ⟨xc2, xf2, xl2, xz2⟩ := ext_use xb2; (try simp at xz2); obtain ⟨l2_0, gc, gf⟩ := kp xb2 (w.heap.size) (by first | omega | (simp; try omega)); have r2_0 := gc 0; have f2_0 := gf 0; clear gc gf; obtain ⟨l2_1, gc, gf⟩ := kp xb2 (w.heap.size + 1) (by first | omega | (simp; try omega)); have r2_1 := gc 0; have f2_1 := gf 0; clear gc gf)
      )
      have z0 : w2.cell? ⟨w.heap.size + 1, 0, none⟩ = some (.slice none 0 0) := by simp [go_sem, *]
      have lw : w.heap.size + 1 < w2.heap.size := by assumption
      go_region
      go_wp2_with fail
      have hne : w.heap.size + 1 ≠ w2.heap.size := by omega
      have hF : ∀ x, B = some x → w.heap.size + 1 < x.block := fun x hx => by have := hR2.out.2 x hx; have := ext_size xb1; omega
      have hEE : Ext w w2 := ext_trans (ext_trans hEr.out xb1) xb2
      have hW : Ext (w2.setCell ⟨w.heap.size + 1, 0, none⟩ (.slice B k k)) ((w2.setCell ⟨w.heap.size + 1, 0, none⟩ (.slice B k k)).alloc (Obj.cells #[.slice B k k] 30)).drew := ext_drew (ext_alloc (ext_refl _) _)
      have q0 : (((w2.setCell ⟨w.heap.size + 1, 0, none⟩ (.slice B k k)).alloc (Obj.cells #[.slice B k k] 30)).drew).cell? ⟨w.heap.size + 1, 0, none⟩ = some (.slice B k k) := (Below.cell (p := ⟨w.heap.size + 1, 0, none⟩) hW (by simpa using lw)).trans (World.cell?_setCell_same _ _ _ z0)
      refine bodyPost_ret (v := .tuple #[.int .i64 ↑i, natV B k k]) ?h rfl ⟨B, k, rfl, ⟨(hR2.out.1.set _ (fun x hx => hF x hx)).ext hW, fun x hx => Nat.le_of_lt (by have := hF x hx; omega)⟩, ext_trans (ext_setCell hEE (by simp) _) hW⟩
      case h => simp [results, Tryz.results137, go_sem, q0]
/-- Of every number but nought. -/
theorem twos_of : ∀ v : Nat, v ≠ 0 → ∃ t, 2 ^ t ∣ v ∧ v / 2 ^ t % 2 = 1 := by
  intro v
  induction v using Nat.strongRecOn with
  | _ v ih =>
    intro h0
    by_cases h : v % 2 = 1
    · exact ⟨0, by simp, by simpa using h⟩
    · obtain ⟨t, h1, h2⟩ := ih (v / 2) (by omega) (by omega)
      refine ⟨t + 1, ?_, ?_⟩
      · obtain ⟨q, hq⟩ := h1
        exact ⟨q, by rw [Nat.pow_succ, Nat.mul_comm (2 ^ t) 2, Nat.mul_assoc, ← hq]; omega⟩
      · rw [Nat.pow_succ, Nat.mul_comm, ← Nat.div_div_eq_div_mul]; exact h2
theorem fives_of : ∀ v : Nat, v ≠ 0 → ∃ t, 5 ^ t ∣ v ∧ v / 5 ^ t % 5 ≠ 0 := by
  intro v
  induction v using Nat.strongRecOn with
  | _ v ih =>
    intro h0
    by_cases h : v % 5 ≠ 0
    · exact ⟨0, by simp, by simpa using h⟩
    · obtain ⟨t, h1, h2⟩ := ih (v / 5) (by omega) (by omega)
      refine ⟨t + 1, ?_, ?_⟩
      · obtain ⟨q, hq⟩ := h1
        exact ⟨q, by rw [Nat.pow_succ, Nat.mul_comm (5 ^ t) 5, Nat.mul_assoc, ← hq]; omega⟩
      · rw [Nat.pow_succ, Nat.mul_comm, ← Nat.div_div_eq_div_mul]; exact h2
end Go.Proofs.YtiapoflkeliljaaGreatDoor
end
section
/- What is seen of a fraction, compared with itself. -/
namespace Go.Proofs.YtiapoflkeliljaaGreatDoor
open Go.RowKit
theorem neq_look (b : Bool) (n m : Int) (w : World) : (binOp .neq 175 (.agg #[.bool b, .int .i64 n, .int .i64 m]) (.agg #[.bool b, .int .i64 n, .int .i64 m])).run Tryz.prog w = .ok (.bool false) w := by
  cases b <;> simp [go_sem]
end Go.Proofs.YtiapoflkeliljaaGreatDoor
end
section
/- The order of two fractions, plainly. -/
namespace Go.Proofs.YtiapoflkeliljaaGreatDoor
end Go.Proofs.YtiapoflkeliljaaGreatDoor
end
