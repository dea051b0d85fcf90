/- Lemmas of this proof, laid together: RatE, NtK, RatF, RatG, IntG, LookQ, RatH, IntH, RatI. -/
import Derived.Test.YtdjegfnkpagdaaaGreatDoorMg23
import Derived.Test.YtdjegfnkpagdaaaGreatDoorMg07
import Derived.Deep.DeepCutAuto
import Derived.Deep.RegionWith
import Derived.Deep.LoopGhost
import Derived.Test.YtdjegfnkpagdaaaGreatDoorMg13
import Derived.Test.YtdjegfnkpagdaaaGreatDoorMg08
set_option linter.unusedSimpArgs false
set_option linter.unusedVariables false
section
/- The program's fractions: made. -/
namespace Go.Proofs.YtdjegfnkpagdaaaGreatDoor
open Go.RowKit
attribute [local go_sem] sz2 sz3 sz4 sz5 sz6 sz7 sz8
set_option maxHeartbeats 4000000
set_option maxRecDepth 100000
attribute [local irreducible] Calls
abbrev mkW (w : World) (A : Option Addr) (n c : Nat) (D : Option Addr) (m k : Nat) : World :=
  (((w.alloc (Obj.cells #[.slice A n c] 26)).alloc (Obj.cells #[.slice D m k] 26)).alloc (Obj.cells #[.bool false, .slice none 0 0, .slice none 0 0] 28)).alloc (Obj.cells #[.slice A n c, .slice D m k] 26)
theorem mkW_facts (w : World) (A : Option Addr) (n c : Nat) (D : Option Addr) (m k : Nat) (wr : World) (he : Ext (mkW w A n c D m k) wr) :
    (wr.cell? ⟨w.heap.size, 0, none⟩ = some (.slice A n c) ∧ wr.cell? ⟨w.heap.size + 1, 0, none⟩ = some (.slice D m k) ∧ wr.cell? ⟨w.heap.size + 3, 0, none⟩ = some (.slice A n c) ∧ wr.cell? ⟨w.heap.size + 3, 1, none⟩ = some (.slice D m k)) ∧
    (wr.cell? ⟨w.heap.size + 2, 0, none⟩ = some (.bool false) ∧ wr.cell? ⟨w.heap.size + 2, 1, none⟩ = some (.slice none 0 0) ∧ wr.cell? ⟨w.heap.size + 2, 2, none⟩ = some (.slice none 0 0)) ∧
    (wr.frozen? ⟨w.heap.size + 2, 0, none⟩ = false ∧ wr.frozen? ⟨w.heap.size + 2, 1, none⟩ = false ∧ wr.frozen? ⟨w.heap.size + 2, 2, none⟩ = false) ∧ w.heap.size + 4 ≤ wr.heap.size := by
  have hs : (mkW w A n c D m k).heap.size = w.heap.size + 4 := by simp [mkW]
  have hz := ext_size he
  rw [hs] at hz
  have f : ∀ b o, b < w.heap.size + 4 → wr.cell? ⟨b, o, none⟩ = (mkW w A n c D m k).cell? ⟨b, o, none⟩ := fun b o hb => Below.cell (p := ⟨b, o, none⟩) he (by rw [hs]; exact hb)
  have fz : ∀ b o, b < w.heap.size + 4 → wr.frozen? ⟨b, o, none⟩ = (mkW w A n c D m k).frozen? ⟨b, o, none⟩ := fun b o hb => Below.frozen (p := ⟨b, o, none⟩) he (by rw [hs]; exact hb)
  refine ⟨⟨?_, ?_, ?_, ?_⟩, ⟨?_, ?_, ?_⟩, ⟨?_, ?_, ?_⟩, hz⟩
  all_goals first | (rw [f _ _ (by omega)]; simp [mkW, go_sem]) | (rw [fz _ _ (by omega)]; simp [mkW, go_sem])
theorem ext_mkW (w : World) (A : Option Addr) (n c : Nat) (D : Option Addr) (m k : Nat) : Ext w (mkW w A n c D m k) := ext_alloc (ext_alloc (ext_alloc (ext_alloc (ext_refl w) _) _) _) _
theorem br_SetFrac' (g bx b2 : Nat) (s : Bool) (a d : Nat) (hd : d ≠ 0) (A : Option Addr) (n c : Nat) (D : Option Addr) (m k : Nat) (hn : n ≤ 400000) (hm : m ≤ 400000) (w : World) (hT : Tz w) (hr : RatRoom w g) (hx : IntIs w bx 0 (sgn s a) A n c) (hyy : IntIs w b2 0 (d : Int) D m k) :
    Calls Tryz.prog 59 #[.pointer (some ⟨g, 0, none⟩), .pointer (some ⟨bx, 0, none⟩), .pointer (some ⟨b2, 0, none⟩)] w (FPost w g (sgn s (a / Nat.gcd a d : Nat)) (lowD a d)) := by
  have h := br_SetFrac g bx b2 (sgn s a) d (by omega) A n c D m k hn hm w hT hr hx hyy
  rw [sgn_abs, Int.natAbs_natCast] at h
  have e : sgn (qneg (sgn s a) d) (a / Nat.gcd a d : Nat) = sgn s (a / Nat.gcd a d : Nat) := by
    have h1 : qneg (sgn s a) d = (s && decide (0 < a)) := by
      unfold qneg
      rw [sgn_lt, decide_eq_false (show ¬ (d : Int) < 0 by omega)]
      cases (s && decide (0 < a)) <;> rfl
    rw [h1]
    by_cases h0 : a = 0
    · subst h0; rw [Nat.zero_div]; cases s <;> rfl
    · have : decide (0 < a) = true := decide_eq_true (by omega)
      rw [this, Bool.and_true]
  rw [e] at h
  exact h
theorem rat_room (w : World) : RatRoom (w.alloc (Obj.cells #[.bool false, .slice none 0 0, .slice none 0 0] 86)) w.heap.size :=
  ⟨⟨by simp, ⟨_, by simp [go_sem]; rfl⟩, ⟨_, by simp [go_sem]; rfl⟩, by simp [go_sem], by simp [go_sem]⟩, ⟨_, by simp [go_sem]; rfl⟩, by simp [go_sem]⟩
theorem lowD_len {a d : Nat} (hd : d ≠ 0) : (lim (denOf (lowD a d))).length ≤ (lim d).length ∧ (lim (lowD a d)).length ≤ (lim d).length ∧ (lim (a / Nat.gcd a d)).length ≤ (lim a).length := by
  have h1 : lowD a d ≤ d := by
    unfold lowD; split
    · omega
    · exact Nat.div_le_self _ _
  have h2 : denOf (lowD a d) ≤ d := by
    unfold denOf; split <;> omega
  exact ⟨lim_mono h2, lim_mono h1, lim_mono (Nat.div_le_self _ _)⟩
theorem IntIs.lenNat {w : World} {b o a : Nat} {B : Option Addr} {k l : Nat} (h : IntIs w b o ((a : Nat) : Int) B k l) : (lim a).length = k := by have := h.rd.len; rwa [Int.natAbs_natCast] at this
theorem IntIs.lenSgn {w : World} {b o a : Nat} {s : Bool} {B : Option Addr} {k l : Nat} (h : IntIs w b o (sgn s a) B k l) : (lim a).length = k := by have := h.rd.len; rwa [sgn_abs] at this
theorem ra_make (neg : Bool) (A : Option Addr) (n c a : Nat) (D : Option Addr) (m k d : Nat) (hd : d ≠ 0) (hn : n ≤ 16384) (hm : m ≤ 16384) (w : World) (hT : Tz w) (hA : Rd w A n c (lim a)) (hD : Rd w D m k (lim d)) :
    Calls Tryz.prog 26 #[.bool neg, natV A n c, natV D m k] w (TPost w (sgn neg (a / Nat.gcd a d : Nat)) (denOf (lowD a d))) := by
  have HA := Lib.hid hA
  have HD := Lib.hid hD
  have HT := Lib.hid hT
  have hm0 : ((m : Int) == 0) = false := by
    rw [beq_eq_false_iff_ne]
    have := hD.len; intro h; exact hd (lim_nil.1 (List.eq_nil_of_length_eq_zero (by omega)))
  have hla := hA.len
  have hld := hD.len
  have chA : ∀ w', Ext w w' → Calls Tryz.prog 52 #[natV A n c] w' fun e w'' => e = .returned (.int .i64 0) ∧ Ext w' w'' := fun w' he => by
    have := ncheck_any A n c (lim a) w' (HA.out.ext he); rwa [chk_lim (by omega)] at this
  have chD : ∀ w', Ext w w' → Calls Tryz.prog 52 #[natV D m k] w' fun e w'' => e = .returned (.int .i64 0) ∧ Ext w' w'' := fun w' he => by
    have := ncheck_any D m k (lim d) w' (HD.out.ext he); rwa [chk_lim (by omega)] at this
  clear hA hD hT
  go_enter Tryz.func26, Tryz.ntmps26
  go_wp2
  go_loopw [16] (fun vi wr => ∃ i : Nat, i ≤ 2 ∧ vi = .int .i64 (i : Int) ∧ Hid (Ext (mkW w A n c D m k) wr)) (fun vi _ => 2 - (intOf vi).toNat)
  case atStart => exact ⟨0, by omega, rfl, ext_refl _⟩
  case round =>
    obtain ⟨i, hi, rfl, hext⟩ := hrel
    obtain ⟨⟨c0, c1, c2, c3⟩, ⟨r0, r1, r2⟩, ⟨f0, f1, f2⟩, hsz⟩ := mkW_facts w A n c D m k wr hext.out
    have hE0 := Lib.hid (ext_trans (ext_mkW w A n c D m k) hext.out)
    by_cases h2 : i = 2
    · subst h2
      have hl3 := lowD_len (a := a) hd
      rw [hla, hld] at hl3
      have hTr := Lib.hid (HT.out.ext hE0.out)
      have hn400 : n ≤ 400000 := by omega
      have hn1000 : n ≤ 1000000 := by omega
      have hm100 : m ≤ 100000 := by omega
      have hdl := Nat.le_trans hl3.1 hm
      have hm400 : m ≤ 400000 := by omega
      cases neg with
      | false =>
        go_wp2_with (first
          | (go_at_call 56; (with_reducible refine (ra_whole A n c a (by omega) _ (HA.out.ext hE0.out)).mono ?_); rintro e w1 ⟨b1, B1, k1, l1, rfl, hI1, hb1, xb1⟩; have hI1s : IntIs w1 b1 0 (sgn false a) B1 k1 l1 := hI1.out.1; have hx1 := (Below.cell (p := ⟨w.heap.size + 1, 0, none⟩) xb1 (by show w.heap.size + 1 < _; omega)).trans c1; have hsz1 : w.heap.size + 1 < w1.heap.size := by (have := ext_size xb1; omega))
          | (go_at_call 56; (with_reducible refine (ra_whole D m k d (by omega) _ (HD.out.ext (ext_alloc (ext_trans hE0.out xb1) _))).mono ?_); rintro e w3 ⟨b3, B3, k3, l3, rfl, hI3, hb3, xb3⟩; have hk1 := Nat.le_trans (Nat.le_of_eq (hI1.out.1.lenNat.symm.trans hla)) hn400; have hk3 := Nat.le_trans (Nat.le_of_eq (hI3.out.1.lenNat.symm.trans hld)) hm400; have hE3 := Lib.hid (ext_trans (ext_alloc xb1 (Obj.cells #[.bool false, .slice none 0 0, .slice none 0 0] 86)) xb3))
          | (go_at_call 59; (with_reducible refine (br_SetFrac' _ b1 b3 false a d hd B1 k1 l1 B3 k3 l3 hk1 hk3 _ (hTr.out.ext hE3.out) ((rat_room w1).ext xb3) (hI1s.ext (ext_trans (ext_alloc (ext_refl _) _) xb3)) hI3.out.1).mono ?_); rintro e w4 ⟨rfl, A4, n4, c4, D4, m4, e4, hI4, xt4⟩; have hn4 := Nat.le_trans (Nat.le_trans (Nat.le_of_eq hI4.out.1.int.lenSgn.symm) hl3.2.2) hn; have hm4 := Nat.le_trans (Nat.le_trans (Nat.le_of_eq hI4.out.1.rd.len.symm) hl3.2.1) hm100)
          | (go_at_call 58; (with_reducible refine (ra_told_ok _ _ A4 n4 c4 _ D4 m4 e4 hn4 hm4 hdl _ hI4.out.1).mono ?_); rintro e w5 ⟨A5, n5, c5, D5, m5, e5, rfl, hI5, xb5⟩; have hE5 := Lib.hid (ext_trans (xt4.ext hE3.out (ext_size xb1)) xb5); obtain ⟨-, ⟨s0, s1, s2⟩, ⟨p0, p1, p2⟩, hs5⟩ := mkW_facts w A n c D m k w5 (ext_trans hext.out hE5.out))
         )
        have hs4 : w.heap.size + 4 ≤ w4.heap.size := by
          have h1 := (mkW_facts w A n c D m k w4 (ext_trans hext.out (xt4.ext hE3.out (ext_size xb1)))).2.2.2; exact h1
        have n5' : ∀ x, A5 = some x → w.heap.size + 1 + 1 < x.block := fun x hx => by have := hI5.out.2.1 x hx; omega
        have n6' : ∀ x, D5 = some x → w.heap.size + 1 + 1 < x.block := fun x hx => by have := hI5.out.2.2.2 x hx; omega
        obtain ⟨q0, q1, q2⟩ := set3 (b := w.heap.size + 1 + 1) s0 s1 s2 (.bool (decide (sgn false (a / a.gcd d : Nat) < 0))) (.slice A5 n5 c5) (.slice D5 m5 e5)
        have hEE := Lib.hid (ext_trans hE0.out hE5.out)
        refine bodyPost_ret (v := .tuple #[ratV (decide (sgn false ↑(a / a.gcd d) < 0)) A5 n5 c5 D5 m5 e5, .int .i64 0]) ?h rfl ⟨A5, n5, c5, D5, m5, e5, rfl, ⟨hI5.out.1.set3 n5' _ _ _, fun x hx => Nat.le_of_lt (by have := n5' x hx; omega), hI5.out.2.2.1.set3 n6' _ _ _, fun x hx => Nat.le_of_lt (by have := n6' x hx; omega)⟩, ext_set3 hEE.out (by omega) _ _ _⟩
        case h => simp [results, Tryz.results26, go_sem, q0, q1, q2]
      | true =>
        go_wp2_with (first
          | (go_at_call 56; (with_reducible refine (ra_whole A n c a (by omega) _ (HA.out.ext hE0.out)).mono ?_); rintro e w1 ⟨b1, B1, k1, l1, rfl, hI1, hb1, xb1⟩; have hk0 := Nat.le_trans (Nat.le_of_eq (hI1.out.1.lenNat.symm.trans hla)) hn1000)
          | (go_at_call 57; (with_reducible refine (bi_Neg b1 0 b1 0 B1 k1 l1 a hk0 _ hI1.out.1.room hI1.out.1).mono ?_); rintro e w2 ⟨rfl, B2, k2, l2, hI2, xt2⟩; have xb2 := xt2.ext xb1 hb1; have hI1s : IntIs w2 b1 0 (sgn true a) B2 k2 l2 := hI2.out.1; have hx1 := (Below.cell (p := ⟨w.heap.size + 1, 0, none⟩) xb2 (by show w.heap.size + 1 < _; omega)).trans c1; have hsz1 : w.heap.size + 1 < w2.heap.size := by (have := ext_size xb2; omega))
          | (go_at_call 56; (with_reducible refine (ra_whole D m k d (by omega) _ (HD.out.ext (ext_alloc (ext_trans hE0.out xb2) _))).mono ?_); rintro e w3 ⟨b3, B3, k3, l3, rfl, hI3, hb3, xb3⟩; have hk1 := Nat.le_trans (Nat.le_of_eq (hI1s.lenSgn.symm.trans hla)) hn400; have hk3 := Nat.le_trans (Nat.le_of_eq (hI3.out.1.lenNat.symm.trans hld)) hm400; have hE3 := Lib.hid (ext_trans (ext_alloc xb2 (Obj.cells #[.bool false, .slice none 0 0, .slice none 0 0] 86)) xb3))
          | (go_at_call 59; (with_reducible refine (br_SetFrac' _ b1 b3 true a d hd B2 k2 l2 B3 k3 l3 hk1 hk3 _ (hTr.out.ext hE3.out) ((rat_room w2).ext xb3) (hI1s.ext (ext_trans (ext_alloc (ext_refl _) _) xb3)) hI3.out.1).mono ?_); rintro e w4 ⟨rfl, A4, n4, c4, D4, m4, e4, hI4, xt4⟩; have hn4 := Nat.le_trans (Nat.le_trans (Nat.le_of_eq hI4.out.1.int.lenSgn.symm) hl3.2.2) hn; have hm4 := Nat.le_trans (Nat.le_trans (Nat.le_of_eq hI4.out.1.rd.len.symm) hl3.2.1) hm100)
          | (go_at_call 58; (with_reducible refine (ra_told_ok _ _ A4 n4 c4 _ D4 m4 e4 hn4 hm4 hdl _ hI4.out.1).mono ?_); rintro e w5 ⟨A5, n5, c5, D5, m5, e5, rfl, hI5, xb5⟩; have hE5 := Lib.hid (ext_trans (xt4.ext hE3.out (ext_size xb2)) xb5); obtain ⟨-, ⟨s0, s1, s2⟩, ⟨p0, p1, p2⟩, hs5⟩ := mkW_facts w A n c D m k w5 (ext_trans hext.out hE5.out))
         )
        have hs4 : w.heap.size + 4 ≤ w4.heap.size := by
          have h1 := (mkW_facts w A n c D m k w4 (ext_trans hext.out (xt4.ext hE3.out (ext_size xb2)))).2.2.2; exact h1
        have n5' : ∀ x, A5 = some x → w.heap.size + 1 + 1 < x.block := fun x hx => by have := hI5.out.2.1 x hx; omega
        have n6' : ∀ x, D5 = some x → w.heap.size + 1 + 1 < x.block := fun x hx => by have := hI5.out.2.2.2 x hx; omega
        obtain ⟨q0, q1, q2⟩ := set3 (b := w.heap.size + 1 + 1) s0 s1 s2 (.bool (decide (sgn true (a / a.gcd d : Nat) < 0))) (.slice A5 n5 c5) (.slice D5 m5 e5)
        have hEE := Lib.hid (ext_trans hE0.out hE5.out)
        refine bodyPost_ret (v := .tuple #[ratV (decide (sgn true ↑(a / a.gcd d) < 0)) A5 n5 c5 D5 m5 e5, .int .i64 0]) ?h rfl ⟨A5, n5, c5, D5, m5, e5, rfl, ⟨hI5.out.1.set3 n5' _ _ _, fun x hx => Nat.le_of_lt (by have := n5' x hx; omega), hI5.out.2.2.1.set3 n6' _ _ _, fun x hx => Nat.le_of_lt (by have := n6' x hx; omega)⟩, ext_set3 hEE.out (by omega) _ _ _⟩
        case h => simp [results, Tryz.results26, go_sem, q0, q1, q2]
    · by_cases h1 : i = 1
      · subst h1
        go_wp2_with (first
          | (go_at_call 52; (with_reducible refine (chD _ (ext_alloc hE0.out _)).mono ?_); rintro e w5 ⟨rfl, xb5⟩)
         )
        case roundEnd => exact ⟨⟨2, by omega, rfl, ext_trans (ext_alloc hext.out _) xb5⟩, by simp [intOf]⟩
      · obtain rfl : i = 0 := by omega
        go_wp2_with (first
          | (go_at_call 52; (with_reducible refine (chA _ (ext_alloc hE0.out _)).mono ?_); rintro e w5 ⟨rfl, xb5⟩)
         )
        case roundEnd => exact ⟨⟨1, by omega, rfl, ext_trans (ext_alloc hext.out _) xb5⟩, by simp [intOf]⟩
end Go.Proofs.YtdjegfnkpagdaaaGreatDoor
end
section
/- The program's whole numbers: small ones; powers. -/
namespace Go.Proofs.YtdjegfnkpagdaaaGreatDoor
open Go.RowKit
attribute [local go_sem] sz2 sz3 sz4 sz5 sz6 sz7 sz8
set_option maxHeartbeats 4000000
set_option maxRecDepth 100000
attribute [local irreducible] Calls
/-- A natural number with no room behind it. -/
abbrev NatPost (w : World) (v : Nat) : Ending → World → Prop := fun e w' => ∃ (A : Option Addr) (k : Nat), e = .returned (natV A k k) ∧ Hid (Rd w' A k k (lim v) ∧ Fr w A) ∧ Ext w w'
theorem nof_any (v : Nat) (hv : v < 18446744073709551616) (w : World) : Calls Tryz.prog 28 #[.int .u64 (v : Int)] w (NatPost w v) := by
  have hval : val [v % 4294967296, v / 4294967296] = v := by
    have := Nat.mod_add_div v 4294967296
    simp [val, Bs]; omega
  have hlb : Lb [v % 4294967296, v / 4294967296] := by
    intro x hx
    simp at hx
    unfold Bs
    rcases hx with rfl | rfl <;> omega
  have hR : Rd ((w.alloc (Obj.cells #[.slice none 0 0] 26)).alloc (Obj.cells #[.int .u32 ((v : Int) % 4294967296), .int .u32 ((v : Int) / 4294967296)] 60)) (some ⟨w.heap.size + 1, 0, none⟩) 2 2 [v % 4294967296, v / 4294967296] :=
    Rd.made _ _ _ _ hlb (by simp [u32V]) (by simp) (by simp) rfl
  have hT : Calls Tryz.prog 62 #[.slice (some ⟨w.heap.size + 1, 0, none⟩) 2 2] ((w.alloc (Obj.cells #[.slice none 0 0] 26)).alloc (Obj.cells #[.int .u32 ((v : Int) % 4294967296), .int .u32 ((v : Int) / 4294967296)] 60)) fun e w'' => ∃ (A' : Option Addr) (k : Nat), e = .returned (natV A' k k) ∧ Hid (Rd w'' A' k k (lim v) ∧ ∀ a, A' = some a → w.heap.size < a.block) ∧ Ext ((w.alloc (Obj.cells #[.slice none 0 0] 26)).alloc (Obj.cells #[.int .u32 ((v : Int) % 4294967296), .int .u32 ((v : Int) / 4294967296)] 60)) w'' := by
    refine (trimmed_any _ _ _ _ _ hR).mono ?_
    rintro e w'' ⟨A', k, rfl, h2, h3⟩
    refine ⟨A', k, rfl, ⟨?_, fun a ha => ?_⟩, h3⟩
    · have := h2.out.1 _ (hR.ext h3); rwa [hval] at this
    · have := h2.out.2 a ha; cases this; exact Nat.lt_succ_self _
  clear hR hval hlb
  go_enter Tryz.func28, Tryz.ntmps28
  go_wp2_with (first
    | (go_at_call 62; (with_reducible refine hT.mono ?_); rintro e w3 ⟨A3, k3, rfl, hR3, xb3⟩; have r0 := (Below.cell (p := ⟨w.heap.size, 0, none⟩) xb3 (by simp; omega)).trans (show _ = some (Value.slice none 0 0) by simp [go_sem]); have f0 := (Below.frozen (p := ⟨w.heap.size, 0, none⟩) xb3 (by simp; omega)).trans (show _ = false by simp [go_sem]))
   )
  have hcr := World.cell?_setCell_same _ _ (.slice A3 k3 k3) r0
  refine bodyPost_ret (v := natV A3 k3 k3) ?h rfl ⟨A3, k3, rfl, ⟨hR3.out.1.set _ hR3.out.2, fun a ha => Nat.le_of_lt (hR3.out.2 a ha)⟩, ext_setCell (ext_trans (ext_alloc (ext_alloc (ext_refl _) _) _) xb3) (Nat.le_refl _) _⟩
  case h => simp [results, Tryz.results28, go_sem, hcr]
theorem nof_one (w : World) : Calls Tryz.prog 28 #[.int .u64 1] w (NatPost w 1) := nof_any 1 (by decide) w
theorem pow_le' {o s r N : Nat} (h : o * s ^ r = N) (hN : 0 < N) (hr : 1 ≤ r) : o ≤ N ∧ s ≤ N ∧ o * s ≤ N ∧ (2 ≤ r → s * s ≤ N) := by
  have ho : 0 < o := Nat.pos_of_ne_zero (fun e => by subst e; simp at h; omega)
  have hs : 0 < s := Nat.pos_of_ne_zero (fun e => by subst e; rw [Nat.zero_pow (by omega)] at h; simp at h; omega)
  have h1 : s ≤ s ^ r := by have := Nat.pow_le_pow_right hs hr; rwa [Nat.pow_one] at this
  have h2 : 1 ≤ s ^ r := Nat.one_le_pow _ _ hs
  refine ⟨?_, ?_, ?_, fun h3 => ?_⟩
  · rw [← h]; exact Nat.le_mul_of_pos_right _ h2
  · rw [← h]; exact Nat.le_trans h1 (Nat.le_mul_of_pos_left _ ho)
  · rw [← h]; exact Nat.mul_le_mul_left _ h1
  · rw [← h]
    have h4 : s ^ 2 ≤ s ^ r := Nat.pow_le_pow_right hs h3
    rw [Nat.pow_two] at h4
    exact Nat.le_trans h4 (Nat.le_mul_of_pos_left _ ho)
theorem pow_odd {o s r N : Nat} (h : o * s ^ r = N) (hr : r % 2 = 1) : o * s * (s * s) ^ (r / 2) = N := by
  have e : r = 2 * (r / 2) + 1 := by omega
  have h2 : (s * s) ^ (r / 2) = s ^ (2 * (r / 2)) := by rw [← Nat.pow_two, ← Nat.pow_mul]
  rw [h2, Nat.mul_assoc, ← Nat.pow_succ']
  show o * s ^ (2 * (r / 2) + 1) = N
  rw [← e, h]
theorem pow_even {o s r N : Nat} (h : o * s ^ r = N) (hr : r % 2 = 0) : o * (s * s) ^ (r / 2) = N := by
  have e : r = 2 * (r / 2) := by omega
  have h2 : (s * s) ^ (r / 2) = s ^ (2 * (r / 2)) := by rw [← Nat.pow_two, ← Nat.pow_mul]
  rw [h2, ← e, h]
theorem and_one (r : Nat) (hr : r < 9223372036854775808) : bits BinOp.and IntKind.i64 (r : Int) 1 = ((r % 2 : Nat) : Int) := by
  have h1 : (BitVec.ofInt 64 (r : Int)).toNat = r := by rw [BitVec.ofInt_natCast, BitVec.toNat_ofNat]; exact Nat.mod_eq_of_lt (by omega)
  have h2 : (BitVec.ofInt 64 1).toNat = 1 := by decide
  show IntKind.i64.wrap ((BitVec.ofInt 64 (r : Int) &&& BitVec.ofInt 64 1).toNat : Int) = _
  rw [BitVec.toNat_and, h1, h2, Nat.and_one_is_mod, IntKind.wrap_i64]
  omega
/-- A number with an error of nought. -/
abbrev NatPost0 (w : World) (v : Nat) : Ending → World → Prop := fun e w' => ∃ (A : Option Addr) (k : Nat), e = .returned (.tuple #[natV A k k, .int .i64 0]) ∧ Hid (Rd w' A k k (lim v) ∧ Fr w A) ∧ Ext w w'
theorem npow_zero (b : Nat) (w : World) : Calls Tryz.prog 25 #[.int .u32 (b : Int), .int .i64 0] w (NatPost0 w 1) := by
  go_enter Tryz.func25, Tryz.ntmps25
  go_wp2_with (first
    | (go_at_call 28; (with_reducible refine (nof_one _).mono ?_); rintro e w3 ⟨A3, k3, rfl, hR3, xb3⟩; have r0 := (Below.cell (p := ⟨w.heap.size, 0, none⟩) xb3 (by simp)).trans (show _ = some (Value.slice none 0 0) by simp [go_sem]); have f0 := (Below.frozen (p := ⟨w.heap.size, 0, none⟩) xb3 (by simp)).trans (show _ = false by simp [go_sem]))
   )
  have hcr := World.cell?_setCell_same _ _ (.slice A3 k3 k3) r0
  have hlt : ∀ a, A3 = some a → w.heap.size < a.block := fun a ha => by have := hR3.out.2 a ha; simp at this; omega
  refine bodyPost_ret (v := .tuple #[natV A3 k3 k3, .int .i64 0]) ?h rfl ⟨A3, k3, rfl, ⟨hR3.out.1.set _ hlt, fun a ha => Nat.le_of_lt (hlt a ha)⟩, ext_setCell (ext_trans (ext_alloc (ext_refl _) _) xb3) (Nat.le_refl _) _⟩
  case h => simp [results, Tryz.results25, go_sem, hcr]
/-- Three cells: two of the loop's and the answer's. -/
structure PC (w : World) (G6 G7 Gr : Nat) (v6 v7 vr : Value) : Prop where
  c6 : w.cell? ⟨G6, 0, none⟩ = some v6
  c7 : w.cell? ⟨G7, 0, none⟩ = some v7
  cr : w.cell? ⟨Gr, 0, none⟩ = some vr
  f6 : w.frozen? ⟨G6, 0, none⟩ = false
  f7 : w.frozen? ⟨G7, 0, none⟩ = false
  fr : w.frozen? ⟨Gr, 0, none⟩ = false
  l7 : G7 < w.heap.size
theorem PC.ext {w w' : World} {G6 G7 Gr : Nat} {v6 v7 vr : Value} (h : PC w G6 G7 Gr v6 v7 vr) (h6 : G6 < G7) (hr : Gr < G7) (he : Ext w w') : PC w' G6 G7 Gr v6 v7 vr :=
  ⟨(Below.cell (p := ⟨G6, 0, none⟩) he (Nat.lt_trans h6 h.l7)).trans h.c6, (Below.cell (p := ⟨G7, 0, none⟩) he h.l7).trans h.c7, (Below.cell (p := ⟨Gr, 0, none⟩) he (Nat.lt_trans hr h.l7)).trans h.cr,
   (Below.frozen (p := ⟨G6, 0, none⟩) he (Nat.lt_trans h6 h.l7)).trans h.f6, (Below.frozen (p := ⟨G7, 0, none⟩) he h.l7).trans h.f7, (Below.frozen (p := ⟨Gr, 0, none⟩) he (Nat.lt_trans hr h.l7)).trans h.fr, ext_lt he _ h.l7⟩
theorem PC.set6 {w : World} {G6 G7 Gr : Nat} {v6 v7 vr : Value} (h : PC w G6 G7 Gr v6 v7 vr) (h6 : G6 < G7) (hr : Gr < G6) (v : Value) : PC (w.setCell ⟨G6, 0, none⟩ v) G6 G7 Gr v v7 vr :=
  ⟨World.cell?_setCell_same _ _ _ h.c6, (World.cell?_setCell_other _ _ _ _ (by intro e; simp at e; try omega)).trans h.c7, (World.cell?_setCell_other _ _ _ _ (by intro e; simp at e; try omega)).trans h.cr, by simpa using h.f6, by simpa using h.f7, by simpa using h.fr, by simpa using h.l7⟩
theorem PC.set7 {w : World} {G6 G7 Gr : Nat} {v6 v7 vr : Value} (h : PC w G6 G7 Gr v6 v7 vr) (h6 : G6 < G7) (hr : Gr < G6) (v : Value) : PC (w.setCell ⟨G7, 0, none⟩ v) G6 G7 Gr v6 v vr :=
  ⟨(World.cell?_setCell_other _ _ _ _ (by intro e; simp at e; try omega)).trans h.c6, World.cell?_setCell_same _ _ _ h.c7, (World.cell?_setCell_other _ _ _ _ (by intro e; simp at e; try omega)).trans h.cr, by simpa using h.f6, by simpa using h.f7, by simpa using h.fr, by simpa using h.l7⟩
/-- The loop of a power. -/
def PowRel (w : World) (G6 G7 N : Nat) (vi : Value) (wr : World) : Prop := ∃ (rem o s : Nat) (O : Option Addr) (ko : Nat) (Q : Option Addr) (kq : Nat), (1 ≤ rem ∧ rem ≤ 524288) ∧ vi = .int .i64 (rem : Int) ∧ Hid (o * s ^ rem = N) ∧ Hid (Rd wr O ko ko (lim o)) ∧ Hid (Rd wr Q kq kq (lim s)) ∧
  Hid (Off O ko G6 ∧ Off O ko G7 ∧ Off Q kq G6 ∧ Off Q kq G7 ∧ ∀ x, O = some x → w.heap.size < x.block) ∧ Hid (PC wr G6 G7 w.heap.size (.slice O ko ko) (.slice Q kq kq) (.slice none 0 0)) ∧ Hid (Ext w wr)
theorem npow_pos (b n : Nat) (hb : 2 ≤ b) (hb2 : b < 4294967296) (hn : 1 ≤ n) (hn2 : n ≤ 524288) (hl : (lim (b ^ n)).length ≤ 8000) (w : World) : Calls Tryz.prog 25 #[.int .u32 (b : Int), .int .i64 (n : Int)] w (NatPost0 w (b ^ n)) := by
  obtain ⟨N, hN⟩ : ∃ N, N = b ^ n := ⟨_, rfl⟩
  have hN0 : 0 < N := by rw [hN]; exact Nat.pow_pos (by omega)
  have hst : 1 * b ^ n = N := by rw [hN, Nat.one_mul]
  rw [← hN] at hl ⊢
  have HL := Lib.hid hl
  have HST := Lib.hid hst
  clear hl hst hN
  have hn1 : ((n : Int) == 0) = false := by rw [beq_eq_false_iff_ne]; omega
  go_enter Tryz.func25, Tryz.ntmps25
  go_wp2_with (first
    | (go_at_call 28; (with_reducible refine (nof_one _).mono ?_); rintro e w3 ⟨A3, k3, rfl, hR3, xb3⟩)
    | (go_at_call 28; (with_reducible refine (nof_any b (by omega) _).mono ?_); rintro e w4 ⟨A4, k4, rfl, hR4, xb4⟩)
   )
  have hs3 : w.heap.size + 1 ≤ w3.heap.size := by have := ext_size xb3; simpa using this
  have hs4 : w3.heap.size ≤ w4.heap.size := ext_size xb4
  have hE4 := Lib.hid (ext_trans (ext_alloc (ext_refl w) (Obj.cells #[.slice none 0 0] 26)) (ext_trans xb3 xb4))
  have r0 := (Below.cell (p := ⟨w.heap.size, 0, none⟩) (ext_trans xb3 xb4) (by simp)).trans (show _ = some (Value.slice none 0 0) by simp [go_sem])
  have f0 := (Below.frozen (p := ⟨w.heap.size, 0, none⟩) (ext_trans xb3 xb4) (by simp)).trans (show _ = false by simp [go_sem])
  have hR3' := Lib.hid (hR3.out.1.ext xb4)
  have hF3 : ∀ x, A3 = some x → w.heap.size < x.block := fun x hx => by have := hR3.out.2 x hx; simp at this; omega
  have o36 : Off A3 k3 w4.heap.size := hR3'.out.off (Nat.le_refl _)
  have o37 : Off A3 k3 (w4.heap.size + 1) := hR3'.out.off (by omega)
  have o46 : Off A4 k4 w4.heap.size := hR4.out.1.off (Nat.le_refl _)
  have o47 : Off A4 k4 (w4.heap.size + 1) := hR4.out.1.off (by omega)
  have hlt : w.heap.size < w4.heap.size := by omega
  have HOFF := Lib.hid (And.intro o36 (And.intro o37 (And.intro o46 (And.intro o47 hF3))))
  clear o36 o37 o46 o47
  go_loopw [1] (fun vi wr => PowRel w w4.heap.size (w4.heap.size + 1) N vi wr) (fun vi _ => (intOf vi).toNat)
  case atStart =>
    have k1 : w.heap.size < ((w4.alloc (Obj.cells #[.slice A3 k3 k3] 26)).heap.size) := by simp; omega
    exact ⟨n, 1, b, A3, k3, A4, k4, ⟨hn, hn2⟩, rfl, HST.out, hR3'.out.ext (ext_alloc (ext_alloc (ext_refl _) _) _), hR4.out.1.ext (ext_alloc (ext_alloc (ext_refl _) _) _), HOFF.out,
      ⟨by simp [go_sem], by simp [go_sem], by rw [World.cell?_alloc_lt _ _ _ k1, World.cell?_alloc_lt _ _ _ hlt]; exact r0, by simp [go_sem], by simp [go_sem], by simp [go_sem, hlt, f0], by simp⟩, ext_alloc (ext_alloc hE4.out _) _⟩
  case round =>
    obtain ⟨G6, hG6⟩ : ∃ G, G = w4.heap.size := ⟨_, rfl⟩
    rw [← hG6] at hrel hlt
    simp only [← hG6]
    obtain ⟨G7, hG7⟩ : ∃ G, G = G6 + 1 := ⟨_, rfl⟩
    rw [← hG7] at hrel
    simp only [← hG7]
    have h67 : G6 < G7 := by omega
    have hr7 : w.heap.size < G7 := by omega
    have h67' : ¬ G6 = G7 := by omega
    have h76' : ¬ G7 = G6 := by omega
    clear hG6 hG7 HOFF hR3' hF3 r0 f0 hE4 hs3 hs4 hR3 hR4 xb3 xb4 HST
    obtain ⟨rem, o, s, O, ko, Q, kq, ⟨h1, h2⟩, rfl, hst, hO, hQ, hoff, hpc, hE⟩ := hrel
    obtain ⟨p1, p2, p3, p4⟩ := pow_le' hst.out hN0 h1
    have lo := hO.out.len
    have lq := hQ.out.len
    have lo1 : (lim o).length ≤ 8000 := Nat.le_trans (lim_mono p1) HL.out
    have lq1 : (lim s).length ≤ 8000 := Nat.le_trans (lim_mono p2) HL.out
    have c1 : ∀ wx, Ext wr wx → Calls Tryz.prog 27 #[natV O ko ko, natV Q kq kq] wx (NatPost0 wx (o * s)) := fun wx hx =>
      pmul_any O Q ko ko kq kq o s wx (hO.out.ext hx) (hQ.out.ext hx) (by omega) (by omega) (by omega) (Nat.le_trans (lim_mono p3) (Nat.le_trans HL.out (by omega)))
    have c2 : 2 ≤ rem → ∀ wx, Rd wx Q kq kq (lim s) → Calls Tryz.prog 27 #[natV Q kq kq, natV Q kq kq] wx (NatPost0 wx (s * s)) := fun h wx hx =>
      pmul_any Q Q kq kq kq kq s s wx hx hx (by omega) (by omega) (by omega) (Nat.le_trans (lim_mono (p4 h)) (Nat.le_trans HL.out (by omega)))
    obtain ⟨c6, c7, cr, f6, f7, fr, l7⟩ := hpc.out
    have eand := and_one rem (by omega)
    obtain ⟨rem2, hrem2⟩ : ∃ r, r = rem / 2 := ⟨_, rfl⟩
    have e2 : (rem : Int) / 2 = (rem2 : Int) := by omega
    clear p1 p2 p3 p4 lo1 lq1 lo lq
    by_cases hodd : rem % 2 = 1
    · rw [hodd] at eand
      have hodd' := Lib.hid (pow_odd hst.out hodd)
      rw [← hrem2] at hodd'
      have HR2 := Lib.hid hrem2
      clear hrem2
      by_cases h0 : rem2 = 0
      · subst h0
        rw [Nat.pow_zero, Nat.mul_one] at hodd'
        go_wp2_with (first
          | (go_at_call 27; (with_reducible refine (c1 _ (ext_refl _)).mono ?_); rintro e w5 ⟨O5, k5, rfl, hR5, xb5⟩; have hp5 := Lib.hid ((hpc.out.ext h67 hr7 xb5).set6 h67 hlt (.slice O5 k5 k5)); have hq5 := Lib.hid (hpc.out.ext h67 hr7 xb5); obtain ⟨d6, d7, dr, g6, g7, gr, m7⟩ := hq5.out; obtain ⟨i6, i7, ir, j6, j7, jr, n7⟩ := hp5.out)
         )
        have hcr := World.cell?_setCell_same _ _ (.slice O5 k5 k5) ir
        have n5 : ∀ x, O5 = some x → G7 < x.block := fun x hx => by have := hR5.out.2 x hx; have := hpc.out.l7; omega
        have hRv : Rd w5 O5 k5 k5 (lim N) := by have := hR5.out.1; rwa [hodd'.out] at this
        refine bodyPost_ret (v := .tuple #[natV O5 k5 k5, .int .i64 0]) ?h rfl ⟨O5, k5, rfl, ⟨(hRv.set _ (fun x hx => Nat.lt_trans h67 (n5 x hx))).set _ (fun x hx => by have := n5 x hx; show w.heap.size < x.block; omega), fun x hx => by have := n5 x hx; show w.heap.size ≤ x.block; omega⟩, ext_setCell (ext_setCell (ext_trans hE.out xb5) (Nat.le_of_lt hlt) _) (Nat.le_refl _) _⟩
        case h => simp [results, Tryz.results25, go_sem, hcr]
      · have h0' : ((rem2 : Int) == 0) = false := by rw [beq_eq_false_iff_ne]; omega
        have hrm := HR2.out
        have c2' := c2 (by omega)
        clear c2 hrm
        go_wp2_with (first
          | (go_at_call 27; (with_reducible refine (c1 _ (ext_refl _)).mono ?_); rintro e w5 ⟨O5, k5, rfl, hR5, xb5⟩; have hp5 := Lib.hid ((hpc.out.ext h67 hr7 xb5).set6 h67 hlt (.slice O5 k5 k5)); have hq5 := Lib.hid (hpc.out.ext h67 hr7 xb5); obtain ⟨d6, d7, dr, g6, g7, gr, m7⟩ := hq5.out; obtain ⟨i6, i7, ir, j6, j7, jr, n7⟩ := hp5.out; have hQ5 := Lib.hid ((hQ.out.ext xb5).tch ((Tch.refl _ w5).set 0 (.slice O5 k5 k5)) hoff.out.2.2.1))
          | (go_at_call 27; (with_reducible refine (c2' _ hQ5.out).mono ?_); rintro e w6 ⟨Q6, k6, rfl, hR6, xb6⟩; have hp6 := Lib.hid (hp5.out.ext h67 hr7 xb6); obtain ⟨s6, s7, sr, t6, t7, tr, q7⟩ := hp6.out)
         )
        have n5 : ∀ x, O5 = some x → G7 < x.block := fun x hx => by have := hR5.out.2 x hx; have := hpc.out.l7; omega
        have n6 : ∀ x, Q6 = some x → G7 < x.block := fun x hx => by have := hR6.out.2 x hx; simp at this; omega
        case roundEnd =>
          refine ⟨⟨rem2, o * s, s * s, O5, k5, Q6, k6, ⟨by omega, by have := HR2.out; omega⟩, rfl, hodd'.out, ?_, ?_, ⟨?_, ?_, ?_, ?_, ?_⟩, hp6.out.set7 h67 hlt _, ?_⟩, ?_⟩
          · exact ((hR5.out.1.set _ (fun x hx => Nat.lt_trans h67 (n5 x hx))).ext xb6).set _ n5
          · exact hR6.out.1.set _ n6
          · exact fun x hx _ e => by have := n5 x hx; omega
          · exact fun x hx _ e => by have := n5 x hx; omega
          · exact fun x hx _ e => by have := n6 x hx; omega
          · exact fun x hx _ e => by have := n6 x hx; omega
          · exact fun x hx => by have := n5 x hx; omega
          · exact ext_setCell (ext_trans (ext_setCell (ext_trans hE.out xb5) (Nat.le_of_lt hlt) _) xb6) (Nat.le_of_lt hr7) _
          · have := HR2.out; simp [intOf]; omega
    · have hev : rem % 2 = 0 := by omega
      rw [hev] at eand
      have hev' := Lib.hid (pow_even hst.out hev)
      rw [← hrem2] at hev'
      have HR2 := Lib.hid hrem2
      have c2' := c2 (by omega)
      have h0' : ((rem2 : Int) == 0) = false := by rw [beq_eq_false_iff_ne]; omega
      clear hrem2 c2 hodd hev
      go_wp2_with (first
        | (go_at_call 27; (with_reducible refine (c2' _ hQ.out).mono ?_); rintro e w6 ⟨Q6, k6, rfl, hR6, xb6⟩; have hp6 := Lib.hid (hpc.out.ext h67 hr7 xb6); obtain ⟨s6, s7, sr, t6, t7, tr, q7⟩ := hp6.out)
       )
      have n6 : ∀ x, Q6 = some x → G7 < x.block := fun x hx => by have := hR6.out.2 x hx; have := hpc.out.l7; omega
      case roundEnd =>
        refine ⟨⟨rem2, o, s * s, O, ko, Q6, k6, ⟨?_, ?_⟩, rfl, hev'.out, ?_, ?_, ⟨hoff.out.1, hoff.out.2.1, ?_, ?_, hoff.out.2.2.2.2⟩, hp6.out.set7 h67 hlt _, ?_⟩, ?_⟩
        · have : rem2 ≠ 0 := by intro h; subst h; simp at h0'
          omega
        · have := HR2.out; omega
        · exact (hO.out.ext xb6).tch ((Tch.refl _ w6).set 0 _) hoff.out.2.1
        · exact hR6.out.1.set _ n6
        · exact fun x hx _ e => by have := n6 x hx; omega
        · exact fun x hx _ e => by have := n6 x hx; omega
        · exact ext_setCell (ext_trans hE.out xb6) (Nat.le_of_lt hr7) _
        · have := HR2.out; simp [intOf]; omega
end Go.Proofs.YtdjegfnkpagdaaaGreatDoor
end
section
/- The program's decimals as fractions. -/
namespace Go.Proofs.YtdjegfnkpagdaaaGreatDoor
open Go.RowKit
attribute [local go_sem] bs_size bs_extract bs_get bs_append bs_toList const_get
attribute [local go_sem] sz2 sz3 sz4 sz5 sz6 sz7 sz8
set_option maxHeartbeats 4000000
set_option maxRecDepth 100000
attribute [local irreducible] Calls
theorem pnumber_nil (w : World) : Calls Tryz.prog 24 #[.string (bs [])] w (NatPost0 w 0) := by
  go_enter Tryz.func24, Tryz.ntmps24
  go_wp2
  refine bodyPost_ret (v := .tuple #[natV none 0 0, .int .i64 0]) ?h rfl ⟨none, 0, rfl, ⟨by rw [lim_zero]; exact Rd.nil _, Fr.none _⟩, ?_⟩
  case h => simp [results, Tryz.results24, go_sem, *]
  repeat (first | exact ext_refl _ | assumption | refine ext_setCell ?_ (by simp; try omega) _ | refine ext_alloc ?_ _ | refine ext_drew ?_ | refine ext_drewN ?_ _ | refine ext_trans ?_ (Aft.use _) | refine ext_trans ?_ (by assumption))
theorem pnumber_any (l : List UInt8) (hd : digsB l = true) (hl : l.length ≤ 65536) (w : World) : Calls Tryz.prog 24 #[.string (bs l)] w (NatPost0 w (dval l)) := by
  by_cases h0 : 0 < l.length
  · exact pnumber_some l hd h0 hl w
  · obtain rfl : l = [] := List.eq_nil_of_length_eq_zero (by omega)
    exact pnumber_nil w
/-- A number with an error of nought, not long. -/
abbrev NatPostL (w : World) (v L : Nat) : Ending → World → Prop := fun e w' => ∃ (A : Option Addr) (k : Nat), (e = .returned (.tuple #[natV A k k, .int .i64 0]) ∧ k ≤ L) ∧ Hid (Rd w' A k k (lim v) ∧ Fr w A) ∧ Ext w w'
theorem natPostL {w : World} {v L : Nat} (h : (lim v).length ≤ L) {e : Ending} {w' : World} (hp : NatPost0 w v e w') : NatPostL w v L e w' := by
  obtain ⟨A, k, he, hR, hx⟩ := hp
  exact ⟨A, k, ⟨he, by rw [← hR.out.1.len]; exact h⟩, hR, hx⟩
theorem ten_len (n : Nat) (hn : n ≤ 16000) : (lim (10 ^ n)).length ≤ 4001 := lim_fits (n := n) (Nat.le_refl _) (by omega) (by omega)
theorem dratio_neg (neg : Bool) (l : List UInt8) (E : Nat) (hE1 : 1 ≤ E) (hE2 : E ≤ 4000) (hl : l.length ≤ 4000) (hok : dcE ⟨neg, l, -(E : Int)⟩ = 0) (hdg : digsB l = true) (w : World) (hT : Tz w) :
    Calls Tryz.prog 7 #[dcV ⟨neg, l, -(E : Int)⟩] w (TPost w (sgn neg (dval l / Nat.gcd (dval l) (10 ^ E) : Nat)) (denOf (lowD (dval l) (10 ^ E)))) := by
  have HT := Lib.hid hT
  have hnl : (lim (dval l)).length ≤ 4001 := Nat.le_trans (lim_mono (Nat.le_of_lt (Nat.lt_of_lt_of_le (dval_lt l hdg) (Nat.pow_le_pow_right (by decide) hl)))) (ten_len 4000 (by omega))
  have hx := fun w => (pnumber_any l hdg (by omega) w).mono (fun e w' h => natPostL hnl h)
  have hp : ∀ w, Calls Tryz.prog 25 #[.int .u32 10, .int .i64 (E : Int)] w (NatPostL w (10 ^ E) 4001) := fun w => (npow_pos 10 E (by omega) (by omega) hE1 (by omega) (Nat.le_trans (ten_len E (by omega)) (by omega)) w).mono (fun e w' h => natPostL (ten_len E (by omega)) h)
  have hc := fun w => check_any' ⟨neg, l, -(E : Int)⟩ (by simp; omega) w
  rw [hok] at hc
  have h10 : 10 ^ E ≠ 0 := by have := Nat.pow_pos (n := E) (show 0 < 10 by decide); omega
  generalize dval l = X at hx hnl ⊢
  generalize 10 ^ E = Y at hp h10 ⊢
  clear hT hok hdg
  have hmax : max (-(E : Int)) (E : Int) = (E : Int) := by omega
  have hlt : -(E : Int) < 0 := by omega
  go_enter Tryz.func7, Tryz.ntmps7
  go_wp2_with (first
    | (go_at_call 23; (with_reducible refine (hc _).mono ?_); rintro e w1 ⟨rfl, xb1⟩; obtain ⟨xc1, xf1, xl1, xz1⟩ := ext_use xb1; (try simp at xz1); have l1_0 := xl1 (w.heap.size) (by first | omega | (simp; try omega)); have r1_0 := xc1 (w.heap.size) 0 (by first | omega | (simp; try omega)); have f1_0 := xf1 (w.heap.size) 0 (by first | omega | (simp; try omega)); have r1_0_1 := xc1 (w.heap.size) 1 (by first | omega | (simp; try omega)); have f1_0_1 := xf1 (w.heap.size) 1 (by first | omega | (simp; try omega)); have r1_0_2 := xc1 (w.heap.size) 2 (by first | omega | (simp; try omega)); have f1_0_2 := xf1 (w.heap.size) 2 (by first | omega | (simp; try omega)); have l1_1 := xl1 (w.heap.size + 1) (by first | omega | (simp; try omega)); have r1_1 := xc1 (w.heap.size + 1) 0 (by first | omega | (simp; try omega)); have f1_1 := xf1 (w.heap.size + 1) 0 (by first | omega | (simp; try omega)); have r1_1_1 := xc1 (w.heap.size + 1) 1 (by first | omega | (simp; try omega)); have f1_1_1 := xf1 (w.heap.size + 1) 1 (by first | omega | (simp; try omega)); have r1_1_2 := xc1 (w.heap.size + 1) 2 (by first | omega | (simp; try omega)); have f1_1_2 := xf1 (w.heap.size + 1) 2 (by first | omega | (simp; try omega)))
    | (go_at_call 24; (with_reducible refine (hx _).mono ?_); rintro e w2 ⟨A, k, ⟨rfl, hk⟩, hX, xb2⟩; obtain ⟨xc2, xf2, xl2, xz2⟩ := ext_use xb2; (try simp at xz2); have l2_0 := xl2 (w.heap.size) (by first | omega | (simp; try omega)); have r2_0 := xc2 (w.heap.size) 0 (by first | omega | (simp; try omega)); have f2_0 := xf2 (w.heap.size) 0 (by first | omega | (simp; try omega)); have r2_0_1 := xc2 (w.heap.size) 1 (by first | omega | (simp; try omega)); have f2_0_1 := xf2 (w.heap.size) 1 (by first | omega | (simp; try omega)); have r2_0_2 := xc2 (w.heap.size) 2 (by first | omega | (simp; try omega)); have f2_0_2 := xf2 (w.heap.size) 2 (by first | omega | (simp; try omega)); have l2_1 := xl2 (w.heap.size + 1) (by first | omega | (simp; try omega)); have r2_1 := xc2 (w.heap.size + 1) 0 (by first | omega | (simp; try omega)); have f2_1 := xf2 (w.heap.size + 1) 0 (by first | omega | (simp; try omega)); have r2_1_1 := xc2 (w.heap.size + 1) 1 (by first | omega | (simp; try omega)); have f2_1_1 := xf2 (w.heap.size + 1) 1 (by first | omega | (simp; try omega)); have r2_1_2 := xc2 (w.heap.size + 1) 2 (by first | omega | (simp; try omega)); have f2_1_2 := xf2 (w.heap.size + 1) 2 (by first | omega | (simp; try omega)))
    | (go_at_call 25; (with_reducible refine (hp _).mono ?_); rintro e w3 ⟨B, j, ⟨rfl, hj⟩, hY, xb3⟩; obtain ⟨xc3, xf3, xl3, xz3⟩ := ext_use xb3; (try simp at xz3); have l3_0 := xl3 (w.heap.size) (by first | omega | (simp; try omega)); have r3_0 := xc3 (w.heap.size) 0 (by first | omega | (simp; try omega)); have f3_0 := xf3 (w.heap.size) 0 (by first | omega | (simp; try omega)); have r3_0_1 := xc3 (w.heap.size) 1 (by first | omega | (simp; try omega)); have f3_0_1 := xf3 (w.heap.size) 1 (by first | omega | (simp; try omega)); have r3_0_2 := xc3 (w.heap.size) 2 (by first | omega | (simp; try omega)); have f3_0_2 := xf3 (w.heap.size) 2 (by first | omega | (simp; try omega)); have l3_1 := xl3 (w.heap.size + 1) (by first | omega | (simp; try omega)); have r3_1 := xc3 (w.heap.size + 1) 0 (by first | omega | (simp; try omega)); have f3_1 := xf3 (w.heap.size + 1) 0 (by first | omega | (simp; try omega)); have r3_1_1 := xc3 (w.heap.size + 1) 1 (by first | omega | (simp; try omega)); have f3_1_1 := xf3 (w.heap.size + 1) 1 (by first | omega | (simp; try omega)); have r3_1_2 := xc3 (w.heap.size + 1) 2 (by first | omega | (simp; try omega)); have f3_1_2 := xf3 (w.heap.size + 1) 2 (by first | omega | (simp; try omega)); have l3_2 := xl3 (w2.heap.size) (by first | omega | (simp; try omega)); have r3_2 := xc3 (w2.heap.size) 0 (by first | omega | (simp; try omega)); have f3_2 := xf3 (w2.heap.size) 0 (by first | omega | (simp; try omega)))
    | (go_at_call 26; (with_reducible refine (ra_make neg A k k X B j j Y h10 (by omega) (by omega) _ (HT.out.ext (by (repeat (first | exact ext_refl _ | assumption | refine ext_setCell ?_ (by simp; try omega) _ | refine ext_alloc ?_ _ | refine ext_drew ?_ | refine ext_drewN ?_ _ | refine ext_trans ?_ (Aft.use _) | refine ext_trans ?_ (by assumption))))) (hX.out.1.ext (by (repeat (first | exact ext_refl _ | assumption | refine ext_setCell ?_ (by simp; try omega) _ | refine ext_alloc ?_ _ | refine ext_drew ?_ | refine ext_drewN ?_ _ | refine ext_trans ?_ (Aft.use _) | refine ext_trans ?_ (by assumption))))) (hY.out.1.ext (by (repeat (first | exact ext_refl _ | assumption | refine ext_setCell ?_ (by simp; try omega) _ | refine ext_alloc ?_ _ | refine ext_drew ?_ | refine ext_drewN ?_ _ | refine ext_trans ?_ (Aft.use _) | refine ext_trans ?_ (by assumption)))))).mono ?_); rintro e w4 ⟨C, n, c, D, m, d, rfl, hZ, xb4⟩; obtain ⟨xc4, xf4, xl4, xz4⟩ := ext_use xb4; (try simp at xz4); have l4_0 := xl4 (w.heap.size) (by first | omega | (simp; try omega)); have r4_0 := xc4 (w.heap.size) 0 (by first | omega | (simp; try omega)); have f4_0 := xf4 (w.heap.size) 0 (by first | omega | (simp; try omega)); have r4_0_1 := xc4 (w.heap.size) 1 (by first | omega | (simp; try omega)); have f4_0_1 := xf4 (w.heap.size) 1 (by first | omega | (simp; try omega)); have r4_0_2 := xc4 (w.heap.size) 2 (by first | omega | (simp; try omega)); have f4_0_2 := xf4 (w.heap.size) 2 (by first | omega | (simp; try omega)); have l4_1 := xl4 (w.heap.size + 1) (by first | omega | (simp; try omega)); have r4_1 := xc4 (w.heap.size + 1) 0 (by first | omega | (simp; try omega)); have f4_1 := xf4 (w.heap.size + 1) 0 (by first | omega | (simp; try omega)); have r4_1_1 := xc4 (w.heap.size + 1) 1 (by first | omega | (simp; try omega)); have f4_1_1 := xf4 (w.heap.size + 1) 1 (by first | omega | (simp; try omega)); have r4_1_2 := xc4 (w.heap.size + 1) 2 (by first | omega | (simp; try omega)); have f4_1_2 := xf4 (w.heap.size + 1) 2 (by first | omega | (simp; try omega)))
   )
  have n5 : ∀ x, C = some x → w.heap.size + 1 < x.block := fun x hx => by have := hZ.out.2.1 x hx; simp at this; omega
  have n6 : ∀ x, D = some x → w.heap.size + 1 < x.block := fun x hx => by have := hZ.out.2.2.2 x hx; simp at this; omega
  have z0 : w4.cell? ⟨w.heap.size + 1, 0, none⟩ = some (.bool false) := by simp [go_sem, *]
  have z1 : w4.cell? ⟨w.heap.size + 1, 1, none⟩ = some (.slice none 0 0) := by simp [go_sem, *]
  have z2 : w4.cell? ⟨w.heap.size + 1, 2, none⟩ = some (.slice none 0 0) := by simp [go_sem, *]
  obtain ⟨q0, q1, q2⟩ := set3 (b := w.heap.size + 1) z0 z1 z2 (.bool (decide (sgn neg (X / X.gcd Y : Nat) < 0))) (.slice C n c) (.slice D m d)
  have hEE : Ext w w4 := by (repeat (first | exact ext_refl _ | assumption | refine ext_setCell ?_ (by simp; try omega) _ | refine ext_alloc ?_ _ | refine ext_drew ?_ | refine ext_drewN ?_ _ | refine ext_trans ?_ (Aft.use _) | refine ext_trans ?_ (by assumption)))
  refine bodyPost_ret (v := .tuple #[ratV (decide (sgn neg ↑(X / X.gcd Y) < 0)) C n c D m d, .int .i64 0]) ?h rfl ⟨C, n, c, D, m, d, rfl, ⟨hZ.out.1.set3 n5 _ _ _, fun x hx => Nat.le_of_lt (by have := n5 x hx; omega), hZ.out.2.2.1.set3 n6 _ _ _, fun x hx => Nat.le_of_lt (by have := n6 x hx; omega)⟩, ext_set3 hEE (by omega) _ _ _⟩
  case h => simp [results, Tryz.results7, go_sem, q0, q1, q2]
end Go.Proofs.YtdjegfnkpagdaaaGreatDoor
end
section
/- The program's small numbers told. -/
namespace Go.Proofs.YtdjegfnkpagdaaaGreatDoor
open Go.RowKit
attribute [local go_sem] sz2 sz3 sz4 sz5 sz6 sz7 sz8
set_option maxHeartbeats 4000000
set_option maxRecDepth 100000
attribute [local irreducible] Calls
theorem nlow_small (v : Nat) (h0 : 0 < v) (hv : v < 4294967296) (A : Option Addr) (n c : Nat) (w : World) (hA : Rd w A n c (lim v)) :
    Calls Tryz.prog 22 #[natV A n c] w fun e w' => e = .returned (.tuple #[.int .u64 (v : Int), .bool true]) ∧ Ext w w' := by
  have hc : ∀ w', Ext w w' → Calls Tryz.prog 52 #[natV A n c] w' fun e w'' => e = .returned (.int .i64 0) ∧ Ext w' w'' := fun w' he => by
    have := ncheck_any A n c (lim v) w' (hA.ext he); rwa [chk_lim (by rw [lim_one h0 hv]; simp)] at this
  have HA := Lib.hid hA
  have hln : n = 1 := by have := hA.len; rw [lim_one h0 hv] at this; simpa using this.symm
  subst hln
  obtain ⟨bx, ox, hXe⟩ : ∃ b off, A = some ⟨b, off, none⟩ := by
    rcases HA.out.shape with ⟨_, h, _⟩ | h
    · omega
    · exact h
  subst hXe
  clear hA
  go_enter Tryz.func22, Tryz.ntmps22
  go_wp2_with (first
    | (go_at_call 52; (with_reducible refine (hc _ (ext_alloc (ext_refl _) _)).mono ?_); rintro e w1 ⟨rfl, xb1⟩; obtain ⟨xc1, xf1, xl1, xz1⟩ := ext_use xb1; (try simp at xz1); have l1_0 := xl1 (w.heap.size) (by first | omega | (simp; try omega)); have r1_0 := xc1 (w.heap.size) 0 (by first | omega | (simp; try omega)); have f1_0 := xf1 (w.heap.size) 0 (by first | omega | (simp; try omega)))
   )
  have hE1 := Lib.hid (ext_trans (ext_alloc (ext_refl w) _) xb1)
  go_loopw [4, 19] (fun vn vi wr => ∃ i : Nat, i ≤ 1 ∧ vi = .int .i64 (i : Int) ∧ vn = .int .u64 ((if i = 0 then 0 else v : Nat) : Int) ∧ Hid (Ext w wr)) (fun _ vi _ => 1 - (intOf vi).toNat)
  case atStart => exact ⟨0, by omega, rfl, rfl, hE1.out⟩
  case round =>
    obtain ⟨i, hi, rfl, rfl, hE⟩ := hrel
    by_cases h1 : i = 1
    · subst h1
      go_wp2
      refine bodyPost_ret (v := .tuple #[.int .u64 ↑v, .bool true]) ?h rfl ⟨rfl, hE.out⟩
      case h => simp [results, Tryz.results22, go_sem]
    · obtain rfl : i = 0 := by omega
      obtain ⟨x, hx, hxb, hcx⟩ := (HA.out.ext hE.out).get 0 (by omega)
      rw [lim_one h0 hv] at hx
      rw [Nat.add_zero] at hcx
      have hxv : x = v := hx.out.symm
      subst hxv
      have hor := bits_or64_0 x (by omega)
      have hor2 : bits BinOp.or IntKind.u64 0 (x : Int) = (x : Int) := by have := bits_or64 0 x (by decide) (by omega); rwa [Nat.zero_or] at this
      go_wp2
      case roundEnd => exact ⟨⟨1, by omega, rfl, by simp, hE.out⟩, by simp [intOf]⟩
end Go.Proofs.YtdjegfnkpagdaaaGreatDoor
end
section
/- Whole numbers of the library's: order, sums. -/
namespace Go.Proofs.YtdjegfnkpagdaaaGreatDoor
open Go.RowKit
attribute [local go_sem] sz2 sz3 sz4 sz5 sz6 sz7 sz8
set_option maxHeartbeats 4000000
set_option maxRecDepth 100000
attribute [local irreducible] Calls
theorem cmpN_sign (a b : Nat) : cmpN a b = ((a : Int) - b).sign := by
  unfold cmpN
  split
  · rw [Int.sign_eq_neg_one_of_neg (by omega)]
  · split
    · rw [Int.sign_eq_one_of_pos (by omega)]
    · rw [show (a : Int) - b = 0 by omega]; rfl
theorem bi_Cmp (b o g p : Nat) (x y : Int) (A : Option Addr) (n c : Nat) (B : Option Addr) (m d : Nat) (w : World) (hx : IntIs w b o x A n c) (hy : IntIs w g p y B m d) :
    Calls Tryz.prog 82 #[.pointer (some ⟨b, o, none⟩), .pointer (some ⟨g, p, none⟩)] w fun e w' => e = .returned (.int .i64 (x - y).sign) ∧ Ext w w' := by
  have HX := Lib.hid hx
  have HY := Lib.hid hy
  have lx := hx.room.lt
  have x0 := hx.neg
  have x1 := hx.words
  have ly := hy.room.lt
  have y0 := hy.neg
  have y1 := hy.words
  have kc : ∀ w', Ext w w' → Calls Tryz.prog 84 #[.slice A n c, .slice B m d] w' fun e w'' => e = .returned (.int .i64 (cmpN x.natAbs y.natAbs)) ∧ Ext w' w'' := fun w' he => bw_cmp A B n c m d _ _ w' (HX.out.rd.ext he) (HY.out.rd.ext he)
  clear hx hy HX HY
  by_cases hs : x < 0
  · rw [decide_eq_true hs] at x0
    by_cases ht : y < 0
    · rw [decide_eq_true ht] at y0
      have e1 : -(cmpN x.natAbs y.natAbs) = (x - y).sign := by
        rw [cmpN_sign, ← Int.sign_neg]; congr 1; omega
      have e2 : IntKind.i64.wrap (-(cmpN x.natAbs y.natAbs)) = (x - y).sign := by
        rw [e1]
        have : (x - y).sign = -1 ∨ (x - y).sign = 0 ∨ (x - y).sign = 1 := by
          rcases Int.lt_trichotomy (x - y) 0 with h | h | h
          · exact .inl (Int.sign_eq_neg_one_of_neg h)
          · rw [h]; exact .inr (.inl rfl)
          · exact .inr (.inr (Int.sign_eq_one_of_pos h))
        rcases this with h | h | h <;> rw [h] <;> decide
      generalize cmpN x.natAbs y.natAbs = C at kc e1 e2
      generalize (x - y).sign = R at e1 e2 ⊢
      clear hs ht e1
      go_enter Tryz.func82, Tryz.ntmps82
      go_wp2
      refine wp_aft (by kernel_rfl) (by kernel_rfl) (fun hq hqf => ?_)
      repeat (go_big_quiet_step (first | fail
        ))
      refine wpQuiet_nil ?_
      rintro _ ⟨nq, rfl⟩
      have xl := ext_lt nq.use
      have xz := ext_size nq.use
      try simp at xz
      have hE1 := Lib.hid nq.use
      have z0 := (Below.cell (p := ⟨b, o, none⟩) nq.use lx).trans x0
      have z1 := (Below.cell (p := ⟨b, o + 1, none⟩) nq.use lx).trans x1
      have z2 := (Below.cell (p := ⟨g, p + 1, none⟩) nq.use ly).trans y1
      go_wp2
      have lx2 := xl b lx
      have ly2 := xl g ly
      refine wp_aft (by kernel_rfl) (by kernel_rfl) (fun hq hqf => ?_)
      repeat (go_big_quiet_step (first
        | (go_at_call 84; exact aft_of (kc _ (ext_trans hE1.out (Aft.use _))))
        ))
      refine wpQuiet_nil ?_
      rintro _ ⟨nq, rfl⟩
      have xl := ext_lt nq.use
      have xz := ext_size nq.use
      try simp at xz
      go_wp2
      refine bodyPost_ret (v := .int .i64 R) ?h rfl ⟨rfl, ext_trans hE1.out nq.use⟩
      case h => simp [results, Tryz.results82, go_sem]
    · rw [decide_eq_false ht] at y0
      have e1 : (x - y).sign = -1 := Int.sign_eq_neg_one_of_neg (by omega)
      rw [e1]
      clear hs ht e1 kc
      go_enter Tryz.func82, Tryz.ntmps82
      go_wp2
      refine wp_aft (by kernel_rfl) (by kernel_rfl) (fun hq hqf => ?_)
      repeat (go_big_quiet_step (first | fail
        ))
      refine wpQuiet_nil ?_
      rintro _ ⟨nq, rfl⟩
      have xl := ext_lt nq.use
      have xz := ext_size nq.use
      try simp at xz
      have hE1 := Lib.hid nq.use
      have z0 := (Below.cell (p := ⟨b, o, none⟩) nq.use lx).trans x0
      go_wp2
      refine bodyPost_ret (v := .int .i64 (-1)) ?h rfl ⟨rfl, hE1.out⟩
      case h => simp [results, Tryz.results82, go_sem]
  · rw [decide_eq_false hs] at x0
    by_cases ht : y < 0
    · rw [decide_eq_true ht] at y0
      have e1 : (x - y).sign = 1 := Int.sign_eq_one_of_pos (by omega)
      rw [e1]
      clear hs ht e1 kc
      go_enter Tryz.func82, Tryz.ntmps82
      go_wp2
      refine wp_aft (by kernel_rfl) (by kernel_rfl) (fun hq hqf => ?_)
      repeat (go_big_quiet_step (first | fail
        ))
      refine wpQuiet_nil ?_
      rintro _ ⟨nq, rfl⟩
      have xl := ext_lt nq.use
      have xz := ext_size nq.use
      try simp at xz
      have hE1 := Lib.hid nq.use
      have z0 := (Below.cell (p := ⟨b, o, none⟩) nq.use lx).trans x0
      go_wp2
      refine bodyPost_ret (v := .int .i64 1) ?h rfl ⟨rfl, hE1.out⟩
      case h => simp [results, Tryz.results82, go_sem]
    · rw [decide_eq_false ht] at y0
      have e1 : cmpN x.natAbs y.natAbs = (x - y).sign := by
        rw [cmpN_sign]; congr 1; omega
      generalize cmpN x.natAbs y.natAbs = C at kc e1
      generalize (x - y).sign = R at e1 ⊢
      subst e1
      clear hs ht
      go_enter Tryz.func82, Tryz.ntmps82
      go_wp2
      refine wp_aft (by kernel_rfl) (by kernel_rfl) (fun hq hqf => ?_)
      repeat (go_big_quiet_step (first | fail
        ))
      refine wpQuiet_nil ?_
      rintro _ ⟨nq, rfl⟩
      have xl := ext_lt nq.use
      have xz := ext_size nq.use
      try simp at xz
      have hE1 := Lib.hid nq.use
      have z0 := (Below.cell (p := ⟨b, o, none⟩) nq.use lx).trans x0
      have z1 := (Below.cell (p := ⟨b, o + 1, none⟩) nq.use lx).trans x1
      have z2 := (Below.cell (p := ⟨g, p + 1, none⟩) nq.use ly).trans y1
      go_wp2
      have lx2 := xl b lx
      have ly2 := xl g ly
      refine wp_aft (by kernel_rfl) (by kernel_rfl) (fun hq hqf => ?_)
      repeat (go_big_quiet_step (first
        | (go_at_call 84; exact aft_of (kc _ (ext_trans hE1.out (Aft.use _))))
        ))
      refine wpQuiet_nil ?_
      rintro _ ⟨nq, rfl⟩
      have xl := ext_lt nq.use
      have xz := ext_size nq.use
      try simp at xz
      go_wp2
      refine bodyPost_ret (v := .int .i64 C) ?h rfl ⟨rfl, ext_trans hE1.out nq.use⟩
      case h => simp [results, Tryz.results82, go_sem]
end Go.Proofs.YtdjegfnkpagdaaaGreatDoor
end
section
/- What is seen of a fraction, compared with itself. -/
namespace Go.Proofs.YtdjegfnkpagdaaaGreatDoor
open Go.RowKit
theorem neq_look (b : Bool) (n m : Int) (w : World) : (binOp .neq 129 (.agg #[.bool b, .int .i64 n, .int .i64 m]) (.agg #[.bool b, .int .i64 n, .int .i64 m])).run Tryz.prog w = .ok (.bool false) w := by
  cases b <;> simp [go_sem]
end Go.Proofs.YtdjegfnkpagdaaaGreatDoor
end
section
/- The program's fractions: taken. -/
namespace Go.Proofs.YtdjegfnkpagdaaaGreatDoor
open Go.RowKit
attribute [local go_sem] sz2 sz3 sz4 sz5 sz6 sz7 sz8
set_option maxHeartbeats 4000000
set_option maxRecDepth 100000
attribute [local irreducible] Calls
attribute [local go_sem high] neq_look
/-- A fraction of the library's, in a block of its own, with words of its own. -/
abbrev KPost (w : World) (z : Int) (d : Nat) : Ending → World → Prop := fun e w' => ∃ (g : Nat) (A : Option Addr) (n c : Nat) (D : Option Addr) (m k : Nat), e = .returned (.tuple #[.pointer (some ⟨g, 0, none⟩), .int .i64 0]) ∧
  Hid (RatIs w' g z A n c d D m k ∧ Fr w A ∧ Fr w D) ∧ w.heap.size ≤ g ∧ Ext w w'
theorem ra_seen (neg : Bool) (A : Option Addr) (n c : Nat) (D : Option Addr) (m k : Nat) (w : World) : Calls Tryz.prog 80 #[ratV neg A n c D m k] w fun e w' => e = .returned (.agg #[.bool neg, .int .i64 (n : Int), .int .i64 (m : Int)]) ∧ Ext w w' := by
  go_enter Tryz.func80, Tryz.ntmps80
  go_wp2
  refine bodyPost_ret (v := .agg #[.bool neg, .int .i64 ↑n, .int .i64 ↑m]) ?h rfl ⟨rfl, ?_⟩
  case h => simp [results, Tryz.results80, go_sem]
  repeat (first | exact ext_refl _ | assumption | refine ext_setCell ?_ (by simp; try omega) _ | refine ext_alloc ?_ _ | refine ext_drew ?_ | refine ext_drewN ?_ _ | refine ext_trans ?_ (Aft.use _) | refine ext_trans ?_ (by assumption))
theorem ra_taken (neg : Bool) (A : Option Addr) (n c a : Nat) (D : Option Addr) (m k d : Nat) (hd : d ≠ 0) (hn : n ≤ 16384) (hm : m ≤ 16384) (hg : Nat.gcd a d = 1) (hng : neg = true → a ≠ 0) (w : World) (hT : Tz w) (hA : Rd w A n c (lim a)) (hD : Rd w D m k (lim d)) :
    Calls Tryz.prog 47 #[ratV neg A n c D m k] w (KPost w (sgn neg a) (lowD a d)) := by
  have HA := Lib.hid hA
  have HD := Lib.hid hD
  have HT := Lib.hid hT
  have hla := hA.len
  have hld := hD.len
  have hm0 : ((m : Int) == 0) = false := by
    rw [beq_eq_false_iff_ne]
    intro h; exact hd (lim_nil.1 (List.eq_nil_of_length_eq_zero (by omega)))
  have chA : ∀ w', Ext w w' → Calls Tryz.prog 52 #[natV A n c] w' fun e w'' => e = .returned (.int .i64 0) ∧ Ext w' w'' := fun w' he => by
    have := ncheck_any A n c (lim a) w' (HA.out.ext he); rwa [chk_lim (by omega)] at this
  have chD : ∀ w', Ext w w' → Calls Tryz.prog 52 #[natV D m k] w' fun e w'' => e = .returned (.int .i64 0) ∧ Ext w' w'' := fun w' he => by
    have := ncheck_any D m k (lim d) w' (HD.out.ext he); rwa [chk_lim (by omega)] at this
  have kA : ∀ w', Ext w w' → Calls Tryz.prog 56 #[natV A n c] w' (NPost w' a) := fun w' he => ra_whole A n c a (by omega) w' (HA.out.ext he)
  have kD : ∀ w', Ext w w' → Calls Tryz.prog 56 #[natV D m k] w' (NPost w' d) := fun w' he => ra_whole D m k d (by omega) w' (HD.out.ext he)
  clear hA hD hT
  go_enter Tryz.func47, Tryz.ntmps47
  go_upto_region 3 with (first
    | (go_at_call 52; (with_reducible refine (chA _ (by (repeat (first | exact ext_refl _ | assumption | refine ext_setCell ?_ (by simp; try omega) _ | refine ext_alloc ?_ _ | refine ext_drew ?_ | refine ext_drewN ?_ _ | refine ext_trans ?_ (Aft.use _) | refine ext_trans ?_ (by assumption))))).mono ?_); rintro e w1 ⟨rfl, xb1⟩; obtain ⟨xc1, xf1, xl1, xz1⟩ := ext_use xb1; (try simp at xz1); have l1_0 := xl1 (w.heap.size) (by first | omega | (simp; try omega)); have r1_0 := xc1 (w.heap.size) 0 (by first | omega | (simp; try omega)); have f1_0 := xf1 (w.heap.size) 0 (by first | omega | (simp; try omega)); have r1_0_1 := xc1 (w.heap.size) 1 (by first | omega | (simp; try omega)); have f1_0_1 := xf1 (w.heap.size) 1 (by first | omega | (simp; try omega)); have r1_0_2 := xc1 (w.heap.size) 2 (by first | omega | (simp; try omega)); have f1_0_2 := xf1 (w.heap.size) 2 (by first | omega | (simp; try omega)))
    | (go_at_call 52; (with_reducible refine (chD _ (by (repeat (first | exact ext_refl _ | assumption | refine ext_setCell ?_ (by simp; try omega) _ | refine ext_alloc ?_ _ | refine ext_drew ?_ | refine ext_drewN ?_ _ | refine ext_trans ?_ (Aft.use _) | refine ext_trans ?_ (by assumption))))).mono ?_); rintro e w2 ⟨rfl, xb2⟩; obtain ⟨xc2, xf2, xl2, xz2⟩ := ext_use xb2; (try simp at xz2); have l2_0 := xl2 (w.heap.size) (by first | omega | (simp; try omega)); have r2_0 := xc2 (w.heap.size) 0 (by first | omega | (simp; try omega)); have f2_0 := xf2 (w.heap.size) 0 (by first | omega | (simp; try omega)); have r2_0_1 := xc2 (w.heap.size) 1 (by first | omega | (simp; try omega)); have f2_0_1 := xf2 (w.heap.size) 1 (by first | omega | (simp; try omega)); have r2_0_2 := xc2 (w.heap.size) 2 (by first | omega | (simp; try omega)); have f2_0_2 := xf2 (w.heap.size) 2 (by first | omega | (simp; try omega)))
   )
  have z0 : w2.cell? ⟨w.heap.size, 0, none⟩ = some (.bool neg) := by simp [go_sem, *]
  have z1 : w2.cell? ⟨w.heap.size, 1, none⟩ = some (.slice A n c) := by simp [go_sem, *]
  have z2 : w2.cell? ⟨w.heap.size, 2, none⟩ = some (.slice D m k) := by simp [go_sem, *]
  have zl : w.heap.size < w2.heap.size := by assumption
  have hE2 : Hid (Ext w w2) := by show Ext w w2; (repeat (first | exact ext_refl _ | assumption | refine ext_setCell ?_ (by simp; try omega) _ | refine ext_alloc ?_ _ | refine ext_drew ?_ | refine ext_drewN ?_ _ | refine ext_trans ?_ (Aft.use _) | refine ext_trans ?_ (by assumption)))
  clear chA chD
  go_cut [4, 5] (fun p q wc => ∃ (b1 : Nat) (B1 : Option Addr) (k1 l1 b3 : Nat) (B3 : Option Addr) (k3 l3 : Nat), p = .pointer (some ⟨b1, 0, none⟩) ∧ q = .pointer (some ⟨b3, 0, none⟩) ∧ Hid (IntIs wc b1 0 a B1 k1 l1) ∧ Hid (IntIs wc b3 0 d B3 k3 l3) ∧ Hid (b3 ≠ b1 ∧ Off B3 k3 b1 ∧ w2.heap.size ≤ b1) ∧ Hid (Ext w2 wc))
  case first =>
    go_region_with (first
      | (go_at_call 56; (with_reducible refine (kA _ (ext_trans hE2.out (by (repeat (first | exact ext_refl _ | assumption | refine ext_setCell ?_ (by simp; try omega) _ | refine ext_alloc ?_ _ | refine ext_drew ?_ | refine ext_drewN ?_ _ | refine ext_trans ?_ (Aft.use _) | refine ext_trans ?_ (by assumption)))))).mono ?_); rintro e w5 ⟨b5, B5, k5, l5, rfl, hI5, hb5, xb5⟩; obtain ⟨xc5, xf5, xl5, xz5⟩ := ext_use xb5; (try simp at xz5); have l5_0 := xl5 (w.heap.size) (by first | omega | (simp; try omega)); have r5_0 := xc5 (w.heap.size) 0 (by first | omega | (simp; try omega)); have f5_0 := xf5 (w.heap.size) 0 (by first | omega | (simp; try omega)); have r5_0_1 := xc5 (w.heap.size) 1 (by first | omega | (simp; try omega)); have f5_0_1 := xf5 (w.heap.size) 1 (by first | omega | (simp; try omega)); have r5_0_2 := xc5 (w.heap.size) 2 (by first | omega | (simp; try omega)); have f5_0_2 := xf5 (w.heap.size) 2 (by first | omega | (simp; try omega)))
      | (go_at_call 56; (with_reducible refine (kD _ (ext_trans hE2.out (by (repeat (first | exact ext_refl _ | assumption | refine ext_setCell ?_ (by simp; try omega) _ | refine ext_alloc ?_ _ | refine ext_drew ?_ | refine ext_drewN ?_ _ | refine ext_trans ?_ (Aft.use _) | refine ext_trans ?_ (by assumption)))))).mono ?_); rintro e w6 ⟨b6, B6, k6, l6, rfl, hI6, hb6, xb6⟩; obtain ⟨xc6, xf6, xl6, xz6⟩ := ext_use xb6; (try simp at xz6); have l6_0 := xl6 (w.heap.size) (by first | omega | (simp; try omega)); have r6_0 := xc6 (w.heap.size) 0 (by first | omega | (simp; try omega)); have f6_0 := xf6 (w.heap.size) 0 (by first | omega | (simp; try omega)); have r6_0_1 := xc6 (w.heap.size) 1 (by first | omega | (simp; try omega)); have f6_0_1 := xf6 (w.heap.size) 1 (by first | omega | (simp; try omega)); have r6_0_2 := xc6 (w.heap.size) 2 (by first | omega | (simp; try omega)); have f6_0_2 := xf6 (w.heap.size) 2 (by first | omega | (simp; try omega)))
     )
    all_goals
      go_wp2_with fail
      go_meet
      case rel =>
        have q5 := hI5.out.1.room.lt
        have q6 := hI6.out.1.room.lt
        simp at hb5 hb6
        first
          | exact ⟨b5, B5, k5, l5, b6, B6, k6, l6, rfl, rfl, hI5.out.1.ext xb6, hI6.out.1, ⟨by omega, hI6.out.2.off q5 k6, by omega⟩, ext_trans (ext_drew (ext_refl w2)) (ext_trans xb5 xb6)⟩
          | exact ⟨b5, B5, k5, l5, b6, B6, k6, l6, rfl, rfl, hI5.out.1, hI6.out.1.ext xb5, ⟨by omega, hI6.out.1.rd.off hb5, by have := ext_size xb6; simp at this; omega⟩, ext_trans (ext_drew (ext_refl w2)) (ext_trans xb6 xb5)⟩
  case rest =>
    obtain ⟨b1, B1, k1, l1, b3, B3, k3, l3, rfl, rfl, hI1, hI3, hap, hEc⟩ := hcut
    have hk1 := Nat.le_trans (Nat.le_of_eq (hI1.out.lenNat.symm.trans hla)) hn
    have hk3 := Nat.le_trans (Nat.le_of_eq (hI3.out.lenNat.symm.trans hld)) hm
    have hk1b : k1 ≤ 1000000 := by omega
    have hk1c : k1 ≤ 400000 := by omega
    have hk3c : k3 ≤ 400000 := by omega
    clear xb1 xb2 kA kD
    have hl3 := lowD_len (a := a) hd
    rw [hla, hld] at hl3
    have hn' := Nat.le_trans hl3.2.2 hn
    have hm' := Nat.le_trans hl3.2.1 (Nat.le_trans hm (show 16384 ≤ 100000 by decide))
    have hdl := Nat.le_trans hl3.1 hm
    have hden : denOf (lowD a d) = d := by
      unfold denOf lowD
      by_cases h0 : a = 0
      · rw [if_pos h0, if_pos rfl]; subst h0; rw [Nat.gcd_zero_left] at hg; exact hg.symm
      · rw [if_neg h0, hg, Nat.div_one, if_neg hd]
    have y0 := (Below.cell (p := ⟨w.heap.size, 0, none⟩) hEc.out zl).trans z0
    go_upto_if 33 with (fail)
    go_cut [4] (fun p wn => ∃ (B2 : Option Addr) (k2 l2 : Nat), p = .pointer (some ⟨b1, 0, none⟩) ∧ k2 ≤ 400000 ∧ Hid (IntIs wn b1 0 (sgn neg a) B2 k2 l2) ∧ Hid (IntIs wn b3 0 d B3 k3 l3) ∧ Hid (Ext w2 wn))
    case first =>
      cases neg with
      | false =>
        go_wp2
        go_meet
        case rel => exact ⟨B1, k1, l1, rfl, hk1c, hI1.out, hI3, hEc⟩
      | true =>
        go_wp2_with (first
          | (go_at_call 57; (with_reducible refine (bi_Neg b1 0 b1 0 B1 k1 l1 a hk1b _ hI1.out.room hI1.out).mono ?_); rintro e w7 ⟨rfl, B2, k2, l2, hI2, xt2⟩)
         )
        go_meet
        case rel =>
          refine ⟨B2, k2, l2, rfl, ?_, hI2.out.1, hI3.out.tch xt2 hap.out.1 hap.out.2.1, xt2.ext hEc.out hap.out.2.2⟩
          have := hI2.out.1.rd.len; rw [Int.natAbs_neg, Int.natAbs_natCast, hla] at this; omega
    case rest =>
    obtain ⟨wq, rfl⟩ : ∃ wq, wq = wc := ⟨wc, rfl⟩
    obtain ⟨B2, k2, l2, rfl, hk2, hI2, hI3, hEc⟩ := hcut
    clear y0
    have y0 := (Below.cell (p := ⟨w.heap.size, 0, none⟩) hEc.out zl).trans z0
    have y1 := (Below.cell (p := ⟨w.heap.size, 1, none⟩) hEc.out zl).trans z1
    have y2 := (Below.cell (p := ⟨w.heap.size, 2, none⟩) hEc.out zl).trans z2
    have yl := ext_lt hEc.out _ zl
    have hE3 := Lib.hid (ext_trans hE2.out hEc.out)
    have hTr := Lib.hid (HT.out.ext hE3.out)
    go_upto_region 8 with (first
      | (go_at_call 59; (with_reducible refine (br_SetFrac' _ b1 b3 neg a d hd B2 k2 l2 B3 k3 l3 hk2 hk3c _ (hTr.out.ext (ext_alloc (ext_refl _) _)) (rat_room wq) (hI2.out.ext (ext_alloc (ext_refl _) _)) (hI3.out.ext (ext_alloc (ext_refl _) _))).mono ?_); rintro e w4 ⟨rfl, A4, n4, c4, D4, m4, e4, hI4, xt4⟩; have hn4 := Nat.le_trans (Nat.le_of_eq hI4.out.1.int.lenSgn.symm) hn'; have hm4 := Nat.le_trans (Nat.le_of_eq hI4.out.1.rd.len.symm) hm'; have hx4 := Lib.hid (xt4.ext (ext_alloc (ext_refl wq) _) (Nat.le_refl _)); have v0 := (Below.cell (p := ⟨w.heap.size, 0, none⟩) hx4.out yl).trans y0; have v1 := (Below.cell (p := ⟨w.heap.size, 1, none⟩) hx4.out yl).trans y1; have v2 := (Below.cell (p := ⟨w.heap.size, 2, none⟩) hx4.out yl).trans y2; have vl := ext_lt hx4.out _ yl)
      | (go_at_call 58; (with_reducible refine (ra_told_ok _ _ A4 n4 c4 _ D4 m4 e4 hn4 hm4 hdl _ hI4.out.1).mono ?_); rintro e w5 ⟨A5, n5, c5, D5, m5, e5, rfl, hI5, xb5⟩; obtain ⟨xc5, xf5, xl5, xz5⟩ := ext_use xb5; (try simp at xz5); have l5_0 := xl5 (w.heap.size) (by first | omega | (simp; try omega)); have r5_0 := xc5 (w.heap.size) 0 (by first | omega | (simp; try omega)); have f5_0 := xf5 (w.heap.size) 0 (by first | omega | (simp; try omega)); have r5_0_1 := xc5 (w.heap.size) 1 (by first | omega | (simp; try omega)); have f5_0_1 := xf5 (w.heap.size) 1 (by first | omega | (simp; try omega)); have r5_0_2 := xc5 (w.heap.size) 2 (by first | omega | (simp; try omega)); have f5_0_2 := xf5 (w.heap.size) 2 (by first | omega | (simp; try omega)))
     )
    have hds : decide (sgn neg a < 0) = neg := by rw [sgn_lt]; cases neg; rfl; exact decide_eq_true (Nat.pos_of_ne_zero (hng rfl))
    obtain rfl : n5 = n := by rw [← hI5.out.1.len, ← hla, sgn_abs, hg, Nat.div_one]
    obtain rfl : m5 = m := by rw [← hI5.out.2.2.1.len, hden, hld]
    have hE5 := Lib.hid (ext_trans hx4.out xb5)
    have hR5 := Lib.hid (hI4.out.1.ext xb5)
    have hN5 := Lib.hid (hI3.out.ext hE5.out)
    have kDen : ∀ wx, Ext w5 wx → Calls Tryz.prog 81 #[.pointer (some ⟨wq.heap.size, 0, none⟩)] wx (NPost wx d) := fun wx hx => by
      have := br_Denom _ _ _ _ _ _ _ _ _ (by omega) wx (hR5.out.ext hx); rwa [hden] at this
    have kCmp : ∀ b7 B7 k7 l7 wx, Ext w5 wx → IntIs wx b7 0 d B7 k7 l7 → Calls Tryz.prog 82 #[.pointer (some ⟨b7, 0, none⟩), .pointer (some ⟨b3, 0, none⟩)] wx fun e w' => e = .returned (.int .i64 0) ∧ Ext wx w' := fun b7 B7 k7 l7 wx hx h7 => by
      have := bi_Cmp b7 0 b3 0 d d B7 k7 l7 B3 k3 l3 wx h7 (hN5.out.ext hx); rwa [Int.sub_self, Int.sign_zero] at this
    clear hng
    generalize hdz : decide (sgn neg a < 0) = dz
    rw [hdz] at hds
    subst hds
    clear hdz
    have hcl : Hid (Ext w (w5.alloc (Obj.cells #[.bool false, .slice A5 n5 c5, .slice D5 m5 e5] 28))) := ext_alloc (ext_trans hE3.out hE5.out) _
    go_cut [61] (fun v wn => v = .bool false ∧ Hid (Ext w5 wn))
    case first =>
      go_region_with (first
        | (go_at_call 80; (with_reducible refine (ra_seen _ _ _ _ _ _ _ _).mono ?_); rintro e w6 ⟨rfl, xb6⟩; obtain ⟨xc6, xf6, xl6, xz6⟩ := ext_use xb6; (try simp at xz6); have l6_0 := xl6 (w.heap.size) (by first | omega | (simp; try omega)); have r6_0 := xc6 (w.heap.size) 0 (by first | omega | (simp; try omega)); have f6_0 := xf6 (w.heap.size) 0 (by first | omega | (simp; try omega)); have r6_0_1 := xc6 (w.heap.size) 1 (by first | omega | (simp; try omega)); have f6_0_1 := xf6 (w.heap.size) 1 (by first | omega | (simp; try omega)); have r6_0_2 := xc6 (w.heap.size) 2 (by first | omega | (simp; try omega)); have f6_0_2 := xf6 (w.heap.size) 2 (by first | omega | (simp; try omega)); have l6_1 := xl6 (w5.heap.size) (by first | omega | (simp; try omega)); have r6_1 := xc6 (w5.heap.size) 0 (by first | omega | (simp; try omega)); have f6_1 := xf6 (w5.heap.size) 0 (by first | omega | (simp; try omega)); have r6_1_1 := xc6 (w5.heap.size) 1 (by first | omega | (simp; try omega)); have f6_1_1 := xf6 (w5.heap.size) 1 (by first | omega | (simp; try omega)); have r6_1_2 := xc6 (w5.heap.size) 2 (by first | omega | (simp; try omega)); have f6_1_2 := xf6 (w5.heap.size) 2 (by first | omega | (simp; try omega)))
        | (go_at_call 81; (with_reducible refine (kDen _ (by (repeat (first | exact ext_refl _ | assumption | refine ext_setCell ?_ (by simp; try omega) _ | refine ext_alloc ?_ _ | refine ext_drew ?_ | refine ext_drewN ?_ _ | refine ext_trans ?_ (Aft.use _) | refine ext_trans ?_ (by assumption))))).mono ?_); rintro e w7 ⟨b7, B7, k7, l7, rfl, hI7, hb7, xb7⟩; obtain ⟨xc7, xf7, xl7, xz7⟩ := ext_use xb7; (try simp at xz7); have l7_0 := xl7 (w.heap.size) (by first | omega | (simp; try omega)); have r7_0 := xc7 (w.heap.size) 0 (by first | omega | (simp; try omega)); have f7_0 := xf7 (w.heap.size) 0 (by first | omega | (simp; try omega)); have r7_0_1 := xc7 (w.heap.size) 1 (by first | omega | (simp; try omega)); have f7_0_1 := xf7 (w.heap.size) 1 (by first | omega | (simp; try omega)); have r7_0_2 := xc7 (w.heap.size) 2 (by first | omega | (simp; try omega)); have f7_0_2 := xf7 (w.heap.size) 2 (by first | omega | (simp; try omega)); have l7_1 := xl7 (w5.heap.size) (by first | omega | (simp; try omega)); have r7_1 := xc7 (w5.heap.size) 0 (by first | omega | (simp; try omega)); have f7_1 := xf7 (w5.heap.size) 0 (by first | omega | (simp; try omega)); have r7_1_1 := xc7 (w5.heap.size) 1 (by first | omega | (simp; try omega)); have f7_1_1 := xf7 (w5.heap.size) 1 (by first | omega | (simp; try omega)); have r7_1_2 := xc7 (w5.heap.size) 2 (by first | omega | (simp; try omega)); have f7_1_2 := xf7 (w5.heap.size) 2 (by first | omega | (simp; try omega)))
        | (go_at_call 82; (with_reducible refine (kCmp b7 B7 k7 l7 _ (by (repeat (first | exact ext_refl _ | assumption | refine ext_setCell ?_ (by simp; try omega) _ | refine ext_alloc ?_ _ | refine ext_drew ?_ | refine ext_drewN ?_ _ | refine ext_trans ?_ (Aft.use _) | refine ext_trans ?_ (by assumption)))) hI7.out.1).mono ?_); rintro e w8 ⟨rfl, xb8⟩; obtain ⟨xc8, xf8, xl8, xz8⟩ := ext_use xb8; (try simp at xz8); have l8_0 := xl8 (w.heap.size) (by first | omega | (simp; try omega)); have r8_0 := xc8 (w.heap.size) 0 (by first | omega | (simp; try omega)); have f8_0 := xf8 (w.heap.size) 0 (by first | omega | (simp; try omega)); have r8_0_1 := xc8 (w.heap.size) 1 (by first | omega | (simp; try omega)); have f8_0_1 := xf8 (w.heap.size) 1 (by first | omega | (simp; try omega)); have r8_0_2 := xc8 (w.heap.size) 2 (by first | omega | (simp; try omega)); have f8_0_2 := xf8 (w.heap.size) 2 (by first | omega | (simp; try omega)); have l8_1 := xl8 (w5.heap.size) (by first | omega | (simp; try omega)); have r8_1 := xc8 (w5.heap.size) 0 (by first | omega | (simp; try omega)); have f8_1 := xf8 (w5.heap.size) 0 (by first | omega | (simp; try omega)); have r8_1_1 := xc8 (w5.heap.size) 1 (by first | omega | (simp; try omega)); have f8_1_1 := xf8 (w5.heap.size) 1 (by first | omega | (simp; try omega)); have r8_1_2 := xc8 (w5.heap.size) 2 (by first | omega | (simp; try omega)); have f8_1_2 := xf8 (w5.heap.size) 2 (by first | omega | (simp; try omega)))
       )
      all_goals
        go_wp2_with fail
        go_meet
        case rel => exact ⟨rfl, (show Ext _ _ by (repeat (first | exact ext_refl _ | assumption | refine ext_setCell ?_ (by simp; try omega) _ | refine ext_alloc ?_ _ | refine ext_drew ?_ | refine ext_drewN ?_ _ | refine ext_trans ?_ (Aft.use _) | refine ext_trans ?_ (by assumption))))⟩
    case rest =>
      obtain ⟨rfl, hEn⟩ := hcut
      go_wp2
      refine bodyPost_ret (v := .tuple #[.pointer (some ⟨wq.heap.size, 0, none⟩), .int .i64 0]) ?h rfl ⟨_, A4, n4, c4, D4, m4, e4, rfl, ⟨?_, hI4.out.2.1.mono (ext_alloc hE3.out _), hI4.out.2.2.mono (ext_alloc hE3.out _)⟩, ext_size hE3.out, ext_trans (ext_trans hE3.out hE5.out) hEn.out⟩
      case h => simp [results, Tryz.results47, go_sem]
      have := hR5.out.ext hEn.out
      rwa [hg, Nat.div_one] at this
end Go.Proofs.YtdjegfnkpagdaaaGreatDoor
end
section
/- Whole numbers of the library's: sums. -/
namespace Go.Proofs.YtdjegfnkpagdaaaGreatDoor
open Go.RowKit
attribute [local go_sem] sz2 sz3 sz4 sz5 sz6 sz7 sz8
set_option maxHeartbeats 4000000
set_option maxRecDepth 100000
attribute [local irreducible] Calls
theorem sgn_add_same (s : Bool) (a b : Nat) : sgn s (a + b) = sgn s a + sgn s b := by cases s <;> simp [sgn]; omega
theorem sgn_add_ge (s t : Bool) (a b : Nat) (h : s ≠ t) (hab : b ≤ a) : sgn s (a - b) = sgn s a + sgn t b := by
  cases s <;> cases t <;> simp [sgn] at h ⊢ <;> omega
theorem sgn_add_lt (s t : Bool) (a b : Nat) (h : s ≠ t) (hab : a < b) : sgn t (b - a) = sgn s a + sgn t b := by
  cases s <;> cases t <;> simp [sgn] at h ⊢ <;> omega
theorem bi_added (b o : Nat) (A : Option Addr) (n c a : Nat) (s : Bool) (B : Option Addr) (m d x : Nat) (t : Bool) (hn : n ≤ 1000000) (hm : m ≤ 1000000) (w : World) (hr : Room w b o) (hA : Rd w A n c (lim a)) (hB : Rd w B m d (lim x)) :
    Calls Tryz.prog 142 #[.pointer (some ⟨b, o, none⟩), .slice A n c, .bool s, .slice B m d, .bool t] w (IPost w b o (sgn s a + sgn t x)) := by
  have HA := Lib.hid hA
  have HB := Lib.hid hB
  have HR := Lib.hid hr
  have hbl := hr.lt
  clear hA hB hr
  by_cases hst : s = t
  · subst hst
    have e := sgn_add_same s a x
    rw [← e]
    clear e
    go_enter Tryz.func142, Tryz.ntmps142
    go_wp2_with (first
      | (go_at_call 118; (with_reducible refine (bw_add A B n c m d a x hn hm _ HA.out HB.out).mono ?_); rintro e w2 ⟨A2, k2, c2, rfl, hR2, xb2⟩; have hF2 : Fr w A2 := hR2.out.2.1; have hO2 := hF2.off hbl k2)
      | (go_at_call 94; (with_reducible refine (bi_set b o s A2 k2 c2 (a + x) _ (HR.out.ext xb2) hR2.out.1 hO2).mono ?_); rintro e w3 ⟨rfl, hI3, xt3⟩)
     )
    refine bodyPost_ret (v := .pointer (some ⟨b, o, none⟩)) ?h rfl ⟨rfl, A2, k2, c2, ⟨hI3.out, hF2⟩, (Tch.of xb2).trans xt3⟩
    case h => simp [results, Tryz.results142, go_sem]
  · have hst' : (s == t) = false := by rw [beq_eq_false_iff_ne]; exact hst
    by_cases hax : x ≤ a
    · have e := sgn_add_ge s t a x hst hax
      rw [← e]
      have hc : (0 : Int) ≤ cmpN a x := by unfold cmpN; rw [if_neg (by omega)]; split <;> decide
      clear e hst
      go_enter Tryz.func142, Tryz.ntmps142
      go_wp2_with (first
        | (go_at_call 84; (with_reducible refine (bw_cmp A B n c m d a x _ HA.out HB.out).mono ?_); rintro e w1 ⟨rfl, xb1⟩)
        | (go_at_call 119; (with_reducible refine (bw_sub A B n c m d a x hax hn _ (HA.out.ext xb1) (HB.out.ext xb1)).mono ?_); rintro e w2 ⟨A2, k2, c2, rfl, hR2, xb2⟩; have hF2 : Fr w A2 := Fr.mono hR2.out.2 xb1; have hO2 := hF2.off hbl k2)
        | (go_at_call 94; (with_reducible refine (bi_set b o s A2 k2 c2 (a - x) _ ((HR.out.ext xb1).ext xb2) hR2.out.1 hO2).mono ?_); rintro e w3 ⟨rfl, hI3, xt3⟩)
       )
      refine bodyPost_ret (v := .pointer (some ⟨b, o, none⟩)) ?h rfl ⟨rfl, A2, k2, c2, ⟨hI3.out, hF2⟩, (Tch.of (ext_trans xb1 xb2)).trans xt3⟩
      case h => simp [results, Tryz.results142, go_sem]
    · have e := sgn_add_lt s t a x hst (by omega)
      rw [← e]
      have hc : ¬ (0 : Int) ≤ cmpN a x := by unfold cmpN; rw [if_pos (by omega)]; decide
      have hxa : a ≤ x := by omega
      clear e hst hax
      go_enter Tryz.func142, Tryz.ntmps142
      go_wp2_with (first
        | (go_at_call 84; (with_reducible refine (bw_cmp A B n c m d a x _ HA.out HB.out).mono ?_); rintro e w1 ⟨rfl, xb1⟩)
        | (go_at_call 119; (with_reducible refine (bw_sub B A m d n c x a hxa hm _ (HB.out.ext xb1) (HA.out.ext xb1)).mono ?_); rintro e w2 ⟨A2, k2, c2, rfl, hR2, xb2⟩; have hF2 : Fr w A2 := Fr.mono hR2.out.2 xb1; have hO2 := hF2.off hbl k2)
        | (go_at_call 94; (with_reducible refine (bi_set b o t A2 k2 c2 (x - a) _ ((HR.out.ext xb1).ext xb2) hR2.out.1 hO2).mono ?_); rintro e w3 ⟨rfl, hI3, xt3⟩)
       )
      refine bodyPost_ret (v := .pointer (some ⟨b, o, none⟩)) ?h rfl ⟨rfl, A2, k2, c2, ⟨hI3.out, hF2⟩, (Tch.of (ext_trans xb1 xb2)).trans xt3⟩
      case h => simp [results, Tryz.results142, go_sem]
theorem bi_Add (b o g p h q : Nat) (x y : Int) (A : Option Addr) (n c : Nat) (B : Option Addr) (m d : Nat) (hn : n ≤ 1000000) (hm : m ≤ 1000000) (w : World) (hr : Room w b o) (hx : IntIs w g p x A n c) (hy : IntIs w h q y B m d) :
    Calls Tryz.prog 113 #[.pointer (some ⟨b, o, none⟩), .pointer (some ⟨g, p, none⟩), .pointer (some ⟨h, q, none⟩)] w (IPost w b o (x + y)) := by
  have HX := Lib.hid hx
  have HY := Lib.hid hy
  have HR := Lib.hid hr
  have lx := hx.room.lt
  have x0 := hx.neg
  have x1 := hx.words
  have ly := hy.room.lt
  have y0 := hy.neg
  have y1 := hy.words
  have hbl := hr.lt
  clear hx hy hr
  go_enter Tryz.func113, Tryz.ntmps113
  go_wp2
  refine wp_aft_tail 17 (by kernel_rfl) (by kernel_rfl) (by kernel_rfl) (fun hq hqf => ?_)
  simp only [List.take_succ_cons, List.take_zero, List.drop_succ_cons, List.drop_zero]
  repeat (go_big_quiet_step (first | fail
    ))
  refine wpQuiet_nil ?_
  rintro _ ⟨nq, rfl⟩
  have xl := ext_lt nq.use
  have xz := ext_size nq.use
  try simp at xz
  have hE := Lib.hid nq.use
  go_wp2_with (first
    | (go_at_call 142; (with_reducible refine (bi_added b o A n c x.natAbs _ B m d y.natAbs _ hn hm _ (HR.out.ext hE.out) (HX.out.rd.ext hE.out) (HY.out.rd.ext hE.out)).mono ?_); rintro e w3 ⟨rfl, A3, n3, c3, hI3, xt3⟩)
   )
  refine bodyPost_ret (v := .pointer (some ⟨b, o, none⟩)) ?h rfl ⟨rfl, A3, n3, c3, ⟨by have := hI3.out.1; rwa [sgn_self, sgn_self] at this, hI3.out.2.mono hE.out⟩, (Tch.of hE.out).trans xt3⟩
  case h => simp [results, Tryz.results113, go_sem]
end Go.Proofs.YtdjegfnkpagdaaaGreatDoor
end
section
/- Fractions of the library's: products. -/
namespace Go.Proofs.YtdjegfnkpagdaaaGreatDoor
open Go.RowKit
attribute [local go_sem] sz2 sz3 sz4 sz5 sz6 sz7 sz8
set_option maxHeartbeats 4000000
set_option maxRecDepth 100000
attribute [local irreducible] Calls
/-- By a number that goes into it; no longer than it was. -/
theorem bw_by (A G : Option Addr) (n c m d a g : Nat) (h0 : g ≠ 0) (hn : n ≤ 400000) (w : World) (hA : Rd w A n c (lim a)) (hG : Rd w G m d (lim g)) :
    Calls Tryz.prog 112 #[.slice A n c, .slice G m d] w fun e w' => ∃ (A' : Option Addr) (k c' : Nat), (e = .returned (.slice A' k c') ∧ k ≤ n) ∧ Hid (Rd w' A' k c' (lim (a / g))) ∧ Ext w w' := by
  have hle : (lim (a / g)).length ≤ n := by rw [← hA.len]; exact lim_mono (Nat.div_le_self _ _)
  by_cases h1 : g = 1
  · subst h1
    refine (bw_by_one A G n c m d w hG).mono ?_
    rintro e w' ⟨rfl, h2⟩
    exact ⟨A, n, c, ⟨rfl, Nat.le_refl _⟩, by rw [Nat.div_one]; exact hA.ext h2, h2⟩
  · refine (bw_by_div A G n c m d a g h1 h0 hn w hA hG).mono ?_
    rintro e w' ⟨A', k, c', rfl, h2, h3⟩
    exact ⟨A', k, c', ⟨rfl, by rw [← h2.out.1.len]; exact hle⟩, h2.out.1, h3⟩
theorem bw_mulA (A B : Option Addr) (n c m d a b : Nat) (hs : n + m ≤ 200000) (w : World) (hA : Rd w A n c (lim a)) (hB : Rd w B m d (lim b)) : Calls Tryz.prog 85 #[.slice A n c, .slice B m d] w (WPost w (a * b)) := bw_mul (n + m) A B n c m d a b rfl hs w hA hB
theorem bw_commonA (A B : Option Addr) (n c m d a b : Nat) (hn : n ≤ 400000) (hm : m ≤ 400000) (w : World) (hT : Tz w) (hA : Rd w A n c (lim a)) (hB : Rd w B m d (lim b)) : Calls Tryz.prog 111 #[.slice A n c, .slice B m d] w (WPost w (Nat.gcd a b)) := bw_common A B n c m d a b hn hm w hT hA hB
theorem br_times (g : Nat) (s : Bool) (A D B C : Option Addr) (n cn m cm p cp q cq a d b c : Nat) (ha : a ≠ 0) (hb : b ≠ 0) (hd : d ≠ 0) (hc : c ≠ 0) (hn : n ≤ 100000) (hm : m ≤ 100000) (hp : p ≤ 100000) (hq : q ≤ 100000) (w : World) (hT : Tz w) (hr : RatRoom w g)
    (hA : Rd w A n cn (lim a)) (hD : Rd w D m cm (lim d)) (hB : Rd w B p cp (lim b)) (hC : Rd w C q cq (lim c)) :
    Calls Tryz.prog 78 #[.pointer (some ⟨g, 0, none⟩), .bool s, .slice A n cn, .slice D m cm, .slice B p cp, .slice C q cq] w
      (FPost w g (sgn s ((a / Nat.gcd a c) * (b / Nat.gcd b d) : Nat)) ((d / Nat.gcd b d) * (c / Nat.gcd a c))) := by
  have HA := Lib.hid hA
  have HD := Lib.hid hD
  have HB := Lib.hid hB
  have HC := Lib.hid hC
  have HT := Lib.hid hT
  have HR := Lib.hid hr
  have hgl := hr.int.lt
  have hfc := hr.c2
  have hff := hr.f2
  obtain ⟨v2, hv2⟩ := hfc
  have hn0 : ((n : Int) == 0) = false := by
    rw [beq_eq_false_iff_ne]; have := hA.len; intro h; exact ha (lim_nil.1 (List.eq_nil_of_length_eq_zero (by omega)))
  have hp0 : ((p : Int) == 0) = false := by
    rw [beq_eq_false_iff_ne]; have := hB.len; intro h; exact hb (lim_nil.1 (List.eq_nil_of_length_eq_zero (by omega)))
  obtain ⟨G, hG⟩ : ∃ G, G = Nat.gcd a c := ⟨_, rfl⟩
  obtain ⟨H, hH⟩ : ∃ H, H = Nat.gcd b d := ⟨_, rfl⟩
  have hG0 : G ≠ 0 := by rw [hG]; intro h; exact ha (Nat.eq_zero_of_gcd_eq_zero_left h)
  have hH0 : H ≠ 0 := by rw [hH]; intro h; exact hb (Nat.eq_zero_of_gcd_eq_zero_left h)
  have kG : ∀ w', Ext w w' → Calls Tryz.prog 111 #[.slice A n cn, .slice C q cq] w' (WPost w' G) := fun w' he => by rw [hG]; exact bw_commonA A C n cn q cq a c (by omega) (by omega) w' (HT.out.ext he) (HA.out.ext he) (HC.out.ext he)
  have kH : ∀ w', Ext w w' → Calls Tryz.prog 111 #[.slice B p cp, .slice D m cm] w' (WPost w' H) := fun w' he => by rw [hH]; exact bw_commonA B D p cp m cm b d (by omega) (by omega) w' (HT.out.ext he) (HB.out.ext he) (HD.out.ext he)
  rw [← hG, ← hH]
  have HG1 := Lib.hid hG
  have HH1 := Lib.hid hH
  have hn4 : n ≤ 400000 := by omega
  have hm4 : m ≤ 400000 := by omega
  have hp4 : p ≤ 400000 := by omega
  have hq4 : q ≤ 400000 := by omega
  clear hA hB hC hD hT hr hG hH
  go_enter Tryz.func78, Tryz.ntmps78
  go_wp2_with (first
    | (go_at_call 111; (with_reducible refine (kG _ (ext_refl _)).mono ?_); rintro e w1 ⟨A1, k1, c1, rfl, hR1, xb1⟩)
    | (go_at_call 111; (with_reducible refine (kH _ xb1).mono ?_); rintro e w2 ⟨A2, k2, c2, rfl, hR2, xb2⟩; have hG2 := Lib.hid (hR1.out.1.ext xb2); have hE2 := Lib.hid (ext_trans xb1 xb2))
    | (go_at_call 112; (with_reducible refine (bw_by A A1 n cn k1 c1 a G hG0 hn4 _ (HA.out.ext hE2.out) hG2.out).mono ?_); rintro e w3 ⟨A3, k3, c3, ⟨rfl, hk3⟩, hR3, xb3⟩; have hE3 := Lib.hid (ext_trans hE2.out xb3))
    | (go_at_call 112; (with_reducible refine (bw_by B A2 p cp k2 c2 b H hH0 hp4 _ (HB.out.ext hE3.out) (hR2.out.1.ext xb3)).mono ?_); rintro e w4 ⟨A4, k4, c4, ⟨rfl, hk4⟩, hR4, xb4⟩; have hE4 := Lib.hid (ext_trans hE3.out xb4); have hs4 : k3 + k4 ≤ 200000 := Nat.le_trans (Nat.add_le_add (Nat.le_trans hk3 hn) (Nat.le_trans hk4 hp)) (Nat.le_refl _))
    | (go_at_call 85; (with_reducible refine (bw_mulA A3 A4 k3 c3 k4 c4 _ _ hs4 _ (hR3.out.ext xb4) hR4.out).mono ?_); rintro e w5 ⟨A5, k5, c5, rfl, hR5, xb5⟩; have hE5 := Lib.hid (ext_trans hE4.out xb5))
    | (go_at_call 112; (with_reducible refine (bw_by D A2 m cm k2 c2 d H hH0 hm4 _ (HD.out.ext hE5.out) (hR2.out.1.ext (ext_trans xb3 (ext_trans xb4 xb5)))).mono ?_); rintro e w6 ⟨A6, k6, c6, ⟨rfl, hk6⟩, hR6, xb6⟩; have hE6 := Lib.hid (ext_trans hE5.out xb6))
    | (go_at_call 112; (with_reducible refine (bw_by C A1 q cq k1 c1 c G hG0 hq4 _ (HC.out.ext hE6.out) (hG2.out.ext (ext_trans (ext_trans xb3 xb4) (ext_trans xb5 xb6)))).mono ?_); rintro e w7 ⟨A7, k7, c7, ⟨rfl, hk7⟩, hR7, xb7⟩; have hE7 := Lib.hid (ext_trans hE6.out xb7); have hs7 : k6 + k7 ≤ 200000 := Nat.le_trans (Nat.add_le_add (Nat.le_trans hk6 hm) (Nat.le_trans hk7 hq)) (Nat.le_refl _))
    | (go_at_call 85; (with_reducible refine (bw_mulA A6 A7 k6 c6 k7 c7 _ _ hs7 _ (hR6.out.ext xb7) hR7.out).mono ?_); rintro e w8 ⟨A8, k8, c8, rfl, hR8, xb8⟩; have hE8 := Lib.hid (ext_trans hE7.out xb8); have hF5 : Fr w A5 := hR5.out.2.mono hE4.out; have hF8 : Fr w A8 := hR8.out.2.mono hE7.out; have hO5 := hF5.off hgl k5; have hO8 := hF8.off hgl k8; have hv8 := (Below.cell (p := ⟨g, 2, none⟩) hE8.out hgl).trans hv2; have hf8 := (Below.frozen (p := ⟨g, 2, none⟩) hE8.out hgl).trans hff)
    | (go_at_call 94; (with_reducible refine (bi_setx g 0 s A5 k5 c5 _ _ (HR.out.int.ext hE8.out) (hR5.out.1.ext (ext_trans (ext_trans xb6 xb7) xb8)) hO5).mono ?_); rintro e w9 ⟨rfl, hI9, xt9, hq9⟩; have hv9 := (hq9.out 2 (by omega) (by omega)).1.trans hv8; have hf9 := (hq9.out 2 (by omega) (by omega)).2.trans hf8)
   )
  refine bodyPost_ret (v := .pointer (some ⟨g, 0, none⟩)) ?h rfl ⟨rfl, A5, k5, c5, A8, k8, c8, ⟨rat_made hI9.out ⟨_, hv9⟩ hf9 (hR8.out.1.tch xt9 hO8) hO8, hF5, hF8⟩, ((Tch.of hE8.out).trans xt9).set 2 _⟩
  case h => simp [results, Tryz.results78, go_sem]
theorem br_times_zero (g : Nat) (s : Bool) (A D B C : Option Addr) (n cn m cm p cp q cq : Nat) (h0 : n = 0 ∨ p = 0) (w : World) (hr : RatRoom w g) :
    Calls Tryz.prog 78 #[.pointer (some ⟨g, 0, none⟩), .bool s, .slice A n cn, .slice D m cm, .slice B p cp, .slice C q cq] w (FPost w g 0 0) := by
  have HR := Lib.hid hr
  have kz : Calls Tryz.prog 99 #[.pointer (some ⟨g, 0, none⟩), .bool false, .slice none 0 0, .slice (some ⟨w.heap.size, 0, none⟩) 1 1] (w.alloc (Obj.cells #[.int .u32 1] 60)) (SPost (w.alloc (Obj.cells #[.int .u32 1] 60)) g 0 0 none (some ⟨w.heap.size, 0, none⟩)) :=
    br_set_zero g false none 0 0 (some ⟨w.heap.size, 0, none⟩) 1 1 1 _ (hr.ext (ext_alloc (ext_refl _) _)) (by rw [lim_zero]; exact Rd.nil _) (one_row w)
  have KZ := kz.mono (R' := FPost w g 0 0) (by
    rintro e w' ⟨rfl, A', n', c', D', m', k', h1, h2⟩
    have h3 := h1.out.2 w (ext_alloc (ext_refl _) _) (Fr.none _) (fun x hx => by cases hx; exact Nat.le_refl _)
    exact ⟨rfl, A', n', c', D', m', k', ⟨h1.out.1, h3.1, h3.2⟩, (Tch.of (ext_alloc (ext_refl _) _)).trans h2⟩)
  clear kz hr
  by_cases hn : n = 0
  · subst hn
    clear h0
    go_enter Tryz.func78, Tryz.ntmps78
    go_wp2_with (first
      | (go_at_call 99; (with_reducible refine KZ.mono ?_); rintro e w3 ⟨rfl, A3, n3, c3, D3, m3, k3, hI3, xt3⟩)
     )
    refine bodyPost_ret (v := .pointer (some ⟨g, 0, none⟩)) ?h rfl ⟨rfl, A3, n3, c3, D3, m3, k3, hI3, xt3⟩
    case h => simp [results, Tryz.results78, go_sem]
  · have hp : p = 0 := by omega
    subst hp
    have hn0 : ((n : Int) == 0) = false := by rw [beq_eq_false_iff_ne]; omega
    clear h0
    go_enter Tryz.func78, Tryz.ntmps78
    go_wp2_with (first
      | (go_at_call 99; (with_reducible refine KZ.mono ?_); rintro e w3 ⟨rfl, A3, n3, c3, D3, m3, k3, hI3, xt3⟩)
     )
    refine bodyPost_ret (v := .pointer (some ⟨g, 0, none⟩)) ?h rfl ⟨rfl, A3, n3, c3, D3, m3, k3, hI3, xt3⟩
    case h => simp [results, Tryz.results78, go_sem]
end Go.Proofs.YtdjegfnkpagdaaaGreatDoor
end
