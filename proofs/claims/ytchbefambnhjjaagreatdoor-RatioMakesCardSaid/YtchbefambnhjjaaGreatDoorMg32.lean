/- Lemmas of this proof, laid together: MakB, BkG, BkH, D2G. -/
import Derived.Test.YtchbefambnhjjaaGreatDoorMg31
import Derived.Test.YtchbefambnhjjaaGreatDoorMg22
import Derived.Test.YtchbefambnhjjaaGreatDoorMg28
import Derived.Deep.DeepCutAuto
import Derived.Deep.RegionWith
import Derived.Deep.LoopGhost
import Derived.Test.YtchbefambnhjjaaGreatDoorMg26
set_option linter.unusedSimpArgs false
set_option linter.unusedVariables false
section
/- Fractions that are made: the program's answer and the document's, together (written by mkmake.py). -/
namespace Go.Proofs.YtchbefambnhjjaaGreatDoor
open Go.RowKit
attribute [local go_sem] sz2 sz3 sz4 sz5 sz6 sz7 sz8
set_option maxHeartbeats 4000000
set_option maxRecDepth 100000
attribute [local irreducible] Calls
theorem ra_make_no1 (neg : Bool) (A : Option Addr) (n c : Nat) (D : Option Addr) (m k : Nat) (w : World) (E : Int) (hE : (E == 0) = false) (kA : ∀ w', Ext w w' → Calls Tryz.prog 86 #[natV A n c] w' fun e w'' => e = .returned (.int .i64 E) ∧ Ext w' w'') :
  Calls Tryz.prog 31 #[.bool neg, natV A n c, natV D m k] w (NoE w E) := by
 go_enter Tryz.func31, Tryz.ntmps31
 go_wp2
 go_loopw [16] (fun vi wr => ∃ i : Nat, i ≤ 0 ∧ vi = .int .i64 (i : Int) ∧ Hid (Ext (mkW w A n c D m k) wr)) (fun vi _ => 2 - (intOf vi).toNat)
 case atStart => exact ⟨0, by omega, rfl, jR _⟩
 case round =>
  obtain ⟨i, hi, rfl, hext⟩ := hrel
  obtain ⟨⟨c0, c1, c2, c3⟩, ⟨r0, r1, r2⟩, ⟨f0, f1, f2⟩, hsz⟩ := mkW_facts w A n c D m k wr hext.out
  have hE0 := Lib.hid (jT (ext_mkW w A n c D m k) hext.out)
  obtain rfl : i = 0 := by omega
  go_wp2_with (first
   | (go_at_call 86; (with_reducible refine (kA _ (jA hE0.out _)).mono ?_); rintro e w5 ⟨rfl, xb5⟩; have hw5 := Lib.hid (jT (jA (jR wr) (Obj.cells #[.slice A n c] 30)) xb5); obtain ⟨-, ⟨s0, s1, s2⟩, ⟨p0, p1, p2⟩, hs5⟩ := mkW_facts w A n c D m k w5 (jT hext.out hw5.out))
   )
  obtain ⟨q0, q1, q2⟩ := set3 (b := w.heap.size + 1 + 1) s0 s1 s2 (.bool false) (.slice none 0 0) (.slice none 0 0)
  have hEE := Lib.hid (jT hE0.out hw5.out)
  refine bodyPost_ret (v := .tuple #[ratV false none 0 0 none 0 0, .int .i64 E]) ?h rfl ⟨rfl, ext_set3 hEE.out (by omega) _ _ _⟩
  case h => simp [results, Tryz.results31, go_sem, q0, q1, q2]
theorem ra_make_no2 (neg : Bool) (A : Option Addr) (n c : Nat) (D : Option Addr) (m k : Nat) (w : World) (E : Int) (hE : (E == 0) = false) (kA : ∀ w', Ext w w' → Calls Tryz.prog 86 #[natV A n c] w' fun e w'' => e = .returned (.int .i64 0) ∧ Ext w' w'') (kD : ∀ w', Ext w w' → Calls Tryz.prog 86 #[natV D m k] w' fun e w'' => e = .returned (.int .i64 E) ∧ Ext w' w'') :
  Calls Tryz.prog 31 #[.bool neg, natV A n c, natV D m k] w (NoE w E) := by
 go_enter Tryz.func31, Tryz.ntmps31
 go_wp2
 go_loopw [16] (fun vi wr => ∃ i : Nat, i ≤ 1 ∧ vi = .int .i64 (i : Int) ∧ Hid (Ext (mkW w A n c D m k) wr)) (fun vi _ => 2 - (intOf vi).toNat)
 case atStart => exact ⟨0, by omega, rfl, jR _⟩
 case round =>
  obtain ⟨i, hi, rfl, hext⟩ := hrel
  obtain ⟨⟨c0, c1, c2, c3⟩, ⟨r0, r1, r2⟩, ⟨f0, f1, f2⟩, hsz⟩ := mkW_facts w A n c D m k wr hext.out
  have hE0 := Lib.hid (jT (ext_mkW w A n c D m k) hext.out)
  by_cases h1 : i = 1
  ·subst h1
   go_wp2_with (first
    | (go_at_call 86; (with_reducible refine (kD _ (jA hE0.out _)).mono ?_); rintro e w5 ⟨rfl, xb5⟩; have hw5 := Lib.hid (jT (jA (jR wr) (Obj.cells #[.slice D m k] 30)) xb5); obtain ⟨-, ⟨s0, s1, s2⟩, ⟨p0, p1, p2⟩, hs5⟩ := mkW_facts w A n c D m k w5 (jT hext.out hw5.out))
    )
   obtain ⟨q0, q1, q2⟩ := set3 (b := w.heap.size + 1 + 1) s0 s1 s2 (.bool false) (.slice none 0 0) (.slice none 0 0)
   have hEE := Lib.hid (jT hE0.out hw5.out)
   refine bodyPost_ret (v := .tuple #[ratV false none 0 0 none 0 0, .int .i64 E]) ?h rfl ⟨rfl, ext_set3 hEE.out (by omega) _ _ _⟩
   case h => simp [results, Tryz.results31, go_sem, q0, q1, q2]
  ·obtain rfl : i = 0 := by omega
   go_wp2_with (first
    | (go_at_call 86; (with_reducible refine (kA _ (jA hE0.out _)).mono ?_); rintro e w5 ⟨rfl, xb5⟩)
    )
   case roundEnd => exact ⟨⟨1, by omega, rfl, jT (jA hext.out _) xb5⟩, by simp [intOf]⟩
theorem ra_make_no3 (neg : Bool) (A : Option Addr) (n c : Nat) (D : Option Addr) (m k : Nat) (w : World) (hm : m = 0) (kA : ∀ w', Ext w w' → Calls Tryz.prog 86 #[natV A n c] w' fun e w'' => e = .returned (.int .i64 0) ∧ Ext w' w'') (kD : ∀ w', Ext w w' → Calls Tryz.prog 86 #[natV D m k] w' fun e w'' => e = .returned (.int .i64 0) ∧ Ext w' w'') :
  Calls Tryz.prog 31 #[.bool neg, natV A n c, natV D m k] w (NoE w 11) := by
 have hm0 : ((m : Int) == 0) = true := by rw [hm]; rfl
 have hm1 : (m : Int) = 0 := by omega
 clear hm
 go_enter Tryz.func31, Tryz.ntmps31
 go_wp2
 go_loopw [16] (fun vi wr => ∃ i : Nat, i ≤ 2 ∧ vi = .int .i64 (i : Int) ∧ Hid (Ext (mkW w A n c D m k) wr)) (fun vi _ => 2 - (intOf vi).toNat)
 case atStart => exact ⟨0, by omega, rfl, jR _⟩
 case round =>
  obtain ⟨i, hi, rfl, hext⟩ := hrel
  obtain ⟨⟨c0, c1, c2, c3⟩, ⟨r0, r1, r2⟩, ⟨f0, f1, f2⟩, hsz⟩ := mkW_facts w A n c D m k wr hext.out
  have hE0 := Lib.hid (jT (ext_mkW w A n c D m k) hext.out)
  by_cases h2 : i = 2
  ·subst h2
   go_wp2
   obtain ⟨q0, q1, q2⟩ := set3 (b := w.heap.size + 1 + 1) r0 r1 r2 (.bool false) (.slice none 0 0) (.slice none 0 0)
   refine bodyPost_ret (v := .tuple #[ratV false none 0 0 none 0 0, .int .i64 11]) ?h rfl ⟨rfl, ext_set3 hE0.out (by omega) _ _ _⟩
   case h => simp [results, Tryz.results31, go_sem, q0, q1, q2]
  ·by_cases h1 : i = 1
   ·subst h1
    go_wp2_with (first
     | (go_at_call 86; (with_reducible refine (kD _ (jA hE0.out _)).mono ?_); rintro e w5 ⟨rfl, xb5⟩)
     )
    case roundEnd => exact ⟨⟨2, by omega, rfl, jT (jA hext.out _) xb5⟩, by simp [intOf]⟩
   ·obtain rfl : i = 0 := by omega
    go_wp2_with (first
     | (go_at_call 86; (with_reducible refine (kA _ (jA hE0.out _)).mono ?_); rintro e w5 ⟨rfl, xb5⟩)
     )
    case roundEnd => exact ⟨⟨1, by omega, rfl, jT (jA hext.out _) xb5⟩, by simp [intOf]⟩
end Go.Proofs.YtchbefambnhjjaaGreatDoor
namespace Go.Proofs.YtchbefambnhjjaaGreatDoor.NB
open Go.RowKit
attribute [local go_sem] sz2 sz3 sz4 sz5 sz6 sz7 sz8
set_option maxHeartbeats 4000000
set_option maxRecDepth 100000
attribute [local irreducible] Calls
theorem rd_make_no1 (neg : Bool) (A : Option Addr) (n c : Nat) (D : Option Addr) (m k : Nat) (w : World) (hn : n ≤ 16384) (hm16 : m ≤ 16384) (kA : ∀ w', Ext w w' → Calls Tryz.prog 81 #[natV A n c] w' fun e w'' => e = .returned (.bool false) ∧ Ext w' w'') :
  Calls Tryz.prog 30 #[.bool neg, natV A n c, natV D m k] w (DfPst w false [] [] 10) := by
 have hn2 : decide ((16384 : Int) < (n : Int)) = false := decide_eq_false (by omega)
 have hm2 : decide ((16384 : Int) < (m : Int)) = false := decide_eq_false (by omega)
 go_enter Tryz.func30, Tryz.ntmps30
 go_wp2
 go_loopw [16] (fun vi wr => ∃ i : Nat, i ≤ 0 ∧ vi = .int .i64 (i : Int) ∧ Hid (Ext (mkW w A n c D m k) wr)) (fun vi _ => 2 - (intOf vi).toNat)
 case atStart => exact ⟨0, by omega, rfl, jR _⟩
 case round =>
  obtain ⟨i, hi, rfl, hext⟩ := hrel
  obtain ⟨⟨c0, c1, c2, c3⟩, ⟨r0, r1, r2⟩, ⟨f0, f1, f2⟩, hsz⟩ := mkW_facts w A n c D m k wr hext.out
  have hE0 := Lib.hid (jT (ext_mkW w A n c D m k) hext.out)
  obtain rfl : i = 0 := by omega
  go_wp2_with (first
   | (go_at_call 81; (with_reducible refine (kA _ (jA hE0.out _)).mono ?_); rintro e w5 ⟨rfl, xb5⟩; obtain ⟨l5, gc, gf⟩ := kp xb5 (wr.heap.size) (by simp); have r5 := gc 0; clear gc gf; have hw5 := Lib.hid (jT (jA (jR wr) (Obj.cells #[.slice A n c] 30)) xb5); obtain ⟨-, ⟨s0, s1, s2⟩, ⟨p0, p1, p2⟩, hs5⟩ := mkW_facts w A n c D m k w5 (jT hext.out hw5.out))
   )
  obtain ⟨q0, q1, q2⟩ := set3 (b := w.heap.size + 1 + 1) s0 s1 s2 (.bool false) (.slice none 0 0) (.slice none 0 0)
  have hEE := Lib.hid (jT hE0.out hw5.out)
  refine bodyPost_ret (v := .tuple #[ratV false none 0 0 none 0 0, .int .i64 10]) ?h rfl ⟨⟨none, 0, 0, none, 0, 0⟩, rfl, ⟨Rd.nil _, Rd.nil _, fr_none _, fr_none _⟩, ext_set3 hEE.out (by omega) _ _ _⟩
  case h => simp [results, Tryz.results30, go_sem, q0, q1, q2]
theorem rd_make_no2 (neg : Bool) (A : Option Addr) (n c : Nat) (D : Option Addr) (m k : Nat) (w : World) (hn : n ≤ 16384) (hm16 : m ≤ 16384) (kA : ∀ w', Ext w w' → Calls Tryz.prog 81 #[natV A n c] w' fun e w'' => e = .returned (.bool true) ∧ Ext w' w'') (kD : ∀ w', Ext w w' → Calls Tryz.prog 81 #[natV D m k] w' fun e w'' => e = .returned (.bool false) ∧ Ext w' w'') :
  Calls Tryz.prog 30 #[.bool neg, natV A n c, natV D m k] w (DfPst w false [] [] 10) := by
 have hn2 : decide ((16384 : Int) < (n : Int)) = false := decide_eq_false (by omega)
 have hm2 : decide ((16384 : Int) < (m : Int)) = false := decide_eq_false (by omega)
 go_enter Tryz.func30, Tryz.ntmps30
 go_wp2
 go_loopw [16] (fun vi wr => ∃ i : Nat, i ≤ 1 ∧ vi = .int .i64 (i : Int) ∧ Hid (Ext (mkW w A n c D m k) wr)) (fun vi _ => 2 - (intOf vi).toNat)
 case atStart => exact ⟨0, by omega, rfl, jR _⟩
 case round =>
  obtain ⟨i, hi, rfl, hext⟩ := hrel
  obtain ⟨⟨c0, c1, c2, c3⟩, ⟨r0, r1, r2⟩, ⟨f0, f1, f2⟩, hsz⟩ := mkW_facts w A n c D m k wr hext.out
  have hE0 := Lib.hid (jT (ext_mkW w A n c D m k) hext.out)
  by_cases h1 : i = 1
  ·subst h1
   go_wp2_with (first
    | (go_at_call 81; (with_reducible refine (kD _ (jA hE0.out _)).mono ?_); rintro e w5 ⟨rfl, xb5⟩; obtain ⟨l5, gc, gf⟩ := kp xb5 (wr.heap.size) (by simp); have r5 := gc 0; clear gc gf; have hw5 := Lib.hid (jT (jA (jR wr) (Obj.cells #[.slice D m k] 30)) xb5); obtain ⟨-, ⟨s0, s1, s2⟩, ⟨p0, p1, p2⟩, hs5⟩ := mkW_facts w A n c D m k w5 (jT hext.out hw5.out))
    )
   obtain ⟨q0, q1, q2⟩ := set3 (b := w.heap.size + 1 + 1) s0 s1 s2 (.bool false) (.slice none 0 0) (.slice none 0 0)
   have hEE := Lib.hid (jT hE0.out hw5.out)
   refine bodyPost_ret (v := .tuple #[ratV false none 0 0 none 0 0, .int .i64 10]) ?h rfl ⟨⟨none, 0, 0, none, 0, 0⟩, rfl, ⟨Rd.nil _, Rd.nil _, fr_none _, fr_none _⟩, ext_set3 hEE.out (by omega) _ _ _⟩
   case h => simp [results, Tryz.results30, go_sem, q0, q1, q2]
  ·obtain rfl : i = 0 := by omega
   go_wp2_with (first
    | (go_at_call 81; (with_reducible refine (kA _ (jA hE0.out _)).mono ?_); rintro e w5 ⟨rfl, xb5⟩; obtain ⟨l5, gc, gf⟩ := kp xb5 (wr.heap.size) (by simp); have r5 := gc 0; clear gc gf)
    )
   case roundEnd => exact ⟨⟨1, by omega, rfl, jT (jA hext.out _) xb5⟩, by simp [intOf]⟩
theorem rd_make_no3 (neg : Bool) (A : Option Addr) (n c : Nat) (D : Option Addr) (m k : Nat) (w : World) (hn : n ≤ 16384) (hm16 : m ≤ 16384) (hm : m = 0) (kA : ∀ w', Ext w w' → Calls Tryz.prog 81 #[natV A n c] w' fun e w'' => e = .returned (.bool true) ∧ Ext w' w'') (kD : ∀ w', Ext w w' → Calls Tryz.prog 81 #[natV D m k] w' fun e w'' => e = .returned (.bool true) ∧ Ext w' w'') :
  Calls Tryz.prog 30 #[.bool neg, natV A n c, natV D m k] w (DfPst w false [] [] 11) := by
 have hn2 : decide ((16384 : Int) < (n : Int)) = false := decide_eq_false (by omega)
 have hm2 : decide ((16384 : Int) < (m : Int)) = false := decide_eq_false (by omega)
 have hm0 : ((m : Int) == 0) = true := by rw [hm]; rfl
 have hm1 : (m : Int) = 0 := by omega
 clear hm
 go_enter Tryz.func30, Tryz.ntmps30
 go_wp2
 go_loopw [16] (fun vi wr => ∃ i : Nat, i ≤ 2 ∧ vi = .int .i64 (i : Int) ∧ Hid (Ext (mkW w A n c D m k) wr)) (fun vi _ => 2 - (intOf vi).toNat)
 case atStart => exact ⟨0, by omega, rfl, jR _⟩
 case round =>
  obtain ⟨i, hi, rfl, hext⟩ := hrel
  obtain ⟨⟨c0, c1, c2, c3⟩, ⟨r0, r1, r2⟩, ⟨f0, f1, f2⟩, hsz⟩ := mkW_facts w A n c D m k wr hext.out
  have hE0 := Lib.hid (jT (ext_mkW w A n c D m k) hext.out)
  by_cases h2 : i = 2
  ·subst h2
   go_wp2
   obtain ⟨q0, q1, q2⟩ := set3 (b := w.heap.size + 1 + 1) r0 r1 r2 (.bool false) (.slice none 0 0) (.slice none 0 0)
   refine bodyPost_ret (v := .tuple #[ratV false none 0 0 none 0 0, .int .i64 11]) ?h rfl ⟨⟨none, 0, 0, none, 0, 0⟩, rfl, ⟨Rd.nil _, Rd.nil _, fr_none _, fr_none _⟩, ext_set3 hE0.out (by omega) _ _ _⟩
   case h => simp [results, Tryz.results30, go_sem, q0, q1, q2]
  ·by_cases h1 : i = 1
   ·subst h1
    go_wp2_with (first
     | (go_at_call 81; (with_reducible refine (kD _ (jA hE0.out _)).mono ?_); rintro e w5 ⟨rfl, xb5⟩; obtain ⟨l5, gc, gf⟩ := kp xb5 (wr.heap.size) (by simp); have r5 := gc 0; clear gc gf)
     )
    case roundEnd => exact ⟨⟨2, by omega, rfl, jT (jA hext.out _) xb5⟩, by simp [intOf]⟩
   ·obtain rfl : i = 0 := by omega
    go_wp2_with (first
     | (go_at_call 81; (with_reducible refine (kA _ (jA hE0.out _)).mono ?_); rintro e w5 ⟨rfl, xb5⟩; obtain ⟨l5, gc, gf⟩ := kp xb5 (wr.heap.size) (by simp); have r5 := gc 0; clear gc gf)
     )
    case roundEnd => exact ⟨⟨1, by omega, rfl, jT (jA hext.out _) xb5⟩, by simp [intOf]⟩
theorem rd_make (neg : Bool) (A : Option Addr) (n c a : Nat) (D : Option Addr) (m k d : Nat) (hd : d ≠ 0) (hn : n ≤ 16384) (hm : m ≤ 16384) (w : World) (hT : Tz w) (hA : Rd w A n c (lim a)) (hD : Rd w D m k (lim d)) :
  Calls Tryz.prog 30 #[.bool neg, natV A n c, natV D m k] w (DfPst w (decide (canN (sgn neg a) d < 0)) (lim (canN (sgn neg a) d).natAbs) (lim (canD (sgn neg a) d)) 0) := by
 have HA := Lib.hid hA
 have HD := Lib.hid hD
 have HT := Lib.hid hT
 have hm0 : ((m : Int) == 0) = false := by
  rw [beq_eq_false_iff_ne]
  have := hD.len; intro h; exact hd (lim_nil.1 (List.eq_nil_of_length_eq_zero (by omega)))
 have hla := hA.len
 have hld := hD.len
 have hn2 : decide ((16384 : Int) < (n : Int)) = false := decide_eq_false (by omega)
 have hm2 : decide ((16384 : Int) < (m : Int)) = false := decide_eq_false (by omega)
 have hcf := Few.can (k := 16384) (z := sgn neg a) (d := d) ⟨by rw [sgn_abs]; omega, by omega⟩
 have hcn := hcf.1
 have hcw : (lim (canW (sgn neg a) d)).length ≤ 100000 := by have := lim_mono (canW_le (sgn neg a) d); omega
 have hcd : (lim (denOf (canW (sgn neg a) d))).length ≤ 16384 := by rw [canW_den hd]; exact hcf.2
 have hdn := canW_den (z := sgn neg a) hd
 clear hcf
 have chA : ∀ w', Ext w w' → Calls Tryz.prog 81 #[natV A n c] w' fun e w'' => e = .returned (.bool true) ∧ Ext w' w'' := fun w' he => by
  have := rd_May A n c (lim a) w' (HA.out.ext he); rwa [decide_eq_true (chk_lim (by omega))] at this
 have chD : ∀ w', Ext w w' → Calls Tryz.prog 81 #[natV D m k] w' fun e w'' => e = .returned (.bool true) ∧ Ext w' w'' := fun w' he => by
  have := rd_May D m k (lim d) w' (HD.out.ext he); rwa [decide_eq_true (chk_lim (by omega))] at this
 clear hA hD hT
 go_enter Tryz.func30, Tryz.ntmps30
 go_wp2
 go_loopw [16] (fun vi wr => ∃ i : Nat, i ≤ 2 ∧ vi = .int .i64 (i : Int) ∧ Hid (Ext (mkW w A n c D m k) wr)) (fun vi _ => 2 - (intOf vi).toNat)
 case atStart => exact ⟨0, by omega, rfl, jR _⟩
 case round =>
  obtain ⟨i, hi, rfl, hext⟩ := hrel
  obtain ⟨⟨c0, c1, c2, c3⟩, ⟨r0, r1, r2⟩, ⟨f0, f1, f2⟩, hsz⟩ := mkW_facts w A n c D m k wr hext.out
  have hE0 := Lib.hid (jT (ext_mkW w A n c D m k) hext.out)
  by_cases h2 : i = 2
  ·subst h2
   have hl3 := lowD_len (a := a) hd
   rw [hla, hld] at hl3
   have hTr := Lib.hid (HT.out.ext hE0.out)
   have hn400 : n ≤ 400000 := by omega
   have hn1000 : n ≤ 1000000 := by omega
   have hm100 : m ≤ 100000 := by omega
   have hdl := Nat.le_trans hl3.1 hm
   have hm400 : m ≤ 400000 := by omega
   cases neg with
   | false =>
    go_wp2_with (first
     | (go_at_call 82; (with_reducible refine (rd_Int A n c a (by omega) _ (HA.out.ext hE0.out)).mono ?_); rintro e w1 ⟨b1, B1, k1, l1, rfl, hI1, hb1, xb1⟩; have hI1s : IntIs w1 b1 0 (sgn false a) B1 k1 l1 := hI1.out.1; have hx1 := (Below.cell (p := ⟨w.heap.size + 1, 0, none⟩) xb1 (by show w.heap.size + 1 < _; omega)).trans c1; have hsz1 : w.heap.size + 1 < w1.heap.size := by (have := ext_size xb1; omega))
     | (go_at_call 82; (with_reducible refine (rd_Int D m k d (by omega) _ (HD.out.ext (jA (jT hE0.out xb1) _))).mono ?_); rintro e w3 ⟨b3, B3, k3, l3, rfl, hI3, hb3, xb3⟩; have hk1 := Nat.le_trans (Nat.le_of_eq (hI1.out.1.lenNat.symm.trans hla)) hn400; have hk3 := Nat.le_trans (Nat.le_of_eq (hI3.out.1.lenNat.symm.trans hld)) hm400; have hE3 := Lib.hid (jT (jA xb1 (Obj.cells #[.bool false, .slice none 0 0, .slice none 0 0] 74)) xb3))
     | (go_at_call 53; have X1 := br_SetFracC _ b1 b3 (sgn false a) d hd B1 k1 l1 B3 k3 l3 hk1 hk3 _ (hTr.out.ext hE3.out) ((room_rat w1).ext xb3) (hI1s.ext (jT (jA (jR _) _) xb3)) hI3.out.1; (with_reducible refine X1.mono ?_); rintro e w4 ⟨rfl, A4, n4, c4, D4, m4, e4, hI4, xt4⟩; have hn4 : n4 ≤ 16384 := (by have q := hI4.out.1.int.rd.len; omega); have hm4 : m4 ≤ 100000 := (by have q := hI4.out.1.rd.len; omega))
     | (go_at_call 52; (with_reducible refine (rd_Of _ _ A4 n4 c4 _ D4 m4 e4 hn4 hm4 hcd _ hI4.out.1).mono ?_); rintro e w5 ⟨A5, n5, c5, D5, m5, e5, rfl, hI5, xb5⟩; have hE5 := Lib.hid (jT (xt4.ext hE3.out (ext_size xb1)) xb5); obtain ⟨-, ⟨s0, s1, s2⟩, ⟨p0, p1, p2⟩, hs5⟩ := mkW_facts w A n c D m k w5 (jT hext.out hE5.out))
     )
    have hs4 : w.heap.size + 4 ≤ w4.heap.size := by
     have h1 := (mkW_facts w A n c D m k w4 (jT hext.out (xt4.ext hE3.out (ext_size xb1)))).2.2.2; exact h1
    have n5' : ∀ x, A5 = some x → w.heap.size + 1 + 1 < x.block := fun x hx => by have := hI5.out.2.1 x hx; omega
    have n6' : ∀ x, D5 = some x → w.heap.size + 1 + 1 < x.block := fun x hx => by have := hI5.out.2.2.2 x hx; omega
    obtain ⟨q0, q1, q2⟩ := set3 (b := w.heap.size + 1 + 1) s0 s1 s2 (.bool (decide (canN (sgn false a) d < 0))) (.slice A5 n5 c5) (.slice D5 m5 e5)
    have hEE := Lib.hid (jT hE0.out hE5.out)
    refine bodyPost_ret (v := .tuple #[ratV (decide (canN (sgn false a) d < 0)) A5 n5 c5 D5 m5 e5, .int .i64 0]) ?h rfl ⟨⟨A5, n5, c5, D5, m5, e5⟩, rfl, ⟨hI5.out.1.set3 n5' _ _ _, by (have := hI5.out.2.2.1.set3 n6' (b := w.heap.size + 1 + 1); rw [hdn] at this; exact this _ _ _), fun x hx => Nat.le_of_lt (by have := n5' x hx; omega), fun x hx => Nat.le_of_lt (by have := n6' x hx; omega)⟩, ext_set3 hEE.out (by omega) _ _ _⟩
    case h => simp [results, Tryz.results30, go_sem, q0, q1, q2]
   | true =>
    go_wp2_with (first
     | (go_at_call 82; (with_reducible refine (rd_Int A n c a (by omega) _ (HA.out.ext hE0.out)).mono ?_); rintro e w1 ⟨b1, B1, k1, l1, rfl, hI1, hb1, xb1⟩; have hk0 := Nat.le_trans (Nat.le_of_eq (hI1.out.1.lenNat.symm.trans hla)) hn1000)
     | (go_at_call 85; (with_reducible refine (bi_Neg b1 0 b1 0 B1 k1 l1 a hk0 _ hI1.out.1.room hI1.out.1).mono ?_); rintro e w2 ⟨rfl, B2, k2, l2, hI2, xt2⟩; have xb2 := xt2.ext xb1 hb1; have hI1s : IntIs w2 b1 0 (sgn true a) B2 k2 l2 := hI2.out.1; have hx1 := (Below.cell (p := ⟨w.heap.size + 1, 0, none⟩) xb2 (by show w.heap.size + 1 < _; omega)).trans c1; have hsz1 : w.heap.size + 1 < w2.heap.size := by (have := ext_size xb2; omega))
     | (go_at_call 82; (with_reducible refine (rd_Int D m k d (by omega) _ (HD.out.ext (jA (jT hE0.out xb2) _))).mono ?_); rintro e w3 ⟨b3, B3, k3, l3, rfl, hI3, hb3, xb3⟩; have hk1 := Nat.le_trans (Nat.le_of_eq (hI1s.lenSgn.symm.trans hla)) hn400; have hk3 := Nat.le_trans (Nat.le_of_eq (hI3.out.1.lenNat.symm.trans hld)) hm400; have hE3 := Lib.hid (jT (jA xb2 (Obj.cells #[.bool false, .slice none 0 0, .slice none 0 0] 74)) xb3))
     | (go_at_call 53; have X1 := br_SetFracC _ b1 b3 (sgn true a) d hd B2 k2 l2 B3 k3 l3 hk1 hk3 _ (hTr.out.ext hE3.out) ((room_rat w2).ext xb3) (hI1s.ext (jT (jA (jR _) _) xb3)) hI3.out.1; (with_reducible refine X1.mono ?_); rintro e w4 ⟨rfl, A4, n4, c4, D4, m4, e4, hI4, xt4⟩; have hn4 : n4 ≤ 16384 := (by have q := hI4.out.1.int.rd.len; omega); have hm4 : m4 ≤ 100000 := (by have q := hI4.out.1.rd.len; omega))
     | (go_at_call 52; (with_reducible refine (rd_Of _ _ A4 n4 c4 _ D4 m4 e4 hn4 hm4 hcd _ hI4.out.1).mono ?_); rintro e w5 ⟨A5, n5, c5, D5, m5, e5, rfl, hI5, xb5⟩; have hE5 := Lib.hid (jT (xt4.ext hE3.out (ext_size xb2)) xb5); obtain ⟨-, ⟨s0, s1, s2⟩, ⟨p0, p1, p2⟩, hs5⟩ := mkW_facts w A n c D m k w5 (jT hext.out hE5.out))
     )
    have hs4 : w.heap.size + 4 ≤ w4.heap.size := by
     have h1 := (mkW_facts w A n c D m k w4 (jT hext.out (xt4.ext hE3.out (ext_size xb2)))).2.2.2; exact h1
    have n5' : ∀ x, A5 = some x → w.heap.size + 1 + 1 < x.block := fun x hx => by have := hI5.out.2.1 x hx; omega
    have n6' : ∀ x, D5 = some x → w.heap.size + 1 + 1 < x.block := fun x hx => by have := hI5.out.2.2.2 x hx; omega
    obtain ⟨q0, q1, q2⟩ := set3 (b := w.heap.size + 1 + 1) s0 s1 s2 (.bool (decide (canN (sgn true a) d < 0))) (.slice A5 n5 c5) (.slice D5 m5 e5)
    have hEE := Lib.hid (jT hE0.out hE5.out)
    refine bodyPost_ret (v := .tuple #[ratV (decide (canN (sgn true a) d < 0)) A5 n5 c5 D5 m5 e5, .int .i64 0]) ?h rfl ⟨⟨A5, n5, c5, D5, m5, e5⟩, rfl, ⟨hI5.out.1.set3 n5' _ _ _, by (have := hI5.out.2.2.1.set3 n6' (b := w.heap.size + 1 + 1); rw [hdn] at this; exact this _ _ _), fun x hx => Nat.le_of_lt (by have := n5' x hx; omega), fun x hx => Nat.le_of_lt (by have := n6' x hx; omega)⟩, ext_set3 hEE.out (by omega) _ _ _⟩
    case h => simp [results, Tryz.results30, go_sem, q0, q1, q2]
  ·by_cases h1 : i = 1
   ·subst h1
    go_wp2_with (first
     | (go_at_call 81; (with_reducible refine (chD _ (jA hE0.out _)).mono ?_); rintro e w5 ⟨rfl, xb5⟩; obtain ⟨l5, gc, gf⟩ := kp xb5 (wr.heap.size) (by simp); have r5 := gc 0; clear gc gf)
     )
    case roundEnd => exact ⟨⟨2, by omega, rfl, jT (jA hext.out _) xb5⟩, by simp [intOf]⟩
   ·obtain rfl : i = 0 := by omega
    go_wp2_with (first
     | (go_at_call 81; (with_reducible refine (chA _ (jA hE0.out _)).mono ?_); rintro e w5 ⟨rfl, xb5⟩; obtain ⟨l5, gc, gf⟩ := kp xb5 (wr.heap.size) (by simp); have r5 := gc 0; clear gc gf)
     )
    case roundEnd => exact ⟨⟨1, by omega, rfl, jT (jA hext.out _) xb5⟩, by simp [intOf]⟩
end Go.Proofs.YtchbefambnhjjaaGreatDoor.NB
namespace Go.Proofs.YtchbefambnhjjaaGreatDoor
open Go.RowKit
attribute [local irreducible] Calls
theorem bo_Make (neg : Bool) {xs ys : List Nat} (hx : Lb xs) (hy : Lb ys) (l1 : xs.length ≤ 40) (l2 : ys.length ≤ 40) : ∃ (r : Bool) (zs ws : List Nat) (E : Int), zs.length ≤ 1000000 ∧ ws.length ≤ 1000000 ∧
  (∀ A n c D m k w, Tz w → Rd w A n c xs → Rd w D m k ys → Calls Tryz.prog 31 #[.bool neg, natV A n c, natV D m k] w (OfPst w r zs ws E)) ∧ (∀ A n c D m k w, Tz w → Rd w A n c xs → Rd w D m k ys → Calls Tryz.prog 30 #[.bool neg, natV A n c, natV D m k] w (NB.DfPst w r zs ws E)) := by
 have few : ∀ {zs : List Nat}, zs.length ≤ 40 → chk zs ≠ 0 → chk zs = 10 := fun {zs} h h0 => by
  unfold chk at h0 ⊢
  rw [if_neg (by omega)] at h0 ⊢
  split
  ·rfl
  ·rename_i h1; rw [if_neg h1] at h0; exact absurd rfl h0
 have kP : ∀ {zs : List Nat} (A : Option Addr) (n c : Nat) (w : World), Rd w A n c zs → ∀ {C : Nat}, chk zs = C → ∀ w', Ext w w' → Calls Tryz.prog 86 #[natV A n c] w' fun e w'' => e = .returned (.int .i64 (C : Int)) ∧ Ext w' w'' := fun {zs} A n c w hR {C} hC w' he => by have := ncheck_any A n c zs w' (hR.ext he); rwa [hC] at this
 have kM : ∀ {zs : List Nat} (A : Option Addr) (n c : Nat) (w : World), Rd w A n c zs → ∀ {t : Bool}, decide (chk zs = 0) = t → ∀ w', Ext w w' → Calls Tryz.prog 81 #[natV A n c] w' fun e w'' => e = .returned (.bool t) ∧ Ext w' w'' := fun {zs} A n c w hR {t} ht w' he => by have := NB.rd_May A n c zs w' (hR.ext he); rwa [ht] at this
 by_cases h1 : chk xs = 0
 ·by_cases h2 : chk ys = 0
  ·obtain ⟨_, e1⟩ := chk_zero hx h1
   obtain ⟨_, e2⟩ := chk_zero hy h2
   by_cases h3 : val ys = 0
   ·have hy0 : ys = [] := by rw [e2, h3, lim_zero]
    exact ⟨false, [], [], 11, by simp, by simp, fun A n c D m k w hT hA hD => of_no (ra_make_no3 neg A n c D m k w (by rw [← hD.len, hy0]; rfl) (kP A n c w hA h1) (kP D m k w hD h2)), fun A n c D m k w hT hA hD => NB.rd_make_no3 neg A n c D m k w (by have := hA.len; omega) (by have := hD.len; omega) (by rw [← hD.len, hy0]; rfl) (kM A n c w hA (decide_eq_true h1)) (kM D m k w hD (decide_eq_true h2))⟩
   ·obtain ⟨a, ha⟩ : ∃ a, val xs = a := ⟨_, rfl⟩
    obtain ⟨d, hd⟩ : ∃ d, val ys = d := ⟨_, rfl⟩
    rw [ha] at e1
    rw [hd] at e2 h3
    subst e1 e2
    have hf := Few.can (k := 40) (z := sgn neg a) (d := d) ⟨by rw [sgn_abs]; exact l1, l2⟩
    exact ⟨_, lim (canN (sgn neg a) d).natAbs, lim (canD (sgn neg a) d), 0, by have := hf.1; omega, by have := hf.2; omega, fun A n c D m k w hT hA hD => of_t (by have h := ra_make neg A n c a D m k d h3 (by have := hA.len; omega) (by have := hD.len; omega) w hT hA hD; rw [sgn_can, show denOf (lowD a d) = canD (sgn neg a) d by have := low_can (sgn neg a) d; rw [sgn_abs] at this; rw [this, canW_den h3]] at h; exact h), fun A n c D m k w hT hA hD => NB.rd_make neg A n c a D m k d h3 (by have := hA.len; omega) (by have := hD.len; omega) w hT hA hD⟩
  ·have h3 := few l2 h2
   exact ⟨false, [], [], 10, by simp, by simp, fun A n c D m k w hT hA hD => of_no (ra_make_no2 neg A n c D m k w 10 rfl (kP A n c w hA h1) (kP D m k w hD h3)), fun A n c D m k w hT hA hD => NB.rd_make_no2 neg A n c D m k w (by have := hA.len; omega) (by have := hD.len; omega) (kM A n c w hA (decide_eq_true h1)) (kM D m k w hD (decide_eq_false h2))⟩
 ·have h3 := few l1 h1
  exact ⟨false, [], [], 10, by simp, by simp, fun A n c D m k w hT hA hD => of_no (ra_make_no1 neg A n c D m k w 10 rfl (kP A n c w hA h3)), fun A n c D m k w hT hA hD => NB.rd_make_no1 neg A n c D m k w (by have := hA.len; omega) (by have := hD.len; omega) (kM A n c w hA (decide_eq_false h1))⟩
end Go.Proofs.YtchbefambnhjjaaGreatDoor
end
section
/- The second law's book: blocks of the law's own. -/
namespace Go.Proofs.YtchbefambnhjjaaGreatDoor
open Go.RowKit
attribute [local irreducible] Calls
abbrev RecOff (r : Rec) (b : Nat) : Prop := (∀ a, r.F.A = some a → r.F.n ≠ 0 → a.block ≠ b) ∧ (∀ a, r.F.D = some a → r.F.m ≠ 0 → a.block ≠ b) ∧ (∀ a, r.G.A = some a → r.G.n ≠ 0 → a.block ≠ b) ∧ (∀ a, r.G.D = some a → r.G.m ≠ 0 → a.block ≠ b)
structure Loc (u : World) (β : Nat) (H : BH) (rs : List Rec) (ls : List Row) (b : Nat) : Prop where
 lt : b < u.heap.size
 c0 : ∃ v, u.cell? ⟨b, 0, none⟩ = some v
 c1 : ∃ v, u.cell? ⟨b, 1, none⟩ = some v
 c2 : ∃ v, u.cell? ⟨b, 2, none⟩ = some v
 froz : ∀ o, u.frozen? ⟨b, o, none⟩ = false
 off : ¬ InBk β H b
 recs : ∀ r ∈ rs, RecOff r b
 rows : ∀ r ∈ ls, ∀ a, r.A = some a → a.block ≠ b
section
variable {u u' : World} {B β : Nat} {H H' : BH} {rs : List Rec} {ls : List Row} {b : Nat}
theorem Loc.ext (h : Loc u β H rs ls b) (he : Ext u u') : Loc u' β H rs ls b := by
 obtain ⟨v0, h0⟩ := h.c0
 obtain ⟨v1, h1⟩ := h.c1
 obtain ⟨v2, h2⟩ := h.c2
 exact ⟨Nat.lt_of_lt_of_le h.lt he.size, ⟨v0, (Below.cell (p := ⟨b, 0, none⟩) he h.lt).trans h0⟩, ⟨v1, (Below.cell (p := ⟨b, 1, none⟩) he h.lt).trans h1⟩, ⟨v2, (Below.cell (p := ⟨b, 2, none⟩) he h.lt).trans h2⟩, fun o => (Below.frozen (p := ⟨b, o, none⟩) he h.lt).trans (h.froz o), h.off, h.recs, h.rows⟩
theorem Loc.new (h : Bk u B β H rs ls) (v0 v1 v2 : Value) (t : TypeId) : Loc (u.alloc (Obj.cells #[v0, v1, v2] t)) β H rs ls u.heap.size := by
 refine ⟨by simp, ⟨v0, by simp [go_sem]⟩, ⟨v1, by simp [go_sem]⟩, ⟨v2, by simp [go_sem]⟩, fun o => by simp [go_sem], h.off (Nat.le_refl _), fun r hr => ?_, fun r hr a ha => ?_⟩
 ·obtain ⟨h1, h2, h3, h4⟩ := h.recs r hr
  exact ⟨fun a ha hn => by have := h1.rd.lt ha hn; omega, fun a ha hn => by have := h2.rd.lt ha hn; omega, fun a ha hn => by have := h3.rd.lt ha hn; omega, fun a ha hn => by have := h4.rd.lt ha hn; omega⟩
 ·have := own_lt (h.rows r hr).own ha; omega
theorem Loc.turn (h : Loc u β H rs ls b) (t : TurnB u u' β H H') {r : Rec} (hr : RecOff r b) (hA : ∀ a, r.F.A = some a → a.block ≠ b) (hD : ∀ a, r.F.D = some a → a.block ≠ b) : Loc u' β H' (rs ++ [r]) (ls ++ [⟨r.F.A, r.F.n, r.xs⟩, ⟨r.F.D, r.F.m, r.ys⟩]) b := by
 obtain ⟨t1, t2, t3, t4⟩ := t.cell h.lt h.off
 obtain ⟨v0, h0⟩ := h.c0
 obtain ⟨v1, h1⟩ := h.c1
 obtain ⟨v2, h2⟩ := h.c2
 refine ⟨t3, ⟨v0, (t1 0).trans h0⟩, ⟨v1, (t1 1).trans h1⟩, ⟨v2, (t1 2).trans h2⟩, fun o => (t2 o).trans (h.froz o), t4, fun q hq => ?_, fun q hq => ?_⟩
 ·rcases List.mem_append.1 hq with hq | hq
  ·exact h.recs q hq
  ·rw [List.mem_singleton] at hq; subst hq; exact hr
 ·rcases List.mem_append.1 hq with hq | hq
  ·exact h.rows q hq
  ·rcases List.mem_cons.1 hq with rfl | hq
   ·exact hA
   ·rw [List.mem_singleton] at hq; subst hq; exact hD
abbrev put3 (u : World) (b : Nat) (v0 v1 v2 : Value) : World := ((u.setCell ⟨b, 0, none⟩ v0).setCell ⟨b, 1, none⟩ v1).setCell ⟨b, 2, none⟩ v2
theorem frm3 (u : World) (b : Nat) (v0 v1 v2 : Value) : Frm (fun k => k = b) u (put3 u b v0 v1 v2) := by
 have one : ∀ (w : World) (o : Nat) (v : Value), Frm (fun k => k = b) w (w.setCell ⟨b, o, none⟩ v) := fun w o v => Frm.set v (.inl rfl)
 exact ((one _ 0 v0).trans (one _ 1 v1)).trans (one _ 2 v2)
theorem Bk.put (h : Bk u B β H rs ls) (hl : Loc u β H rs ls b) (v0 v1 v2 : Value) : Bk (put3 u b v0 v1 v2) B β H rs ls := by
 have t := frm3 u b v0 v1 v2
 refine ⟨h.book.frm t (fun k hk e => hl.off (e ▸ hk)), fun r hr => ?_, fun r hr => ?_, h.apart, h.low⟩
 ·obtain ⟨h1, h2, h3, h4⟩ := h.recs r hr
  obtain ⟨g1, g2, g3, g4⟩ := hl.recs r hr
  exact ⟨h1.frm t g1, h2.frm t g2, h3.frm t g3, h4.frm t g4⟩
 ·have hh := h.rows r hr
  exact ⟨own_frm hh.own t (hl.rows r hr), hh.off, hh.low, hh.few⟩
theorem put_cells (hl : Loc u β H rs ls b) (v0 v1 v2 : Value) : (put3 u b v0 v1 v2).cell? ⟨b, 0, none⟩ = some v0 ∧ (put3 u b v0 v1 v2).cell? ⟨b, 1, none⟩ = some v1 ∧ (put3 u b v0 v1 v2).cell? ⟨b, 2, none⟩ = some v2 := by
 obtain ⟨w0, h0⟩ := hl.c0
 obtain ⟨w1, h1⟩ := hl.c1
 obtain ⟨w2, h2⟩ := hl.c2
 exact set3 h0 h1 h2 v0 v1 v2
theorem Loc.put (hl : Loc u β H rs ls b) (v0 v1 v2 : Value) : Loc (put3 u b v0 v1 v2) β H rs ls b := by
 obtain ⟨q0, q1, q2⟩ := put_cells hl v0 v1 v2
 exact ⟨by simpa using hl.lt, ⟨_, q0⟩, ⟨_, q1⟩, ⟨_, q2⟩, fun o => by simp [go_sem, hl.froz o], hl.off, hl.recs, hl.rows⟩
theorem Loc.put' {b2 : Nat} (hl : Loc u β H rs ls b2) (hne : b2 ≠ b) (v0 v1 v2 : Value) : Loc (put3 u b v0 v1 v2) β H rs ls b2 := by
 have t := frm3 u b v0 v1 v2
 have cc : ∀ o, (put3 u b v0 v1 v2).cell? ⟨b2, o, none⟩ = u.cell? ⟨b2, o, none⟩ := fun o => t.cell (p := ⟨b2, o, none⟩) hl.lt hne
 obtain ⟨w0, h0⟩ := hl.c0
 obtain ⟨w1, h1⟩ := hl.c1
 obtain ⟨w2, h2⟩ := hl.c2
 exact ⟨by simpa using hl.lt, ⟨w0, (cc 0).trans h0⟩, ⟨w1, (cc 1).trans h1⟩, ⟨w2, (cc 2).trans h2⟩, fun o => by simp [go_sem, hl.froz o], hl.off, hl.recs, hl.rows⟩
theorem RdO.frm {S : Nat → Prop} {w w' : World} {A : Option Addr} {n c : Nat} {xs : List Nat} {Z : Option Addr} (h : RdO w A n c xs Z) (hf : Frm S w w') (ho : ∀ a, A = some a → ¬ S a.block) : RdO w' A n c xs Z :=
 ⟨h.toRd.frm hf (fun a ha _ => ho a ha), own_frm h.own hf ho, h.apt, h.full⟩
end
end Go.Proofs.YtchbefambnhjjaaGreatDoor
end
section
/- The second law's book: how things stand between two adds. -/
namespace Go.Proofs.YtchbefambnhjjaaGreatDoor
open Go.RowKit
attribute [local irreducible] Calls
structure Sta (W u : World) (β : Nat) (H : BH) (rs : List Rec) (ls : List Row) (Ls : List Nat) : Prop where
 ext : Ext W u
 bk : Bk u β β H rs ls
 low : W.heap.size ≤ β
 locs : ∀ b, b ∈ Ls → Loc u β H rs ls b ∧ β ≤ b
structure NewR (u : World) (β : Nat) (H : BH) (ls : List Row) (Ls : List Nat) (A : Option Addr) (n c : Nat) (xs : List Nat) (Z : Option Addr) : Prop where
 rd : RdO u A n c xs Z
 off : ∀ a, A = some a → ¬ InBk β H a.block ∧ β ≤ a.block ∧ (∀ q ∈ ls, ∀ b, q.A = some b → b.block ≠ a.block) ∧ ∀ b, b ∈ Ls → a.block ≠ b
structure WantR (u : World) (β : Nat) (H : BH) (Ls : List Nat) (A : Option Addr) (n c : Nat) (xs : List Nat) : Prop where
 want : Want u β H A n c xs
 loc : ∀ a, A = some a → n ≠ 0 → ∀ b, b ∈ Ls → a.block ≠ b
section
variable {W u u' : World} {β : Nat} {H H' : BH} {rs : List Rec} {ls : List Row} {Ls : List Nat} {A : Option Addr} {n c : Nat} {xs : List Nat} {Z : Option Addr} {b : Nat}
theorem Sta.step (h : Sta W u β H rs ls Ls) (he : Ext u u') : Sta W u' β H rs ls Ls := ⟨jT h.ext he, h.bk.ext he, h.low, fun b hb => ⟨(h.locs b hb).1.ext he, (h.locs b hb).2⟩⟩
theorem Sta.book_lt (h : Sta W u β H rs ls Ls) : β < u.heap.size := h.bk.book.lt
theorem Sta.alloc (h : Sta W u β H rs ls Ls) (v0 v1 v2 : Value) (t : TypeId) : Sta W (u.alloc (Obj.cells #[v0, v1, v2] t)) β H rs ls (u.heap.size :: Ls) := by
 have he := jA (jR u) (Obj.cells #[v0, v1, v2] t)
 refine ⟨jT h.ext he, h.bk.ext he, h.low, fun b hb => ?_⟩
 rcases List.mem_cons.1 hb with rfl | hb
 ·exact ⟨Loc.new h.bk v0 v1 v2 t, Nat.le_of_lt h.book_lt⟩
 ·exact ⟨(h.locs b hb).1.ext he, (h.locs b hb).2⟩
theorem Sta.put (h : Sta W u β H rs ls Ls) (hb : b ∈ Ls) (v0 v1 v2 : Value) : Sta W (put3 u b v0 v1 v2) β H rs ls Ls := by
 have hl := h.locs b hb
 refine ⟨ext_set3 h.ext (Nat.le_trans h.low hl.2) _ _ _, h.bk.put hl.1 _ _ _, h.low, fun b2 hb2 => ?_⟩
 have hl2 := h.locs b2 hb2
 by_cases e : b2 = b
 ·subst e; exact ⟨hl2.1.put _ _ _, hl2.2⟩
 ·exact ⟨hl2.1.put' e _ _ _, hl2.2⟩
theorem Sta.other (h : Sta W u β H rs ls Ls) {b2 : Nat} (hb2 : b2 ∈ Ls) (hne : b2 ≠ b) (v0 v1 v2 : Value) (o : Nat) : (put3 u b v0 v1 v2).cell? ⟨b2, o, none⟩ = u.cell? ⟨b2, o, none⟩ :=
 (frm3 u b v0 v1 v2).cell (p := ⟨b2, o, none⟩) (h.locs b2 hb2).1.lt hne
theorem NewR.of {U : World} (h : Sta W U β H rs ls Ls) (hr : RdO u A n c xs Z) (hf : Fr U A) : NewR u β H ls Ls A n c xs Z :=
 ⟨hr, fun a ha => by
  have h1 := hf a ha
  refine ⟨h.bk.off h1, by have := h.book_lt; omega, fun q hq b hb => ?_, fun b hb => ?_⟩
  ·have := own_lt (h.bk.rows q hq).own hb; omega
  ·have := (h.locs b hb).1.lt; omega⟩
theorem NewR.step (h : NewR u β H ls Ls A n c xs Z) (he : Ext u u') : NewR u' β H ls Ls A n c xs Z := ⟨h.rd.ext he, h.off⟩
theorem NewR.alloc (h : NewR u β H ls Ls A n c xs Z) (ob : Obj) : NewR (u.alloc ob) β H ls (u.heap.size :: Ls) A n c xs Z :=
 ⟨h.rd.ext (jA (jR u) ob), fun a ha => by
  obtain ⟨h1, h2, h3, h4⟩ := h.off a ha
  refine ⟨h1, h2, h3, fun b hb => ?_⟩
  rcases List.mem_cons.1 hb with rfl | hb
  ·have := own_lt h.rd.own ha; omega
  ·exact h4 b hb⟩
theorem NewR.put (h : NewR u β H ls Ls A n c xs Z) (hb : b ∈ Ls) (v0 v1 v2 : Value) : NewR (put3 u b v0 v1 v2) β H ls Ls A n c xs Z :=
 ⟨h.rd.frm (frm3 u b v0 v1 v2) (fun a ha => (h.off a ha).2.2.2 b hb), h.off⟩
theorem WantR.of {U : World} (h : Sta W U β H rs ls Ls) (hr : Rd u A n c xs) (hf : Fr U A) : WantR u β H Ls A n c xs :=
 ⟨⟨hr, fun a ha _ => h.bk.off (hf a ha), fun a ha _ => by have := hf a ha; have := h.book_lt; omega⟩, fun a ha _ b hb => by have := hf a ha; have := (h.locs b hb).1.lt; omega⟩
theorem WantR.step (h : WantR u β H Ls A n c xs) (he : Ext u u') : WantR u' β H Ls A n c xs := ⟨h.want.ext he, h.loc⟩
theorem WantR.alloc (h : WantR u β H Ls A n c xs) (ob : Obj) : WantR (u.alloc ob) β H (u.heap.size :: Ls) A n c xs :=
 ⟨h.want.ext (jA (jR u) ob), fun a ha hn b hb => by
  rcases List.mem_cons.1 hb with rfl | hb
  ·have := h.want.rd.lt ha hn; omega
  ·exact h.loc a ha hn b hb⟩
theorem WantR.put (h : WantR u β H Ls A n c xs) (hb : b ∈ Ls) (v0 v1 v2 : Value) : WantR (put3 u b v0 v1 v2) β H Ls A n c xs :=
 ⟨h.want.frm (frm3 u b v0 v1 v2) (fun a ha hn => h.loc a ha hn b hb), h.loc⟩
theorem WantR.turn (h : WantR u β H Ls A n c xs) (t : TurnB u u' β H H') : WantR u' β H' Ls A n c xs := ⟨h.want.turn t, h.loc⟩
theorem Sta.adds (h : Sta W u β H rs ls Ls) (s : Bool) (F G : FH) (xs ys : List Nat) (hA : NewR u β H ls Ls F.A F.n F.c xs none) (hD : NewR u β H ls Ls F.D F.m F.k ys F.A) (gA : WantR u β H Ls G.A G.n G.c xs) (gD : WantR u β H Ls G.D G.m G.k ys) (lx : xs.length ≤ 1000000) (ly : ys.length ≤ 1000000) (E : Int) (hn : rs.length ≤ 900) (hm : ls.length ≤ 900) :
  Calls Tryz.prog 12 #[.pointer (some ⟨β, 0, none⟩), fV s F, .int .i64 E, fV s G, .int .i64 E] u fun e w' => e = .returned (.tuple #[]) ∧ ∃ H' : BH, Hid (Sta W w' β H' (rs ++ [⟨s, F, G, xs, ys⟩]) (ls ++ [⟨F.A, F.n, xs⟩, ⟨F.D, F.m, ys⟩]) Ls) ∧ Hid (TurnB u w' β H H') := by
 have o1 := hA.off
 have o2 := hD.off
 refine (adds_at h.bk ⟨s, F, G, xs, ys⟩ hA.rd hD.rd (fun a ha => ⟨(o1 a ha).1, (o1 a ha).2.1, (o1 a ha).2.1, (o1 a ha).2.2.1⟩) (fun a ha => ⟨(o2 a ha).1, (o2 a ha).2.1, (o2 a ha).2.1, (o2 a ha).2.2.1⟩) gA.want gD.want (by show F.n ≤ 1000000; have := hA.rd.len; omega) (by show F.m ≤ 1000000; have := hD.rd.len; omega) E hn hm).mono ?_
 rintro e w' ⟨rfl, H', hB, hT⟩
 refine ⟨rfl, H', Lib.hid ⟨hT.out.ext h.bk h.ext h.low, hB.out, h.low, fun b hb => ?_⟩, hT⟩
 have hl := h.locs b hb
 exact ⟨hl.1.turn hT.out (r := ⟨s, F, G, xs, ys⟩) ⟨fun a ha _ => (o1 a ha).2.2.2 b hb, fun a ha _ => (o2 a ha).2.2.2 b hb, fun a ha hn => gA.loc a ha hn b hb, fun a ha hn => gD.loc a ha hn b hb⟩ (fun a ha => (o1 a ha).2.2.2 b hb) (fun a ha => (o2 a ha).2.2.2 b hb), hl.2⟩
theorem Sta.kept (h : Sta W u β H rs ls Ls) (t : TurnB u u' β H H') (hb : b ∈ Ls) (o : Nat) : u'.cell? ⟨b, o, none⟩ = u.cell? ⟨b, o, none⟩ := (t.cell (h.locs b hb).1.lt (h.locs b hb).1.off).1 o
theorem Bk.below {S : Nat → Prop} (h : Bk u β β H rs ls) (t : Frm S u u') (hS : ∀ k, S k → k < β) : Bk u' β β H rs ls := by
 refine ⟨h.book.frm t (fun k hk e => by have := hS k e; have := h.low k hk; omega), fun r hr => ?_, fun r hr => ?_, h.apart, h.low⟩
 ·obtain ⟨h1, h2, h3, h4⟩ := h.recs r hr
  exact ⟨h1.frm t fun a ha hn e => by have := hS _ e; have := h1.lo a ha hn; omega, h2.frm t fun a ha hn e => by have := hS _ e; have := h2.lo a ha hn; omega, h3.frm t fun a ha hn e => by have := hS _ e; have := h3.lo a ha hn; omega, h4.frm t fun a ha hn e => by have := hS _ e; have := h4.lo a ha hn; omega⟩
 ·exact ⟨own_frm (h.rows r hr).own t (fun a ha e => by have := hS _ e; have := (h.rows r hr).low a ha; omega), (h.rows r hr).off, (h.rows r hr).low, (h.rows r hr).few⟩
end
end Go.Proofs.YtchbefambnhjjaaGreatDoor
end
section
/- The document's fractions: times powers. -/
namespace Go.Proofs.YtchbefambnhjjaaGreatDoor.NB
open Go.RowKit
attribute [local go_sem] sz2 sz3 sz4 sz5 sz6 sz7 sz8
set_option maxHeartbeats 4000000
set_option maxRecDepth 100000
attribute [local irreducible] Calls
abbrev DwPst (w : World) (z : Int) : Ending → World → Prop := fun e w' => ∃ F : FH, e = .returned (fV (decide (z < 0)) F) ∧ Hid (Rd w' F.A F.n F.c (lim z.natAbs) ∧ Rd w' F.D F.m F.k (lim 1) ∧ Fr w F.A ∧ Fr w F.D) ∧ Ext w w'
theorem rd_Whole (z : Int) (h1 : -9223372036854775808 ≤ z) (h2 : z ≤ 9223372036854775807) (w : World) :
    Calls Tryz.prog 33 #[.int .i64 z] w (DwPst w z) := by
  have hl : (lim z.natAbs).length ≤ 3 := lim_le (by have : Bs ^ 3 = 79228162514264337593543950336 := by kernel_rfl
                                                    rw [this]; omega)
  have kS : Calls Tryz.prog 90 #[.pointer (some ⟨w.heap.size + 1, 0, none⟩), .int .i64 z] (newRat (w.alloc (Obj.cells #[.bool false, .slice none 0 0, .slice none 0 0] 32))) fun e w' => e = .returned (.pointer (some ⟨w.heap.size + 1, 0, none⟩)) ∧ ∃ (A : Option Addr) (n c : Nat) (D : Option Addr) (m k : Nat), Hid (RatIs w' (w.heap.size + 1) z A n c 0 D m k) ∧ Ext (w.alloc (Obj.cells #[.bool false, .slice none 0 0, .slice none 0 0] 32)) w' := by
    have h := br_SetInt64 (w.alloc (Obj.cells #[.bool false, .slice none 0 0, .slice none 0 0] 32)).heap.size z h1 h2 _ (room_rat (w.alloc (Obj.cells #[.bool false, .slice none 0 0, .slice none 0 0] 32)))
    have e0 : (w.alloc (Obj.cells #[.bool false, .slice none 0 0, .slice none 0 0] 32)).heap.size = w.heap.size + 1 := by simp
    rw [e0] at h
    refine h.mono ?_
    rintro e w' ⟨rfl, A, n, c, D, m, k, h3, h4⟩
    exact ⟨rfl, A, n, c, D, m, k, Lib.hid h3.out.1, h4.ext (jA (jR _) _) (by simp)⟩
  have kO : ∀ (A : Option Addr) (n c : Nat) (D : Option Addr) (m k : Nat) (w' : World), RatIs w' (w.heap.size + 1) z A n c 0 D m k → Calls Tryz.prog 52 #[.pointer (some ⟨w.heap.size + 1, 0, none⟩)] w' (UPost w' z 1) := fun A n c D m k w' h => by
    have e1 := h.int.rd.len
    have e2 := h.rd.len
    rw [lim_zero] at e2
    have e3 : (lim (denOf 0)).length = 1 := by kernel_rfl
    exact rd_Of (w.heap.size + 1) z A n c 0 D m k (by omega) (by simp at e2; omega) (by omega) w' h
  go_enter Tryz.func33, Tryz.ntmps33
  go_wp2_with (first
    | (go_at_call 90; (with_reducible refine (kS).mono ?_); rintro e w1 ⟨rfl, A1, n1, c1, D1, m1, k1, hR1, xb1⟩; obtain ⟨xc1, xf1, xl1, xz1⟩ := jU xb1; (try simp at xz1); obtain ⟨l1_0, r1_0, f1_0, r1_0_1, f1_0_1, r1_0_2, f1_0_2⟩ := kq3 xb1 (w.heap.size))
    | (go_at_call 52; (with_reducible refine (kO _ _ _ _ _ _ _ hR1.out).mono ?_); rintro e w2 ⟨A2, n2, c2, D2, m2, k2, rfl, hR2, xb2⟩; obtain ⟨xc2, xf2, xl2, xz2⟩ := jU xb2; (try simp at xz2); obtain ⟨l2_0, r2_0, f2_0, r2_0_1, f2_0_1, r2_0_2, f2_0_2⟩ := kq3 xb2 (w.heap.size))
   )
  have z0 : w2.cell? ⟨w.heap.size, 0, none⟩ = some (.bool false) := by simp [go_sem, *]
  have z1 : w2.cell? ⟨w.heap.size, 1, none⟩ = some (.slice none 0 0) := by simp [go_sem, *]
  have z2 : w2.cell? ⟨w.heap.size, 2, none⟩ = some (.slice none 0 0) := by simp [go_sem, *]
  have rl : w.heap.size < w2.heap.size := by assumption
  have n5 : ∀ a, A2 = some a → w.heap.size < a.block := fun a ha => by have := hR2.out.2.1 a ha; omega
  have n6 : ∀ a, D2 = some a → w.heap.size < a.block := fun a ha => by have := hR2.out.2.2.2 a ha; omega
  have hE : Ext w w2 := xcl
  obtain ⟨q0, q1, q2⟩ := set3 (b := w.heap.size) z0 z1 z2 (.bool (decide (z < 0))) (.slice A2 n2 c2) (.slice D2 m2 k2)
  have hal : Ext (((w2.setCell ⟨w.heap.size, 0, none⟩ (.bool (decide (z < 0)))).setCell ⟨w.heap.size, 1, none⟩ (.slice A2 n2 c2)).setCell ⟨w.heap.size, 2, none⟩ (.slice D2 m2 k2)) ((((w2.setCell ⟨w.heap.size, 0, none⟩ (.bool (decide (z < 0)))).setCell ⟨w.heap.size, 1, none⟩ (.slice A2 n2 c2)).setCell ⟨w.heap.size, 2, none⟩ (.slice D2 m2 k2)).alloc (Obj.cells #[.bool (decide (z < 0)), .slice A2 n2 c2, .slice D2 m2 k2] 32)) := jA (jR _) _
  have rl' : w.heap.size < (((w2.setCell ⟨w.heap.size, 0, none⟩ (.bool (decide (z < 0)))).setCell ⟨w.heap.size, 1, none⟩ (.slice A2 n2 c2)).setCell ⟨w.heap.size, 2, none⟩ (.slice D2 m2 k2)).heap.size := by simpa using rl
  have q0 := (Below.cell (p := ⟨w.heap.size, 0, none⟩) hal rl').trans q0
  have q1 := (Below.cell (p := ⟨w.heap.size, 1, none⟩) hal rl').trans q1
  have q2 := (Below.cell (p := ⟨w.heap.size, 2, none⟩) hal rl').trans q2
  refine bodyPost_ret (v := ratV (decide (z < 0)) A2 n2 c2 D2 m2 k2) ?h rfl ⟨⟨A2, n2, c2, D2, m2, k2⟩, rfl, ⟨(hR2.out.1.set3 n5 _ _ _).ext hal, (hR2.out.2.2.1.set3 n6 _ _ _).ext hal, fun a ha => Nat.le_of_lt (n5 a ha), fun a ha => Nat.le_of_lt (n6 a ha)⟩, jT (ext_set3 hE (Nat.le_refl _) _ _ _) hal⟩
  case h => simp [results, Tryz.results33, go_sem, q0, q1, q2]
end Go.Proofs.YtchbefambnhjjaaGreatDoor.NB
end
