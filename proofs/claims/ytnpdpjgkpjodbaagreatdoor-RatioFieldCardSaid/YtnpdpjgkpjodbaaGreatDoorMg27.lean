/- Lemmas of this proof, laid together: FieQ, SamF. -/
import Derived.Test.YtnpdpjgkpjodbaaGreatDoorMg26
import Derived.Test.YtnpdpjgkpjodbaaGreatDoorMg25
import Derived.Deep.DeepCutAuto
import Derived.Deep.RegionWith
set_option linter.unusedSimpArgs false
set_option linter.unusedVariables false
section
/- The program's fractions: the calls, what is lent bound together. -/
namespace Go.Proofs.YtnpdpjgkpjodbaaGreatDoor
open Go.RowKit
attribute [local go_sem] sz2 sz3 sz4 sz5 sz6 sz7 sz8
set_option maxHeartbeats 4000000
set_option maxRecDepth 100000
attribute [local irreducible] Calls
/-- Where a fraction lies. -/
structure FH where
  A : Option Addr
  n : Nat
  c : Nat
  D : Option Addr
  m : Nat
  k : Nat
abbrev fV (s : Bool) (F : FH) : Value := ratV s F.A F.n F.c F.D F.m F.k
abbrev RaF (w : World) (z : Int) (d : Nat) (F : FH) : Prop := RaIs w z d F.A F.n F.c F.D F.m F.k
abbrev FPst (w : World) (s : Bool) (z : Int) (d : Nat) : Ending → World → Prop := fun e w' => ∃ F : FH, e = .returned (.tuple #[fV s F, .int .i64 0]) ∧ Hid (RaF w' z d F) ∧ Ext w w'
abbrev Op2 (W : World) (f : FuncId) (s : Bool) (x : Int) (p : Nat) (t : Bool) (y : Int) (q : Nat) (u : Bool) (z : Int) (d : Nat) : Prop :=
  ∀ (F G : FH) (w' : World), Ext W w' → RaF w' x p F → RaF w' y q G → Calls Tryz.prog f #[fV s F, fV t G] w' (FPst w' u z d)
theorem fpst_of {w : World} {z : Int} {d : Nat} {s : Bool} (hs : decide (z < 0) = s) {f : FuncId} {v : Array Value} {P : Program} (h : Calls P f v w (RPost w z d)) : Calls P f v w (FPst w s z d) := by
  refine h.mono ?_
  rintro e w' ⟨A, n, c, D, m, k, rfl, h1, h2⟩
  subst hs
  exact ⟨⟨A, n, c, D, m, k⟩, rfl, h1, h2⟩
theorem RaIs.few {k : Nat} {w : World} {x : Int} {p : Nat} {A : Option Addr} {n c : Nat} {D : Option Addr} {m l : Nat} (h : RaIs w x p A n c D m l) (hf : Few k x p) : n ≤ k ∧ m ≤ k := ⟨by rw [← h.num.len]; exact hf.1, by rw [← h.den.len]; exact hf.2⟩
theorem ra_Div_zero (neg : Bool) (A : Option Addr) (n c : Nat) (D : Option Addr) (m k : Nat) (neg2 : Bool) (B : Option Addr) (c2 : Nat) (C : Option Addr) (m2 k2 : Nat) (w : World)
    (hc1 : ∀ w', Ext w w' → Calls Tryz.prog 29 #[ratV neg A n c D m k] w' fun e w'' => e = .returned (.int .i64 0) ∧ Ext w' w'')
    (hc2 : ∀ w', Ext w w' → Calls Tryz.prog 29 #[ratV neg2 B 0 c2 C m2 k2] w' fun e w'' => e = .returned (.int .i64 0) ∧ Ext w' w'') :
    Calls Tryz.prog 49 #[ratV neg A n c D m k, ratV neg2 B 0 c2 C m2 k2] w fun e w' => e = .returned (.tuple #[ratV false none 0 0 none 0 0, .int .i64 11]) ∧ Ext w w' := by
  go_enter Tryz.func49, Tryz.ntmps49
  go_wp2_with (first
    | (go_at_call 29; (with_reducible refine (hc2 _ (ext_trans (ext_alloc (ext_alloc (ext_alloc (ext_refl _) _) _) _) xb1)).mono ?_); rintro e w2 ⟨rfl, xb2⟩; obtain ⟨xc2, xf2, xl2, xz2⟩ := ext_use xb2; (try simp at xz2); obtain ⟨l2_0, gc, gf⟩ := kp xb2 (w.heap.size) (by first | omega | (simp; try omega)); have r2_0 := gc 0; have f2_0 := gf 0; have r2_0_1 := gc 1; have f2_0_1 := gf 1; have r2_0_2 := gc 2; have f2_0_2 := gf 2; clear gc gf; obtain ⟨l2_1, gc, gf⟩ := kp xb2 (w.heap.size + 1) (by first | omega | (simp; try omega)); have r2_1 := gc 0; have f2_1 := gf 0; have r2_1_1 := gc 1; have f2_1_1 := gf 1; have r2_1_2 := gc 2; have f2_1_2 := gf 2; clear gc gf; obtain ⟨l2_2, gc, gf⟩ := kp xb2 (w.heap.size + 1 + 1) (by first | omega | (simp; try omega)); have r2_2 := gc 0; have f2_2 := gf 0; have r2_2_1 := gc 1; have f2_2_1 := gf 1; have r2_2_2 := gc 2; have f2_2_2 := gf 2; clear gc gf)
    | (go_at_call 29; (with_reducible refine (hc1 _ (by (repeat (first | exact ext_refl _ | assumption | refine ext_setCell ?_ (by simp; try omega) _ | refine ext_alloc ?_ _ | refine ext_drew ?_ | refine ext_drewN ?_ _ | refine ext_trans ?_ (Aft.use _) | refine ext_trans ?_ (by assumption))))).mono ?_); rintro e w1 ⟨rfl, xb1⟩; obtain ⟨xc1, xf1, xl1, xz1⟩ := ext_use xb1; (try simp at xz1); obtain ⟨l1_0, gc, gf⟩ := kp xb1 (w.heap.size) (by first | omega | (simp; try omega)); have r1_0 := gc 0; have f1_0 := gf 0; have r1_0_1 := gc 1; have f1_0_1 := gf 1; have r1_0_2 := gc 2; have f1_0_2 := gf 2; clear gc gf; obtain ⟨l1_1, gc, gf⟩ := kp xb1 (w.heap.size + 1) (by first | omega | (simp; try omega)); have r1_1 := gc 0; have f1_1 := gf 0; have r1_1_1 := gc 1; have f1_1_1 := gf 1; have r1_1_2 := gc 2; have f1_1_2 := gf 2; clear gc gf; obtain ⟨l1_2, gc, gf⟩ := kp xb1 (w.heap.size + 1 + 1) (by first | omega | (simp; try omega)); have r1_2 := gc 0; have f1_2 := gf 0; have r1_2_1 := gc 1; have f1_2_1 := gf 1; have r1_2_2 := gc 2; have f1_2_2 := gf 2; clear gc gf)
   )
  have z0 : w2.cell? ⟨w.heap.size + 1 + 1, 0, none⟩ = some (.bool false) := by simp [go_sem, *]
  have z1 : w2.cell? ⟨w.heap.size + 1 + 1, 1, none⟩ = some (.slice none 0 0) := by simp [go_sem, *]
  have z2 : w2.cell? ⟨w.heap.size + 1 + 1, 2, none⟩ = some (.slice none 0 0) := by simp [go_sem, *]
  obtain ⟨q0, q1, q2⟩ := set3 (b := w.heap.size + 1 + 1) z0 z1 z2 (.bool false) (.slice none 0 0) (.slice none 0 0)
  have hEE : Ext w w2 := by (repeat (first | exact ext_refl _ | assumption | refine ext_setCell ?_ (by simp; try omega) _ | refine ext_alloc ?_ _ | refine ext_drew ?_ | refine ext_drewN ?_ _ | refine ext_trans ?_ (Aft.use _) | refine ext_trans ?_ (by assumption)))
  refine bodyPost_ret (v := .tuple #[ratV false none 0 0 none 0 0, .int .i64 11]) ?h rfl ⟨rfl, ext_set3 hEE (by omega) _ _ _⟩
  case h => simp [results, Tryz.results49, go_sem, q0, q1, q2]
section
variable {W : World} {x y : Int} {p q : Nat} {s t u : Bool} {z : Int} {d : Nat}
theorem op_Add (hT : Tz W) (hx : Few 4000 x p) (hy : Few 4000 y q) (hs : decide (x < 0) = s) (ht : decide (y < 0) = t) (he : canN (x * q + y * p) (p * q) = z ∧ canD (x * q + y * p) (p * q) = d) (hu : decide (z < 0) = u) : Op2 W 41 s x p t y q u z d := by
  intro F G w' hw hX hY
  subst hs ht hu
  obtain ⟨rfl, rfl⟩ := he
  exact fpst_of rfl (va_Add (hT.ext hw) hX hY (hX.few hx).1 (hX.few hx).2 (hY.few hy).1 (hY.few hy).2)
theorem op_Sub (hT : Tz W) (hx : Few 4000 x p) (hy : Few 4000 y q) (hs : decide (x < 0) = s) (ht : decide (y < 0) = t) (he : canN (x * q - y * p) (p * q) = z ∧ canD (x * q - y * p) (p * q) = d) (hu : decide (z < 0) = u) : Op2 W 40 s x p t y q u z d := by
  intro F G w' hw hX hY
  subst hs ht hu
  obtain ⟨rfl, rfl⟩ := he
  exact fpst_of rfl (va_Sub (hT.ext hw) hX hY (hX.few hx).1 (hX.few hx).2 (hY.few hy).1 (hY.few hy).2)
theorem op_Mul (hT : Tz W) (hx : Few 4000 x p) (hy : Few 4000 y q) (hs : decide (x < 0) = s) (ht : decide (y < 0) = t) (he : canN (x * y) (p * q) = z ∧ canD (x * y) (p * q) = d) (hu : decide (z < 0) = u) : Op2 W 47 s x p t y q u z d := by
  intro F G w' hw hX hY
  subst hs ht hu
  obtain ⟨rfl, rfl⟩ := he
  exact fpst_of rfl (va_Mul (hT.ext hw) hX hY (hX.few hx).1 (hX.few hx).2 (hY.few hy).1 (hY.few hy).2)
theorem op_Div (hT : Tz W) (hx : Few 4000 x p) (hy : Few 4000 y q) (hy0 : y ≠ 0) (hs : decide (x < 0) = s) (ht : decide (y < 0) = t) (he : canN (divN x y q) (p * y.natAbs) = z ∧ canD (divN x y q) (p * y.natAbs) = d) (hu : decide (z < 0) = u) : Op2 W 49 s x p t y q u z d := by
  intro F G w' hw hX hY
  subst hs ht hu
  obtain ⟨rfl, rfl⟩ := he
  have h := ra_Div (decide (x < 0)) F.A F.n F.c x.natAbs F.D F.m F.k p hX.d0 (hX.few hx).1 (hX.few hx).2 hX.low (ra_hng x) (decide (y < 0)) G.A G.n G.c y.natAbs G.D G.m G.k q hY.d0 (by omega) (hY.few hy).1 (hY.few hy).2 hY.low (ra_hng y) w' (hT.ext hw) hX.num hX.den hY.num hY.den
  rw [ra_own, ra_own] at h
  exact fpst_of rfl (tpost_r (Nat.mul_ne_zero hX.d0 (by omega)) h)
theorem op_DivZ (hT : Tz W) (hx : Few 4000 x p) (hy : Few 4000 0 q) (hs : decide (x < 0) = s) (F G : FH) (w' : World) (hw : Ext W w') (hX : RaF w' x p F) (hY : RaF w' 0 q G) :
    Calls Tryz.prog 49 #[fV s F, fV false G] w' fun e w'' => e = .returned (.tuple #[ratV false none 0 0 none 0 0, .int .i64 11]) ∧ Ext w' w'' := by
  subst hs
  have hn : G.n = 0 := by have h := hY.num.len; rw [Int.natAbs_zero, lim_zero] at h; simpa using h.symm
  have c1 : ∀ w'', Ext w' w'' → Calls Tryz.prog 29 #[ratV (decide (x < 0)) F.A F.n F.c F.D F.m F.k] w'' fun e w3 => e = .returned (.int .i64 0) ∧ Ext w'' w3 := fun w'' h => va_Check ((hT.ext hw).ext h) (hX.ext h) (hX.few hx).1 (hX.few hx).2
  have c2 : ∀ w'', Ext w' w'' → Calls Tryz.prog 29 #[ratV false G.A G.n G.c G.D G.m G.k] w'' fun e w3 => e = .returned (.int .i64 0) ∧ Ext w'' w3 := fun w'' h => va_Check ((hT.ext hw).ext h) (hY.ext h) (hY.few hy).1 (hY.few hy).2
  clear hX hY
  obtain ⟨B, n2, c2', C, m2, k2⟩ := G
  subst hn
  exact ra_Div_zero _ _ _ _ _ _ _ _ _ _ _ _ _ w' c1 c2
theorem op_Cmp (hT : Tz W) (hx : Few 4000 x p) (hy : Few 4000 y q) (hs : decide (x < 0) = s) (ht : decide (y < 0) = t) {C : Int} (hC : (x * q - y * p).sign = C) (F G : FH) (w' : World) (hw : Ext W w') (hX : RaF w' x p F) (hY : RaF w' y q G) :
    Calls Tryz.prog 39 #[fV s F, fV t G] w' fun e w'' => e = .returned (.tuple #[.int .i64 C, .int .i64 0]) ∧ Ext w' w'' := by
  subst hs ht hC
  exact va_Cmp (hT.ext hw) hX hY (hX.few hx).1 (hX.few hx).2 (hY.few hy).1 (hY.few hy).2
theorem op_same (hs : decide (x < 0) = s) (ht : decide (y < 0) = t) {b : Bool} (hb : decide (x = y ∧ p = q) = b) (F G : FH) (w' : World) (hX : RaF w' x p F) (hY : RaF w' y q G) :
    Calls Tryz.prog 43 #[fV s F, fV t G] w' fun e w'' => e = .returned (.bool b) ∧ Ext w' w'' := by
  subst hs ht hb
  exact va_same hX hY
theorem op_Whole (h1 : -9223372036854775808 ≤ z) (h2 : z ≤ 9223372036854775807) (hu : decide (z < 0) = u) (w' : World) :
    Calls Tryz.prog 35 #[.int .i64 z] w' fun e w'' => ∃ F : FH, e = .returned (fV u F) ∧ Hid (RaF w'' z 1 F) ∧ Ext w' w'' := by
  subst hu
  refine (va_Whole z h1 h2 w').mono ?_
  rintro e w'' ⟨A, n, c, D, m, k, rfl, h1, h2⟩
  exact ⟨⟨A, n, c, D, m, k⟩, rfl, h1, h2⟩
end
/-- A fraction of few limbs, made. -/
abbrev MPst (w : World) (s : Bool) (z : Int) (d : Nat) : Ending → World → Prop := fun e w' => ∃ F : FH, e = .returned (.tuple #[fV s F, .bool true]) ∧ Hid (RaF w' z d F) ∧ Ext w w'
theorem raw_few (s : Bool) {w : World} {A : Option Addr} {n c : Nat} {xs : List Nat} {D : Option Addr} {m k : Nat} {ys : List Nat} (hA : Rd w A n c xs) (hD : Rd w D m k ys) : Few 5 (canN (sgn s (val (xs.take 5))) (if val (ys.take 5) = 0 then 1 else val (ys.take 5))) (canD (sgn s (val (xs.take 5))) (if val (ys.take 5) = 0 then 1 else val (ys.take 5))) := by
  have hl1 : (lim (val (xs.take 5))).length ≤ 5 := Nat.le_trans (lim_le (val_lt _ (fun x hx => hA.lb x (List.mem_of_mem_take hx)))) (List.length_take_le 5 xs)
  have hl2 : (lim (val (ys.take 5))).length ≤ 5 := Nat.le_trans (lim_le (val_lt _ (fun x hx => hD.lb x (List.mem_of_mem_take hx)))) (List.length_take_le 5 ys)
  refine Few.can ⟨by rw [sgn_abs]; exact hl1, ?_⟩
  split
  · have : (lim 1).length = 1 := by kernel_rfl
    omega
  · exact hl2
end Go.Proofs.YtnpdpjgkpjodbaaGreatDoor
end
section
/- The second law's fractions: made. -/
namespace Go.Proofs.YtnpdpjgkpjodbaaGreatDoor
open Go.RowKit
attribute [local go_sem] sz2 sz3 sz4 sz5 sz6 sz7 sz8
set_option maxHeartbeats 4000000
set_option maxRecDepth 100000
attribute [local irreducible] Calls
/-- The lower number that a raw fraction gets. -/
def rawD (v : Nat) : Nat := if v = 0 then 1 else v
theorem rl_made (s : Bool) (A : Option Addr) (n c : Nat) (xs : List Nat) (D : Option Addr) (m k : Nat) (ys : List Nat) (hn : n ≤ 9223372036854775807) (hm : m ≤ 9223372036854775807) (w : World) (hT : Tz w) (hA : Rd w A n c xs) (hD : Rd w D m k ys) :
    Calls Tryz.prog 38 #[.agg #[.bool s, .slice A n c, .slice D m k]] w (fun e w' => ∃ (A : Option Addr) (n c : Nat) (D : Option Addr) (m k : Nat), e = .returned (.tuple #[ratV (decide (canN (sgn s (val (xs.take 5))) (rawD (val (ys.take 5))) < 0)) A n c D m k, .bool true]) ∧ Hid (RaIs w' (canN (sgn s (val (xs.take 5))) (rawD (val (ys.take 5)))) (canD (sgn s (val (xs.take 5))) (rawD (val (ys.take 5)))) A n c D m k) ∧ Ext w w') := by
  have hl1 : (lim (val (xs.take 5))).length ≤ 5 := Nat.le_trans (lim_le (val_lt _ (fun x hx => hA.lb x (List.mem_of_mem_take hx)))) (List.length_take_le 5 xs)
  have hl2 : (lim (val (ys.take 5))).length ≤ 5 := Nat.le_trans (lim_le (val_lt _ (fun x hx => hD.lb x (List.mem_of_mem_take hx)))) (List.length_take_le 5 ys)
  have k1 : ∀ w', Ext w w' → Calls Tryz.prog 97 #[.slice A n c] w' fun e w'' => ∃ (B : Option Addr) (k l : Nat), e = .returned (natV B k l) ∧ Hid (Rd w'' B k l (lim (val (xs.take 5))) ∧ Fr w' B) ∧ Ext w' w'' := fun w' he => rl_cut A n c xs w' (hA.ext he) hn
  have k2 : ∀ w', Ext w w' → Calls Tryz.prog 97 #[.slice D m k] w' fun e w'' => ∃ (B : Option Addr) (k l : Nat), e = .returned (natV B k l) ∧ Hid (Rd w'' B k l (lim (val (ys.take 5))) ∧ Fr w' B) ∧ Ext w' w'' := fun w' he => rl_cut D m k ys w' (hD.ext he) hm
  clear hA hD
  generalize val (xs.take 5) = a at *
  generalize val (ys.take 5) = d at *
  go_enter Tryz.func38, Tryz.ntmps38
  go_upto_region 3 with (first
    | (go_at_call 97; (with_reducible refine (k1 _ (by (repeat (first | exact ext_refl _ | assumption | refine ext_setCell ?_ (by simp; try omega) _ | refine ext_alloc ?_ _ | refine ext_drew ?_ | refine ext_drewN ?_ _ | refine ext_trans ?_ (Aft.use _) | refine ext_trans ?_ (by assumption))))).mono ?_); rintro e w1 ⟨A1, n1, c1, rfl, hR1, xb1⟩; obtain ⟨xc1, xf1, xl1, xz1⟩ := ext_use xb1; (try simp at xz1); obtain ⟨l1_0, gc, gf⟩ := kp xb1 (w.heap.size) (by first | omega | (simp; try omega)); have r1_0 := gc 0; have f1_0 := gf 0; have r1_0_1 := gc 1; have f1_0_1 := gf 1; have r1_0_2 := gc 2; have f1_0_2 := gf 2; clear gc gf; obtain ⟨l1_1, gc, gf⟩ := kp xb1 (w.heap.size + 1) (by first | omega | (simp; try omega)); have r1_1 := gc 0; have f1_1 := gf 0; have r1_1_1 := gc 1; have f1_1_1 := gf 1; have r1_1_2 := gc 2; have f1_1_2 := gf 2; clear gc gf)
    | (go_at_call 97; (with_reducible refine (k2 _ (by (repeat (first | exact ext_refl _ | assumption | refine ext_setCell ?_ (by simp; try omega) _ | refine ext_alloc ?_ _ | refine ext_drew ?_ | refine ext_drewN ?_ _ | refine ext_trans ?_ (Aft.use _) | refine ext_trans ?_ (by assumption))))).mono ?_); rintro e w2 ⟨A2, n2, c2, rfl, hR2, xb2⟩; obtain ⟨xc2, xf2, xl2, xz2⟩ := ext_use xb2; (try simp at xz2); obtain ⟨l2_0, gc, gf⟩ := kp xb2 (w.heap.size) (by first | omega | (simp; try omega)); have r2_0 := gc 0; have f2_0 := gf 0; have r2_0_1 := gc 1; have f2_0_1 := gf 1; have r2_0_2 := gc 2; have f2_0_2 := gf 2; clear gc gf; obtain ⟨l2_1, gc, gf⟩ := kp xb2 (w.heap.size + 1) (by first | omega | (simp; try omega)); have r2_1 := gc 0; have f2_1 := gf 0; have r2_1_1 := gc 1; have f2_1_1 := gf 1; have r2_1_2 := gc 2; have f2_1_2 := gf 2; clear gc gf; obtain ⟨l2_2, gc, gf⟩ := kp xb2 (w1.heap.size) (by first | omega | (simp; try omega)); have r2_2 := gc 0; have f2_2 := gf 0; clear gc gf)
   )
  by_cases hd : d = 0
  · subst hd
    have hn2 : n2 = 0 := by have := hR2.out.1.len; rw [lim_zero] at this; simpa using this.symm
    subst hn2
    go_upto_region 5 with (fail)
    have hHT := Lib.hid hT
    have kM : ∀ w', Ext w w' → Rd w' A1 n1 c1 (lim a) → Rd w' (some ⟨w2.heap.size + 1, 0, none⟩) 1 1 (lim 1) → Calls Tryz.prog 34 #[.bool s, natV A1 n1 c1, natV (some ⟨w2.heap.size + 1, 0, none⟩) 1 1] w' (RPostF w' (canN (sgn s a) 1) (canD (sgn s a) 1)) := fun w' he h1 h2 => va_Make s A1 n1 c1 a (some ⟨w2.heap.size + 1, 0, none⟩) 1 1 1 (by decide) (by have := h1.len; omega) (by decide) w' (hHT.out.ext he) h1 h2
    have hRo : Hid (Rd ((w2.alloc (Obj.cells #[.slice (some ⟨w2.heap.size + 1, 0, none⟩) 1 1] 30)).alloc (Obj.cells #[.int .u32 1] 54)) (some ⟨w2.heap.size + 1, 0, none⟩) 1 1 (lim 1)) := by
      have h1 : lim 1 = [1] := by kernel_rfl
      rw [h1]
      exact Lib.hid (Rd.made _ _ _ [1] (fun x hx => by simp at hx; subst hx; decide) (by simp [u32V]) (by simp) (by simp) rfl)
    have lo : (lim 1).length = 1 := by kernel_rfl
    go_upto_region 6 with (first
      | (go_at_call 34; (with_reducible refine (kM _ (by (repeat (first | exact ext_refl _ | assumption | refine ext_setCell ?_ (by simp; try omega) _ | refine ext_alloc ?_ _ | refine ext_drew ?_ | refine ext_drewN ?_ _ | refine ext_trans ?_ (Aft.use _) | refine ext_trans ?_ (by assumption)))) (hR1.out.1.ext (by (repeat (first | exact ext_refl _ | assumption | refine ext_setCell ?_ (by simp; try omega) _ | refine ext_alloc ?_ _ | refine ext_drew ?_ | refine ext_drewN ?_ _ | refine ext_trans ?_ (Aft.use _) | refine ext_trans ?_ (by assumption))))) (hRo.out.ext (by (repeat (first | exact ext_refl _ | assumption | refine ext_setCell ?_ (by simp; try omega) _ | refine ext_alloc ?_ _ | refine ext_drew ?_ | refine ext_drewN ?_ _ | refine ext_trans ?_ (Aft.use _) | refine ext_trans ?_ (by assumption)))))).mono ?_); rintro e w3 ⟨A3, n3, c3, D3, m3, k3, rfl, hR3, xb3⟩; obtain ⟨xc3, xf3, xl3, xz3⟩ := ext_use xb3; (try simp at xz3); obtain ⟨l3_0, gc, gf⟩ := kp xb3 (w.heap.size + 1) (by first | omega | (simp; try omega)); have r3_0 := gc 0; have f3_0 := gf 0; have r3_0_1 := gc 1; have f3_0_1 := gf 1; have r3_0_2 := gc 2; have f3_0_2 := gf 2; clear gc gf)
     )
    have lz := lim_mono (canN_le (sgn s a) 1)
    have ld := lim_mono (canD_le (sgn s a) 1)
    rw [sgn_abs] at lz
    have kC : ∀ w', Ext w3 w' → Calls Tryz.prog 29 #[ratV (decide (canN (sgn s a) 1 < 0)) A3 n3 c3 D3 m3 k3] w' fun e w'' => e = .returned (.int .i64 0) ∧ Ext w' w'' := fun w' he => va_Check (hHT.out.ext (by have := he; (repeat (first | exact ext_refl _ | assumption | refine ext_setCell ?_ (by simp; try omega) _ | refine ext_alloc ?_ _ | refine ext_drew ?_ | refine ext_drewN ?_ _ | refine ext_trans ?_ (Aft.use _) | refine ext_trans ?_ (by assumption))))) (hR3.out.1.ext he) (by have := hR3.out.1.num.len; omega) (by have := hR3.out.1.den.len; omega)
    go_region_with (first
      | (go_at_call 29; (with_reducible refine (kC _ (by (repeat (first | exact ext_refl _ | assumption | refine ext_setCell ?_ (by simp; try omega) _ | refine ext_alloc ?_ _ | refine ext_drew ?_ | refine ext_drewN ?_ _ | refine ext_trans ?_ (Aft.use _) | refine ext_trans ?_ (by assumption))))).mono ?_); rintro e w4 ⟨rfl, xb4⟩; obtain ⟨xc4, xf4, xl4, xz4⟩ := ext_use xb4; (try simp at xz4); obtain ⟨l4_0, gc, gf⟩ := kp xb4 (w.heap.size + 1) (by first | omega | (simp; try omega)); have r4_0 := gc 0; have f4_0 := gf 0; have r4_0_1 := gc 1; have f4_0_1 := gf 1; have r4_0_2 := gc 2; have f4_0_2 := gf 2; clear gc gf)
     )
    all_goals
      have hR4 := Lib.hid (hR3.out.1.ext (show Ext w3 w4 by (repeat (first | exact ext_refl _ | assumption | refine ext_setCell ?_ (by simp; try omega) _ | refine ext_alloc ?_ _ | refine ext_drew ?_ | refine ext_drewN ?_ _ | refine ext_trans ?_ (Aft.use _) | refine ext_trans ?_ (by assumption)))))
      have n5 : ∀ x, A3 = some x → True := fun _ _ => trivial
      go_wp2_with fail
      have er : rawD 0 = 1 := if_pos rfl
      rw [er]
      have z0 : w4.cell? ⟨w.heap.size + 1, 0, none⟩ = some (.bool false) := by simp [go_sem, *]
      have z1 : w4.cell? ⟨w.heap.size + 1, 1, none⟩ = some (.slice none 0 0) := by simp [go_sem, *]
      have z2 : w4.cell? ⟨w.heap.size + 1, 2, none⟩ = some (.slice none 0 0) := by simp [go_sem, *]
      obtain ⟨q0, q1, q2⟩ := set3 (b := w.heap.size + 1) z0 z1 z2 (.bool (decide (canN (sgn s a) 1 < 0))) (.slice A3 n3 c3) (.slice D3 m3 k3)
      have n5 : ∀ a, A3 = some a → w.heap.size + 1 < a.block := fun a ha => by have := hR3.out.2.1 a ha; (try simp at this); omega
      have n6 : ∀ a, D3 = some a → w.heap.size + 1 < a.block := fun a ha => by have := hR3.out.2.2 a ha; (try simp at this); omega
      have hEE : Ext w w4 := by (repeat (first | exact ext_refl _ | assumption | refine ext_setCell ?_ (by simp; try omega) _ | refine ext_alloc ?_ _ | refine ext_drew ?_ | refine ext_drewN ?_ _ | refine ext_trans ?_ (Aft.use _) | refine ext_trans ?_ (by assumption)))
      refine bodyPost_ret (v := .tuple #[ratV (decide (canN (sgn s a) 1 < 0)) A3 n3 c3 D3 m3 k3, .bool true]) ?h rfl ⟨A3, n3, c3, D3, m3, k3, rfl, ⟨hR4.out.num.set3 n5 _ _ _, hR4.out.den.set3 n6 _ _ _, hR4.out.d0, hR4.out.low⟩, ext_set3 hEE (Nat.le_succ _) _ _ _⟩
      case h => simp [results, Tryz.results38, go_sem, q0, q1, q2]
  · have hn2 : n2 ≠ 0 := fun h => by
      have h1 := hR2.out.1.len
      rw [h] at h1
      exact hd (by have h2 := val_lim d; rw [List.eq_nil_of_length_eq_zero h1] at h2; exact h2.symm)
    have hne : (((n2 : Nat) : Int) == 0) = false := by rw [beq_eq_false_iff_ne]; omega
    have hne2 : ¬ ((n2 : Nat) : Int) = 0 := by omega
    go_upto_region 5 with (fail)
    have hHT := Lib.hid hT
    have kM : ∀ w', Ext w w' → Rd w' A1 n1 c1 (lim a) → Rd w' A2 n2 c2 (lim d) → Calls Tryz.prog 34 #[.bool s, natV A1 n1 c1, natV A2 n2 c2] w' (RPostF w' (canN (sgn s a) d) (canD (sgn s a) d)) := fun w' he h1 h2 => va_Make s A1 n1 c1 a A2 n2 c2 d hd (by have := h1.len; omega) (by have := h2.len; omega) w' (hHT.out.ext he) h1 h2
    go_upto_region 6 with (first
      | (go_at_call 34; (with_reducible refine (kM _ (by (repeat (first | exact ext_refl _ | assumption | refine ext_setCell ?_ (by simp; try omega) _ | refine ext_alloc ?_ _ | refine ext_drew ?_ | refine ext_drewN ?_ _ | refine ext_trans ?_ (Aft.use _) | refine ext_trans ?_ (by assumption)))) (hR1.out.1.ext (by (repeat (first | exact ext_refl _ | assumption | refine ext_setCell ?_ (by simp; try omega) _ | refine ext_alloc ?_ _ | refine ext_drew ?_ | refine ext_drewN ?_ _ | refine ext_trans ?_ (Aft.use _) | refine ext_trans ?_ (by assumption))))) (hR2.out.1.ext (by (repeat (first | exact ext_refl _ | assumption | refine ext_setCell ?_ (by simp; try omega) _ | refine ext_alloc ?_ _ | refine ext_drew ?_ | refine ext_drewN ?_ _ | refine ext_trans ?_ (Aft.use _) | refine ext_trans ?_ (by assumption)))))).mono ?_); rintro e w3 ⟨A3, n3, c3, D3, m3, k3, rfl, hR3, xb3⟩; obtain ⟨xc3, xf3, xl3, xz3⟩ := ext_use xb3; (try simp at xz3); obtain ⟨l3_0, gc, gf⟩ := kp xb3 (w.heap.size + 1) (by first | omega | (simp; try omega)); have r3_0 := gc 0; have f3_0 := gf 0; have r3_0_1 := gc 1; have f3_0_1 := gf 1; have r3_0_2 := gc 2; have f3_0_2 := gf 2; clear gc gf)
     )
    have lz := lim_mono (canN_le (sgn s a) d)
    have ld := lim_mono (canD_le (sgn s a) d)
    rw [sgn_abs] at lz
    have kC : ∀ w', Ext w3 w' → Calls Tryz.prog 29 #[ratV (decide (canN (sgn s a) d < 0)) A3 n3 c3 D3 m3 k3] w' fun e w'' => e = .returned (.int .i64 0) ∧ Ext w' w'' := fun w' he => va_Check (hHT.out.ext (by have := he; (repeat (first | exact ext_refl _ | assumption | refine ext_setCell ?_ (by simp; try omega) _ | refine ext_alloc ?_ _ | refine ext_drew ?_ | refine ext_drewN ?_ _ | refine ext_trans ?_ (Aft.use _) | refine ext_trans ?_ (by assumption))))) (hR3.out.1.ext he) (by have := hR3.out.1.num.len; omega) (by have := hR3.out.1.den.len; omega)
    go_region_with (first
      | (go_at_call 29; (with_reducible refine (kC _ (by (repeat (first | exact ext_refl _ | assumption | refine ext_setCell ?_ (by simp; try omega) _ | refine ext_alloc ?_ _ | refine ext_drew ?_ | refine ext_drewN ?_ _ | refine ext_trans ?_ (Aft.use _) | refine ext_trans ?_ (by assumption))))).mono ?_); rintro e w4 ⟨rfl, xb4⟩; obtain ⟨xc4, xf4, xl4, xz4⟩ := ext_use xb4; (try simp at xz4); obtain ⟨l4_0, gc, gf⟩ := kp xb4 (w.heap.size + 1) (by first | omega | (simp; try omega)); have r4_0 := gc 0; have f4_0 := gf 0; have r4_0_1 := gc 1; have f4_0_1 := gf 1; have r4_0_2 := gc 2; have f4_0_2 := gf 2; clear gc gf)
     )
    all_goals
      have hR4 := Lib.hid (hR3.out.1.ext (show Ext w3 w4 by (repeat (first | exact ext_refl _ | assumption | refine ext_setCell ?_ (by simp; try omega) _ | refine ext_alloc ?_ _ | refine ext_drew ?_ | refine ext_drewN ?_ _ | refine ext_trans ?_ (Aft.use _) | refine ext_trans ?_ (by assumption)))))
      have n5 : ∀ x, A3 = some x → True := fun _ _ => trivial
      go_wp2_with fail
      have er : rawD d = d := if_neg hd
      rw [er]
      have z0 : w4.cell? ⟨w.heap.size + 1, 0, none⟩ = some (.bool false) := by simp [go_sem, *]
      have z1 : w4.cell? ⟨w.heap.size + 1, 1, none⟩ = some (.slice none 0 0) := by simp [go_sem, *]
      have z2 : w4.cell? ⟨w.heap.size + 1, 2, none⟩ = some (.slice none 0 0) := by simp [go_sem, *]
      obtain ⟨q0, q1, q2⟩ := set3 (b := w.heap.size + 1) z0 z1 z2 (.bool (decide (canN (sgn s a) d < 0))) (.slice A3 n3 c3) (.slice D3 m3 k3)
      have n5 : ∀ a, A3 = some a → w.heap.size + 1 < a.block := fun a ha => by have := hR3.out.2.1 a ha; (try simp at this); omega
      have n6 : ∀ a, D3 = some a → w.heap.size + 1 < a.block := fun a ha => by have := hR3.out.2.2 a ha; (try simp at this); omega
      have hEE : Ext w w4 := by (repeat (first | exact ext_refl _ | assumption | refine ext_setCell ?_ (by simp; try omega) _ | refine ext_alloc ?_ _ | refine ext_drew ?_ | refine ext_drewN ?_ _ | refine ext_trans ?_ (Aft.use _) | refine ext_trans ?_ (by assumption)))
      refine bodyPost_ret (v := .tuple #[ratV (decide (canN (sgn s a) d < 0)) A3 n3 c3 D3 m3 k3, .bool true]) ?h rfl ⟨A3, n3, c3, D3, m3, k3, rfl, ⟨hR4.out.num.set3 n5 _ _ _, hR4.out.den.set3 n6 _ _ _, hR4.out.d0, hR4.out.low⟩, ext_set3 hEE (Nat.le_succ _) _ _ _⟩
      case h => simp [results, Tryz.results38, go_sem, q0, q1, q2]
end Go.Proofs.YtnpdpjgkpjodbaaGreatDoor
end
