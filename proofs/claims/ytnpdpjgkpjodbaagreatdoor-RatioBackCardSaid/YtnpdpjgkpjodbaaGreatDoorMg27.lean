/- Lemmas of this proof, laid together: FieQ, SclA, SclB, SclC, SclD, BacP, SamF. -/
import Derived.Test.YtnpdpjgkpjodbaaGreatDoorMg26
import Derived.Test.YtnpdpjgkpjodbaaGreatDoorMg25
import Derived.Deep.DeepCutAuto
import Derived.Deep.RegionWith
import Derived.Test.YtnpdpjgkpjodbaaGreatDoorMg22
import Derived.Test.YtnpdpjgkpjodbaaGreatDoorMg20
set_option linter.unusedSimpArgs false
set_option linter.unusedVariables false
section
/- The program's fractions: the calls, what is lent bound together. -/
namespace Go.Proofs.YtnpdpjgkpjodbaaGreatDoor
open Go.RowKit
attribute [local go_sem] sz2 sz3 sz4 sz5 sz6 sz7 sz8
set_option maxHeartbeats 4000000
set_option maxRecDepth 100000
attribute [local irreducible] Calls
/-- Where a fraction lies. -/
structure FH where
  A : Option Addr
  n : Nat
  c : Nat
  D : Option Addr
  m : Nat
  k : Nat
abbrev fV (s : Bool) (F : FH) : Value := ratV s F.A F.n F.c F.D F.m F.k
abbrev RaF (w : World) (z : Int) (d : Nat) (F : FH) : Prop := RaIs w z d F.A F.n F.c F.D F.m F.k
abbrev FPst (w : World) (s : Bool) (z : Int) (d : Nat) : Ending → World → Prop := fun e w' => ∃ F : FH, e = .returned (.tuple #[fV s F, .int .i64 0]) ∧ Hid (RaF w' z d F) ∧ Ext w w'
abbrev Op2 (W : World) (f : FuncId) (s : Bool) (x : Int) (p : Nat) (t : Bool) (y : Int) (q : Nat) (u : Bool) (z : Int) (d : Nat) : Prop :=
  ∀ (F G : FH) (w' : World), Ext W w' → RaF w' x p F → RaF w' y q G → Calls Tryz.prog f #[fV s F, fV t G] w' (FPst w' u z d)
theorem fpst_of {w : World} {z : Int} {d : Nat} {s : Bool} (hs : decide (z < 0) = s) {f : FuncId} {v : Array Value} {P : Program} (h : Calls P f v w (RPost w z d)) : Calls P f v w (FPst w s z d) := by
  refine h.mono ?_
  rintro e w' ⟨A, n, c, D, m, k, rfl, h1, h2⟩
  subst hs
  exact ⟨⟨A, n, c, D, m, k⟩, rfl, h1, h2⟩
theorem RaIs.few {k : Nat} {w : World} {x : Int} {p : Nat} {A : Option Addr} {n c : Nat} {D : Option Addr} {m l : Nat} (h : RaIs w x p A n c D m l) (hf : Few k x p) : n ≤ k ∧ m ≤ k := ⟨by rw [← h.num.len]; exact hf.1, by rw [← h.den.len]; exact hf.2⟩
section
variable {W : World} {x y : Int} {p q : Nat} {s t u : Bool} {z : Int} {d : Nat}
theorem op_Mul (hT : Tz W) (hx : Few 4000 x p) (hy : Few 4000 y q) (hs : decide (x < 0) = s) (ht : decide (y < 0) = t) (he : canN (x * y) (p * q) = z ∧ canD (x * y) (p * q) = d) (hu : decide (z < 0) = u) : Op2 W 47 s x p t y q u z d := by
  intro F G w' hw hX hY
  subst hs ht hu
  obtain ⟨rfl, rfl⟩ := he
  exact fpst_of rfl (va_Mul (hT.ext hw) hX hY (hX.few hx).1 (hX.few hx).2 (hY.few hy).1 (hY.few hy).2)
theorem op_same (hs : decide (x < 0) = s) (ht : decide (y < 0) = t) {b : Bool} (hb : decide (x = y ∧ p = q) = b) (F G : FH) (w' : World) (hX : RaF w' x p F) (hY : RaF w' y q G) :
    Calls Tryz.prog 43 #[fV s F, fV t G] w' fun e w'' => e = .returned (.bool b) ∧ Ext w' w'' := by
  subst hs ht hb
  exact va_same hX hY
theorem op_Whole (h1 : -9223372036854775808 ≤ z) (h2 : z ≤ 9223372036854775807) (hu : decide (z < 0) = u) (w' : World) :
    Calls Tryz.prog 35 #[.int .i64 z] w' fun e w'' => ∃ F : FH, e = .returned (fV u F) ∧ Hid (RaF w'' z 1 F) ∧ Ext w' w'' := by
  subst hu
  refine (va_Whole z h1 h2 w').mono ?_
  rintro e w'' ⟨A, n, c, D, m, k, rfl, h1, h2⟩
  exact ⟨⟨A, n, c, D, m, k⟩, rfl, h1, h2⟩
end
/-- A fraction of few limbs, made. -/
abbrev MPst (w : World) (s : Bool) (z : Int) (d : Nat) : Ending → World → Prop := fun e w' => ∃ F : FH, e = .returned (.tuple #[fV s F, .bool true]) ∧ Hid (RaF w' z d F) ∧ Ext w w'
theorem raw_few (s : Bool) {w : World} {A : Option Addr} {n c : Nat} {xs : List Nat} {D : Option Addr} {m k : Nat} {ys : List Nat} (hA : Rd w A n c xs) (hD : Rd w D m k ys) : Few 5 (canN (sgn s (val (xs.take 5))) (if val (ys.take 5) = 0 then 1 else val (ys.take 5))) (canD (sgn s (val (xs.take 5))) (if val (ys.take 5) = 0 then 1 else val (ys.take 5))) := by
  have hl1 : (lim (val (xs.take 5))).length ≤ 5 := Nat.le_trans (lim_le (val_lt _ (fun x hx => hA.lb x (List.mem_of_mem_take hx)))) (List.length_take_le 5 xs)
  have hl2 : (lim (val (ys.take 5))).length ≤ 5 := Nat.le_trans (lim_le (val_lt _ (fun x hx => hD.lb x (List.mem_of_mem_take hx)))) (List.length_take_le 5 ys)
  refine Few.can ⟨by rw [sgn_abs]; exact hl1, ?_⟩
  split
  · have : (lim 1).length = 1 := by kernel_rfl
    omega
  · exact hl2
end Go.Proofs.YtnpdpjgkpjodbaaGreatDoor
end
section
/- The program's fractions: times a power. -/
namespace Go.Proofs.YtnpdpjgkpjodbaaGreatDoor
open Go.RowKit
attribute [local go_sem] sz2 sz3 sz4 sz5 sz6 sz7 sz8
set_option maxHeartbeats 4000000
set_option maxRecDepth 100000
attribute [local irreducible] Calls
section
variable (s : Bool) (A : Option Addr) (n c : Nat) (D : Option Addr) (m k : Nat) (b : Nat) (e : Int) (w : World)
/-- The power is one. -/
theorem sc_one {z : Int} {d : Nat} {Z : Int} {E : Nat} (h : e = 0 ∨ b = 1) (kt : ∀ w', Ext w w' → Calls Tryz.prog 74 #[ratV s A n c D m k] w' (KPost w' z d))
    (kT : ∀ (g : Nat) (A : Option Addr) (n c : Nat) (D : Option Addr) (m k : Nat) (w' : World), RatIs w' g z A n c d D m k → Calls Tryz.prog 66 #[.pointer (some ⟨g, 0, none⟩)] w' (TPost w' Z E)) :
    Calls Tryz.prog 52 #[ratV s A n c D m k, .int .u32 (b : Int), .int .i64 e] w (TPost w Z E) := by
  rcases h with rfl | rfl
  · by_cases hb : b = 0
    · subst hb
      go_enter Tryz.func52, Tryz.ntmps52
      go_wp2_with (first
        | (go_at_call 74; (with_reducible refine (kt _ (by (repeat (first | exact ext_refl _ | assumption | refine ext_setCell ?_ (by simp; try omega) _ | refine ext_alloc ?_ _ | refine ext_drew ?_ | refine ext_drewN ?_ _ | refine ext_trans ?_ (Aft.use _) | refine ext_trans ?_ (by assumption))))).mono ?_); rintro e w1 ⟨g1, A1, n1, c1, D1, m1, k1, rfl, hI1, hg1, xb1⟩; obtain ⟨xc1, xf1, xl1, xz1⟩ := ext_use xb1; (try simp at xz1); obtain ⟨l1_0, gc, gf⟩ := kp xb1 (w.heap.size) (by first | omega | (simp; try omega)); have r1_0 := gc 0; have f1_0 := gf 0; have r1_0_1 := gc 1; have f1_0_1 := gf 1; have r1_0_2 := gc 2; have f1_0_2 := gf 2; clear gc gf; obtain ⟨l1_1, gc, gf⟩ := kp xb1 (w.heap.size + 1) (by first | omega | (simp; try omega)); have r1_1 := gc 0; have f1_1 := gf 0; have r1_1_1 := gc 1; have f1_1_1 := gf 1; have r1_1_2 := gc 2; have f1_1_2 := gf 2; clear gc gf)
        | (go_at_call 66; (with_reducible refine (kT _ _ _ _ _ _ _ _ hI1.out.1).mono ?_); rintro e w2 ⟨A3, n3, c3, D3, m3, k3, rfl, hR3, xb2⟩; obtain ⟨xc2, xf2, xl2, xz2⟩ := ext_use xb2; (try simp at xz2); obtain ⟨l2_0, gc, gf⟩ := kp xb2 (w.heap.size + 1) (by first | omega | (simp; try omega)); have r2_0 := gc 0; have f2_0 := gf 0; have r2_0_1 := gc 1; have f2_0_1 := gf 1; have r2_0_2 := gc 2; have f2_0_2 := gf 2; clear gc gf)
       )
      have z0 : w2.cell? ⟨w.heap.size + 1, 0, none⟩ = some (.bool false) := by simp [go_sem, *]
      have z1 : w2.cell? ⟨w.heap.size + 1, 1, none⟩ = some (.slice none 0 0) := by simp [go_sem, *]
      have z2 : w2.cell? ⟨w.heap.size + 1, 2, none⟩ = some (.slice none 0 0) := by simp [go_sem, *]
      obtain ⟨q0, q1, q2⟩ := set3 (b := w.heap.size + 1) z0 z1 z2 (.bool (decide (Z < 0))) (.slice A3 n3 c3) (.slice D3 m3 k3)
      have hEE : Ext w w2 := by (repeat (first | exact ext_refl _ | assumption | refine ext_setCell ?_ (by simp; try omega) _ | refine ext_alloc ?_ _ | refine ext_drew ?_ | refine ext_drewN ?_ _ | refine ext_trans ?_ (Aft.use _) | refine ext_trans ?_ (by assumption)))
      have n5 : ∀ a, A3 = some a → w.heap.size + 1 < a.block := fun a ha => by have := hR3.out.2.1 a ha; (try simp at this); omega
      have n6 : ∀ a, D3 = some a → w.heap.size + 1 < a.block := fun a ha => by have := hR3.out.2.2.2 a ha; (try simp at this); omega
      refine bodyPost_ret (v := .tuple #[ratV (decide (Z < 0)) A3 n3 c3 D3 m3 k3, .int .i64 0]) ?h rfl ⟨A3, n3, c3, D3, m3, k3, rfl, ⟨hR3.out.1.set3 n5 _ _ _, fun x hx => Nat.le_of_lt (by have := n5 x hx; omega), hR3.out.2.2.1.set3 n6 _ _ _, fun x hx => Nat.le_of_lt (by have := n6 x hx; omega)⟩, ext_set3 hEE (Nat.le_succ _) _ _ _⟩
      case h => simp [results, Tryz.results52, go_sem, q0, q1, q2]
    · have hb0 : ((b : Int) == 0) = false := by rw [beq_eq_false_iff_ne]; omega
      have hb1 : ¬ (b : Int) = 0 := by omega
      go_enter Tryz.func52, Tryz.ntmps52
      go_wp2_with (first
        | (go_at_call 74; (with_reducible refine (kt _ (by (repeat (first | exact ext_refl _ | assumption | refine ext_setCell ?_ (by simp; try omega) _ | refine ext_alloc ?_ _ | refine ext_drew ?_ | refine ext_drewN ?_ _ | refine ext_trans ?_ (Aft.use _) | refine ext_trans ?_ (by assumption))))).mono ?_); rintro e w1 ⟨g1, A1, n1, c1, D1, m1, k1, rfl, hI1, hg1, xb1⟩; obtain ⟨xc1, xf1, xl1, xz1⟩ := ext_use xb1; (try simp at xz1); obtain ⟨l1_0, gc, gf⟩ := kp xb1 (w.heap.size) (by first | omega | (simp; try omega)); have r1_0 := gc 0; have f1_0 := gf 0; have r1_0_1 := gc 1; have f1_0_1 := gf 1; have r1_0_2 := gc 2; have f1_0_2 := gf 2; clear gc gf; obtain ⟨l1_1, gc, gf⟩ := kp xb1 (w.heap.size + 1) (by first | omega | (simp; try omega)); have r1_1 := gc 0; have f1_1 := gf 0; have r1_1_1 := gc 1; have f1_1_1 := gf 1; have r1_1_2 := gc 2; have f1_1_2 := gf 2; clear gc gf)
        | (go_at_call 66; (with_reducible refine (kT _ _ _ _ _ _ _ _ hI1.out.1).mono ?_); rintro e w2 ⟨A3, n3, c3, D3, m3, k3, rfl, hR3, xb2⟩; obtain ⟨xc2, xf2, xl2, xz2⟩ := ext_use xb2; (try simp at xz2); obtain ⟨l2_0, gc, gf⟩ := kp xb2 (w.heap.size + 1) (by first | omega | (simp; try omega)); have r2_0 := gc 0; have f2_0 := gf 0; have r2_0_1 := gc 1; have f2_0_1 := gf 1; have r2_0_2 := gc 2; have f2_0_2 := gf 2; clear gc gf)
       )
      have z0 : w2.cell? ⟨w.heap.size + 1, 0, none⟩ = some (.bool false) := by simp [go_sem, *]
      have z1 : w2.cell? ⟨w.heap.size + 1, 1, none⟩ = some (.slice none 0 0) := by simp [go_sem, *]
      have z2 : w2.cell? ⟨w.heap.size + 1, 2, none⟩ = some (.slice none 0 0) := by simp [go_sem, *]
      obtain ⟨q0, q1, q2⟩ := set3 (b := w.heap.size + 1) z0 z1 z2 (.bool (decide (Z < 0))) (.slice A3 n3 c3) (.slice D3 m3 k3)
      have hEE : Ext w w2 := by (repeat (first | exact ext_refl _ | assumption | refine ext_setCell ?_ (by simp; try omega) _ | refine ext_alloc ?_ _ | refine ext_drew ?_ | refine ext_drewN ?_ _ | refine ext_trans ?_ (Aft.use _) | refine ext_trans ?_ (by assumption)))
      have n5 : ∀ a, A3 = some a → w.heap.size + 1 < a.block := fun a ha => by have := hR3.out.2.1 a ha; (try simp at this); omega
      have n6 : ∀ a, D3 = some a → w.heap.size + 1 < a.block := fun a ha => by have := hR3.out.2.2.2 a ha; (try simp at this); omega
      refine bodyPost_ret (v := .tuple #[ratV (decide (Z < 0)) A3 n3 c3 D3 m3 k3, .int .i64 0]) ?h rfl ⟨A3, n3, c3, D3, m3, k3, rfl, ⟨hR3.out.1.set3 n5 _ _ _, fun x hx => Nat.le_of_lt (by have := n5 x hx; omega), hR3.out.2.2.1.set3 n6 _ _ _, fun x hx => Nat.le_of_lt (by have := n6 x hx; omega)⟩, ext_set3 hEE (Nat.le_succ _) _ _ _⟩
      case h => simp [results, Tryz.results52, go_sem, q0, q1, q2]
  · by_cases he0 : e = 0
    · subst he0
      go_enter Tryz.func52, Tryz.ntmps52
      go_wp2_with (first
        | (go_at_call 74; (with_reducible refine (kt _ (by (repeat (first | exact ext_refl _ | assumption | refine ext_setCell ?_ (by simp; try omega) _ | refine ext_alloc ?_ _ | refine ext_drew ?_ | refine ext_drewN ?_ _ | refine ext_trans ?_ (Aft.use _) | refine ext_trans ?_ (by assumption))))).mono ?_); rintro e w1 ⟨g1, A1, n1, c1, D1, m1, k1, rfl, hI1, hg1, xb1⟩; obtain ⟨xc1, xf1, xl1, xz1⟩ := ext_use xb1; (try simp at xz1); obtain ⟨l1_0, gc, gf⟩ := kp xb1 (w.heap.size) (by first | omega | (simp; try omega)); have r1_0 := gc 0; have f1_0 := gf 0; have r1_0_1 := gc 1; have f1_0_1 := gf 1; have r1_0_2 := gc 2; have f1_0_2 := gf 2; clear gc gf; obtain ⟨l1_1, gc, gf⟩ := kp xb1 (w.heap.size + 1) (by first | omega | (simp; try omega)); have r1_1 := gc 0; have f1_1 := gf 0; have r1_1_1 := gc 1; have f1_1_1 := gf 1; have r1_1_2 := gc 2; have f1_1_2 := gf 2; clear gc gf)
        | (go_at_call 66; (with_reducible refine (kT _ _ _ _ _ _ _ _ hI1.out.1).mono ?_); rintro e w2 ⟨A3, n3, c3, D3, m3, k3, rfl, hR3, xb2⟩; obtain ⟨xc2, xf2, xl2, xz2⟩ := ext_use xb2; (try simp at xz2); obtain ⟨l2_0, gc, gf⟩ := kp xb2 (w.heap.size + 1) (by first | omega | (simp; try omega)); have r2_0 := gc 0; have f2_0 := gf 0; have r2_0_1 := gc 1; have f2_0_1 := gf 1; have r2_0_2 := gc 2; have f2_0_2 := gf 2; clear gc gf)
       )
      have z0 : w2.cell? ⟨w.heap.size + 1, 0, none⟩ = some (.bool false) := by simp [go_sem, *]
      have z1 : w2.cell? ⟨w.heap.size + 1, 1, none⟩ = some (.slice none 0 0) := by simp [go_sem, *]
      have z2 : w2.cell? ⟨w.heap.size + 1, 2, none⟩ = some (.slice none 0 0) := by simp [go_sem, *]
      obtain ⟨q0, q1, q2⟩ := set3 (b := w.heap.size + 1) z0 z1 z2 (.bool (decide (Z < 0))) (.slice A3 n3 c3) (.slice D3 m3 k3)
      have hEE : Ext w w2 := by (repeat (first | exact ext_refl _ | assumption | refine ext_setCell ?_ (by simp; try omega) _ | refine ext_alloc ?_ _ | refine ext_drew ?_ | refine ext_drewN ?_ _ | refine ext_trans ?_ (Aft.use _) | refine ext_trans ?_ (by assumption)))
      have n5 : ∀ a, A3 = some a → w.heap.size + 1 < a.block := fun a ha => by have := hR3.out.2.1 a ha; (try simp at this); omega
      have n6 : ∀ a, D3 = some a → w.heap.size + 1 < a.block := fun a ha => by have := hR3.out.2.2.2 a ha; (try simp at this); omega
      refine bodyPost_ret (v := .tuple #[ratV (decide (Z < 0)) A3 n3 c3 D3 m3 k3, .int .i64 0]) ?h rfl ⟨A3, n3, c3, D3, m3, k3, rfl, ⟨hR3.out.1.set3 n5 _ _ _, fun x hx => Nat.le_of_lt (by have := n5 x hx; omega), hR3.out.2.2.1.set3 n6 _ _ _, fun x hx => Nat.le_of_lt (by have := n6 x hx; omega)⟩, ext_set3 hEE (Nat.le_succ _) _ _ _⟩
      case h => simp [results, Tryz.results52, go_sem, q0, q1, q2]
    · have hb0 : (e == 0) = false := by rw [beq_eq_false_iff_ne]; exact he0
      go_enter Tryz.func52, Tryz.ntmps52
      go_wp2_with (first
        | (go_at_call 74; (with_reducible refine (kt _ (by (repeat (first | exact ext_refl _ | assumption | refine ext_setCell ?_ (by simp; try omega) _ | refine ext_alloc ?_ _ | refine ext_drew ?_ | refine ext_drewN ?_ _ | refine ext_trans ?_ (Aft.use _) | refine ext_trans ?_ (by assumption))))).mono ?_); rintro e w1 ⟨g1, A1, n1, c1, D1, m1, k1, rfl, hI1, hg1, xb1⟩; obtain ⟨xc1, xf1, xl1, xz1⟩ := ext_use xb1; (try simp at xz1); obtain ⟨l1_0, gc, gf⟩ := kp xb1 (w.heap.size) (by first | omega | (simp; try omega)); have r1_0 := gc 0; have f1_0 := gf 0; have r1_0_1 := gc 1; have f1_0_1 := gf 1; have r1_0_2 := gc 2; have f1_0_2 := gf 2; clear gc gf; obtain ⟨l1_1, gc, gf⟩ := kp xb1 (w.heap.size + 1) (by first | omega | (simp; try omega)); have r1_1 := gc 0; have f1_1 := gf 0; have r1_1_1 := gc 1; have f1_1_1 := gf 1; have r1_1_2 := gc 2; have f1_1_2 := gf 2; clear gc gf)
        | (go_at_call 66; (with_reducible refine (kT _ _ _ _ _ _ _ _ hI1.out.1).mono ?_); rintro e w2 ⟨A3, n3, c3, D3, m3, k3, rfl, hR3, xb2⟩; obtain ⟨xc2, xf2, xl2, xz2⟩ := ext_use xb2; (try simp at xz2); obtain ⟨l2_0, gc, gf⟩ := kp xb2 (w.heap.size + 1) (by first | omega | (simp; try omega)); have r2_0 := gc 0; have f2_0 := gf 0; have r2_0_1 := gc 1; have f2_0_1 := gf 1; have r2_0_2 := gc 2; have f2_0_2 := gf 2; clear gc gf)
       )
      have z0 : w2.cell? ⟨w.heap.size + 1, 0, none⟩ = some (.bool false) := by simp [go_sem, *]
      have z1 : w2.cell? ⟨w.heap.size + 1, 1, none⟩ = some (.slice none 0 0) := by simp [go_sem, *]
      have z2 : w2.cell? ⟨w.heap.size + 1, 2, none⟩ = some (.slice none 0 0) := by simp [go_sem, *]
      obtain ⟨q0, q1, q2⟩ := set3 (b := w.heap.size + 1) z0 z1 z2 (.bool (decide (Z < 0))) (.slice A3 n3 c3) (.slice D3 m3 k3)
      have hEE : Ext w w2 := by (repeat (first | exact ext_refl _ | assumption | refine ext_setCell ?_ (by simp; try omega) _ | refine ext_alloc ?_ _ | refine ext_drew ?_ | refine ext_drewN ?_ _ | refine ext_trans ?_ (Aft.use _) | refine ext_trans ?_ (by assumption)))
      have n5 : ∀ a, A3 = some a → w.heap.size + 1 < a.block := fun a ha => by have := hR3.out.2.1 a ha; (try simp at this); omega
      have n6 : ∀ a, D3 = some a → w.heap.size + 1 < a.block := fun a ha => by have := hR3.out.2.2.2 a ha; (try simp at this); omega
      refine bodyPost_ret (v := .tuple #[ratV (decide (Z < 0)) A3 n3 c3 D3 m3 k3, .int .i64 0]) ?h rfl ⟨A3, n3, c3, D3, m3, k3, rfl, ⟨hR3.out.1.set3 n5 _ _ _, fun x hx => Nat.le_of_lt (by have := n5 x hx; omega), hR3.out.2.2.1.set3 n6 _ _ _, fun x hx => Nat.le_of_lt (by have := n6 x hx; omega)⟩, ext_set3 hEE (Nat.le_succ _) _ _ _⟩
      case h => simp [results, Tryz.results52, go_sem, q0, q1, q2]
end
end Go.Proofs.YtnpdpjgkpjodbaaGreatDoor
end
section
/- The program's fractions: times a power, whose answer is nought or too long. -/
namespace Go.Proofs.YtnpdpjgkpjodbaaGreatDoor
open Go.RowKit
attribute [local go_sem] sz2 sz3 sz4 sz5 sz6 sz7 sz8
set_option maxHeartbeats 4000000
set_option maxRecDepth 100000
attribute [local irreducible] Calls
section
variable (s : Bool) (A : Option Addr) (n c : Nat) (D : Option Addr) (m k : Nat) (b : Nat) (e : Int) (w : World)
/-- Nought times a power. -/
theorem sc_noughts {d : Nat} (he4 : ¬ e = 0) (hb : 2 ≤ b) (kt : ∀ w', Ext w w' → Calls Tryz.prog 74 #[ratV s A n c D m k] w' (KPost w' 0 d)) :
    Calls Tryz.prog 52 #[ratV s A n c D m k, .int .u32 (b : Int), .int .i64 e] w (TPost w 0 1) := by
  have he3 : (e == 0) = false := by rw [beq_eq_false_iff_ne]; omega
  have hb0 : ((b : Int) == 0) = false := by rw [beq_eq_false_iff_ne]; omega
  have hb1 : ((b : Int) == 1) = false := by rw [beq_eq_false_iff_ne]; omega
  have hb2 : ¬ (b : Int) = 0 := by omega
  have hb3 : ¬ (b : Int) = 1 := by omega
  have kW := fun w' => ra_Whole 0 (by decide) (by decide) w'
  go_enter Tryz.func52, Tryz.ntmps52
  go_wp2_with (first
    | (go_at_call 74; (with_reducible refine (kt _ (by (repeat (first | exact ext_refl _ | assumption | refine ext_setCell ?_ (by simp; try omega) _ | refine ext_alloc ?_ _ | refine ext_drew ?_ | refine ext_drewN ?_ _ | refine ext_trans ?_ (Aft.use _) | refine ext_trans ?_ (by assumption))))).mono ?_); rintro e w1 ⟨g1, A1, n1, c1, D1, m1, k1, rfl, hI1, hg1, xb1⟩; obtain ⟨xc1, xf1, xl1, xz1⟩ := ext_use xb1; (try simp at xz1); obtain ⟨l1_0, gc, gf⟩ := kp xb1 (w.heap.size) (by first | omega | (simp; try omega)); have r1_0 := gc 0; have f1_0 := gf 0; have r1_0_1 := gc 1; have f1_0_1 := gf 1; have r1_0_2 := gc 2; have f1_0_2 := gf 2; clear gc gf; obtain ⟨l1_1, gc, gf⟩ := kp xb1 (w.heap.size + 1) (by first | omega | (simp; try omega)); have r1_1 := gc 0; have f1_1 := gf 0; have r1_1_1 := gc 1; have f1_1_1 := gf 1; have r1_1_2 := gc 2; have f1_1_2 := gf 2; clear gc gf)
    | (go_at_call 108; (with_reducible refine (br_Sign _ 0 _ _ _ _ hI1.out.1.int).mono ?_); rintro e w3 ⟨rfl, xb3⟩; obtain ⟨xc3, xf3, xl3, xz3⟩ := ext_use xb3; (try simp at xz3); obtain ⟨l3_0, gc, gf⟩ := kp xb3 (w.heap.size + 1) (by first | omega | (simp; try omega)); have r3_0 := gc 0; have f3_0 := gf 0; have r3_0_1 := gc 1; have f3_0_1 := gf 1; have r3_0_2 := gc 2; have f3_0_2 := gf 2; clear gc gf)
    | (go_at_call 35; (with_reducible refine (kW _).mono ?_); rintro e w2 ⟨A3, n3, c3, D3, m3, k3, rfl, hR3, xb2⟩; obtain ⟨xc2, xf2, xl2, xz2⟩ := ext_use xb2; (try simp at xz2); obtain ⟨l2_0, gc, gf⟩ := kp xb2 (w.heap.size + 1) (by first | omega | (simp; try omega)); have r2_0 := gc 0; have f2_0 := gf 0; have r2_0_1 := gc 1; have f2_0_1 := gf 1; have r2_0_2 := gc 2; have f2_0_2 := gf 2; clear gc gf)
   )
  have z0 : w2.cell? ⟨w.heap.size + 1, 0, none⟩ = some (.bool false) := by simp [go_sem, *]
  have z1 : w2.cell? ⟨w.heap.size + 1, 1, none⟩ = some (.slice none 0 0) := by simp [go_sem, *]
  have z2 : w2.cell? ⟨w.heap.size + 1, 2, none⟩ = some (.slice none 0 0) := by simp [go_sem, *]
  obtain ⟨q0, q1, q2⟩ := set3 (b := w.heap.size + 1) z0 z1 z2 (.bool false) (.slice A3 n3 c3) (.slice D3 m3 k3)
  have hEE : Ext w w2 := by (repeat (first | exact ext_refl _ | assumption | refine ext_setCell ?_ (by simp; try omega) _ | refine ext_alloc ?_ _ | refine ext_drew ?_ | refine ext_drewN ?_ _ | refine ext_trans ?_ (Aft.use _) | refine ext_trans ?_ (by assumption)))
  have n5 : ∀ a, A3 = some a → w.heap.size + 1 < a.block := fun a ha => by have := hR3.out.2.1 a ha; (try simp at this); omega
  have n6 : ∀ a, D3 = some a → w.heap.size + 1 < a.block := fun a ha => by have := hR3.out.2.2.2 a ha; (try simp at this); omega
  refine bodyPost_ret (v := .tuple #[ratV false A3 n3 c3 D3 m3 k3, .int .i64 0]) ?h rfl ⟨A3, n3, c3, D3, m3, k3, rfl, ⟨hR3.out.1.set3 n5 _ _ _, fun x hx => Nat.le_of_lt (by have := n5 x hx; omega), hR3.out.2.2.1.set3 n6 _ _ _, fun x hx => Nat.le_of_lt (by have := n6 x hx; omega)⟩, ext_set3 hEE (Nat.le_succ _) _ _ _⟩
  case h => simp [results, Tryz.results52, go_sem, q0, q1, q2]
end
end Go.Proofs.YtnpdpjgkpjodbaaGreatDoor
end
section
/- The program's fractions: times a power above nought, and below nought. -/
namespace Go.Proofs.YtnpdpjgkpjodbaaGreatDoor
open Go.RowKit
attribute [local go_sem] sz2 sz3 sz4 sz5 sz6 sz7 sz8
set_option maxHeartbeats 4000000
set_option maxRecDepth 100000
attribute [local irreducible] Calls
/-- A fraction's block, still blank. -/
structure Bl3 (w : World) (b : Nat) : Prop where
  lt : b < w.heap.size
  c0 : w.cell? ⟨b, 0, none⟩ = some (.bool false)
  c1 : w.cell? ⟨b, 1, none⟩ = some (.slice none 0 0)
  c2 : w.cell? ⟨b, 2, none⟩ = some (.slice none 0 0)
  f0 : w.frozen? ⟨b, 0, none⟩ = false
  f1 : w.frozen? ⟨b, 1, none⟩ = false
  f2 : w.frozen? ⟨b, 2, none⟩ = false
theorem Bl3.tch {w w' : World} {b g : Nat} (h : Bl3 w b) (ht : Tch g w w') (hne : b ≠ g) : Bl3 w' b :=
  ⟨Nat.lt_of_lt_of_le h.lt ht.size, (ht.cell (p := ⟨b, 0, none⟩) h.lt hne).trans h.c0, (ht.cell (p := ⟨b, 1, none⟩) h.lt hne).trans h.c1, (ht.cell (p := ⟨b, 2, none⟩) h.lt hne).trans h.c2,
    (ht.frozen (p := ⟨b, 0, none⟩) h.lt hne).trans h.f0, (ht.frozen (p := ⟨b, 1, none⟩) h.lt hne).trans h.f1, (ht.frozen (p := ⟨b, 2, none⟩) h.lt hne).trans h.f2⟩
theorem Bl3.ext {w w' : World} {b : Nat} (h : Bl3 w b) (ht : Ext w w') : Bl3 w' b :=
  ⟨Nat.lt_of_lt_of_le h.lt ht.size, (Below.cell (p := ⟨b, 0, none⟩) ht h.lt).trans h.c0, (Below.cell (p := ⟨b, 1, none⟩) ht h.lt).trans h.c1, (Below.cell (p := ⟨b, 2, none⟩) ht h.lt).trans h.c2,
    (Below.frozen (p := ⟨b, 0, none⟩) ht h.lt).trans h.f0, (Below.frozen (p := ⟨b, 1, none⟩) ht h.lt).trans h.f1, (Below.frozen (p := ⟨b, 2, none⟩) ht h.lt).trans h.f2⟩
section
variable (s : Bool) (A : Option Addr) (n c : Nat) (D : Option Addr) (m k : Nat) (b N V : Nat) (w : World)
theorem sc_up {z : Int} {d L M K : Nat} (hg : Nat.gcd z.natAbs (denOf d) = 1) (hlz : (lim z.natAbs).length ≤ 100000) (hld : (lim d).length ≤ 100000) (hz : z ≠ 0) (hN : 1 ≤ N) (hb : 2 ≤ b) (hbl : b < 4294967296) (hV : b ^ N = V) (hlV : (lim V).length ≤ 20000) (hL : Lib.bitLen b = L) (hM : (L : Int) - 1 = (M : Nat)) (hM1 : 1 ≤ M) (hM2 : M ≤ 31) (hK : (1048576 : Int) / (M : Int) = (K : Nat)) (hK1 : K ≤ 1048576) (hNK : N ≤ K)
    {Z : Int} {E : Nat} (kt : ∀ w', Ext w w' → Calls Tryz.prog 74 #[ratV s A n c D m k] w' (KPost w' z d)) (hT : Tz w)
    (kT : ∀ (g : Nat) (A : Option Addr) (n c : Nat) (D : Option Addr) (m k : Nat) (w' : World), RatIs w' g (canN (z * (V : Int)) (denOf d * 1)) A n c (canW (z * (V : Int)) (denOf d * 1)) D m k → Calls Tryz.prog 66 #[.pointer (some ⟨g, 0, none⟩)] w' (TPost w' Z E)) :
    Calls Tryz.prog 52 #[ratV s A n c D m k, .int .u32 (b : Int), .int .i64 (N : Int)] w (TPost w Z E) := by
  have he3 : ((N : Int) == 0) = false := by rw [beq_eq_false_iff_ne]; omega
  have he4 : ¬ (N : Int) = 0 := by omega
  have hb0 : ((b : Int) == 0) = false := by rw [beq_eq_false_iff_ne]; omega
  have hb1 : ((b : Int) == 1) = false := by rw [beq_eq_false_iff_ne]; omega
  have hb2 : ¬ (b : Int) = 0 := by omega
  have hb3 : ¬ (b : Int) = 1 := by omega
  have hs0 : (z.sign == 0) = false := by rw [beq_eq_false_iff_ne]; intro h; exact hz (Int.sign_eq_zero_iff_zero.1 h)
  have hs1 : ¬ z.sign = 0 := by intro h; exact hz (Int.sign_eq_zero_iff_zero.1 h)
  have hM3 : ((M : Int) == 0) = false := by rw [beq_eq_false_iff_ne]; omega
  have hM4 : ¬ (M : Int) = 0 := by omega
  have hLL : (L : Int) ≤ 32 := by omega
  have kB : ∀ w', Calls Tryz.prog 109 #[.int .u32 (b : Int)] w' fun r w'' => r = .returned (.int .i64 (L : Int)) ∧ Ext w' w'' := fun w' => (Tryz.bits_Len32 (b : Int) w' (by omega) (by omega)).mono fun r w'' ⟨h1, h2⟩ => ⟨by rw [h1, Int.toNat_natCast, hL], by rw [h2]; exact ext_refl _⟩
  have hd1 : decide ((K : Int) < (N : Int)) = false := decide_eq_false (by omega)
  have hd2 : decide ((N : Int) < -(K : Int)) = false := decide_eq_false (by omega)
  have hd3 : ¬ (K : Int) < (N : Int) := by omega
  have hd4 : ¬ (N : Int) < -(K : Int) := by omega
  have hmx : max (N : Int) (-(N : Int)) = (N : Int) := by omega
  have hng : decide ((N : Int) < 0) = false := decide_eq_false (by omega)
  have hng2 : ¬ (N : Int) < 0 := by omega
  have hNl : N < 4294967296 := by omega
  have lb1 : ∀ x, x < 4294967296 → (lim x).length ≤ 1 := fun x hx => lim_le (by rw [Nat.pow_one]; exact hx)
  have kN1 : ∀ w', Calls Tryz.prog 111 #[.int .i64 (b : Int)] w' (NPost w' (b : Int)) := fun w' => bi_NewInt _ (by omega) (by omega) w'
  have kN2 : ∀ w', Calls Tryz.prog 111 #[.int .i64 (N : Int)] w' (NPost w' (N : Int)) := fun w' => bi_NewInt _ (by omega) (by omega) w'
  have kE : ∀ G bx b2 A n c D m d w', Room w' G 0 → IntIs w' bx 0 (b : Int) A n c → IntIs w' b2 0 (N : Int) D m d → Calls Tryz.prog 110 #[.pointer (some ⟨G, 0, none⟩), .pointer (some ⟨bx, 0, none⟩), .pointer (some ⟨b2, 0, none⟩), .pointer none] w' (IPost w' G 0 (V : Nat)) := fun G bx b2 A n c D m d w' hr h1 h2 => by
    have := bi_Exp G bx b2 b N (by omega) hN hNl A n c D m d (by rw [hV]; exact hlV) (by have h3 := h1.rd.len; rw [Int.natAbs_natCast] at h3; have := lb1 b hbl; omega) w' hr h1 h2
    rwa [hV] at this
  have hg1V : Nat.gcd ((V : Nat) : Int).natAbs (denOf 0) = 1 := Nat.gcd_one_right _
  have HT := Lib.hid hT
  have HG := Lib.hid (And.intro hg (And.intro hlz (And.intro hld (And.intro hlV hg1V))))
  clear hg hlz hld hlV hV hL lb1 hg1V hT
  go_enter Tryz.func52, Tryz.ntmps52
  go_upto_region 13 with (first
    | (go_at_call 74; (with_reducible refine (kt _ (by (repeat (first | exact ext_refl _ | assumption | refine ext_setCell ?_ (by simp; try omega) _ | refine ext_alloc ?_ _ | refine ext_drew ?_ | refine ext_drewN ?_ _ | refine ext_trans ?_ (Aft.use _) | refine ext_trans ?_ (by assumption))))).mono ?_); rintro e w1 ⟨g1, A1, n1, c1, D1, m1, k1, rfl, hI1, hg1, xb1⟩; obtain ⟨xc1, xf1, xl1, xz1⟩ := ext_use xb1; (try simp at xz1); obtain ⟨l1_0, gc, gf⟩ := kp xb1 (w.heap.size) (by first | omega | (simp; try omega)); have r1_0 := gc 0; have f1_0 := gf 0; have r1_0_1 := gc 1; have f1_0_1 := gf 1; have r1_0_2 := gc 2; have f1_0_2 := gf 2; clear gc gf; obtain ⟨l1_1, gc, gf⟩ := kp xb1 (w.heap.size + 1) (by first | omega | (simp; try omega)); have r1_1 := gc 0; have f1_1 := gf 0; have r1_1_1 := gc 1; have f1_1_1 := gf 1; have r1_1_2 := gc 2; have f1_1_2 := gf 2; clear gc gf)
    | (go_at_call 108; (with_reducible refine (br_Sign _ z _ _ _ _ hI1.out.1.int).mono ?_); rintro e w3 ⟨rfl, xb3⟩; obtain ⟨xc3, xf3, xl3, xz3⟩ := ext_use xb3; (try simp at xz3); obtain ⟨l3_0, gc, gf⟩ := kp xb3 (w.heap.size + 1) (by first | omega | (simp; try omega)); have r3_0 := gc 0; have f3_0 := gf 0; have r3_0_1 := gc 1; have f3_0_1 := gf 1; have r3_0_2 := gc 2; have f3_0_2 := gf 2; clear gc gf)
    | (go_at_call 109; (with_reducible refine (kB _).mono ?_); rintro e w4 ⟨rfl, xb4⟩; obtain ⟨xc4, xf4, xl4, xz4⟩ := ext_use xb4; (try simp at xz4); obtain ⟨l4_0, gc, gf⟩ := kp xb4 (w.heap.size + 1) (by first | omega | (simp; try omega)); have r4_0 := gc 0; have f4_0 := gf 0; have r4_0_1 := gc 1; have f4_0_1 := gf 1; have r4_0_2 := gc 2; have f4_0_2 := gf 2; clear gc gf)
   )
  have hX4 := Lib.hid (hI1.out.1.ext (ext_trans xb3 xb4))
  have hE4 : Hid (Ext w w4) := by show Ext w w4; (repeat (first | exact ext_refl _ | assumption | refine ext_setCell ?_ (by simp; try omega) _ | refine ext_alloc ?_ _ | refine ext_drew ?_ | refine ext_drewN ?_ _ | refine ext_trans ?_ (Aft.use _) | refine ext_trans ?_ (by assumption)))
  have z0 : w4.cell? ⟨w.heap.size + 1, 0, none⟩ = some (.bool false) := by simp [go_sem, *]
  have z1 : w4.cell? ⟨w.heap.size + 1, 1, none⟩ = some (.slice none 0 0) := by simp [go_sem, *]
  have z2 : w4.cell? ⟨w.heap.size + 1, 2, none⟩ = some (.slice none 0 0) := by simp [go_sem, *]
  have y0 : w4.frozen? ⟨w.heap.size + 1, 0, none⟩ = false := by simp [go_sem, *]
  have y1 : w4.frozen? ⟨w.heap.size + 1, 1, none⟩ = false := by simp [go_sem, *]
  have y2 : w4.frozen? ⟨w.heap.size + 1, 2, none⟩ = false := by simp [go_sem, *]
  have zl : w.heap.size + 1 < w4.heap.size := by assumption
  have hgl : g1 < w4.heap.size := hX4.out.int.room.lt
  have hgw : w.heap.size + 1 < g1 := by have := hg1; simp at this; omega
  have hZZ : Hid (Bl3 w4 (w.heap.size + 1)) := Lib.hid ⟨zl, z0, z1, z2, y0, y1, y2⟩
  have hr2 := Lib.hid ((rat_room w4).ext (ext_alloc (ext_refl _) (Obj.cells #[.bool false, .slice none 0 0] 87)))
  have hr3 : Hid (Room ((w4.alloc (Obj.cells #[.bool false, .slice none 0 0, .slice none 0 0] 89)).alloc (Obj.cells #[.bool false, .slice none 0 0] 87)) (w4.heap.size + 1) 0) := by
    have := int_room (w4.alloc (Obj.cells #[.bool false, .slice none 0 0, .slice none 0 0] 89))
    have e0 : (w4.alloc (Obj.cells #[.bool false, .slice none 0 0, .slice none 0 0] 89)).heap.size = w4.heap.size + 1 := by simp
    rw [e0] at this
    exact Lib.hid this
  have hXA := Lib.hid (ext_alloc (ext_alloc (ext_refl w4) (Obj.cells #[.bool false, .slice none 0 0, .slice none 0 0] 89)) (Obj.cells #[.bool false, .slice none 0 0] 87))
  have hne : w4.heap.size ≠ w4.heap.size + 1 := by omega
  clear xc1 xf1 xl1 xz1 xc3 xf3 xl3 xz3 xc4 xf4 xl4 xz4 hI1 hg1 z0 z1 z2 y0 y1 y2 kt kB
  go_upto_region 14 with (first
    | (go_at_call 111; (with_reducible refine (kN1 _).mono ?_); rintro e w5 ⟨b5, B5, j5, l5, rfl, hI5, hb5, xb5⟩)
    | (go_at_call 111; (with_reducible refine (kN2 _).mono ?_); rintro e w6 ⟨b6, B6, j6, l6, rfl, hI6, hb6, xb6⟩; have hE6 := Lib.hid (ext_trans xb5 xb6); have hI5' := Lib.hid (hI5.out.1.ext xb6))
    | (go_at_call 110; (with_reducible refine (kE _ _ _ _ _ _ _ _ _ _ (hr3.out.ext hE6.out) hI5'.out hI6.out.1).mono ?_); rintro e w7 ⟨rfl, A7, n7, c7, hI7, xt7⟩; have hr7 := Lib.hid ((hr2.out.ext hE6.out).tch xt7 hne); have hn7 : n7 ≤ 1000000 := (by have h1 := hI7.out.1.rd.len; rw [Int.natAbs_natCast] at h1; have := HG.out.2.2.2.1; omega))
    | (go_at_call 63; (with_reducible refine (br_SetInt _ _ _ _ _ _ hn7 _ hr7.out hI7.out.1).mono ?_); rintro e w8 ⟨rfl, A8, n8, c8, D8, m8, k8, hI8, xt8⟩)
   )
  have hXX := Lib.hid (ext_trans hXA.out hE6.out)
  have hs6 : w4.heap.size + 1 + 1 ≤ w6.heap.size := by have := ext_size hE6.out; simpa using this
  have hX8 := Lib.hid (((hX4.out.ext hXX.out).tch xt7 (by omega) (hX4.out.int.rd.off (by omega)) (hX4.out.rd.off (by omega))).tch xt8 (by omega) (hX4.out.int.rd.off (by omega)) (hX4.out.rd.off (by omega)))
  have hB8 := Lib.hid (((hZZ.out.ext hXX.out).tch xt7 (by omega)).tch xt8 (by omega))
  have hE8 := Lib.hid (xt8.ext (xt7.ext (ext_trans hE4.out hXX.out) (by omega)) (by omega))
  have hlA := hX4.out.int.rd.len
  have hlD := hX4.out.rd.len
  have hl8 := hI8.out.1.int.rd.len
  have hm8 := hI8.out.1.rd.len
  rw [Int.natAbs_natCast] at hl8
  rw [lim_zero] at hm8
  have hm8' : m8 = 0 := by simpa using hm8.symm
  have kM : Calls Tryz.prog 103 #[.pointer (some ⟨g1, 0, none⟩), .pointer (some ⟨g1, 0, none⟩), .pointer (some ⟨w4.heap.size, 0, none⟩)] w8 (FPost w8 g1 (canN (z * (V : Int)) (denOf d * 1)) (canW (z * (V : Int)) (denOf d * 1))) :=
    br_Mul g1 g1 w4.heap.size z (V : Nat) d 0 HG.out.1 HG.out.2.2.2.2 A1 n1 c1 D1 m1 k1 A8 n8 c8 D8 m8 k8 (by rw [← hlA]; exact HG.out.2.1) (by rw [← hlD]; exact HG.out.2.2.1) (by rw [← hl8]; exact Nat.le_trans HG.out.2.2.2.1 (by decide)) (by omega) w8 (HT.out.ext hE8.out) hX8.out.room hX8.out hI8.out.1
  clear hlA hlD hl8 hm8 hm8' hX4 hI8 hI7 hI5 hI6 hI5' xb5 xb6 xt7 xt8 hr7 hr2 hr3 hE6 hXA hXX hE4 hZZ kN1 kN2 kE
  have hw8 : w.heap.size + 1 < w8.heap.size := hB8.out.lt
  go_wp2_with (first
    | (go_at_call 103; (with_reducible refine kM.mono ?_); rintro e w9 ⟨rfl, A9, n9, c9, D9, m9, k9, hI9, xt9⟩; have hB9 := Lib.hid (hB8.out.tch xt9 (by omega)); have hE9 := Lib.hid (xt9.ext hE8.out (by omega)); have q0 := hB9.out.c0; have q1 := hB9.out.c1; have q2 := hB9.out.c2; have p0 := hB9.out.f0; have p1 := hB9.out.f1; have p2 := hB9.out.f2; have ql := hB9.out.lt)
    | (go_at_call 66; (with_reducible refine (kT _ _ _ _ _ _ _ _ hI9.out.1).mono ?_); rintro e w10 ⟨A3, n3, c3, D3, m3, k3, rfl, hR3, xb10⟩; obtain ⟨xc10, xf10, xl10, xz10⟩ := ext_use xb10; (try simp at xz10); obtain ⟨l10_0, gc, gf⟩ := kp xb10 (w.heap.size + 1) (by first | omega | (simp; try omega)); have r10_0 := gc 0; have f10_0 := gf 0; have r10_0_1 := gc 1; have f10_0_1 := gf 1; have r10_0_2 := gc 2; have f10_0_2 := gf 2; clear gc gf)
   )
  have hB := hB9.out.ext xb10
  obtain ⟨u0, u1, u2⟩ := set3 (b := w.heap.size + 1) hB.c0 hB.c1 hB.c2 (.bool (decide (Z < 0))) (.slice A3 n3 c3) (.slice D3 m3 k3)
  have hEE : Ext w w10 := ext_trans hE9.out xb10
  have n5 : ∀ a, A3 = some a → w.heap.size + 1 < a.block := fun a ha => by have := hR3.out.2.1 a ha; omega
  have n6 : ∀ a, D3 = some a → w.heap.size + 1 < a.block := fun a ha => by have := hR3.out.2.2.2 a ha; omega
  refine bodyPost_ret (v := .tuple #[ratV (decide (Z < 0)) A3 n3 c3 D3 m3 k3, .int .i64 0]) ?h rfl ⟨A3, n3, c3, D3, m3, k3, rfl, ⟨hR3.out.1.set3 n5 _ _ _, fun x hx => Nat.le_of_lt (by have := n5 x hx; omega), hR3.out.2.2.1.set3 n6 _ _ _, fun x hx => Nat.le_of_lt (by have := n6 x hx; omega)⟩, ext_set3 hEE (Nat.le_succ _) _ _ _⟩
  case h => simp [results, Tryz.results52, go_sem, u0, u1, u2]
theorem sc_down {z : Int} {d L M K : Nat} (hg : Nat.gcd z.natAbs (denOf d) = 1) (hlz : (lim z.natAbs).length ≤ 100000) (hld : (lim d).length ≤ 100000) (hz : z ≠ 0) (hN : 1 ≤ N) (hb : 2 ≤ b) (hbl : b < 4294967296) (hV : b ^ N = V) (hlV : (lim V).length ≤ 20000) (hL : Lib.bitLen b = L) (hM : (L : Int) - 1 = (M : Nat)) (hM1 : 1 ≤ M) (hM2 : M ≤ 31) (hK : (1048576 : Int) / (M : Int) = (K : Nat)) (hK1 : K ≤ 1048576) (hNK : N ≤ K)
    {Z : Int} {E : Nat} (kt : ∀ w', Ext w w' → Calls Tryz.prog 74 #[ratV s A n c D m k] w' (KPost w' z d)) (hT : Tz w)
    (kT : ∀ (g : Nat) (A : Option Addr) (n c : Nat) (D : Option Addr) (m k : Nat) (w' : World), RatIs w' g (canN (z * 1) (denOf d * V)) A n c (canW (z * 1) (denOf d * V)) D m k → Calls Tryz.prog 66 #[.pointer (some ⟨g, 0, none⟩)] w' (TPost w' Z E)) :
    Calls Tryz.prog 52 #[ratV s A n c D m k, .int .u32 (b : Int), .int .i64 (-(N : Int))] w (TPost w Z E) := by
  have he3 : ((-(N : Int)) == 0) = false := by rw [beq_eq_false_iff_ne]; omega
  have he4 : ¬ (-(N : Int)) = 0 := by omega
  have hb0 : ((b : Int) == 0) = false := by rw [beq_eq_false_iff_ne]; omega
  have hb1 : ((b : Int) == 1) = false := by rw [beq_eq_false_iff_ne]; omega
  have hb2 : ¬ (b : Int) = 0 := by omega
  have hb3 : ¬ (b : Int) = 1 := by omega
  have hs0 : (z.sign == 0) = false := by rw [beq_eq_false_iff_ne]; intro h; exact hz (Int.sign_eq_zero_iff_zero.1 h)
  have hs1 : ¬ z.sign = 0 := by intro h; exact hz (Int.sign_eq_zero_iff_zero.1 h)
  have hM3 : ((M : Int) == 0) = false := by rw [beq_eq_false_iff_ne]; omega
  have hM4 : ¬ (M : Int) = 0 := by omega
  have hLL : (L : Int) ≤ 32 := by omega
  have kB : ∀ w', Calls Tryz.prog 109 #[.int .u32 (b : Int)] w' fun r w'' => r = .returned (.int .i64 (L : Int)) ∧ Ext w' w'' := fun w' => (Tryz.bits_Len32 (b : Int) w' (by omega) (by omega)).mono fun r w'' ⟨h1, h2⟩ => ⟨by rw [h1, Int.toNat_natCast, hL], by rw [h2]; exact ext_refl _⟩
  have hd1 : decide ((K : Int) < -(N : Int)) = false := decide_eq_false (by omega)
  have hd2 : decide (-(N : Int) < -(K : Int)) = false := decide_eq_false (by omega)
  have hd3 : ¬ (K : Int) < -(N : Int) := by omega
  have hd4 : ¬ -(N : Int) < -(K : Int) := by omega
  have hmx : max (-(N : Int)) (N : Int) = (N : Int) := by omega
  have hng : decide (-(N : Int) < 0) = true := decide_eq_true (by omega)
  have hng2 : -(N : Int) < 0 := by omega
  have hV0 : V ≠ 0 := by rw [← hV]; exact Nat.pos_iff_ne_zero.1 (Nat.pow_pos (by omega))
  have hNl : N < 4294967296 := by omega
  have lb1 : ∀ x, x < 4294967296 → (lim x).length ≤ 1 := fun x hx => lim_le (by rw [Nat.pow_one]; exact hx)
  have kN1 : ∀ w', Calls Tryz.prog 111 #[.int .i64 (b : Int)] w' (NPost w' (b : Int)) := fun w' => bi_NewInt _ (by omega) (by omega) w'
  have kN2 : ∀ w', Calls Tryz.prog 111 #[.int .i64 (N : Int)] w' (NPost w' (N : Int)) := fun w' => bi_NewInt _ (by omega) (by omega) w'
  have kE : ∀ G bx b2 A n c D m d w', Room w' G 0 → IntIs w' bx 0 (b : Int) A n c → IntIs w' b2 0 (N : Int) D m d → Calls Tryz.prog 110 #[.pointer (some ⟨G, 0, none⟩), .pointer (some ⟨bx, 0, none⟩), .pointer (some ⟨b2, 0, none⟩), .pointer none] w' (IPost w' G 0 (V : Nat)) := fun G bx b2 A n c D m d w' hr h1 h2 => by
    have := bi_Exp G bx b2 b N (by omega) hN hNl A n c D m d (by rw [hV]; exact hlV) (by have h3 := h1.rd.len; rw [Int.natAbs_natCast] at h3; have := lb1 b hbl; omega) w' hr h1 h2
    rwa [hV] at this
  have hg1V : Nat.gcd (1 : Int).natAbs (denOf V) = 1 := Nat.gcd_one_left _
  have HT := Lib.hid hT
  have HG := Lib.hid (And.intro hg (And.intro hlz (And.intro hld (And.intro hlV hg1V))))
  clear hg hlz hld hlV hV hL lb1 hg1V hT
  go_enter Tryz.func52, Tryz.ntmps52
  go_upto_region 13 with (first
    | (go_at_call 74; (with_reducible refine (kt _ (by (repeat (first | exact ext_refl _ | assumption | refine ext_setCell ?_ (by simp; try omega) _ | refine ext_alloc ?_ _ | refine ext_drew ?_ | refine ext_drewN ?_ _ | refine ext_trans ?_ (Aft.use _) | refine ext_trans ?_ (by assumption))))).mono ?_); rintro e w1 ⟨g1, A1, n1, c1, D1, m1, k1, rfl, hI1, hg1, xb1⟩; obtain ⟨xc1, xf1, xl1, xz1⟩ := ext_use xb1; (try simp at xz1); obtain ⟨l1_0, gc, gf⟩ := kp xb1 (w.heap.size) (by first | omega | (simp; try omega)); have r1_0 := gc 0; have f1_0 := gf 0; have r1_0_1 := gc 1; have f1_0_1 := gf 1; have r1_0_2 := gc 2; have f1_0_2 := gf 2; clear gc gf; obtain ⟨l1_1, gc, gf⟩ := kp xb1 (w.heap.size + 1) (by first | omega | (simp; try omega)); have r1_1 := gc 0; have f1_1 := gf 0; have r1_1_1 := gc 1; have f1_1_1 := gf 1; have r1_1_2 := gc 2; have f1_1_2 := gf 2; clear gc gf)
    | (go_at_call 108; (with_reducible refine (br_Sign _ z _ _ _ _ hI1.out.1.int).mono ?_); rintro e w3 ⟨rfl, xb3⟩; obtain ⟨xc3, xf3, xl3, xz3⟩ := ext_use xb3; (try simp at xz3); obtain ⟨l3_0, gc, gf⟩ := kp xb3 (w.heap.size + 1) (by first | omega | (simp; try omega)); have r3_0 := gc 0; have f3_0 := gf 0; have r3_0_1 := gc 1; have f3_0_1 := gf 1; have r3_0_2 := gc 2; have f3_0_2 := gf 2; clear gc gf)
    | (go_at_call 109; (with_reducible refine (kB _).mono ?_); rintro e w4 ⟨rfl, xb4⟩; obtain ⟨xc4, xf4, xl4, xz4⟩ := ext_use xb4; (try simp at xz4); obtain ⟨l4_0, gc, gf⟩ := kp xb4 (w.heap.size + 1) (by first | omega | (simp; try omega)); have r4_0 := gc 0; have f4_0 := gf 0; have r4_0_1 := gc 1; have f4_0_1 := gf 1; have r4_0_2 := gc 2; have f4_0_2 := gf 2; clear gc gf)
   )
  have hX4 := Lib.hid (hI1.out.1.ext (ext_trans xb3 xb4))
  have hE4 : Hid (Ext w w4) := by show Ext w w4; (repeat (first | exact ext_refl _ | assumption | refine ext_setCell ?_ (by simp; try omega) _ | refine ext_alloc ?_ _ | refine ext_drew ?_ | refine ext_drewN ?_ _ | refine ext_trans ?_ (Aft.use _) | refine ext_trans ?_ (by assumption)))
  have z0 : w4.cell? ⟨w.heap.size + 1, 0, none⟩ = some (.bool false) := by simp [go_sem, *]
  have z1 : w4.cell? ⟨w.heap.size + 1, 1, none⟩ = some (.slice none 0 0) := by simp [go_sem, *]
  have z2 : w4.cell? ⟨w.heap.size + 1, 2, none⟩ = some (.slice none 0 0) := by simp [go_sem, *]
  have y0 : w4.frozen? ⟨w.heap.size + 1, 0, none⟩ = false := by simp [go_sem, *]
  have y1 : w4.frozen? ⟨w.heap.size + 1, 1, none⟩ = false := by simp [go_sem, *]
  have y2 : w4.frozen? ⟨w.heap.size + 1, 2, none⟩ = false := by simp [go_sem, *]
  have zl : w.heap.size + 1 < w4.heap.size := by assumption
  have hgl : g1 < w4.heap.size := hX4.out.int.room.lt
  have hgw : w.heap.size + 1 < g1 := by have := hg1; simp at this; omega
  have hZZ : Hid (Bl3 w4 (w.heap.size + 1)) := Lib.hid ⟨zl, z0, z1, z2, y0, y1, y2⟩
  have hr2 := Lib.hid ((rat_room w4).ext (ext_alloc (ext_refl _) (Obj.cells #[.bool false, .slice none 0 0] 87)))
  have hr3 : Hid (Room ((w4.alloc (Obj.cells #[.bool false, .slice none 0 0, .slice none 0 0] 89)).alloc (Obj.cells #[.bool false, .slice none 0 0] 87)) (w4.heap.size + 1) 0) := by
    have := int_room (w4.alloc (Obj.cells #[.bool false, .slice none 0 0, .slice none 0 0] 89))
    have e0 : (w4.alloc (Obj.cells #[.bool false, .slice none 0 0, .slice none 0 0] 89)).heap.size = w4.heap.size + 1 := by simp
    rw [e0] at this
    exact Lib.hid this
  have hXA := Lib.hid (ext_alloc (ext_alloc (ext_refl w4) (Obj.cells #[.bool false, .slice none 0 0, .slice none 0 0] 89)) (Obj.cells #[.bool false, .slice none 0 0] 87))
  have hne : w4.heap.size ≠ w4.heap.size + 1 := by omega
  clear xc1 xf1 xl1 xz1 xc3 xf3 xl3 xz3 xc4 xf4 xl4 xz4 hI1 hg1 z0 z1 z2 y0 y1 y2 kt kB
  go_upto_region 14 with (first
    | (go_at_call 111; (with_reducible refine (kN1 _).mono ?_); rintro e w5 ⟨b5, B5, j5, l5, rfl, hI5, hb5, xb5⟩)
    | (go_at_call 111; (with_reducible refine (kN2 _).mono ?_); rintro e w6 ⟨b6, B6, j6, l6, rfl, hI6, hb6, xb6⟩; have hE6 := Lib.hid (ext_trans xb5 xb6); have hI5' := Lib.hid (hI5.out.1.ext xb6))
    | (go_at_call 110; (with_reducible refine (kE _ _ _ _ _ _ _ _ _ _ (hr3.out.ext hE6.out) hI5'.out hI6.out.1).mono ?_); rintro e w7 ⟨rfl, A7, n7, c7, hI7, xt7⟩; have hr7 := Lib.hid ((hr2.out.ext hE6.out).tch xt7 hne); have hn7 : n7 ≤ 1000000 := (by have h1 := hI7.out.1.rd.len; rw [Int.natAbs_natCast] at h1; have := HG.out.2.2.2.1; omega))
    | (go_at_call 63; (with_reducible refine (br_SetInt _ _ _ _ _ _ hn7 _ hr7.out hI7.out.1).mono ?_); rintro e w8 ⟨rfl, A8, n8, c8, D8, m8, k8, hI8, xt8⟩)
   )
  have hXX := Lib.hid (ext_trans hXA.out hE6.out)
  have hs6 : w4.heap.size + 1 + 1 ≤ w6.heap.size := by have := ext_size hE6.out; simpa using this
  have hX8 := Lib.hid (((hX4.out.ext hXX.out).tch xt7 (by omega) (hX4.out.int.rd.off (by omega)) (hX4.out.rd.off (by omega))).tch xt8 (by omega) (hX4.out.int.rd.off (by omega)) (hX4.out.rd.off (by omega)))
  have hB8 := Lib.hid (((hZZ.out.ext hXX.out).tch xt7 (by omega)).tch xt8 (by omega))
  have hE8 := Lib.hid (xt8.ext (xt7.ext (ext_trans hE4.out hXX.out) (by omega)) (by omega))
  have hl8 := hI8.out.1.int.rd.len
  have hm8 := hI8.out.1.rd.len
  rw [Int.natAbs_natCast] at hl8
  rw [lim_zero] at hm8
  have hm8' : m8 = 0 := by simpa using hm8.symm
  have kV : Calls Tryz.prog 112 #[.pointer (some ⟨w4.heap.size, 0, none⟩), .pointer (some ⟨w4.heap.size, 0, none⟩)] w8 (FPost w8 w4.heap.size 1 V) := by
    have := br_Inv w4.heap.size (V : Nat) (by omega) A8 n8 c8 0 D8 m8 k8 (by rw [← hl8]; exact Nat.le_trans HG.out.2.2.2.1 (by decide)) (by omega) w8 hI8.out.1
    rw [decide_eq_false (show ¬ ((V : Nat) : Int) < 0 by omega), Int.natAbs_natCast] at this
    exact this
  clear hl8 hm8 hm8' hI8 hI7 hI5 hI6 hI5' xb5 xb6 xt7 xt8 hr7 hr2 hr3 hE6 hXA hXX hE4 hZZ kN1 kN2 kE
  go_upto_region 16 with (first
    | (go_at_call 112; (with_reducible refine kV.mono ?_); rintro e wi ⟨rfl, Ai, ni, ci, Di, mi, ki, hIi, xti⟩)
   )
  have hXi := Lib.hid (hX8.out.tch xti (by omega) (hX4.out.int.rd.off (by omega)) (hX4.out.rd.off (by omega)))
  have hBi := Lib.hid (hB8.out.tch xti (by omega))
  have hEi := Lib.hid (xti.ext hE8.out (by omega))
  have hlA := hX4.out.int.rd.len
  have hlD := hX4.out.rd.len
  have hli := hIi.out.1.int.rd.len
  have hmi := hIi.out.1.rd.len
  have hl1 : (lim (1 : Int).natAbs).length = 1 := by kernel_rfl
  have hdV : denOf V = V := if_neg hV0
  have kM : Calls Tryz.prog 103 #[.pointer (some ⟨g1, 0, none⟩), .pointer (some ⟨g1, 0, none⟩), .pointer (some ⟨w4.heap.size, 0, none⟩)] wi (FPost wi g1 (canN (z * 1) (denOf d * V)) (canW (z * 1) (denOf d * V))) := by
    have := br_Mul g1 g1 w4.heap.size z 1 d V HG.out.1 HG.out.2.2.2.2 A1 n1 c1 D1 m1 k1 Ai ni ci Di mi ki (by rw [← hlA]; exact HG.out.2.1) (by rw [← hlD]; exact HG.out.2.2.1) (by omega) (by rw [← hmi]; exact Nat.le_trans HG.out.2.2.2.1 (by decide)) wi (HT.out.ext hEi.out) hXi.out.room hXi.out hIi.out.1
    rwa [hdV] at this
  clear hlA hlD hli hmi hl1 hX4 hIi xti hX8 hB8 hE8 kV
  have hw8 : w.heap.size + 1 < wi.heap.size := hBi.out.lt
  go_wp2_with (first
    | (go_at_call 103; (with_reducible refine kM.mono ?_); rintro e w9 ⟨rfl, A9, n9, c9, D9, m9, k9, hI9, xt9⟩; have hB9 := Lib.hid (hBi.out.tch xt9 (by omega)); have hE9 := Lib.hid (xt9.ext hEi.out (by omega)); have q0 := hB9.out.c0; have q1 := hB9.out.c1; have q2 := hB9.out.c2; have p0 := hB9.out.f0; have p1 := hB9.out.f1; have p2 := hB9.out.f2; have ql := hB9.out.lt)
    | (go_at_call 66; (with_reducible refine (kT _ _ _ _ _ _ _ _ hI9.out.1).mono ?_); rintro e w10 ⟨A3, n3, c3, D3, m3, k3, rfl, hR3, xb10⟩; obtain ⟨xc10, xf10, xl10, xz10⟩ := ext_use xb10; (try simp at xz10); obtain ⟨l10_0, gc, gf⟩ := kp xb10 (w.heap.size + 1) (by first | omega | (simp; try omega)); have r10_0 := gc 0; have f10_0 := gf 0; have r10_0_1 := gc 1; have f10_0_1 := gf 1; have r10_0_2 := gc 2; have f10_0_2 := gf 2; clear gc gf)
   )
  have hB := hB9.out.ext xb10
  obtain ⟨u0, u1, u2⟩ := set3 (b := w.heap.size + 1) hB.c0 hB.c1 hB.c2 (.bool (decide (Z < 0))) (.slice A3 n3 c3) (.slice D3 m3 k3)
  have hEE : Ext w w10 := ext_trans hE9.out xb10
  have n5 : ∀ a, A3 = some a → w.heap.size + 1 < a.block := fun a ha => by have := hR3.out.2.1 a ha; omega
  have n6 : ∀ a, D3 = some a → w.heap.size + 1 < a.block := fun a ha => by have := hR3.out.2.2.2 a ha; omega
  refine bodyPost_ret (v := .tuple #[ratV (decide (Z < 0)) A3 n3 c3 D3 m3 k3, .int .i64 0]) ?h rfl ⟨A3, n3, c3, D3, m3, k3, rfl, ⟨hR3.out.1.set3 n5 _ _ _, fun x hx => Nat.le_of_lt (by have := n5 x hx; omega), hR3.out.2.2.1.set3 n6 _ _ _, fun x hx => Nat.le_of_lt (by have := n6 x hx; omega)⟩, ext_set3 hEE (Nat.le_succ _) _ _ _⟩
  case h => simp [results, Tryz.results52, go_sem, u0, u1, u2]
end
end Go.Proofs.YtnpdpjgkpjodbaaGreatDoor
end
section
/- The program's fractions: times a power, by worths. -/
namespace Go.Proofs.YtnpdpjgkpjodbaaGreatDoor
open Go.RowKit
set_option maxRecDepth 100000
attribute [local irreducible] Calls
theorem bitLen_two {b : Nat} (hb : 2 ≤ b) (hbl : b < 4294967296) : 2 ≤ Lib.bitLen b ∧ Lib.bitLen b ≤ 32 := by
  have hl : Lib.bitLen b ≤ 32 := Lib.bitLen_le b 32 (by omega) (by omega)
  have h := Lib.bitLenAux_bounds 64 b (by omega) (by omega)
  change 1 ≤ Lib.bitLen b ∧ 2 ^ (Lib.bitLen b - 1) ≤ b ∧ b < 2 ^ Lib.bitLen b at h
  refine ⟨?_, hl⟩
  by_cases h1 : Lib.bitLen b = 1
  · rw [h1] at h; omega
  · omega
theorem most_ok {M : Nat} (h1 : 1 ≤ M) (h2 : M ≤ 31) : ∃ K : Nat, (1048576 : Int) / (M : Int) = (K : Nat) ∧ 33825 ≤ K ∧ K ≤ 1048576 := by
  refine ⟨1048576 / M, by rw [Int.natCast_ediv]; rfl, ?_, ?_⟩
  · have := Nat.div_le_div_left h2 h1 (a := 1048576); omega
  · exact Nat.div_le_self _ _
theorem pow_few {b : Nat} (hbl : b < 4294967296) (N : Nat) : (lim (b ^ N)).length ≤ N + 1 := by
  refine lim_le (Nat.lt_of_le_of_lt (Nat.pow_le_pow_left (show b ≤ Bs by show b ≤ 4294967296; omega) N) ?_)
  exact Nat.pow_lt_pow_right (by decide) (Nat.lt_succ_self N)
/-- A fraction times a power, not yet in lowest terms. -/
def pwZ (x : Int) (b : Nat) (e : Int) : Int := if e < 0 then x else x * ((b ^ e.toNat : Nat) : Int)
def pwD (p : Nat) (b : Nat) (e : Int) : Nat := if e < 0 then p * b ^ (-e).toNat else p
theorem pwD_pos {p b : Nat} {e : Int} (hp : p ≠ 0) (hb : 1 ≤ b) : pwD p b e ≠ 0 := by
  unfold pwD
  split
  · exact Nat.mul_ne_zero hp (Nat.pos_iff_ne_zero.1 (Nat.pow_pos hb))
  · exact hp
theorem pw_few {k : Nat} {x : Int} {p b : Nat} {e : Int} (h : Few k x p) (hbl : b < 4294967296) (h1 : -300 ≤ e) (h2 : e ≤ 300) : Few (k + 301) (pwZ x b e) (pwD p b e) := by
  unfold pwZ pwD
  split
  · refine ⟨Nat.le_trans h.1 (by omega), Nat.le_trans (lim_mul_len _ _) ?_⟩
    have := pow_few hbl (-e).toNat
    have := h.2
    omega
  · refine ⟨?_, Nat.le_trans h.2 (by omega)⟩
    rw [Int.natAbs_mul, Int.natAbs_natCast]
    refine Nat.le_trans (lim_mul_len _ _) ?_
    have := pow_few hbl e.toNat
    have := h.1
    omega
theorem can_nought (d : Nat) (hd : d ≠ 0) : canN 0 d = 0 ∧ canD 0 d = 1 := ⟨canN_zero d, by unfold canD; rw [Int.natAbs_zero, Nat.gcd_zero_left, Nat.div_self (Nat.pos_of_ne_zero hd)]⟩
theorem told_can {g : Nat} {z : Int} {d : Nat} (hd : d ≠ 0) (hf : Few 16384 z d) {A : Option Addr} {n c : Nat} {D : Option Addr} {m k : Nat} {w : World} (h : RatIs w g (canN z d) A n c (canW z d) D m k) :
    Calls Tryz.prog 66 #[.pointer (some ⟨g, 0, none⟩)] w (TPost w (canN z d) (canD z d)) := by
  have h1 := h.int.rd.len
  have h2 := h.rd.len
  have hc := hf.can
  have h3 := lim_mono (canW_le z d)
  have := ra_told_ok g (canN z d) A n c (canW z d) D m k (by rw [← h1]; exact hc.1) (by have := hf.2; omega) (by rw [canW_den hd]; exact hc.2) w h
  rwa [canW_den hd] at this
theorem tpost_scale (s : Bool) (A : Option Addr) (n c a : Nat) (D : Option Addr) (m k p b : Nat) (e : Int) (w : World) (hp : p ≠ 0) (hn : n ≤ 4000) (hm : m ≤ 4000) (hg : Nat.gcd a p = 1) (hng : s = true → a ≠ 0) (hb : 1 ≤ b) (hbl : b < 4294967296) (h1 : -300 ≤ e) (h2 : e ≤ 300) (hT : Tz w) (hA : Rd w A n c (lim a)) (hD : Rd w D m k (lim p)) :
    Calls Tryz.prog 52 #[ratV s A n c D m k, .int .u32 (b : Int), .int .i64 e] w (TPost w (canN (pwZ (sgn s a) b e) (pwD p b e)) (canD (pwZ (sgn s a) b e) (pwD p b e))) := by
  have kt : ∀ w', Ext w w' → Calls Tryz.prog 74 #[ratV s A n c D m k] w' (KPost w' (sgn s a) (lowD a p)) := fun w' he => ra_taken s A n c a D m k p hp (by omega) (by omega) hg hng w' (hT.ext he) (hA.ext he) (hD.ext he)
  have hf : Few 4000 (sgn s a) p := ⟨by rw [sgn_abs, hA.len]; exact hn, by rw [hD.len]; exact hm⟩
  have hfp := (pw_few hf hbl h1 h2).mono (show 4000 + 301 ≤ 16384 by decide)
  have hdn : denOf (lowD a p) = p := den_low hp hg
  have hlw : lowD a p = canW (sgn s a) p := by have := low_can (sgn s a) p; rwa [sgn_abs] at this
  have hq := pwD_pos (e := e) hp hb
  have hself := can_self hp (z := sgn s a) (by rw [sgn_abs]; exact hg)
  by_cases h0 : e = 0 ∨ b = 1
  · have e1 : canN (pwZ (sgn s a) b e) (pwD p b e) = sgn s a ∧ canD (pwZ (sgn s a) b e) (pwD p b e) = p := by
      have ez : pwZ (sgn s a) b e = sgn s a := by
        unfold pwZ
        rcases h0 with rfl | rfl
        · simp
        · rw [Nat.one_pow]; split <;> simp
      have ed : pwD p b e = p := by
        unfold pwD
        rcases h0 with rfl | rfl
        · simp
        · rw [Nat.one_pow]; split <;> simp
      rw [ez, ed]; exact hself
    rw [e1.1, e1.2]
    refine sc_one s A n c D m k b e w h0 kt (fun g A' n' c' D' m' k' w' h => ?_)
    rw [hlw] at h
    have h3 := told_can hp (hf.mono (by decide)) (show RatIs w' g (canN (sgn s a) p) A' n' c' (canW (sgn s a) p) D' m' k' by rw [hself.1]; exact h)
    rwa [hself.1, hself.2] at h3
  · have he0 : ¬ e = 0 := fun h => h0 (.inl h)
    have hb2 : 2 ≤ b := by
      have : ¬ b = 1 := fun h => h0 (.inr h)
      omega
    by_cases hz : a = 0
    · subst hz
      have e0 : sgn s 0 = 0 := by cases s <;> rfl
      have ez : pwZ (sgn s 0) b e = 0 := by rw [e0]; unfold pwZ; split <;> simp
      rw [ez]
      have := can_nought _ hq
      rw [this.1, this.2]
      rw [e0] at kt
      exact sc_noughts s A n c D m k b e w he0 hb2 kt
    · have hz' : sgn s a ≠ 0 := fun h => hz (by have := congrArg Int.natAbs h; rwa [sgn_abs] at this)
      have hbl2 := bitLen_two hb2 hbl
      obtain ⟨K, hK, hK1, hK2⟩ := most_ok (M := Lib.bitLen b - 1) (by omega) (by omega)
      have hgg : Nat.gcd (sgn s a).natAbs (denOf (lowD a p)) = 1 := by rw [sgn_abs, hdn]; exact hg
      have hl1 : (lim (sgn s a).natAbs).length ≤ 100000 := Nat.le_trans hf.1 (by decide)
      have hl2 : (lim (lowD a p)).length ≤ 100000 := Nat.le_trans (lim_mono (lowD_le a p)) (Nat.le_trans hf.2 (by decide))
      by_cases hneg : e < 0
      · obtain ⟨N, hN⟩ : ∃ N : Nat, N = (-e).toNat := ⟨_, rfl⟩
        have he : e = -(N : Int) := by omega
        have hlV := pow_few hbl N
        have ez : pwZ (sgn s a) b e = sgn s a * 1 := by unfold pwZ; rw [if_pos hneg, Int.mul_one]
        have ed : pwD p b e = denOf (lowD a p) * b ^ N := by unfold pwD; rw [if_pos hneg, hdn, ← hN]
        rw [ez, ed] at hfp ⊢
        rw [ed] at hq
        rw [he]
        exact sc_down s A n c D m k b N (b ^ N) w hgg hl1 hl2 hz' (by omega) hb2 hbl rfl (by omega) rfl (show ((Lib.bitLen b : Nat) : Int) - 1 = ((Lib.bitLen b - 1 : Nat) : Int) by omega) (by omega) (by omega) hK hK2 (by omega) kt hT (fun g A' n' c' D' m' k' w' h => told_can hq hfp h)
      · obtain ⟨N, hN⟩ : ∃ N : Nat, N = e.toNat := ⟨_, rfl⟩
        have he : e = (N : Int) := by omega
        have hlV := pow_few hbl N
        have ez : pwZ (sgn s a) b e = sgn s a * ((b ^ N : Nat) : Int) := by unfold pwZ; rw [if_neg hneg, ← hN]
        have ed : pwD p b e = denOf (lowD a p) * 1 := by unfold pwD; rw [if_neg hneg, hdn, Nat.mul_one]
        rw [ez, ed] at hfp ⊢
        rw [ed] at hq
        rw [he]
        exact sc_up s A n c D m k b N (b ^ N) w hgg hl1 hl2 hz' (by omega) hb2 hbl rfl (by omega) rfl (show ((Lib.bitLen b : Nat) : Int) - 1 = ((Lib.bitLen b - 1 : Nat) : Int) by omega) (by omega) (by omega) hK hK2 (by omega) kt hT (fun g A' n' c' D' m' k' w' h => told_can hq hfp h)
theorem op_Scale {W : World} {x : Int} {p b : Nat} {e : Int} {s t : Bool} {z : Int} {d : Nat} (hT : Tz W) (hx : Few 4000 x p) (hb : 1 ≤ b) (hbl : b < 4294967296) (h1 : -300 ≤ e) (h2 : e ≤ 300) (hs : decide (x < 0) = s) (hz : canN (pwZ x b e) (pwD p b e) = z ∧ canD (pwZ x b e) (pwD p b e) = d) (ht : decide (z < 0) = t) (F : FH) (w : World) (hw : Ext W w) (h : RaF w x p F) :
    Calls Tryz.prog 52 #[fV s F, .int .u32 (b : Int), .int .i64 e] w (FPst w t z d) := by
  subst hs ht
  obtain ⟨rfl, rfl⟩ := hz
  have k := tpost_scale (decide (x < 0)) F.A F.n F.c x.natAbs F.D F.m F.k p b e w h.d0 (h.few hx).1 (h.few hx).2 h.low (ra_hng x) hb hbl h1 h2 (hT.ext hw) h.num h.den
  rw [ra_own] at k
  exact fpst_of rfl (tpost_r (pwD_pos h.d0 hb) k)
end Go.Proofs.YtnpdpjgkpjodbaaGreatDoor
end
section
/- Texts of fractions, plainly: each is read again, and no other one has it. -/
namespace Go.Proofs.YtnpdpjgkpjodbaaGreatDoor
open Go.RowKit
set_option maxRecDepth 100000
attribute [local irreducible] Calls
theorem tw_all {α : Type} (p : α → Bool) : ∀ l : List α, (∀ c ∈ l, p c = true) → l.takeWhile p = l
  | [], _ => rfl
  | c :: l, h => by rw [List.takeWhile_cons, if_pos (h c (by simp)), tw_all p l (fun c hc => h c (by simp [hc]))]
theorem dtext_ne (v : Nat) : dtext v ≠ [] := fun h => by
  have h1 := (dtext_val v).1
  rw [h] at h1
  have : v = 0 := h1.symm
  subst this
  cases h
theorem dtext_len (v : Nat) : 0 < (dtext v).length := List.length_pos_iff.2 (dtext_ne v)
theorem dtext_dig {v : Nat} {c : UInt8} (h : c ∈ dtext v) : isD c = true := by
  have h1 := (dtext_val v).2
  exact List.all_eq_true.1 h1 c h
theorem dtext_all (v : Nat) : (dtext v).takeWhile isD = dtext v := by
  exact tw_all _ _ (List.all_eq_true.1 (dtext_val v).2)
theorem dtext_no {v : Nat} {c : UInt8} (hc : isD c = false) : c ∉ dtext v := fun h => by rw [dtext_dig h] at hc; cases hc
theorem dtext_inj {u v : Nat} (h : dtext u = dtext v) : u = v := by rw [← (dtext_val u).1, ← (dtext_val v).1, h]
theorem itext_sl (z : Int) : (47 : UInt8) ∉ itext z := by
  unfold itext
  intro h
  rcases List.mem_append.1 h with h | h
  · split at h <;> simp at h
  · exact dtext_no (by decide) h
theorem itext_inj {x y : Int} (h : itext x = itext y) : x = y := by
  unfold itext at h
  by_cases hx : x < 0 <;> by_cases hy : y < 0
  · rw [if_pos hx, if_pos hy] at h
    have := dtext_inj (List.append_cancel_left h); omega
  · rw [if_pos hx, if_neg hy] at h
    have : (45 : UInt8) ∈ dtext y.natAbs := by
      have h2 : dtext y.natAbs = 45 :: dtext x.natAbs := by simpa using h.symm
      rw [h2]; simp
    exact absurd this (dtext_no (by decide))
  · rw [if_neg hx, if_pos hy] at h
    have : (45 : UInt8) ∈ dtext x.natAbs := by
      have h2 : dtext x.natAbs = 45 :: dtext y.natAbs := by simpa using h
      rw [h2]; simp
    exact absurd this (dtext_no (by decide))
  · rw [if_neg hx, if_neg hy] at h
    have := dtext_inj (List.append_cancel_left h); omega
theorem tw_sl {l r : List UInt8} (h : (47 : UInt8) ∉ l) : (l ++ 47 :: r).takeWhile (fun c => c != 47) = l := by
  induction l with
  | nil => simp
  | cons c l ih =>
    have hc : c ≠ 47 := fun e => h (by rw [e]; simp)
    rw [List.cons_append, List.takeWhile_cons, if_pos (by simpa using hc), ih (fun e => h (List.mem_cons_of_mem _ e))]
theorem tw_sl' {l : List UInt8} (h : (47 : UInt8) ∉ l) : l.takeWhile (fun c => c != 47) = l := by
  refine tw_all _ _ fun c hc => ?_
  have : c ≠ 47 := fun e => h (by rw [← e]; exact hc)
  simpa using this
theorem rtext_tw (z : Int) (d : Nat) : (rtext z d).takeWhile (fun c => c != 47) = itext z := by
  unfold rtext
  split
  · exact tw_sl' (itext_sl z)
  · exact tw_sl (itext_sl z)
theorem rtext_inj {x y : Int} {p q : Nat} (h : rtext x p = rtext y q) : x = y ∧ p = q := by
  have h1 := congrArg (List.takeWhile (fun c => c != 47)) h
  rw [rtext_tw, rtext_tw] at h1
  have h2 := itext_inj h1
  subst h2
  refine ⟨rfl, ?_⟩
  unfold rtext at h
  split at h <;> split at h
  · rename_i a b; rw [a, b]
  · have := congrArg List.length h; simp at this
  · have := congrArg List.length h; simp at this
  · have := List.append_cancel_left h
    exact dtext_inj (List.cons.inj this).2
theorem unm_itext (z : Int) (r : List UInt8) : unm (itext z ++ r) = dtext z.natAbs ++ r := by
  unfold unm itext
  by_cases h : z < 0
  · rw [if_pos h]; simp
  · rw [if_neg h]
    have hne : ([] ++ dtext z.natAbs ++ r).head? ≠ some 45 := by
      cases hd : dtext z.natAbs with
      | nil => exact absurd hd (dtext_ne _)
      | cons c l =>
        have : isD c = true := dtext_dig (v := z.natAbs) (by rw [hd]; simp)
        simp
        intro e
        subst e
        revert this; decide
    rw [if_neg hne]; simp
theorem itext_len (z : Int) : (itext z).length = (if z < 0 then 1 else 0) + (dtext z.natAbs).length := by
  unfold itext
  split <;> simp <;> omega
theorem parse_text {z : Int} {d : Nat} (hd : d ≠ 0) (hg : Nat.gcd z.natAbs d = 1) (hl : (rtext z d).length ≤ 65536) (w : World) (hT : Tz w) :
    Calls Tryz.prog 14 #[.string (bs (rtext z d))] w (PPost w z d) := by
  have hs : sgn (decide (z < 0)) (dval (dtext z.natAbs)) = z := by rw [(dtext_val _).1, ra_own]
  have hi := itext_len z
  have hlen := dtext_len z.natAbs
  have hu : ∀ r, (itext z ++ r).drop (if z < 0 then 1 else 0) = dtext z.natAbs ++ r := fun r => by
    unfold itext
    by_cases h : z < 0
    · rw [if_pos h, if_pos h]; simp
    · rw [if_neg h, if_neg h]; simp
  have ht : itext z = if decide (z < 0) = true then 45 :: dtext z.natAbs else dtext z.natAbs := by
    unfold itext
    by_cases h : z < 0
    · simp [h]
    · simp [h]
  by_cases h1 : d = 1
  · subst h1
    have hr : rtext z 1 = itext z := if_pos rfl
    rw [hr] at hl ⊢
    have h := ra_Parse_whole (decide (z < 0)) (itext z) (dtext z.natAbs) (dtext z.natAbs) (if z < 0 then 1 else 0) (itext z).length hl (by have := unm_itext z []; simpa using this) (by rw [hi]; omega) (by have := hu []; simpa using this) (dtext_all _) hlen (by rw [hi]) (by rw [List.take_length]; exact ht) rfl w hT
    rw [hs] at h
    refine h.mono ?_
    rintro e w' ⟨A, n, c, D, m, k, rfl, h1, h2⟩
    exact ⟨A, n, c, D, m, k, rfl, Lib.hid ⟨h1.out.1, h1.out.2.2.1, hd, hg⟩, h2⟩
  · have hr : rtext z d = itext z ++ 47 :: dtext d := if_neg h1
    rw [hr] at hl ⊢
    have hl2 : (itext z ++ 47 :: dtext d).length = (itext z).length + 1 + (dtext d).length := by simp; omega
    have hdl := dtext_len d
    have h := ra_Parse_over (decide (z < 0)) (itext z ++ 47 :: dtext d) (dtext z.natAbs ++ 47 :: dtext d) (dtext z.natAbs) (if z < 0 then 1 else 0) (itext z).length hl (unm_itext z _) (by rw [hl2, hi]; simp; omega) (hu _)
      (by
        have e1 : ∀ l : List UInt8, (∀ c ∈ l, isD c = true) → (l ++ 47 :: dtext d).takeWhile isD = l := fun l => by
          induction l with
          | nil => intro _; rfl
          | cons c l ih => intro h; rw [List.cons_append, List.takeWhile_cons, if_pos (h c (by simp)), ih (fun c hc => h c (by simp [hc]))]
        exact e1 _ (fun c hc => dtext_dig hc))
      hlen (by rw [hi]) (by rw [List.take_left]; exact ht) (dtext d) ((itext z).length + 1) ((itext z).length + 1 + (dtext d).length) (dtext d).length (by rw [hl2]; omega) (by rw [List.getElem_append_right (Nat.le_refl _)]; simp) rfl (by rw [List.drop_append]; simp) (by rw [dtext_all]) rfl rfl hdl (by rw [(dtext_val d).1]; exact hd) w hT
    rw [hs, (dtext_val d).1] at h
    have hc := can_self hd hg
    rw [hc.1, hc.2] at h
    refine h.mono ?_
    rintro e w' ⟨A, n, c, D, m, k, rfl, h1, h2⟩
    exact ⟨A, n, c, D, m, k, rfl, Lib.hid ⟨h1.out.1, h1.out.2.2.1, hd, hg⟩, h2⟩
theorem few_text {z : Int} {d : Nat} (h : Few 5 z d) : (rtext z d).length ≤ 65536 := by
  have hb : ∀ a, (lim a).length ≤ 5 → (dtext a).length ≤ 52 := fun a ha => by
    have h1 := Nat.lt_of_lt_of_le (lim_lt a) (Nat.pow_le_pow_right (show 0 < Bs by decide) ha)
    have h2 : Bs ^ 5 ≤ 10 ^ 50 := by decide
    exact (lt_small (Nat.lt_of_lt_of_le h1 h2) (by decide)).2
  have h1 := hb _ h.1
  have h2 := hb _ h.2
  have h3 := itext_len z
  have h4 : (itext z).length ≤ 53 := by rw [h3]; split <;> omega
  unfold rtext
  split
  · omega
  · rw [List.length_append, List.length_cons]; omega
end Go.Proofs.YtnpdpjgkpjodbaaGreatDoor
end
section
/- The second law's fractions: made. -/
namespace Go.Proofs.YtnpdpjgkpjodbaaGreatDoor
open Go.RowKit
attribute [local go_sem] sz2 sz3 sz4 sz5 sz6 sz7 sz8
set_option maxHeartbeats 4000000
set_option maxRecDepth 100000
attribute [local irreducible] Calls
/-- The lower number that a raw fraction gets. -/
def rawD (v : Nat) : Nat := if v = 0 then 1 else v
theorem rl_made (s : Bool) (A : Option Addr) (n c : Nat) (xs : List Nat) (D : Option Addr) (m k : Nat) (ys : List Nat) (hn : n ≤ 9223372036854775807) (hm : m ≤ 9223372036854775807) (w : World) (hT : Tz w) (hA : Rd w A n c xs) (hD : Rd w D m k ys) :
    Calls Tryz.prog 38 #[.agg #[.bool s, .slice A n c, .slice D m k]] w (fun e w' => ∃ (A : Option Addr) (n c : Nat) (D : Option Addr) (m k : Nat), e = .returned (.tuple #[ratV (decide (canN (sgn s (val (xs.take 5))) (rawD (val (ys.take 5))) < 0)) A n c D m k, .bool true]) ∧ Hid (RaIs w' (canN (sgn s (val (xs.take 5))) (rawD (val (ys.take 5)))) (canD (sgn s (val (xs.take 5))) (rawD (val (ys.take 5)))) A n c D m k) ∧ Ext w w') := by
  have hl1 : (lim (val (xs.take 5))).length ≤ 5 := Nat.le_trans (lim_le (val_lt _ (fun x hx => hA.lb x (List.mem_of_mem_take hx)))) (List.length_take_le 5 xs)
  have hl2 : (lim (val (ys.take 5))).length ≤ 5 := Nat.le_trans (lim_le (val_lt _ (fun x hx => hD.lb x (List.mem_of_mem_take hx)))) (List.length_take_le 5 ys)
  have k1 : ∀ w', Ext w w' → Calls Tryz.prog 97 #[.slice A n c] w' fun e w'' => ∃ (B : Option Addr) (k l : Nat), e = .returned (natV B k l) ∧ Hid (Rd w'' B k l (lim (val (xs.take 5))) ∧ Fr w' B) ∧ Ext w' w'' := fun w' he => rl_cut A n c xs w' (hA.ext he) hn
  have k2 : ∀ w', Ext w w' → Calls Tryz.prog 97 #[.slice D m k] w' fun e w'' => ∃ (B : Option Addr) (k l : Nat), e = .returned (natV B k l) ∧ Hid (Rd w'' B k l (lim (val (ys.take 5))) ∧ Fr w' B) ∧ Ext w' w'' := fun w' he => rl_cut D m k ys w' (hD.ext he) hm
  clear hA hD
  generalize val (xs.take 5) = a at *
  generalize val (ys.take 5) = d at *
  go_enter Tryz.func38, Tryz.ntmps38
  go_upto_region 3 with (first
    | (go_at_call 97; (with_reducible refine (k1 _ (by (repeat (first | exact ext_refl _ | assumption | refine ext_setCell ?_ (by simp; try omega) _ | refine ext_alloc ?_ _ | refine ext_drew ?_ | refine ext_drewN ?_ _ | refine ext_trans ?_ (Aft.use _) | refine ext_trans ?_ (by assumption))))).mono ?_); rintro e w1 ⟨A1, n1, c1, rfl, hR1, xb1⟩; obtain ⟨xc1, xf1, xl1, xz1⟩ := ext_use xb1; (try simp at xz1); obtain ⟨l1_0, gc, gf⟩ := kp xb1 (w.heap.size) (by first | omega | (simp; try omega)); have r1_0 := gc 0; have f1_0 := gf 0; have r1_0_1 := gc 1; have f1_0_1 := gf 1; have r1_0_2 := gc 2; have f1_0_2 := gf 2; clear gc gf; obtain ⟨l1_1, gc, gf⟩ := kp xb1 (w.heap.size + 1) (by first | omega | (simp; try omega)); have r1_1 := gc 0; have f1_1 := gf 0; have r1_1_1 := gc 1; have f1_1_1 := gf 1; have r1_1_2 := gc 2; have f1_1_2 := gf 2; clear gc gf)
    | (go_at_call 97; (with_reducible refine (k2 _ (by (repeat (first | exact ext_refl _ | assumption | refine ext_setCell ?_ (by simp; try omega) _ | refine ext_alloc ?_ _ | refine ext_drew ?_ | refine ext_drewN ?_ _ | refine ext_trans ?_ (Aft.use _) | refine ext_trans ?_ (by assumption))))).mono ?_); rintro e w2 ⟨A2, n2, c2, rfl, hR2, xb2⟩; obtain ⟨xc2, xf2, xl2, xz2⟩ := ext_use xb2; (try simp at xz2); obtain ⟨l2_0, gc, gf⟩ := kp xb2 (w.heap.size) (by first | omega | (simp; try omega)); have r2_0 := gc 0; have f2_0 := gf 0; have r2_0_1 := gc 1; have f2_0_1 := gf 1; have r2_0_2 := gc 2; have f2_0_2 := gf 2; clear gc gf; obtain ⟨l2_1, gc, gf⟩ := kp xb2 (w.heap.size + 1) (by first | omega | (simp; try omega)); have r2_1 := gc 0; have f2_1 := gf 0; have r2_1_1 := gc 1; have f2_1_1 := gf 1; have r2_1_2 := gc 2; have f2_1_2 := gf 2; clear gc gf; obtain ⟨l2_2, gc, gf⟩ := kp xb2 (w1.heap.size) (by first | omega | (simp; try omega)); have r2_2 := gc 0; have f2_2 := gf 0; clear gc gf)
   )
  by_cases hd : d = 0
  · subst hd
    have hn2 : n2 = 0 := by have := hR2.out.1.len; rw [lim_zero] at this; simpa using this.symm
    subst hn2
    go_upto_region 5 with (fail)
    have hHT := Lib.hid hT
    have kM : ∀ w', Ext w w' → Rd w' A1 n1 c1 (lim a) → Rd w' (some ⟨w2.heap.size + 1, 0, none⟩) 1 1 (lim 1) → Calls Tryz.prog 34 #[.bool s, natV A1 n1 c1, natV (some ⟨w2.heap.size + 1, 0, none⟩) 1 1] w' (RPostF w' (canN (sgn s a) 1) (canD (sgn s a) 1)) := fun w' he h1 h2 => va_Make s A1 n1 c1 a (some ⟨w2.heap.size + 1, 0, none⟩) 1 1 1 (by decide) (by have := h1.len; omega) (by decide) w' (hHT.out.ext he) h1 h2
    have hRo : Hid (Rd ((w2.alloc (Obj.cells #[.slice (some ⟨w2.heap.size + 1, 0, none⟩) 1 1] 30)).alloc (Obj.cells #[.int .u32 1] 54)) (some ⟨w2.heap.size + 1, 0, none⟩) 1 1 (lim 1)) := by
      have h1 : lim 1 = [1] := by kernel_rfl
      rw [h1]
      exact Lib.hid (Rd.made _ _ _ [1] (fun x hx => by simp at hx; subst hx; decide) (by simp [u32V]) (by simp) (by simp) rfl)
    have lo : (lim 1).length = 1 := by kernel_rfl
    go_upto_region 6 with (first
      | (go_at_call 34; (with_reducible refine (kM _ (by (repeat (first | exact ext_refl _ | assumption | refine ext_setCell ?_ (by simp; try omega) _ | refine ext_alloc ?_ _ | refine ext_drew ?_ | refine ext_drewN ?_ _ | refine ext_trans ?_ (Aft.use _) | refine ext_trans ?_ (by assumption)))) (hR1.out.1.ext (by (repeat (first | exact ext_refl _ | assumption | refine ext_setCell ?_ (by simp; try omega) _ | refine ext_alloc ?_ _ | refine ext_drew ?_ | refine ext_drewN ?_ _ | refine ext_trans ?_ (Aft.use _) | refine ext_trans ?_ (by assumption))))) (hRo.out.ext (by (repeat (first | exact ext_refl _ | assumption | refine ext_setCell ?_ (by simp; try omega) _ | refine ext_alloc ?_ _ | refine ext_drew ?_ | refine ext_drewN ?_ _ | refine ext_trans ?_ (Aft.use _) | refine ext_trans ?_ (by assumption)))))).mono ?_); rintro e w3 ⟨A3, n3, c3, D3, m3, k3, rfl, hR3, xb3⟩; obtain ⟨xc3, xf3, xl3, xz3⟩ := ext_use xb3; (try simp at xz3); obtain ⟨l3_0, gc, gf⟩ := kp xb3 (w.heap.size + 1) (by first | omega | (simp; try omega)); have r3_0 := gc 0; have f3_0 := gf 0; have r3_0_1 := gc 1; have f3_0_1 := gf 1; have r3_0_2 := gc 2; have f3_0_2 := gf 2; clear gc gf)
     )
    have lz := lim_mono (canN_le (sgn s a) 1)
    have ld := lim_mono (canD_le (sgn s a) 1)
    rw [sgn_abs] at lz
    have kC : ∀ w', Ext w3 w' → Calls Tryz.prog 29 #[ratV (decide (canN (sgn s a) 1 < 0)) A3 n3 c3 D3 m3 k3] w' fun e w'' => e = .returned (.int .i64 0) ∧ Ext w' w'' := fun w' he => va_Check (hHT.out.ext (by have := he; (repeat (first | exact ext_refl _ | assumption | refine ext_setCell ?_ (by simp; try omega) _ | refine ext_alloc ?_ _ | refine ext_drew ?_ | refine ext_drewN ?_ _ | refine ext_trans ?_ (Aft.use _) | refine ext_trans ?_ (by assumption))))) (hR3.out.1.ext he) (by have := hR3.out.1.num.len; omega) (by have := hR3.out.1.den.len; omega)
    go_region_with (first
      | (go_at_call 29; (with_reducible refine (kC _ (by (repeat (first | exact ext_refl _ | assumption | refine ext_setCell ?_ (by simp; try omega) _ | refine ext_alloc ?_ _ | refine ext_drew ?_ | refine ext_drewN ?_ _ | refine ext_trans ?_ (Aft.use _) | refine ext_trans ?_ (by assumption))))).mono ?_); rintro e w4 ⟨rfl, xb4⟩; obtain ⟨xc4, xf4, xl4, xz4⟩ := ext_use xb4; (try simp at xz4); obtain ⟨l4_0, gc, gf⟩ := kp xb4 (w.heap.size + 1) (by first | omega | (simp; try omega)); have r4_0 := gc 0; have f4_0 := gf 0; have r4_0_1 := gc 1; have f4_0_1 := gf 1; have r4_0_2 := gc 2; have f4_0_2 := gf 2; clear gc gf)
     )
    all_goals
      have hR4 := Lib.hid (hR3.out.1.ext (show Ext w3 w4 by (repeat (first | exact ext_refl _ | assumption | refine ext_setCell ?_ (by simp; try omega) _ | refine ext_alloc ?_ _ | refine ext_drew ?_ | refine ext_drewN ?_ _ | refine ext_trans ?_ (Aft.use _) | refine ext_trans ?_ (by assumption)))))
      have n5 : ∀ x, A3 = some x → True := fun _ _ => trivial
      go_wp2_with fail
      have er : rawD 0 = 1 := if_pos rfl
      rw [er]
      have z0 : w4.cell? ⟨w.heap.size + 1, 0, none⟩ = some (.bool false) := by simp [go_sem, *]
      have z1 : w4.cell? ⟨w.heap.size + 1, 1, none⟩ = some (.slice none 0 0) := by simp [go_sem, *]
      have z2 : w4.cell? ⟨w.heap.size + 1, 2, none⟩ = some (.slice none 0 0) := by simp [go_sem, *]
      obtain ⟨q0, q1, q2⟩ := set3 (b := w.heap.size + 1) z0 z1 z2 (.bool (decide (canN (sgn s a) 1 < 0))) (.slice A3 n3 c3) (.slice D3 m3 k3)
      have n5 : ∀ a, A3 = some a → w.heap.size + 1 < a.block := fun a ha => by have := hR3.out.2.1 a ha; (try simp at this); omega
      have n6 : ∀ a, D3 = some a → w.heap.size + 1 < a.block := fun a ha => by have := hR3.out.2.2 a ha; (try simp at this); omega
      have hEE : Ext w w4 := by (repeat (first | exact ext_refl _ | assumption | refine ext_setCell ?_ (by simp; try omega) _ | refine ext_alloc ?_ _ | refine ext_drew ?_ | refine ext_drewN ?_ _ | refine ext_trans ?_ (Aft.use _) | refine ext_trans ?_ (by assumption)))
      refine bodyPost_ret (v := .tuple #[ratV (decide (canN (sgn s a) 1 < 0)) A3 n3 c3 D3 m3 k3, .bool true]) ?h rfl ⟨A3, n3, c3, D3, m3, k3, rfl, ⟨hR4.out.num.set3 n5 _ _ _, hR4.out.den.set3 n6 _ _ _, hR4.out.d0, hR4.out.low⟩, ext_set3 hEE (Nat.le_succ _) _ _ _⟩
      case h => simp [results, Tryz.results38, go_sem, q0, q1, q2]
  · have hn2 : n2 ≠ 0 := fun h => by
      have h1 := hR2.out.1.len
      rw [h] at h1
      exact hd (by have h2 := val_lim d; rw [List.eq_nil_of_length_eq_zero h1] at h2; exact h2.symm)
    have hne : (((n2 : Nat) : Int) == 0) = false := by rw [beq_eq_false_iff_ne]; omega
    have hne2 : ¬ ((n2 : Nat) : Int) = 0 := by omega
    go_upto_region 5 with (fail)
    have hHT := Lib.hid hT
    have kM : ∀ w', Ext w w' → Rd w' A1 n1 c1 (lim a) → Rd w' A2 n2 c2 (lim d) → Calls Tryz.prog 34 #[.bool s, natV A1 n1 c1, natV A2 n2 c2] w' (RPostF w' (canN (sgn s a) d) (canD (sgn s a) d)) := fun w' he h1 h2 => va_Make s A1 n1 c1 a A2 n2 c2 d hd (by have := h1.len; omega) (by have := h2.len; omega) w' (hHT.out.ext he) h1 h2
    go_upto_region 6 with (first
      | (go_at_call 34; (with_reducible refine (kM _ (by (repeat (first | exact ext_refl _ | assumption | refine ext_setCell ?_ (by simp; try omega) _ | refine ext_alloc ?_ _ | refine ext_drew ?_ | refine ext_drewN ?_ _ | refine ext_trans ?_ (Aft.use _) | refine ext_trans ?_ (by assumption)))) (hR1.out.1.ext (by (repeat (first | exact ext_refl _ | assumption | refine ext_setCell ?_ (by simp; try omega) _ | refine ext_alloc ?_ _ | refine ext_drew ?_ | refine ext_drewN ?_ _ | refine ext_trans ?_ (Aft.use _) | refine ext_trans ?_ (by assumption))))) (hR2.out.1.ext (by (repeat (first | exact ext_refl _ | assumption | refine ext_setCell ?_ (by simp; try omega) _ | refine ext_alloc ?_ _ | refine ext_drew ?_ | refine ext_drewN ?_ _ | refine ext_trans ?_ (Aft.use _) | refine ext_trans ?_ (by assumption)))))).mono ?_); rintro e w3 ⟨A3, n3, c3, D3, m3, k3, rfl, hR3, xb3⟩; obtain ⟨xc3, xf3, xl3, xz3⟩ := ext_use xb3; (try simp at xz3); obtain ⟨l3_0, gc, gf⟩ := kp xb3 (w.heap.size + 1) (by first | omega | (simp; try omega)); have r3_0 := gc 0; have f3_0 := gf 0; have r3_0_1 := gc 1; have f3_0_1 := gf 1; have r3_0_2 := gc 2; have f3_0_2 := gf 2; clear gc gf)
     )
    have lz := lim_mono (canN_le (sgn s a) d)
    have ld := lim_mono (canD_le (sgn s a) d)
    rw [sgn_abs] at lz
    have kC : ∀ w', Ext w3 w' → Calls Tryz.prog 29 #[ratV (decide (canN (sgn s a) d < 0)) A3 n3 c3 D3 m3 k3] w' fun e w'' => e = .returned (.int .i64 0) ∧ Ext w' w'' := fun w' he => va_Check (hHT.out.ext (by have := he; (repeat (first | exact ext_refl _ | assumption | refine ext_setCell ?_ (by simp; try omega) _ | refine ext_alloc ?_ _ | refine ext_drew ?_ | refine ext_drewN ?_ _ | refine ext_trans ?_ (Aft.use _) | refine ext_trans ?_ (by assumption))))) (hR3.out.1.ext he) (by have := hR3.out.1.num.len; omega) (by have := hR3.out.1.den.len; omega)
    go_region_with (first
      | (go_at_call 29; (with_reducible refine (kC _ (by (repeat (first | exact ext_refl _ | assumption | refine ext_setCell ?_ (by simp; try omega) _ | refine ext_alloc ?_ _ | refine ext_drew ?_ | refine ext_drewN ?_ _ | refine ext_trans ?_ (Aft.use _) | refine ext_trans ?_ (by assumption))))).mono ?_); rintro e w4 ⟨rfl, xb4⟩; obtain ⟨xc4, xf4, xl4, xz4⟩ := ext_use xb4; (try simp at xz4); obtain ⟨l4_0, gc, gf⟩ := kp xb4 (w.heap.size + 1) (by first | omega | (simp; try omega)); have r4_0 := gc 0; have f4_0 := gf 0; have r4_0_1 := gc 1; have f4_0_1 := gf 1; have r4_0_2 := gc 2; have f4_0_2 := gf 2; clear gc gf)
     )
    all_goals
      have hR4 := Lib.hid (hR3.out.1.ext (show Ext w3 w4 by (repeat (first | exact ext_refl _ | assumption | refine ext_setCell ?_ (by simp; try omega) _ | refine ext_alloc ?_ _ | refine ext_drew ?_ | refine ext_drewN ?_ _ | refine ext_trans ?_ (Aft.use _) | refine ext_trans ?_ (by assumption)))))
      have n5 : ∀ x, A3 = some x → True := fun _ _ => trivial
      go_wp2_with fail
      have er : rawD d = d := if_neg hd
      rw [er]
      have z0 : w4.cell? ⟨w.heap.size + 1, 0, none⟩ = some (.bool false) := by simp [go_sem, *]
      have z1 : w4.cell? ⟨w.heap.size + 1, 1, none⟩ = some (.slice none 0 0) := by simp [go_sem, *]
      have z2 : w4.cell? ⟨w.heap.size + 1, 2, none⟩ = some (.slice none 0 0) := by simp [go_sem, *]
      obtain ⟨q0, q1, q2⟩ := set3 (b := w.heap.size + 1) z0 z1 z2 (.bool (decide (canN (sgn s a) d < 0))) (.slice A3 n3 c3) (.slice D3 m3 k3)
      have n5 : ∀ a, A3 = some a → w.heap.size + 1 < a.block := fun a ha => by have := hR3.out.2.1 a ha; (try simp at this); omega
      have n6 : ∀ a, D3 = some a → w.heap.size + 1 < a.block := fun a ha => by have := hR3.out.2.2 a ha; (try simp at this); omega
      have hEE : Ext w w4 := by (repeat (first | exact ext_refl _ | assumption | refine ext_setCell ?_ (by simp; try omega) _ | refine ext_alloc ?_ _ | refine ext_drew ?_ | refine ext_drewN ?_ _ | refine ext_trans ?_ (Aft.use _) | refine ext_trans ?_ (by assumption)))
      refine bodyPost_ret (v := .tuple #[ratV (decide (canN (sgn s a) d < 0)) A3 n3 c3 D3 m3 k3, .bool true]) ?h rfl ⟨A3, n3, c3, D3, m3, k3, rfl, ⟨hR4.out.num.set3 n5 _ _ _, hR4.out.den.set3 n6 _ _ _, hR4.out.d0, hR4.out.low⟩, ext_set3 hEE (Nat.le_succ _) _ _ _⟩
      case h => simp [results, Tryz.results38, go_sem, q0, q1, q2]
end Go.Proofs.YtnpdpjgkpjodbaaGreatDoor
end
