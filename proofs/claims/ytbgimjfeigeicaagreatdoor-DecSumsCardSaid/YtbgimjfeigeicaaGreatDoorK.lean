import Derived.WalkKit
import Derived.ProofKit
import Derived.WalkLawsBesides
import Derived.WalkSpells
import Derived.Deep.QuietTactic
import Derived.BigQuiet
import Derived.Deep.Draws
import Derived.Laws.Entries
import Derived.Laws.Externs
import Derived.Laws.StructEq
import Derived.Lib.Hide
import Derived.Test.YtbgimjfeigeicaaGreatDoorReg
namespace Go.Proofs.YtbgimjfeigeicaaGreatDoor
open Go.RowKit
/-! ## sizes -/
theorem sz2 (n : Nat) : n < n + 1 + 1 := by omega
theorem sz3 (n : Nat) : n < n + 1 + 1 + 1 := by omega
theorem sz4 (n : Nat) : n < n + 1 + 1 + 1 + 1 := by omega
theorem sz5 (n : Nat) : n < n + 1 + 1 + 1 + 1 + 1 := by omega
theorem sz6 (n : Nat) : n < n + 1 + 1 + 1 + 1 + 1 + 1 := by omega
theorem sz7 (n : Nat) : n < n + 1 + 1 + 1 + 1 + 1 + 1 + 1 := by omega
theorem sz8 (n : Nat) : n < n + 1 + 1 + 1 + 1 + 1 + 1 + 1 + 1 := by omega
theorem sz9 (n : Nat) : n < n + 1 + 1 + 1 + 1 + 1 + 1 + 1 + 1 + 1 := by omega
theorem sz10 (n : Nat) : n < n + 1 + 1 + 1 + 1 + 1 + 1 + 1 + 1 + 1 + 1 := by omega
theorem sz11 (n : Nat) : n < n + 1 + 1 + 1 + 1 + 1 + 1 + 1 + 1 + 1 + 1 + 1 := by omega
theorem sz12 (n : Nat) : n < n + 1 + 1 + 1 + 1 + 1 + 1 + 1 + 1 + 1 + 1 + 1 + 1 := by omega
/-! ## worlds -/
def Ext (w w' : World) : Prop := Below w.heap.size w w'
theorem ext_refl (w : World) : Ext w w := Below.refl _ _
theorem ext_trans {a b c : World} (h : Ext a b) (k : Ext b c) : Ext a c := Below.trans h (Below.mono k h.size)
theorem ext_alloc {a w : World} (h : Ext a w) (o : Obj) : Ext a (w.alloc o) := Below.alloc h h.size o
theorem ext_drew {a w : World} (h : Ext a w) : Ext a w.drew := Below.drew h
theorem ext_drewN {a w : World} (h : Ext a w) (n : Nat) : Ext a (w.drewN n) := ⟨h.os, h.tape, h.output, h.size, h.block⟩
theorem ext_setCell {a w : World} (h : Ext a w) {p : Addr} (hp : a.heap.size ≤ p.block) (u : Value) : Ext a (w.setCell p u) := Below.setCell h hp u
theorem ext_size {w w' : World} (h : Ext w w') : w.heap.size ≤ w'.heap.size := h.size
theorem ext_use {W w1 : World} (h : Ext W w1) : (∀ b o, b < W.heap.size → w1.cell? ⟨b, o, none⟩ = W.cell? ⟨b, o, none⟩) ∧
    (∀ b o, b < W.heap.size → w1.frozen? ⟨b, o, none⟩ = W.frozen? ⟨b, o, none⟩) ∧ (∀ b, b < W.heap.size → b < w1.heap.size) ∧ W.heap.size ≤ w1.heap.size :=
  ⟨fun b o hb => Below.cell (p := ⟨b, o, none⟩) h hb, fun b o hb => Below.frozen (p := ⟨b, o, none⟩) h hb, fun _ hb => Nat.lt_of_lt_of_le hb h.size, h.size⟩
theorem ext_lt {W w1 : World} (h : Ext W w1) : ∀ b, b < W.heap.size → b < w1.heap.size := fun _ hb => Nat.lt_of_lt_of_le hb h.size
/-- A world that is as 'w' was. -/
structure Aft (w : World) where
  val : World
  ext : Ext w val
instance aftNonempty (w : World) : Nonempty (Aft w) := ⟨⟨w, ext_refl w⟩⟩
def Aft.out {w : World} (x : Aft w) : World := x.val
theorem Aft.use {w : World} (x : Aft w) : Ext w x.out := x.ext
theorem aft_use (W : World) : (∀ (n : Aft W) b o, b < W.heap.size → n.out.cell? ⟨b, o, none⟩ = W.cell? ⟨b, o, none⟩) :=
  fun n b o hb => Below.cell (p := ⟨b, o, none⟩) n.ext hb
section
variable {P : Program}
theorem wp_aft {id : Nat} {Q : Exit → Act → World → Prop} {a : Act} {w : World} {l : List Oper} (hm : P.follows .mixedOrders = true) (hB : Region.lexB .any l.toArray = true)
    (h : (∀ (n : Aft w) b o, b < w.heap.size → n.out.cell? ⟨b, o, none⟩ = w.cell? ⟨b, o, none⟩) → (∀ (n : Aft w) b o, b < w.heap.size → n.out.frozen? ⟨b, o, none⟩ = w.frozen? ⟨b, o, none⟩) →
      wpQuiet P l.toArray (fun w' => ∃ n : Aft w, w' = n.out) (fun a' => ∀ w', (∃ n : Aft w, w' = n.out) → Q .normal a' w') l a) : (Code.region id l.toArray true).wp P Q a w :=
  wp_region_quiet (C := fun w' => ∃ n : Aft w, w' = n.out) hm hB ⟨⟨_, ext_drew (ext_refl w)⟩, rfl⟩ (by
    simpa using h (fun n b o hb => Below.cell (p := ⟨b, o, none⟩) n.ext hb) (fun n b o hb => Below.frozen (p := ⟨b, o, none⟩) n.ext hb))
theorem wp_aft_tail {id : Nat} {Q : Exit → Act → World → Prop} {a : Act} {w : World} {l : List Oper} (n : Nat) (hm : P.follows .mixedOrders = true) (hB : splitB .any l.toArray n = true) (hL : Region.lexB .any (l.take n).toArray = true)
    (h : (∀ (n : Aft w) b o, b < w.heap.size → n.out.cell? ⟨b, o, none⟩ = w.cell? ⟨b, o, none⟩) → (∀ (n : Aft w) b o, b < w.heap.size → n.out.frozen? ⟨b, o, none⟩ = w.frozen? ⟨b, o, none⟩) →
      wpQuiet P (l.take n).toArray (fun w' => ∃ n : Aft w, w' = n.out) (fun a' => ∀ w', (∃ n : Aft w, w' = n.out) → wpList P l.toArray Q (l.drop n) a' w') (l.take n) a) : (Code.region id l.toArray true).wp P Q a w :=
  wp_region_quiet_tail (C := fun w' => ∃ n : Aft w, w' = n.out) n hm hB hL ⟨⟨_, ext_drew (ext_refl w)⟩, rfl⟩
    (h (fun n b o hb => Below.cell (p := ⟨b, o, none⟩) n.ext hb) (fun n b o hb => Below.frozen (p := ⟨b, o, none⟩) n.ext hb))
theorem aft_of {f : FuncId} {args : Array Value} {w : World} {n : Aft w} {v : Value}
    (h : Calls P f args n.out fun e w' => e = .returned v ∧ Ext n.out w') : Calls P f args n.out fun e w'' => e = .returned v ∧ ∃ m : Aft w, w'' = m.out :=
  h.mono fun _ _ ⟨he, hb⟩ => ⟨he, ⟨_, ext_trans n.ext hb⟩, rfl⟩
theorem aft_same {f : FuncId} {args : Array Value} {w : World} {n : Aft w} {v : Value}
    (h : Calls P f args n.out fun e w' => e = .returned v ∧ n.out = w') : Calls P f args n.out fun e w'' => e = .returned v ∧ ∃ m : Aft w, w'' = m.out :=
  h.mono fun _ _ ⟨he, hb⟩ => ⟨he, n, hb.symm⟩
theorem quiet_of_ext_same {f : FuncId} {args : Array Value} {w : World} {n : Nat} {v : Value}
    (h : Calls P f args (w.drewN n) fun e w' => e = .returned v ∧ w.drewN n = w') : Calls P f args (w.drewN n) fun e w'' => e = .returned v ∧ ∃ m, w'' = w.drewN m :=
  h.mono fun _ _ ⟨he, hm⟩ => ⟨he, n, hm.symm⟩
end
/-! ## floats -/
theorem run_store_float (P : Program) (w : World) (a : Addr) (m : Mode) (k : FloatKind) (b : Nat) : (store a (.float k b) m).run P w = stored P w a (.float k b) m := run_store P w a _ m rfl
theorem unary_neg_float (k : FloatKind) (b : Nat) : Op.unary .neg (.float k b) = pure (.float k (Op.negFloat k b)) := rfl
def feq (a b : Nat) : Bool := Ieee.double.order a b == some .eq
def fgt (a b : Nat) : Bool := Ieee.double.order a b == some .gt
def flt (a b : Nat) : Bool := Ieee.double.order a b == some .lt
def fle (a b : Nat) : Bool := Ieee.double.order a b == some .lt || Ieee.double.order a b == some .eq
section
variable (t : TypeId) (x y : Nat)
theorem run_feq : binOp .eql t (.float .f64 x) (.float .f64 y) = pure (.bool (feq x y)) := by simp [go_sem]; rfl
theorem run_fne : binOp .neq t (.float .f64 x) (.float .f64 y) = pure (.bool (!feq x y)) := by simp [go_sem]; rfl
theorem run_flt : binOp .lss t (.float .f64 x) (.float .f64 y) = pure (.bool (flt x y)) := by simp [go_sem]; rfl
theorem run_fle : binOp .leq t (.float .f64 x) (.float .f64 y) = pure (.bool (fle x y)) := by simp [go_sem]; rfl
theorem run_fgt : binOp .gtr t (.float .f64 x) (.float .f64 y) = pure (.bool (fgt x y)) := by simp [go_sem]; rfl
end
theorem datum_order_self (d : Ieee.Datum) : d.order d = none ∨ d.order d = some .eq := by
  cases d with
  | number s m i => exact .inr (by simp [Ieee.Datum.order, Std.ReflCmp.compare_self])
  | infinity s => exact .inr (by simp [Ieee.Datum.order, Std.ReflCmp.compare_self])
  | nan s f => exact .inl rfl
theorem datum_order_some (x y : Ieee.Datum) : (x.order y).isSome = true ↔ x.order x = some .eq ∧ y.order y = some .eq := by
  cases x <;> cases y <;> simp [Ieee.Datum.order, Std.ReflCmp.compare_self]
theorem fle_law (a b : Nat) : fle a b = !((!feq a a) || (!feq b b) || fgt a b) := by
  unfold fle feq fgt Ieee.Format.order
  have h := datum_order_some (Ieee.double.read a) (Ieee.double.read b)
  have ha := datum_order_self (Ieee.double.read a)
  have hb := datum_order_self (Ieee.double.read b)
  cases hab : (Ieee.double.read a).order (Ieee.double.read b) with
  | none =>
    rw [hab] at h
    rcases ha with ha | ha <;> rcases hb with hb | hb <;> simp_all
  | some o =>
    rw [hab] at h
    have := h.1 rfl
    rw [this.1, this.2]
    cases o <;> rfl
def fge (a b : Nat) : Bool := Ieee.double.order a b == some .gt || Ieee.double.order a b == some .eq
theorem run_fge (t : TypeId) (x y : Nat) : binOp .geq t (.float .f64 x) (.float .f64 y) = pure (.bool (fge x y)) := by simp [go_sem]; rfl
theorem datum_order_swap (x y : Ieee.Datum) : y.order x = (x.order y).map Ordering.swap := by
  cases x <;> cases y <;> simp [Ieee.Datum.order]
  · rw [Int.min_comm]; exact (Std.OrientedCmp.eq_swap)
  · split <;> rfl
  · split <;> rfl
  · exact (Std.OrientedCmp.eq_swap)
theorem fge_swap (a b : Nat) : fge a b = fle b a := by
  unfold fge fle Ieee.Format.order
  rw [datum_order_swap (Ieee.double.read b) (Ieee.double.read a)]
  cases (Ieee.double.read b).order (Ieee.double.read a) with
  | none => rfl
  | some o => cases o <;> rfl
/-- Neither is a NaN. -/
def ford (a b : Nat) : Bool := (Ieee.double.order a b).isSome
def fmaxB (a b : Nat) : Nat := match Ieee.double.order a b with | some .lt => b | some .gt => a | _ => if (Ieee.double.read a).neg then b else a
def fminB (a b : Nat) : Nat := match Ieee.double.order a b with | some .lt => a | some .gt => b | _ => if (Ieee.double.read a).neg then a else b
theorem run_fmax (ats : Array TypeId) (t : TypeId) (x y : Nat) (h : ford x y = true) : Builtin.max_ ats t #[.float .f64 x, .float .f64 y] = pure (.float .f64 (fmaxB x y)) := by
  unfold ford at h
  unfold Builtin.max_ fmaxB
  simp only [List.foldlM_cons, List.foldlM_nil, Builtin.max2, FloatKind.format, FloatKind.decode]
  cases hh : Ieee.double.order x y with
  | none => rw [hh] at h; cases h
  | some o => cases o <;> rfl
theorem run_fmin (ats : Array TypeId) (t : TypeId) (x y : Nat) (h : ford x y = true) : Builtin.min_ ats t #[.float .f64 x, .float .f64 y] = pure (.float .f64 (fminB x y)) := by
  unfold ford at h
  unfold Builtin.min_ fminB
  simp only [List.foldlM_cons, List.foldlM_nil, Builtin.min2, FloatKind.format, FloatKind.decode]
  cases hh : Ieee.double.order x y with
  | none => rw [hh] at h; cases h
  | some o => cases o <;> rfl
theorem ford_of {a b : Nat} (ha : feq a a = true) (hb : feq b b = true) : ford a b = true := by
  unfold ford Ieee.Format.order
  unfold feq Ieee.Format.order at ha hb
  exact (datum_order_some _ _).2 ⟨by simpa using ha, by simpa using hb⟩
def plusB (b : Nat) : Nat := if feq b 0 = true then 0 else b
theorem plus_lt {b : Nat} (hb : b < 2 ^ 64) : plusB b < 2 ^ 64 := by unfold plusB; split <;> omega
def sgB (b : Nat) : Bool := decide (2 ^ 63 ≤ b)
theorem sg_eq (b : Nat) (hb : b < 2 ^ 64) : decide (wrap64 ↑b < 0) = sgB b := by
  unfold sgB wrap64
  rw [decide_eq_decide]; omega
def maxF : Nat := 9218868437227405311
def absB (b : Nat) : Nat := (bits .andNot .u64 (b : Int) 9223372036854775808).toNat
def inf0B (b : Nat) : Bool := fgt (absB b) maxF
def infB (b : Nat) (s : Int) : Bool := fgt (if s < 0 then Op.negFloat .f64 b else b) maxF
end Go.Proofs.YtbgimjfeigeicaaGreatDoor
