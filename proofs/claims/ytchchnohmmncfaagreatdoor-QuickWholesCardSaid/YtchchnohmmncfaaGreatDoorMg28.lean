/- Lemmas of this proof, laid together: ParA, ParB, ParC, ParD, FieP, SamA, SamB, SamC, SamD, ParE, ParF, SamE, FieQ, RatR, D2A, D2C, R5A, D2D, D2E, D2B, D2P1, D2P2, D2P3, D2P4, D2P5, D2P6, D2P7, D2P8. -/
import Derived.Test.YtchchnohmmncfaaGreatDoorMg05
import Derived.Test.YtchchnohmmncfaaGreatDoorMg01
import Derived.Test.YtchchnohmmncfaaGreatDoorMg18
import Derived.Test.YtchchnohmmncfaaGreatDoorMg27
import Derived.Test.YtchchnohmmncfaaGreatDoorMg17
import Derived.Deep.DeepCutAuto
import Derived.Shelf.Strings.SlTrimAscii
import Derived.Test.YtchchnohmmncfaaGreatDoorShelf
import Derived.Deep.RegionWith
import Derived.Test.YtchchnohmmncfaaGreatDoorMg07
import Derived.Deep.LoopGhost
import Derived.Test.YtchchnohmmncfaaGreatDoorMg03
import Derived.Test.YtchchnohmmncfaaGreatDoorMg20
import Derived.Test.YtchchnohmmncfaaGreatDoorMg21
import Derived.Test.YtchchnohmmncfaaGreatDoorMg23
import Derived.Test.YtchchnohmmncfaaGreatDoorMg08
set_option linter.unusedSimpArgs false
set_option linter.unusedVariables false
section
/- The program's fractions out of texts, case by case (written by mkpar.py). -/
namespace Go.Proofs.YtchchnohmmncfaaGreatDoor
open Go.RowKit
attribute [local go_sem] bs_size bs_extract bs_get bs_append bs_toList const_get
attribute [local go_sem] sz2 sz3 sz4 sz5 sz6 sz7 sz8
set_option maxHeartbeats 4000000
set_option maxRecDepth 100000
attribute [local irreducible] Calls
theorem RatRoom.tch {w w' : World} {g b : Nat} (h : RatRoom w g) (ht : Tch b w w') (hg : g ≠ b) : RatRoom w' g := by
  obtain ⟨h1, ⟨v, h2⟩, h3⟩ := h
  exact ⟨h1.tch ht hg, ⟨v, (ht.cell (p := ⟨g, 2, none⟩) h1.lt hg).trans h2⟩, (ht.frozen (p := ⟨g, 2, none⟩) h1.lt hg).trans h3⟩
theorem RatIs.room {w : World} {g : Nat} {z : Int} {A : Option Addr} {n c d : Nat} {D : Option Addr} {m e : Nat} (h : RatIs w g z A n c d D m e) : RatRoom w g := ⟨h.int.room, ⟨_, h.c2⟩, h.f2⟩
theorem low_can (z : Int) (d : Nat) : lowD z.natAbs d = canW z d := by
  unfold lowD canW canD
  simp only [Int.natAbs_eq_zero]
end Go.Proofs.YtchchnohmmncfaaGreatDoor
end
section
/- The program's fractions: the calls by their worths. -/
namespace Go.Proofs.YtchchnohmmncfaaGreatDoor
open Go.RowKit
attribute [local irreducible] Calls
/-- A fraction in lowest terms lies here. -/
structure RaIs (w : World) (z : Int) (d : Nat) (A : Option Addr) (n c : Nat) (D : Option Addr) (m k : Nat) : Prop where
  num : Rd w A n c (lim z.natAbs)
  den : Rd w D m k (lim d)
  d0 : d ≠ 0
  low : Nat.gcd z.natAbs d = 1
theorem RaIs.ext {w w' : World} {z : Int} {d : Nat} {A : Option Addr} {n c : Nat} {D : Option Addr} {m k : Nat} (h : RaIs w z d A n c D m k) (he : Ext w w') : RaIs w' z d A n c D m k := ⟨h.num.ext he, h.den.ext he, h.d0, h.low⟩
section
variable {w : World} {x y : Int} {p q : Nat} {A : Option Addr} {n c : Nat} {D : Option Addr} {m k : Nat} {B : Option Addr} {n2 c2 : Nat} {C : Option Addr} {m2 k2 : Nat}
end
end Go.Proofs.YtchchnohmmncfaaGreatDoor
end
section
/- The second law's theorems, plainly: fractions in lowest terms are a field, and in order. -/
namespace Go.Proofs.YtchchnohmmncfaaGreatDoor
/-- A fraction of few limbs. -/
def Few (k : Nat) (z : Int) (d : Nat) : Prop := (lim z.natAbs).length ≤ k ∧ (lim d).length ≤ k
theorem Few.mono {k l : Nat} {z : Int} {d : Nat} (h : Few k z d) (hk : k ≤ l) : Few l z d := ⟨Nat.le_trans h.1 hk, Nat.le_trans h.2 hk⟩
theorem Few.mul {j k : Nat} {x y : Int} {p q : Nat} (h1 : Few j x p) (h2 : Few k y q) : Few (j + k) (x * y) (p * q) := by
  refine ⟨?_, ?_⟩
  · rw [Int.natAbs_mul]; exact Nat.le_trans (lim_mul_len _ _) (Nat.add_le_add h1.1 h2.1)
  · exact Nat.le_trans (lim_mul_len _ _) (Nat.add_le_add h1.2 h2.2)
end Go.Proofs.YtchchnohmmncfaaGreatDoor
end
section
/- The program's fractions: the calls, what is lent bound together. -/
namespace Go.Proofs.YtchchnohmmncfaaGreatDoor
open Go.RowKit
attribute [local go_sem] sz2 sz3 sz4 sz5 sz6 sz7 sz8
set_option maxHeartbeats 4000000
set_option maxRecDepth 100000
attribute [local irreducible] Calls
/-- Where a fraction lies. -/
structure FH where
  A : Option Addr
  n : Nat
  c : Nat
  D : Option Addr
  m : Nat
  k : Nat
theorem RaIs.few {k : Nat} {w : World} {x : Int} {p : Nat} {A : Option Addr} {n c : Nat} {D : Option Addr} {m l : Nat} (h : RaIs w x p A n c D m l) (hf : Few k x p) : n ≤ k ∧ m ≤ k := ⟨by rw [← h.num.len]; exact hf.1, by rw [← h.den.len]; exact hf.2⟩
section
variable {W : World} {x y : Int} {p q : Nat} {s t u : Bool} {z : Int} {d : Nat}
end
end Go.Proofs.YtchchnohmmncfaaGreatDoor
end
section
/- The document's fractions: numbers out of texts, fractions out of numbers, in new blocks. -/
namespace Go.Proofs.YtchchnohmmncfaaGreatDoor.NB
open Go.RowKit
set_option maxRecDepth 100000
attribute [local irreducible] Calls
abbrev newInt (u : World) : World := u.alloc (Obj.cells #[.bool false, .slice none 0 0] 52)
abbrev newRat (u : World) : World := u.alloc (Obj.cells #[.bool false, .slice none 0 0, .slice none 0 0] 54)
theorem room_int (u : World) : Room (newInt u) u.heap.size 0 :=
  ⟨by simp, ⟨_, by simp [go_sem]; rfl⟩, ⟨_, by simp [go_sem]; rfl⟩, by simp [go_sem], by simp [go_sem]⟩
theorem room_rat (u : World) : RatRoom (newRat u) u.heap.size :=
  ⟨⟨by simp, ⟨_, by simp [go_sem]; rfl⟩, ⟨_, by simp [go_sem]; rfl⟩, by simp [go_sem], by simp [go_sem]⟩, ⟨_, by simp [go_sem]; rfl⟩, by simp [go_sem]⟩
end Go.Proofs.YtchchnohmmncfaaGreatDoor.NB
end
section
/- The document's fractions and whole numbers: calls on new objects, by their worths. -/
namespace Go.Proofs.YtchchnohmmncfaaGreatDoor.NB
open Go.RowKit
set_option maxRecDepth 100000
attribute [local irreducible] Calls
/-- A whole number stands there; its words lie from block lo on. -/
def Iat (w : World) (g : Nat) (z : Int) (lo : Nat) : Prop := ∃ A n c, IntIs w g 0 z A n c ∧ ∀ x, A = some x → lo ≤ x.block
/-- A fraction in lowest terms stands there; its words lie from block lo on. -/
def Qat (w : World) (g : Nat) (z : Int) (d lo : Nat) : Prop := ∃ A n c p D m e, RatIs w g z A n c p D m e ∧ denOf p = d ∧ Nat.gcd z.natAbs d = 1 ∧ (∀ x, A = some x → lo ≤ x.block) ∧ ∀ x, D = some x → lo ≤ x.block
theorem Iat.ext {w w' : World} {g lo : Nat} {z : Int} (h : Iat w g z lo) (he : Ext w w') : Iat w' g z lo := by
  obtain ⟨A, n, c, h, k⟩ := h
  exact ⟨A, n, c, h.ext he, k⟩
theorem Qat.ext {w w' : World} {g lo : Nat} {z : Int} {d : Nat} (h : Qat w g z d lo) (he : Ext w w') : Qat w' g z d lo := by
  obtain ⟨A, n, c, p, D, m, e, h, h2, h3, k⟩ := h
  exact ⟨A, n, c, p, D, m, e, h.ext he, h2, h3, k⟩
theorem off_lo {A : Option Addr} {lo t : Nat} (h : ∀ x, A = some x → lo ≤ x.block) (ht : t < lo) (n : Nat) : Off A n t := fun x hx _ e => by have := h x hx; omega
theorem Iat.tch {w w' : World} {g t lo : Nat} {z : Int} (h : Iat w g z lo) (he : Tch t w w') (hg : g ≠ t) (hl : t < lo) : Iat w' g z lo := by
  obtain ⟨A, n, c, h, k⟩ := h
  exact ⟨A, n, c, h.tch he hg (off_lo k hl n), k⟩
theorem rat_tch {w w' : World} {g t : Nat} {z : Int} {A : Option Addr} {n c d : Nat} {D : Option Addr} {m e : Nat} (h : RatIs w g z A n c d D m e) (he : Tch t w w') (hg : g ≠ t) (h1 : Off A n t) (h2 : Off D m t) : RatIs w' g z A n c d D m e :=
  ⟨h.int.tch he hg h1, (he.cell (p := ⟨g, 2, none⟩) h.int.room.lt hg).trans h.c2, (he.frozen (p := ⟨g, 2, none⟩) h.int.room.lt hg).trans h.f2, h.rd.tch he h2, h.off⟩
theorem Qat.tch {w w' : World} {g t lo : Nat} {z : Int} {d : Nat} (h : Qat w g z d lo) (he : Tch t w w') (hg : g ≠ t) (hl : t < lo) : Qat w' g z d lo := by
  obtain ⟨A, n, c, p, D, m, e, h, h2, h3, k1, k2⟩ := h
  exact ⟨A, n, c, p, D, m, e, rat_tch h he hg (off_lo k1 hl n) (off_lo k2 hl m), h2, h3, k1, k2⟩
theorem Qat.d0 {w : World} {g lo : Nat} {z : Int} {d : Nat} (h : Qat w g z d lo) : d ≠ 0 := by
  obtain ⟨A, n, c, p, D, m, e, h, rfl, h3⟩ := h
  exact denOf_ne p
theorem Qat.lt {w : World} {g lo : Nat} {z : Int} {d : Nat} (h : Qat w g z d lo) : g < w.heap.size := by
  obtain ⟨A, n, c, p, D, m, e, h, -⟩ := h
  exact h.int.room.lt
theorem Qat.low {w : World} {g lo : Nat} {z : Int} {d : Nat} (h : Qat w g z d lo) : Nat.gcd z.natAbs d = 1 := by
  obtain ⟨A, n, c, p, D, m, e, h, h2, h3, -⟩ := h
  exact h3
theorem Qat.zero {w : World} {g lo : Nat} {z : Int} {d : Nat} (h : Qat w g z d lo) : Qat w g z d 0 := by
  obtain ⟨A, n, c, p, D, m, e, h, h2, h3, k1, k2⟩ := h
  exact ⟨A, n, c, p, D, m, e, h, h2, h3, fun _ _ => Nat.zero_le _, fun _ _ => Nat.zero_le _⟩
theorem Iat.lt {w : World} {g lo : Nat} {z : Int} (h : Iat w g z lo) : g < w.heap.size := by
  obtain ⟨A, n, c, h, -⟩ := h
  exact h.room.lt
abbrev IPs (w : World) (z : Int) : Ending → World → Prop := fun e w' => ∃ g : Nat, e = .returned (.pointer (some ⟨g, 0, none⟩)) ∧ Hid (Iat w' g z w.heap.size) ∧ w.heap.size ≤ g ∧ Ext w w'
abbrev QPs (w : World) (z : Int) (d : Nat) : Ending → World → Prop := fun e w' => ∃ g : Nat, e = .returned (.pointer (some ⟨g, 0, none⟩)) ∧ Hid (Qat w' g z d w.heap.size) ∧ w.heap.size ≤ g ∧ Ext w w'
/-- What comes of a call on an object that has room. -/
abbrev ITc (w : World) (g : Nat) (z : Int) : Ending → World → Prop := fun e w' => e = .returned (.pointer (some ⟨g, 0, none⟩)) ∧ Hid (Iat w' g z w.heap.size) ∧ Tch g w w'
abbrev IDv (w : World) (g : Nat) (z : Int) : Ending → World → Prop := fun e w' => e = .returned (.pointer (some ⟨g, 0, none⟩)) ∧ Hid (Iat w' g z w.heap.size) ∧ Hid (∀ U : World, Ext U w → U.heap.size ≤ g → Ext U w')
abbrev QTc (w : World) (g : Nat) (z : Int) (d : Nat) : Ending → World → Prop := fun e w' => e = .returned (.pointer (some ⟨g, 0, none⟩)) ∧ Hid (Qat w' g z d w.heap.size) ∧ Tch g w w'
theorem own_q {w : World} {g : Nat} {z : Int} {p d : Nat} (hd : denOf p = d) (hg : Nat.gcd z.natAbs d = 1) {f : FuncId} {v : Array Value} (h : Calls Tryz.prog f v w (FPost w g z p)) : Calls Tryz.prog f v w (QTc w g z d) := by
  refine h.mono ?_
  rintro e w' ⟨rfl, A, n, c, D, m, k, h3, h4⟩
  exact ⟨rfl, ⟨A, n, c, p, D, m, k, h3.out.1, hd, hg, h3.out.2.1, h3.out.2.2⟩, h4⟩
theorem own_i {w : World} {g : Nat} {z : Int} {f : FuncId} {v : Array Value} (h : Calls Tryz.prog f v w (IPost w g 0 z)) : Calls Tryz.prog f v w (ITc w g z) := by
  refine h.mono ?_
  rintro e w' ⟨rfl, A, n, c, h3, h4⟩
  exact ⟨rfl, ⟨A, n, c, h3.out.1, h3.out.2⟩, h4⟩
theorem new_n {w : World} {z : Int} {f : FuncId} {v : Array Value} (h : Calls Tryz.prog f v w (NPost w z)) : Calls Tryz.prog f v w (IPs w z) := by
  refine h.mono ?_
  rintro e w' ⟨b, B, k, l, rfl, h1, h2, h3⟩
  exact ⟨b, rfl, ⟨B, k, l, h1.out.1, h1.out.2⟩, h2, h3⟩
theorem den_small {p d L : Nat} (h : denOf p = d) (hl : (lim d).length ≤ L) : (lim p).length ≤ L := by
  by_cases h0 : p = 0
  · subst h0; rw [lim_zero]; exact Nat.zero_le _
  · have : denOf p = p := by unfold denOf; rw [if_neg h0]
    rw [this] at h
    rw [h]; exact hl
theorem o_NewInt (x : Int) (h1 : -9223372036854775808 ≤ x) (h2 : x ≤ 9223372036854775807) (w : World) : Calls Tryz.prog 25 #[.int .i64 x] w (IPs w x) := by
  refine (bi_NewInt x h1 h2 w).mono ?_
  rintro e w' ⟨g, B, k, l, rfl, hI, hg, hE⟩
  exact ⟨g, rfl, ⟨B, k, l, hI.out.1, hI.out.2⟩, hg, hE⟩
theorem o_Lsh (g b lo : Nat) (x : Int) (z : Nat) (hx : (lim x.natAbs).length ≤ 500000) (hz : z ≤ 16000000) (w : World) (hr : Room w g 0) (h : Iat w b x lo) : Calls Tryz.prog 111 #[.pointer (some ⟨g, 0, none⟩), .pointer (some ⟨b, 0, none⟩), .int .u64 (z : Int)] w (ITc w g (x * 2 ^ z)) := by
  obtain ⟨A, n, c, h, -⟩ := h
  have hl := h.rd.len
  exact own_i (bi_Lsh g 0 b 0 x z A n c (by omega) hz w hr h)
theorem o_Div (g b1 b2 lo lo2 : Nat) (x y : Int) (hy : 0 < y) (hlx : (lim x.natAbs).length ≤ 400000) (hly : (lim y.natAbs).length ≤ 400000) (w : World) (hr : Room w g 0) (hx : Iat w b1 x lo) (hyy : Iat w b2 y lo2) (h1 : b1 ≠ g) (h2 : b2 ≠ g) : Calls Tryz.prog 113 #[.pointer (some ⟨g, 0, none⟩), .pointer (some ⟨b1, 0, none⟩), .pointer (some ⟨b2, 0, none⟩)] w (IDv w g (x / y)) := by
  obtain ⟨A, n, c, hx, -⟩ := hx
  obtain ⟨B, m, d, hyy, -⟩ := hyy
  have l1 := hx.rd.len
  have l2 := hyy.rd.len
  refine (bi_Div g b1 b2 x y hy h1 h2 A n c B m d (by omega) (by omega) w hr hx hyy).mono ?_
  rintro e w' ⟨rfl, A, n, c, h3, h4⟩
  exact ⟨rfl, ⟨A, n, c, h3.out.1, h3.out.2⟩, h4⟩
theorem o_IAdd (g b1 b2 lo lo2 : Nat) (x y : Int) (hlx : (lim x.natAbs).length ≤ 100000) (hly : (lim y.natAbs).length ≤ 100000) (w : World) (hr : Room w g 0) (hx : Iat w b1 x lo) (hyy : Iat w b2 y lo2) : Calls Tryz.prog 33 #[.pointer (some ⟨g, 0, none⟩), .pointer (some ⟨b1, 0, none⟩), .pointer (some ⟨b2, 0, none⟩)] w (ITc w g (x + y)) := by
  obtain ⟨A, n, c, hx, -⟩ := hx
  obtain ⟨B, m, d, hyy, -⟩ := hyy
  have l1 := hx.rd.len
  have l2 := hyy.rd.len
  exact own_i (bi_Add g 0 b1 0 b2 0 x y A n c B m d (by omega) (by omega) w hr hx hyy)
theorem o_IMul (g b1 b2 lo lo2 : Nat) (x y : Int) (hlx : (lim x.natAbs).length ≤ 100000) (hly : (lim y.natAbs).length ≤ 100000) (w : World) (hr : Room w g 0) (hx : Iat w b1 x lo) (hyy : Iat w b2 y lo2) : Calls Tryz.prog 32 #[.pointer (some ⟨g, 0, none⟩), .pointer (some ⟨b1, 0, none⟩), .pointer (some ⟨b2, 0, none⟩)] w (ITc w g (x * y)) := by
  obtain ⟨A, n, c, hx, -⟩ := hx
  obtain ⟨B, m, d, hyy, -⟩ := hyy
  have l1 := hx.rd.len
  have l2 := hyy.rd.len
  exact own_i (bi_Mul g 0 b1 0 b2 0 x y A n c B m d (by omega) (by omega) w hr hx hyy)
theorem o_SetInt (g b lo : Nat) (z : Int) (hl : (lim z.natAbs).length ≤ 1000000) (w : World) (hr : RatRoom w g) (h : Iat w b z lo) : Calls Tryz.prog 20 #[.pointer (some ⟨g, 0, none⟩), .pointer (some ⟨b, 0, none⟩)] w (QTc w g z 1) := by
  obtain ⟨A, n, c, h, -⟩ := h
  have hl2 := h.rd.len
  exact own_q (by unfold denOf; rw [if_pos rfl]) (Nat.gcd_one_right _) (br_SetInt g b z A n c (by omega) w hr h)
theorem o_SetInt64 (g : Nat) (x : Int) (h1 : -9223372036854775808 ≤ x) (h2 : x ≤ 9223372036854775807) (w : World) (hr : RatRoom w g) : Calls Tryz.prog 76 #[.pointer (some ⟨g, 0, none⟩), .int .i64 x] w (QTc w g x 1) :=
  own_q (by unfold denOf; rw [if_pos rfl]) (Nat.gcd_one_right _) (br_SetInt64 g x h1 h2 w hr)
theorem o_Mul (g b1 b2 l l' : Nat) (x y : Int) (p q : Nat) (l1 : (lim x.natAbs).length ≤ 50000) (l2 : (lim p).length ≤ 50000) (l3 : (lim y.natAbs).length ≤ 50000) (l4 : (lim q).length ≤ 50000) (w : World) (hT : Tz w) (hr : RatRoom w g) (hx : Qat w b1 x p l) (hy : Qat w b2 y q l') :
    Calls Tryz.prog 73 #[.pointer (some ⟨g, 0, none⟩), .pointer (some ⟨b1, 0, none⟩), .pointer (some ⟨b2, 0, none⟩)] w (QTc w g (canN (x * y) (p * q)) (canD (x * y) (p * q))) := by
  obtain ⟨A, n, c, p', D, m, e, hx, rfl, gx, -⟩ := hx
  obtain ⟨B, n2, c2, q', C, m2, e2, hy, rfl, gy, -⟩ := hy
  have k1 := hx.int.rd.len
  have k2 := hx.rd.len
  have k3 := hy.int.rd.len
  have k4 := hy.rd.len
  have k5 := den_small rfl l2
  have k6 := den_small rfl l4
  have hd : denOf p' * denOf q' ≠ 0 := Nat.mul_ne_zero (denOf_ne _) (denOf_ne _)
  exact own_q (canW_den hd) (can_gcd hd) (br_Mul g b1 b2 x y p' q' gx gy A n c D m e B n2 c2 C m2 e2 (by omega) (by omega) (by omega) (by omega) w hT hr hx hy)
theorem o_Sub (g b1 b2 l l' : Nat) (x y : Int) (p q : Nat) (l1 : (lim x.natAbs).length ≤ 50000) (l2 : (lim p).length ≤ 50000) (l3 : (lim y.natAbs).length ≤ 50000) (l4 : (lim q).length ≤ 50000) (W w : World) (hW : Ext W w) (hg : W.heap.size ≤ g) (hT : Tz w) (hr : RatRoom w g) (hx : Qat W b1 x p l) (hy : Qat w b2 y q l') (hgl : g < l') :
    Calls Tryz.prog 114 #[.pointer (some ⟨g, 0, none⟩), .pointer (some ⟨b1, 0, none⟩), .pointer (some ⟨b2, 0, none⟩)] w (QTc w g (canN (x * q - y * p) (p * q)) (canD (x * q - y * p) (p * q))) := by
  obtain ⟨A, n, c, p', D, m, e, hx, rfl, gx, -⟩ := hx
  obtain ⟨B, n2, c2, q', C, m2, e2, hy, rfl, gy, -, f2⟩ := hy
  have k1 := hx.int.rd.len
  have k2 := hx.rd.len
  have k3 := hy.int.rd.len
  have k4 := hy.rd.len
  have k5 := den_small rfl l2
  have k6 := den_small rfl l4
  have hd : denOf p' * denOf q' ≠ 0 := Nat.mul_ne_zero (denOf_ne _) (denOf_ne _)
  exact own_q (canW_den hd) (can_gcd hd) (br_Sub g b1 b2 x y p' q' gx gy A n c D m e B n2 c2 C m2 e2 (by omega) (by omega) (by omega) (by omega) w hT hr (hx.ext hW) hy (hx.rd.off hg) (off_lo f2 hgl m2))
theorem o_Quo (g b1 b2 l l' : Nat) (x y : Int) (p q : Nat) (hy0 : 0 < y) (l1 : (lim x.natAbs).length ≤ 50000) (l2 : (lim p).length ≤ 50000) (l3 : (lim y.natAbs).length ≤ 50000) (l4 : (lim q).length ≤ 50000) (w : World) (hT : Tz w) (hr : RatRoom w g) (hx : Qat w b1 x p l) (hy : Qat w b2 y q l') :
    Calls Tryz.prog 84 #[.pointer (some ⟨g, 0, none⟩), .pointer (some ⟨b1, 0, none⟩), .pointer (some ⟨b2, 0, none⟩)] w (QTc w g (canN (x * q) (p * y.natAbs)) (canD (x * q) (p * y.natAbs))) := by
  obtain ⟨A, n, c, p', D, m, e, hx, rfl, gx, -⟩ := hx
  obtain ⟨B, n2, c2, q', C, m2, e2, hy, rfl, gy, -⟩ := hy
  have k1 := hx.int.rd.len
  have k2 := hx.rd.len
  have k3 := hy.int.rd.len
  have k4 := hy.rd.len
  have k5 := den_small rfl l2
  have k6 := den_small rfl l4
  have hd : denOf p' * y.natAbs ≠ 0 := Nat.mul_ne_zero (denOf_ne _) (by omega)
  have h := br_Quo g b1 b2 x y p' q' (by omega) gx gy A n c D m e B n2 c2 C m2 e2 (by omega) (by omega) (by omega) (by omega) w hT hr hx hy
  have es : sgn (!(decide (x < 0) == decide (y < 0))) (x.natAbs * denOf q' : Nat) = x * (denOf q' : Int) := by
    rw [decide_eq_false (show ¬ y < 0 by omega)]
    have e1 : (!(decide (x < 0) == false)) = decide (x < 0) := by cases decide (x < 0) <;> rfl
    rw [e1]
    unfold sgn
    by_cases hx0 : x < 0
    · rw [if_pos (decide_eq_true hx0), Int.natCast_mul, ← Int.neg_mul]
      congr 1; omega
    · rw [if_neg (by rw [decide_eq_false hx0]; decide), Int.natCast_mul]
      congr 1; omega
  rw [es] at h
  exact own_q (canW_den hd) (can_gcd hd) h
theorem o_Cmp (b1 b2 l l' : Nat) (x y : Int) (p q : Nat) (l1 : (lim x.natAbs).length ≤ 50000) (l2 : (lim p).length ≤ 50000) (l3 : (lim y.natAbs).length ≤ 50000) (l4 : (lim q).length ≤ 50000) (w : World) (hx : Qat w b1 x p l) (hy : Qat w b2 y q l') : Calls Tryz.prog 40 #[.pointer (some ⟨b1, 0, none⟩), .pointer (some ⟨b2, 0, none⟩)] w fun e w' => e = .returned (.int .i64 (x * (q : Int) - y * (p : Int)).sign) ∧ Ext w w' := by
  obtain ⟨A, n, c, p', D, m, e, hx, rfl, gx, -⟩ := hx
  obtain ⟨B, n2, c2, q', C, m2, e2, hy, rfl, gy, -⟩ := hy
  have k1 := hx.int.rd.len
  have k2 := hx.rd.len
  have k3 := hy.int.rd.len
  have k4 := hy.rd.len
  have k5 := den_small rfl l2
  have k6 := den_small rfl l4
  exact br_Cmp b1 b2 x y p' q' A n c D m e B n2 c2 C m2 e2 (by omega) (by omega) (by omega) (by omega) w hx hy
theorem o_Sign (b l : Nat) (x : Int) (p : Nat) (w : World) (hx : Qat w b x p l) : Calls Tryz.prog 34 #[.pointer (some ⟨b, 0, none⟩)] w fun e w' => e = .returned (.int .i64 x.sign) ∧ Ext w w' := by
  obtain ⟨A, n, c, p', D, m, e, hx, rfl, gx, -⟩ := hx
  exact br_Sign b x A n c w hx.int
theorem o_Num (b l : Nat) (x : Int) (p : Nat) (l1 : (lim x.natAbs).length ≤ 1000000) (w : World) (hx : Qat w b x p l) : Calls Tryz.prog 68 #[.pointer (some ⟨b, 0, none⟩)] w (IPs w x) := by
  obtain ⟨A, n, c, p', D, m, e, hx, rfl, gx, -⟩ := hx
  have k1 := hx.int.rd.len
  exact new_n (br_Num b x A n c p' D m e (by omega) w hx)
theorem o_Denom (b l : Nat) (x : Int) (p : Nat) (l2 : (lim p).length ≤ 900000) (w : World) (hx : Qat w b x p l) : Calls Tryz.prog 70 #[.pointer (some ⟨b, 0, none⟩)] w (IPs w (p : Nat)) := by
  obtain ⟨A, n, c, p', D, m, e, hx, rfl, gx, -⟩ := hx
  have k2 := hx.rd.len
  have k5 := den_small rfl l2
  exact new_n (br_Denom b x A n c p' D m e (by omega) w hx)
theorem o_BitLen (b l : Nat) (x : Int) (l1 : (lim x.natAbs).length ≤ 1000000) (w : World) (hx : Iat w b x l) : Calls Tryz.prog 69 #[.pointer (some ⟨b, 0, none⟩)] w fun e w' => e = .returned (.int .i64 (bitsOf x.natAbs : Nat)) ∧ Ext w w' := by
  obtain ⟨A, n, c, hx, -⟩ := hx
  have k1 := hx.rd.len
  exact bi_BitLen b 0 x A n c (by omega) w hx
theorem o_Uint64 (b v l : Nat) (hv : v < 18446744073709551616) (w : World) (hx : Iat w b (v : Int) l) : Calls Tryz.prog 77 #[.pointer (some ⟨b, 0, none⟩)] w fun e w' => e = .returned (.int .u64 (v : Int)) ∧ Ext w w' := by
  obtain ⟨A, n, c, hx, -⟩ := hx
  exact bi_Uint64 b 0 v A n c hv w hx
theorem o_Bit0 (b v l : Nat) (w : World) (hx : Iat w b (v : Int) l) : Calls Tryz.prog 116 #[.pointer (some ⟨b, 0, none⟩), .int .i64 0] w fun e w' => e = .returned (.int .u64 ((v % 2 : Nat) : Int)) ∧ Ext w w' := by
  obtain ⟨A, n, c, hx, -⟩ := hx
  exact bi_Bit0 b 0 v A n c w hx
/-- A new object's room lasts. -/
theorem room_tch {w w' : World} {g t : Nat} (h : RatRoom w g) (ht : Tch t w w') (hg : g ≠ t) : RatRoom w' g := by
  obtain ⟨h1, ⟨v, h2⟩, h3⟩ := h
  exact ⟨h1.tch ht hg, ⟨v, (ht.cell (p := ⟨g, 2, none⟩) h1.lt hg).trans h2⟩, (ht.frozen (p := ⟨g, 2, none⟩) h1.lt hg).trans h3⟩
end Go.Proofs.YtchchnohmmncfaaGreatDoor.NB
end
