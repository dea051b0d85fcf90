/- Lemmas of this proof, laid together: ParA, ParB, ParC, ParD, SamA. -/
import Derived.Test.YtnkajjealkggdaaGreatDoorMg07
import Derived.Test.YtnkajjealkggdaaGreatDoorMg01
import Derived.Test.YtnkajjealkggdaaGreatDoorMg19
import Derived.Test.YtnkajjealkggdaaGreatDoorMg20
import Derived.Deep.DeepCutAuto
import Derived.Shelf.Strings.SlTrimAscii
import Derived.Test.YtnkajjealkggdaaGreatDoorShelf
import Derived.Deep.RegionWith
import Derived.Test.YtnkajjealkggdaaGreatDoorMg13
import Derived.Deep.LoopGhost
set_option linter.unusedSimpArgs false
set_option linter.unusedVariables false
section
/- The program's fractions out of texts, case by case (written by mkpar.py). -/
namespace Go.Proofs.YtnkajjealkggdaaGreatDoor
open Go.RowKit
attribute [local go_sem] bs_size bs_extract bs_get bs_append bs_toList const_get
attribute [local go_sem] sz2 sz3 sz4 sz5 sz6 sz7 sz8
set_option maxHeartbeats 4000000
set_option maxRecDepth 100000
attribute [local irreducible] Calls
theorem RatRoom.tch {w w' : World} {g b : Nat} (h : RatRoom w g) (ht : Tch b w w') (hg : g ≠ b) : RatRoom w' g := by
  obtain ⟨h1, ⟨v, h2⟩, h3⟩ := h
  exact ⟨h1.tch ht hg, ⟨v, (ht.cell (p := ⟨g, 2, none⟩) h1.lt hg).trans h2⟩, (ht.frozen (p := ⟨g, 2, none⟩) h1.lt hg).trans h3⟩
theorem RatIs.room {w : World} {g : Nat} {z : Int} {A : Option Addr} {n c d : Nat} {D : Option Addr} {m e : Nat} (h : RatIs w g z A n c d D m e) : RatRoom w g := ⟨h.int.room, ⟨_, h.c2⟩, h.f2⟩
end Go.Proofs.YtnkajjealkggdaaGreatDoor
end
section
/- The program's fractions: the calls by their worths. -/
namespace Go.Proofs.YtnkajjealkggdaaGreatDoor
open Go.RowKit
attribute [local irreducible] Calls
/-- A fraction in lowest terms lies here. -/
structure RaIs (w : World) (z : Int) (d : Nat) (A : Option Addr) (n c : Nat) (D : Option Addr) (m k : Nat) : Prop where
  num : Rd w A n c (lim z.natAbs)
  den : Rd w D m k (lim d)
  d0 : d ≠ 0
  low : Nat.gcd z.natAbs d = 1
theorem RaIs.ext {w w' : World} {z : Int} {d : Nat} {A : Option Addr} {n c : Nat} {D : Option Addr} {m k : Nat} (h : RaIs w z d A n c D m k) (he : Ext w w') : RaIs w' z d A n c D m k := ⟨h.num.ext he, h.den.ext he, h.d0, h.low⟩
section
variable {w : World} {x y : Int} {p q : Nat} {A : Option Addr} {n c : Nat} {D : Option Addr} {m k : Nat} {B : Option Addr} {n2 c2 : Nat} {C : Option Addr} {m2 k2 : Nat}
end
end Go.Proofs.YtnkajjealkggdaaGreatDoor
end
section
/- The document's numbers: are two the same? -/
namespace Go.Proofs.YtnkajjealkggdaaGreatDoor
open Go.RowKit
attribute [local go_sem] sz2 sz3 sz4 sz5 sz6 sz7 sz8
set_option maxHeartbeats 4000000
set_option maxRecDepth 100000
attribute [local irreducible] Calls
theorem rb_SameNat (A B : Option Addr) (n c m d : Nat) (xs ys : List Nat) (w : World) (hA : Rd w A n c xs) (hB : Rd w B m d ys) :
    Calls Tryz.prog 17 #[natV A n c, natV B m d] w fun e w' => e = .returned (.bool (decide (xs = ys))) ∧ Ext w w' := by
  have hmx := hA.mx
  have hmy := hB.mx
  have hcx := hA.cap
  have hcy := hB.cap
  have HA := Lib.hid hA
  have HB := Lib.hid hB
  have hlx := Lib.hid hA.len
  have hly := Lib.hid hB.len
  clear hA hB
  by_cases h1 : n = m
  · subst h1
    have hW : Hid (Ext w ((w.alloc (Obj.cells #[.slice A n c] 28)).alloc (Obj.cells #[.slice B n d] 28))) := ext_alloc (ext_alloc (ext_refl w) _) _
    have HA2 := Lib.hid (HA.out.ext hW.out)
    have HB2 := Lib.hid (HB.out.ext hW.out)
    have b0 : ((w.alloc (Obj.cells #[.slice A n c] 28)).alloc (Obj.cells #[.slice B n d] 28)).cell? ⟨w.heap.size, 0, none⟩ = some (.slice A n c) := by simp [go_sem]
    have b1 : ((w.alloc (Obj.cells #[.slice A n c] 28)).alloc (Obj.cells #[.slice B n d] 28)).cell? ⟨w.heap.size + 1, 0, none⟩ = some (.slice B n d) := by simp [go_sem]
    have bz : ((w.alloc (Obj.cells #[.slice A n c] 28)).alloc (Obj.cells #[.slice B n d] 28)).heap.size = w.heap.size + 1 + 1 := by simp
    go_enter Tryz.func17, Tryz.ntmps17
    go_wp2
    go_loopw [5] (fun v wr => ∃ k : Nat, k ≤ n ∧ v = .int .i64 (k : Int) ∧ Hid (xs.take k = ys.take k) ∧ Hid (Ext ((w.alloc (Obj.cells #[.slice A n c] 28)).alloc (Obj.cells #[.slice B n d] 28)) wr)) (fun v _ => n - (intOf v).toNat)
    case atStart => exact ⟨0, Nat.zero_le _, by go_num, by show _ = _; rw [List.take_zero, List.take_zero], ext_refl _⟩
    case round =>
      obtain ⟨k, hk, rfl, hd, hext⟩ := hrel
      have c0 := (Below.cell (p := ⟨w.heap.size, 0, none⟩) hext.out (by rw [bz]; simp only; omega)).trans b0
      have c1 := (Below.cell (p := ⟨w.heap.size + 1, 0, none⟩) hext.out (by rw [bz]; simp only; omega)).trans b1
      have hwr := ext_trans hW.out hext.out
      have hext' := hext.out
      clear b0 b1 bz
      by_cases h0 : k < n
      · obtain ⟨ba, oa, hAe⟩ : ∃ b off, A = some ⟨b, off, none⟩ := by
          rcases HA.out.shape with ⟨_, h, _⟩ | h
          · omega
          · exact h
        obtain ⟨bb, ob, hBe⟩ : ∃ b off, B = some ⟨b, off, none⟩ := by
          rcases HB.out.shape with ⟨_, h, _⟩ | h
          · omega
          · exact h
        subst hAe hBe
        obtain ⟨x, hx, hxb, hcx1⟩ := (HA2.out.ext hext').get k (by omega)
        obtain ⟨y, hy, hyb, hcy1⟩ := (HB2.out.ext hext').get k (by omega)
        have hlt : decide ((k : Int) < (n : Int)) = true := decide_eq_true (by omega)
        have hsp : Hid (∀ l : List Nat, l.length = n → l.take (k + 1) = l.take k ++ [l.getD k 0]) := fun l hl => by
          rw [List.take_succ_eq_append_getElem (by omega), List.getD_eq_getElem?_getD, List.getElem?_eq_getElem (by omega)]; rfl
        have E1 := hx.out
        have E2 := hy.out
        by_cases hxy : x = y
        · subst hxy
          have hrel : Hid (xs.take (k + 1) = ys.take (k + 1)) := by show _ = _; rw [hsp.out _ hlx.out, hsp.out _ hly.out, hd.out, E1, E2]
          have hne : (((x : Nat) : Int) == ((x : Nat) : Int)) = true := by simp
          clear E1 E2 hsp hd
          go_wp2
          go_quiet (fail)
          go_wp2
          go_roundw
          case rel => exact ⟨k + 1, by omega, by go_num, hrel, (show Ext _ _ by (repeat (first | exact ext_refl _ | assumption | refine ext_setCell ?_ (by simp; try omega) _ | refine ext_alloc ?_ _ | refine ext_drew ?_ | refine ext_drewN ?_ _ | refine ext_trans ?_ (Aft.use _) | refine ext_trans ?_ (by assumption))))⟩
          case measure => simp [intOf]; omega
        · have hne : (((x : Nat) : Int) == ((y : Nat) : Int)) = false := by rw [beq_eq_false_iff_ne]; omega
          have hne2 : ¬ ((x : Nat) : Int) = ((y : Nat) : Int) := by omega
          have e : decide (xs = ys) = false := decide_eq_false (fun h => hxy (by rw [← E1, ← E2, h]))
          have E := Lib.hid e
          clear e E1 E2 hsp hd
          go_wp2
          go_quiet (fail)
          go_wp2
          go_ret
          exact ⟨by rw [E.out]; rfl, (show Ext _ _ by (repeat (first | exact ext_refl _ | assumption | refine ext_setCell ?_ (by simp; try omega) _ | refine ext_alloc ?_ _ | refine ext_drew ?_ | refine ext_drewN ?_ _ | refine ext_trans ?_ (Aft.use _) | refine ext_trans ?_ (by assumption))))⟩
      · obtain rfl : k = n := by omega
        have e : decide (xs = ys) = true := by
          have := hd.out
          rw [List.take_of_length_le (by rw [hlx.out]; exact Nat.le_refl _), List.take_of_length_le (by rw [hly.out]; exact Nat.le_refl _)] at this
          exact decide_eq_true this
        have E := Lib.hid e
        clear e
        go_wp2
        go_ret
        exact ⟨by rw [E.out]; rfl, (show Ext _ _ by (repeat (first | exact ext_refl _ | assumption | refine ext_setCell ?_ (by simp; try omega) _ | refine ext_alloc ?_ _ | refine ext_drew ?_ | refine ext_drewN ?_ _ | refine ext_trans ?_ (Aft.use _) | refine ext_trans ?_ (by assumption))))⟩
  · have e : decide (xs = ys) = false := decide_eq_false (fun h => h1 (by rw [← hlx.out, ← hly.out, h]))
    rw [e]
    clear e
    have hnm : ((n : Int) == (m : Int)) = false := by rw [beq_eq_false_iff_ne]; omega
    have hnm2 : ¬ (n : Int) = (m : Int) := by omega
    go_enter Tryz.func17, Tryz.ntmps17
    go_wp2
    go_ret
    exact ⟨rfl, (show Ext _ _ by (repeat (first | exact ext_refl _ | assumption | refine ext_setCell ?_ (by simp; try omega) _ | refine ext_alloc ?_ _ | refine ext_drew ?_ | refine ext_drewN ?_ _ | refine ext_trans ?_ (Aft.use _) | refine ext_trans ?_ (by assumption))))⟩
end Go.Proofs.YtnkajjealkggdaaGreatDoor
end
