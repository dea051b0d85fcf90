/- Lemmas of this proof, laid together: NatX, NtA, NtB, NtC, NtE, NtD. -/
import Derived.Test.YtkhkoeibpkglkaaGreatDoorRows
import Derived.Test.YtkhkoeibpkglkaaGreatDoorMg04
import Derived.Test.YtkhkoeibpkglkaaGreatDoorMg05
import Derived.Test.YtkhkoeibpkglkaaGreatDoorMg06
import Derived.Test.YtkhkoeibpkglkaaGreatDoorMg07
import Derived.Test.YtkhkoeibpkglkaaGreatDoorMg01
import Derived.Laws.Bits64b
import Derived.Laws.Bits64
set_option linter.unusedSimpArgs false
set_option linter.unusedVariables false
section
/- The document reads digits. -/
namespace Go.Proofs.YtkhkoeibpkglkaaGreatDoor
open Go.RowKit
attribute [local go_sem] bs_size bs_extract bs_get bs_append bs_toList const_get
attribute [local go_sem] sz2 sz3 sz4 sz5 sz6 sz7 sz8
set_option maxHeartbeats 4000000
set_option maxRecDepth 100000
attribute [local irreducible] Calls
theorem lim_one {T : Nat} (h0 : 0 < T) (h : T < Bs) : lim T = [T] := by
  rw [lim_pos (by omega), Nat.mod_eq_of_lt h, Nat.div_eq_of_lt h, lim_zero]
end Go.Proofs.YtkhkoeibpkglkaaGreatDoor
end
section
/- The program's natural numbers: the small ones. -/
namespace Go.Proofs.YtkhkoeibpkglkaaGreatDoor
open Go.RowKit
attribute [local go_sem] sz2 sz3 sz4 sz5 sz6 sz7 sz8
set_option maxHeartbeats 4000000
set_option maxRecDepth 100000
attribute [local irreducible] Calls
theorem Rd.full {w : World} {A : Option Addr} {n c : Nat} {xs : List Nat} (h : Rd w A n c xs) {k : Nat} (hk : k ≤ n) (h0 : 0 < k) : Rd w A k k (xs.take k) :=
  have h1 := h.take hk
  ⟨h1.len, Nat.le_refl _, Nat.le_trans (Nat.le_trans hk h.cap) h.mx, h1.lb, (fun e => by have := h.none_ e; have := h.cap; omega), h1.at_, h1.cells⟩
theorem trimmed_any (A : Option Addr) (n c : Nat) (xs : List Nat) (w : World) (hR : Rd w A n c xs) :
    Calls Tryz.prog 110 #[.slice A n c] w fun e w' => ∃ (A' : Option Addr) (k : Nat), e = .returned (natV A' k k) ∧ Hid ((∀ w0, Rd w0 A n c xs → Rd w0 A' k k (lim (val xs))) ∧ ∀ a, A' = some a → A = some a) ∧ Ext w w' := by
  have hmx := hR.mx
  have hcap := hR.cap
  have hlb := Lib.hid hR.lb
  rcases hR.shape with ⟨rfl, rfl, rfl, rfl⟩ | ⟨b, off, rfl⟩
  · clear hR
    go_enter Tryz.func110, Tryz.ntmps110
    go_wp2
    go_loop [3] (fun v => v = .int .i64 0) (fun v => (intOf v).toNat)
    case atStart => rfl
    case round =>
      subst hrel
      go_wp2
      refine bodyPost_ret (v := natV none 0 0) ?h rfl ⟨none, 0, rfl, ⟨fun w0 _ => ?_, fun a h => by cases h⟩, ?_⟩
      case h => simp [results, Tryz.results110, go_sem]
      · rw [show val [] = 0 from rfl, lim_zero]; exact Rd.nil _
      · (repeat (first | exact ext_refl _ | assumption | refine ext_setCell ?_ (by simp; try omega) _ | refine ext_alloc ?_ _ | refine ext_drew ?_ | refine ext_drewN ?_ _ | refine ext_trans ?_ (Aft.use _) | refine ext_trans ?_ (by assumption)))
  · have HR := Lib.hid hR
    have hlen := Lib.hid hR.len
    clear hR
    have hblt : 0 < n → b < w.heap.size := fun h => (HR.out.cells b off rfl 0 (by rw [hlen.out]; exact h)).1
    go_enter Tryz.func110, Tryz.ntmps110
    go_wp2
    go_loop [3] (fun v => ∃ k : Nat, k ≤ n ∧ v = .int .i64 k ∧ Hid (trimZ (xs.take k) = trimZ xs)) (fun v => (intOf v).toNat)
    case atStart => exact ⟨n, Nat.le_refl _, rfl, by show trimZ (xs.take n) = trimZ xs; rw [← hlen.out, List.take_length]⟩
    case round =>
      obtain ⟨k, hk, rfl, hT⟩ := hrel
      by_cases h0 : 0 < k
      · obtain ⟨x, hx, hb, hc⟩ := HR.out.get (k - 1) (by omega)
        have hbl := hblt (by omega)
        have hcell : w.cell? ⟨b, off + (k - 1), none⟩ = some (.int .u32 (x : Int)) := hc
        have hsnoc : Hid (xs.take k = xs.take (k - 1) ++ [x]) := by
          have hl : k - 1 < xs.length := by rw [hlen.out]; omega
          have := List.take_succ_eq_append_getElem hl
          rw [show k - 1 + 1 = k by omega] at this
          show xs.take k = xs.take (k - 1) ++ [x]
          rw [this, ← hx.out, List.getD_eq_getElem?_getD, List.getElem?_eq_getElem hl]; rfl
        clear hblt
        by_cases hz : x = 0
        · subst hz
          go_wp2
          go_round
          case rel => exact ⟨k - 1, by omega, by go_num, by show trimZ _ = _; rw [← hT.out, hsnoc.out, trimZ_snoc, if_pos rfl]⟩
          case measure => simp [intOf]; omega
        · have hne : ((x : Int) == 0) = false := by rw [beq_eq_false_iff_ne]; omega
          have hk0 : ((k : Int) == 0) = false := by rw [beq_eq_false_iff_ne]; omega
          have HZ := Lib.hid hz
          clear hz
          go_wp2
          have e : lim (val xs) = xs.take k := by rw [← trimZ_lim xs hlb.out, ← hT.out, hsnoc.out, trimZ_snoc, if_neg HZ.out]
          refine bodyPost_ret (v := natV (some ⟨b, off, none⟩) k k) ?h rfl ⟨_, k, rfl, ⟨fun w0 h00 => ?_, fun a h => by simpa using h⟩, ?_⟩
          case h => simp [results, Tryz.results110, go_sem]
          · rw [e]
            exact h00.full hk h0
          · (repeat (first | exact ext_refl _ | assumption | refine ext_setCell ?_ (by simp; try omega) _ | refine ext_alloc ?_ _ | refine ext_drew ?_ | refine ext_drewN ?_ _ | refine ext_trans ?_ (Aft.use _) | refine ext_trans ?_ (by assumption)))
      · have : k = 0 := by omega
        subst this
        have e : lim (val xs) = [] := by rw [← trimZ_lim xs hlb.out, ← hT.out]; rfl
        have HE := Lib.hid e
        clear e h0 hblt
        go_wp2
        refine bodyPost_ret (v := natV none 0 0) ?h rfl ⟨none, 0, rfl, ⟨fun w0 _ => ?_, fun a h => by cases h⟩, ?_⟩
        case h => simp [results, Tryz.results110, go_sem]
        · rw [HE.out]; exact Rd.nil _
        · (repeat (first | exact ext_refl _ | assumption | refine ext_setCell ?_ (by simp; try omega) _ | refine ext_alloc ?_ _ | refine ext_drew ?_ | refine ext_drewN ?_ _ | refine ext_trans ?_ (Aft.use _) | refine ext_trans ?_ (by assumption)))
theorem nfits_any (A : Option Addr) (n c : Nat) (xs : List Nat) (w : World) (hR : Rd w A n c xs) (hs : (lim (val xs)).length ≤ 16384) :
    Calls Tryz.prog 109 #[.slice A n c] w fun e w' => ∃ (A' : Option Addr) (k : Nat), e = .returned (.tuple #[natV A' k k, .int .i64 0]) ∧ Hid ((∀ w0, Rd w0 A n c xs → Rd w0 A' k k (lim (val xs))) ∧ ∀ a, A' = some a → A = some a) ∧ Ext w w' := by
  have ht : ∀ w', Hid (Ext w w') → Calls Tryz.prog 110 #[.slice A n c] w' fun e w'' => ∃ (A' : Option Addr) (k : Nat), (e = .returned (natV A' k k) ∧ k ≤ 16384) ∧ Hid ((∀ w0, Rd w0 A n c xs → Rd w0 A' k k (lim (val xs))) ∧ ∀ a, A' = some a → A = some a) ∧ Ext w' w'' := fun w' he => by
    refine (trimmed_any A n c xs w' (hR.ext he.out)).mono ?_
    rintro e w'' ⟨A', k, he2, h1, h2⟩
    exact ⟨A', k, ⟨he2, by have := (h1.out.1 _ (hR.ext he.out)).len; omega⟩, h1, h2⟩
  clear hR hs
  go_enter Tryz.func109, Tryz.ntmps109
  go_wp2_with (first
    | (go_at_call 110; (with_reducible refine (ht _ (Lib.hid (by (repeat (first | exact ext_refl _ | assumption | refine ext_setCell ?_ (by simp; try omega) _ | refine ext_alloc ?_ _ | refine ext_drew ?_ | refine ext_drewN ?_ _ | refine ext_trans ?_ (Aft.use _) | refine ext_trans ?_ (by assumption)))))).mono ?_); rintro e w1 ⟨A', k, ⟨rfl, hk⟩, hR, xb1⟩; obtain ⟨xc1, xf1, xl1, xz1⟩ := ext_use xb1; (try simp at xz1); obtain ⟨l1_0, gc, gf⟩ := kp xb1 (w.heap.size) (by first | omega | (simp; try omega)); have r1_0 := gc 0; have f1_0 := gf 0; clear gc gf)
   )
  refine bodyPost_ret (v := .tuple #[natV A' k k, .int .i64 0]) ?h rfl ⟨A', k, rfl, hR, ?_⟩
  case h => simp [results, Tryz.results109, go_sem, *]
  repeat (first | exact ext_refl _ | assumption | refine ext_setCell ?_ (by simp; try omega) _ | refine ext_alloc ?_ _ | refine ext_drew ?_ | refine ext_drewN ?_ _ | refine ext_trans ?_ (Aft.use _) | refine ext_trans ?_ (by assumption))
theorem ncheck_any (A : Option Addr) (n c : Nat) (xs : List Nat) (w : World) (hR : Rd w A n c xs) :
    Calls Tryz.prog 105 #[natV A n c] w fun e w' => e = .returned (.int .i64 (chk xs : Nat)) ∧ Ext w w' := by
  have hmx := hR.mx
  have hcx := hR.cap
  have hlen := Lib.hid hR.len
  by_cases h1 : 16384 < n
  · have e : chk xs = 4 := by unfold chk; rw [if_pos (by rw [hlen.out]; omega)]
    rw [e]
    clear e hR
    go_enter Tryz.func105, Tryz.ntmps105
    go_wp2
    refine bodyPost_ret (v := _) ?h rfl ⟨rfl, ?_⟩
    case h => simp [results, Tryz.results105, go_sem]
    repeat (first | exact ext_refl _ | assumption | refine ext_setCell ?_ (by simp; try omega) _ | refine ext_alloc ?_ _ | refine ext_drew ?_ | refine ext_drewN ?_ _ | refine ext_trans ?_ (Aft.use _) | refine ext_trans ?_ (by assumption))
  rcases hR.shape with ⟨rfl, rfl, rfl, rfl⟩ | ⟨b, off, rfl⟩
  · clear hR
    have e : chk [] = 0 := rfl
    rw [e]
    clear e
    go_enter Tryz.func105, Tryz.ntmps105
    go_wp2
    refine bodyPost_ret (v := _) ?h rfl ⟨rfl, ?_⟩
    case h => simp [results, Tryz.results105, go_sem]
    repeat (first | exact ext_refl _ | assumption | refine ext_setCell ?_ (by simp; try omega) _ | refine ext_alloc ?_ _ | refine ext_drew ?_ | refine ext_drewN ?_ _ | refine ext_trans ?_ (Aft.use _) | refine ext_trans ?_ (by assumption))
  by_cases h0 : n = 0
  · have e : chk xs = 0 := by unfold chk; rw [if_neg (by rw [hlen.out]; omega), if_neg (by rw [hlen.out]; omega)]
    rw [e]
    clear e hR
    subst h0
    go_enter Tryz.func105, Tryz.ntmps105
    go_wp2
    refine bodyPost_ret (v := _) ?h rfl ⟨rfl, ?_⟩
    case h => simp [results, Tryz.results105, go_sem]
    repeat (first | exact ext_refl _ | assumption | refine ext_setCell ?_ (by simp; try omega) _ | refine ext_alloc ?_ _ | refine ext_drew ?_ | refine ext_drewN ?_ _ | refine ext_trans ?_ (Aft.use _) | refine ext_trans ?_ (by assumption))
  obtain ⟨x, hx, hxb, hc⟩ := hR.get (n - 1) (by omega)
  have hb : b < w.heap.size := World.block_lt_of_cell? w _ hc
  have e : chk xs = if x = 0 then 10 else 0 := by
    unfold chk
    rw [if_neg (by rw [hlen.out]; omega), hlen.out, hx.out]
    by_cases h : x = 0
    · rw [if_pos ⟨by omega, h⟩, if_pos h]
    · rw [if_neg (fun h' => h h'.2), if_neg h]
  rw [e]
  clear e hR
  by_cases hz : x = 0
  · subst hz
    rw [if_pos rfl]
    go_enter Tryz.func105, Tryz.ntmps105
    go_wp2
    refine bodyPost_ret (v := _) ?h rfl ⟨rfl, ?_⟩
    case h => simp [results, Tryz.results105, go_sem]
    repeat (first | exact ext_refl _ | assumption | refine ext_setCell ?_ (by simp; try omega) _ | refine ext_alloc ?_ _ | refine ext_drew ?_ | refine ext_drewN ?_ _ | refine ext_trans ?_ (Aft.use _) | refine ext_trans ?_ (by assumption))
  · rw [if_neg hz]
    have hne : ((x : Int) == 0) = false := by simp; omega
    clear hz
    go_enter Tryz.func105, Tryz.ntmps105
    go_wp2
    refine bodyPost_ret (v := _) ?h rfl ⟨rfl, ?_⟩
    case h => simp [results, Tryz.results105, go_sem]
    repeat (first | exact ext_refl _ | assumption | refine ext_setCell ?_ (by simp; try omega) _ | refine ext_alloc ?_ _ | refine ext_drew ?_ | refine ext_drewN ?_ _ | refine ext_trans ?_ (Aft.use _) | refine ext_trans ?_ (by assumption))
theorem bits_and32 (a b : Nat) (ha : a < 4294967296) (hb : b < 4294967296) : bits .and .u32 (a : Int) (b : Int) = ((a &&& b : Nat) : Int) := by
  have hx : a &&& b < 2 ^ 32 := Nat.and_lt_two_pow _ (by omega)
  have h1 : (BitVec.ofInt 32 (a : Int)).toNat = a := by
    rw [BitVec.ofInt_natCast, BitVec.toNat_ofNat]; exact Nat.mod_eq_of_lt (by omega)
  have h2 : (BitVec.ofInt 32 (b : Int)).toNat = b := by
    rw [BitVec.ofInt_natCast, BitVec.toNat_ofNat]; exact Nat.mod_eq_of_lt (by omega)
  show IntKind.u32.wrap ((BitVec.ofInt 32 (a : Int) &&& BitVec.ofInt 32 (b : Int)).toNat : Int) = _
  rw [BitVec.toNat_and, h1, h2, IntKind.wrap_u32]
  omega
theorem bits_or32 (a b : Nat) (ha : a < 4294967296) (hb : b < 4294967296) : bits .or .u32 (a : Int) (b : Int) = ((a ||| b : Nat) : Int) := by
  have hx : a ||| b < 2 ^ 32 := Nat.or_lt_two_pow (by omega) (by omega)
  have h1 : (BitVec.ofInt 32 (a : Int)).toNat = a := by
    rw [BitVec.ofInt_natCast, BitVec.toNat_ofNat]; exact Nat.mod_eq_of_lt (by omega)
  have h2 : (BitVec.ofInt 32 (b : Int)).toNat = b := by
    rw [BitVec.ofInt_natCast, BitVec.toNat_ofNat]; exact Nat.mod_eq_of_lt (by omega)
  show IntKind.u32.wrap ((BitVec.ofInt 32 (a : Int) ||| BitVec.ofInt 32 (b : Int)).toNat : Int) = _
  rw [BitVec.toNat_or, h1, h2, IntKind.wrap_u32]
  omega
theorem bits_xor32 (a b : Nat) (ha : a < 4294967296) (hb : b < 4294967296) : bits .xor .u32 (a : Int) (b : Int) = ((a ^^^ b : Nat) : Int) := by
  have hx : a ^^^ b < 2 ^ 32 := Nat.xor_lt_two_pow (by omega) (by omega)
  have h1 : (BitVec.ofInt 32 (a : Int)).toNat = a := by
    rw [BitVec.ofInt_natCast, BitVec.toNat_ofNat]; exact Nat.mod_eq_of_lt (by omega)
  have h2 : (BitVec.ofInt 32 (b : Int)).toNat = b := by
    rw [BitVec.ofInt_natCast, BitVec.toNat_ofNat]; exact Nat.mod_eq_of_lt (by omega)
  show IntKind.u32.wrap ((BitVec.ofInt 32 (a : Int) ^^^ BitVec.ofInt 32 (b : Int)).toNat : Int) = _
  rw [BitVec.toNat_xor, h1, h2, IntKind.wrap_u32]
  omega
end Go.Proofs.YtkhkoeibpkglkaaGreatDoor
end
section
/- The program's sums and differences. -/
namespace Go.Proofs.YtkhkoeibpkglkaaGreatDoor
open Go.RowKit
attribute [local go_sem] sz2 sz3 sz4 sz5 sz6 sz7 sz8
set_option maxHeartbeats 4000000
set_option maxRecDepth 100000
attribute [local irreducible] Calls
theorem checks_any (B : Nat) (A1 A2 : Option Addr) (n1 c1 n2 c2 : Nat) (xs ys : List Nat) (w : World) (h1 : Rd w A1 n1 c1 xs) (h2 : Rd w A2 n2 c2 ys) (hx : chk xs = 0) (hy : chk ys = 0)
    (hc0 : w.cell? ⟨B, 0, none⟩ = some (.slice A1 n1 c1)) (hc1 : w.cell? ⟨B, 1, none⟩ = some (.slice A2 n2 c2)) :
    Calls Tryz.prog 108 #[.slice (some ⟨B, 0, none⟩) 2 2] w fun e w' => e = .returned (.int .i64 0) ∧ Ext w w' := by
  have k1 : ∀ w', Hid (Ext w w') → Calls Tryz.prog 105 #[natV A1 n1 c1] w' fun e w'' => e = .returned (.int .i64 0) ∧ Ext w' w'' := fun w' he => by
    have := ncheck_any A1 n1 c1 xs w' (h1.ext he.out)
    rwa [hx] at this
  have k2 : ∀ w', Hid (Ext w w') → Calls Tryz.prog 105 #[natV A2 n2 c2] w' fun e w'' => e = .returned (.int .i64 0) ∧ Ext w' w'' := fun w' he => by
    have := ncheck_any A2 n2 c2 ys w' (h2.ext he.out)
    rwa [hy] at this
  have hBl : B < w.heap.size := World.block_lt_of_cell? w _ hc0
  clear h1 h2 hx hy
  go_enter Tryz.func108, Tryz.ntmps108
  go_wp2
  go_loopw [8] (fun vi wr => ∃ i : Nat, i ≤ 2 ∧ vi = .int .i64 (i : Int) ∧ Hid (Ext w wr)) (fun vi _ => 2 - (intOf vi).toNat)
  case atStart => exact ⟨0, by omega, rfl, ext_refl _⟩
  case round =>
    obtain ⟨i, hi, rfl, hext⟩ := hrel
    obtain ⟨xc, xf, xl, xz⟩ := ext_use hext.out
    have g0 := (xc B 0 hBl).trans hc0
    have g1 := (xc B 1 hBl).trans hc1
    have gl := xl B hBl
    clear xc xf xl xz
    rcases (show i = 0 ∨ i = 1 ∨ i = 2 by omega) with rfl | rfl | rfl
    · have hext' := hext.out
      go_wp2_with (first
        | (go_at_call 105; (with_reducible refine (k1 _ (Lib.hid (by (repeat (first | exact ext_refl _ | assumption | refine ext_setCell ?_ (by simp; try omega) _ | refine ext_alloc ?_ _ | refine ext_drew ?_ | refine ext_drewN ?_ _ | refine ext_trans ?_ (Aft.use _) | refine ext_trans ?_ (by assumption)))))).mono ?_); rintro e w1 ⟨rfl, xb1⟩; obtain ⟨xc1, xf1, xl1, xz1⟩ := ext_use xb1; (try simp at xz1))
       )
      go_roundw
      case rel => exact ⟨1, by omega, by go_num, (show Ext _ _ by (repeat (first | exact ext_refl _ | assumption | refine ext_setCell ?_ (by simp; try omega) _ | refine ext_alloc ?_ _ | refine ext_drew ?_ | refine ext_drewN ?_ _ | refine ext_trans ?_ (Aft.use _) | refine ext_trans ?_ (by assumption))))⟩
      case measure => simp [intOf]
    · have hext' := hext.out
      go_wp2_with (first
        | (go_at_call 105; (with_reducible refine (k2 _ (Lib.hid (by (repeat (first | exact ext_refl _ | assumption | refine ext_setCell ?_ (by simp; try omega) _ | refine ext_alloc ?_ _ | refine ext_drew ?_ | refine ext_drewN ?_ _ | refine ext_trans ?_ (Aft.use _) | refine ext_trans ?_ (by assumption)))))).mono ?_); rintro e w1 ⟨rfl, xb1⟩; obtain ⟨xc1, xf1, xl1, xz1⟩ := ext_use xb1; (try simp at xz1))
       )
      go_roundw
      case rel => exact ⟨2, by omega, by go_num, (show Ext _ _ by (repeat (first | exact ext_refl _ | assumption | refine ext_setCell ?_ (by simp; try omega) _ | refine ext_alloc ?_ _ | refine ext_drew ?_ | refine ext_drewN ?_ _ | refine ext_trans ?_ (Aft.use _) | refine ext_trans ?_ (by assumption))))⟩
      case measure => simp [intOf]
    · have hext' := hext.out
      go_wp2
      go_ret
      exact ⟨rfl, hext'⟩
end Go.Proofs.YtkhkoeibpkglkaaGreatDoor
end
section
/- The program's sums. -/
namespace Go.Proofs.YtkhkoeibpkglkaaGreatDoor
open Go.RowKit
attribute [local go_sem] sz2 sz3 sz4 sz5 sz6 sz7 sz8
set_option maxHeartbeats 4000000
set_option maxRecDepth 100000
attribute [local irreducible] Calls
theorem slice_at0 (w : World) (u v : Value) (t : TypeId) : (w.alloc (Obj.cells #[u, v] t)).cell? ⟨w.heap.size, 0, none⟩ = some u := by rw [World.cell?_alloc_at _ _ _ _ rfl]; rfl
theorem slice_at1 (w : World) (u v : Value) (t : TypeId) : (w.alloc (Obj.cells #[u, v] t)).cell? ⟨w.heap.size, 1, none⟩ = some v := by rw [World.cell?_alloc_at _ _ _ _ rfl]; rfl
theorem checks_new (A1 A2 : Option Addr) (n1 c1 n2 c2 : Nat) (xs ys : List Nat) (w w' : World) (h1 : Rd w A1 n1 c1 xs) (h2 : Rd w A2 n2 c2 ys) (hx : chk xs = 0) (hy : chk ys = 0) (he : Hid (Ext w w')) (t : TypeId) (B : Nat) (hB : B = w'.heap.size) :
    Calls Tryz.prog 108 #[.slice (some ⟨B, 0, none⟩) 2 2] (w'.alloc (Obj.cells #[.slice A1 n1 c1, .slice A2 n2 c2] t)) fun e w'' => e = .returned (.int .i64 0) ∧ Ext (w'.alloc (Obj.cells #[.slice A1 n1 c1, .slice A2 n2 c2] t)) w'' := by
  subst hB
  exact checks_any w'.heap.size A1 A2 n1 c1 n2 c2 xs ys _ (h1.ext (ext_trans he.out (ext_alloc (ext_refl _) _))) (h2.ext (ext_trans he.out (ext_alloc (ext_refl _) _))) hx hy (slice_at0 _ _ _ _) (slice_at1 _ _ _ _)
end Go.Proofs.YtkhkoeibpkglkaaGreatDoor
end
section
/- The program's product. -/
namespace Go.Proofs.YtkhkoeibpkglkaaGreatDoor
open Go.RowKit
attribute [local go_sem] sz2 sz3 sz4 sz5 sz6 sz7 sz8
set_option maxHeartbeats 4000000
set_option maxRecDepth 100000
attribute [local irreducible] Calls
theorem pmul_any (A B : Option Addr) (n c m d : Nat) (a b : Nat) (w : World) (hA : Rd w A n c (lim a)) (hB : Rd w B m d (lim b)) (ha : (lim a).length ≤ 16384) (hb : (lim b).length ≤ 16384) (hsum : n + m ≤ 16385) (hs : (lim (a * b)).length ≤ 16384) :
    Calls Tryz.prog 55 #[natV A n c, natV B m d] w fun e w' => ∃ (A' : Option Addr) (k : Nat), e = .returned (.tuple #[natV A' k k, .int .i64 0]) ∧ Hid (Rd w' A' k k (lim (a * b)) ∧ Fr w A') ∧ Ext w w' := by
  have hck : ∀ w' t G, Hid (Ext w w') → G = w'.heap.size → Calls Tryz.prog 108 #[.slice (some ⟨G, 0, none⟩) 2 2] (w'.alloc (Obj.cells #[.slice A n c, .slice B m d] t)) fun e w'' => e = .returned (.int .i64 0) ∧ Ext (w'.alloc (Obj.cells #[.slice A n c, .slice B m d] t)) w'' := fun w' t G he hG => checks_new A B n c m d _ _ w w' hA hB (chk_lim ha) (chk_lim hb) he t G hG
  have hmx := hA.mx
  have hmy := hB.mx
  have hcx := hA.cap
  have hcy := hB.cap
  have HA := Lib.hid hA
  have HB := Lib.hid hB
  have hlx := Lib.hid hA.len
  have hly := Lib.hid hB.len
  have HS := Lib.hid hs
  clear hA hB ha hb hs
  go_enter Tryz.func55, Tryz.ntmps55
  go_wp2_with (first
    | (go_at_call 108; (with_reducible refine (hck _ _ _ (Lib.hid (by (repeat (first | exact ext_refl _ | assumption | refine ext_setCell ?_ (by simp; try omega) _ | refine ext_alloc ?_ _ | refine ext_drew ?_ | refine ext_drewN ?_ _ | refine ext_trans ?_ (Aft.use _) | refine ext_trans ?_ (by assumption))))) (by simp)).mono ?_); rintro e w1 ⟨rfl, xb1⟩; obtain ⟨xc1, xf1, xl1, xz1⟩ := ext_use xb1; (try simp at xz1); obtain ⟨l1_0, gc, gf⟩ := kp xb1 (w.heap.size) (by first | omega | (simp; try omega)); have r1_0 := gc 0; have f1_0 := gf 0; clear gc gf; obtain ⟨l1_1, gc, gf⟩ := kp xb1 (w.heap.size + 1) (by first | omega | (simp; try omega)); have r1_1 := gc 0; have f1_1 := gf 0; clear gc gf; obtain ⟨l1_2, gc, gf⟩ := kp xb1 (w.heap.size + 1 + 1) (by first | omega | (simp; try omega)); have r1_2 := gc 0; have f1_2 := gf 0; clear gc gf)
   )
  go_quiet (fail)
  go_wp2_with (first
    | (at_make; refine make_u32 rfl _ _ rfl _ _ _ _ (n + m) rfl rfl (by simp) (by simp) (by omega) ?_; intro w2 hx2 ho2; have hext2 := Lib.hid hx2; clear hx2)
    | go_in)
  have hw1 : Hid (Ext w w1) := Lib.hid (by (repeat (first | exact ext_refl _ | assumption | refine ext_setCell ?_ (by simp; try omega) _ | refine ext_alloc ?_ _ | refine ext_drew ?_ | refine ext_drewN ?_ _ | refine ext_trans ?_ (Aft.use _) | refine ext_trans ?_ (by assumption))))
  have hE2 : Hid (Ext w1 w2) := Lib.hid (ext_trans (ext_drewN (ext_refl w1) nq) hext2.out)
  have hGl : w1.heap.size < w2.heap.size := (ho2.out.lt w1.heap.size rfl).2
  have hG2 : w.heap.size + 1 + 1 < w1.heap.size := l1_2
  go_loopw [43] (fun vi wr => ∃ (i : Nat) (os : List Nat), i ≤ n ∧ vi = .int .i64 (i : Int) ∧ Hid (os.length = n + m ∧ Lb os ∧ val os = val ((lim a).take i) * b ∧ ∀ p, i + m ≤ p → os.getD p 0 = 0) ∧
      Hid (wr.ownsRow w1.heap.size 60 1 (.slice (some ⟨w1.heap.size, 0, none⟩) (n + m) (n + m)) (n + m) (os.map u32V)) ∧ Hid (Ext w1 wr))
    (fun vi _ => n - (intOf vi).toNat)
  case atStart => exact ⟨0, List.replicate (n + m) 0, Nat.zero_le _, rfl, ⟨by simp, lb_replicate _, by rw [val_replicate]; simp [val], fun p _ => getD_replicate0 _ _⟩, ho2.out, hE2.out⟩
  case round =>
    clear ho2 hext2 hE2
    obtain ⟨i, os, hi, rfl, hos, hown, hext⟩ := hrel
    have hgl : w1.heap.size < wr.heap.size := (hown.out.lt w1.heap.size (by simp [Value.ownBlock])).2
    by_cases h0 : i < n
    · obtain ⟨bx, ox, hXe⟩ : ∃ b off, A = some ⟨b, off, none⟩ := by
        rcases HA.out.shape with ⟨_, h, _⟩ | h
        · omega
        · exact h
      subst hXe
      obtain ⟨x, hx, hxb, hcx1⟩ := ((HA.out.ext hw1.out).ext hext.out).get i h0
      go_wp2
      go_loopw [12, 63] (fun vc vk wr2 => ∃ (k cy : Nat) (os : List Nat), k ≤ m ∧ cy < 4294967296 ∧ vk = .int .i64 (k : Int) ∧ vc = .int .u64 (cy : Int) ∧
          Hid (os.length = n + m ∧ Lb os ∧ val os + Bs ^ (i + k) * cy = val ((lim a).take i) * b + Bs ^ i * (x * val ((lim b).take k)) ∧ ∀ p, i + m ≤ p → os.getD p 0 = 0) ∧
          Hid (wr2.ownsRow w1.heap.size 60 1 (.slice (some ⟨w1.heap.size, 0, none⟩) (n + m) (n + m)) (n + m) (os.map u32V)) ∧ Hid (Ext w1 wr2))
        (fun _ vk _ => m - (intOf vk).toNat)
      case atStart => exact ⟨0, 0, os, Nat.zero_le _, by omega, rfl, rfl, ⟨hos.out.1, hos.out.2.1, by rw [hos.out.2.2.1]; simp [val], hos.out.2.2.2⟩, hown.out, hext.out⟩
      case round =>
        clear hos hown hext os hcx1 hgl
        obtain ⟨k, cy, os, hk, hcyb, rfl, rfl, hos, hown, hext⟩ := hrel
        have hgl : w1.heap.size < wr.heap.size := (hown.out.lt w1.heap.size (by simp [Value.ownBlock])).2
        by_cases hkm : k < m
        · obtain ⟨by', oy, hYe⟩ : ∃ b off, B = some ⟨b, off, none⟩ := by
            rcases HB.out.shape with ⟨_, h, _⟩ | h
            · omega
            · exact h
          subst hYe
          obtain ⟨y, hy, hyb, hcy2⟩ := ((HB.out.ext hw1.out).ext hext.out).get k hkm
          obtain ⟨o, ho, hob⟩ : ∃ o : Nat, Hid (os.getD (i + k) 0 = o) ∧ o < 4294967296 := ⟨_, rfl, lb_getD hos.out.2.1 _⟩
          obtain ⟨hc1, hf1⟩ := own_at hown.out (i + k) (by omega)
          rw [ho.out] at hc1
          obtain ⟨p, hp⟩ : ∃ p, p = x * y := ⟨_, rfl⟩
          have hpb : p ≤ 18446744065119617025 := by
            rw [hp]
            exact Nat.mul_le_mul (show x ≤ 4294967295 by omega) (show y ≤ 4294967295 by omega)
          have hpi : (x : Int) * (y : Int) = (p : Int) := by rw [hp]; exact (Int.natCast_mul _ _).symm
          have HP := Lib.hid hp
          clear hp
          go_wp2
          case roundEnd =>
            have hP := HP.out
            refine ⟨⟨k + 1, (p + o + cy) / 4294967296, os.set (i + k) ((p + o + cy) % 4294967296), by omega, by omega, by simp, ?_, ⟨?_, ?_, ?_, ?_⟩, ?_, ?_⟩, ?_⟩
            · simp; omega
            · simp [hos.out.1]
            · exact lb_set hos.out.2.1 _ (Nat.mod_lt _ (by decide))
            · rw [hP]
              exact times_step (by rw [hos.out.1]; omega) hos.out.2.2.1 ho.out hy.out
            · intro q hq
              rw [getD_set_ne (by omega)]
              exact hos.out.2.2.2 q hq
            · show World.ownsRow _ _ _ _ _ _ _
              have := own_set hown.out (i + k) ((p + o + cy) % 4294967296)
              have e : ((cy : Int) + ((p : Int) + (o : Int))) % 4294967296 = (((p + o + cy) % 4294967296 : Nat) : Int) := by omega
              rw [e]
              exact this
            · exact ext_setCell hext.out (Nat.le_refl _) _
            · simp [intOf]; omega
        · obtain rfl : k = m := by omega
          obtain ⟨hc1, hf1⟩ := own_at hown.out (i + k) (by omega)
          rw [hos.out.2.2.2 _ (Nat.le_refl _)] at hc1
          clear hkm
          go_wp2
          case roundEnd =>
            refine ⟨⟨i + 1, os.set (i + k) cy, by omega, by simp, ⟨?_, ?_, ?_, ?_⟩, ?_, ?_⟩, ?_⟩
            · simp [hos.out.1]
            · exact lb_set hos.out.2.1 _ hcyb
            · have h := hos.out.2.2.1
              rw [take_ge (l := lim b) (by rw [hly.out]; exact Nat.le_refl _), val_lim] at h
              have h2 := times_last (ys := lim b) (by rw [hos.out.1]; omega) (by rw [val_lim]; exact h) (hos.out.2.2.2 _ (Nat.le_refl _)) hx.out
              rwa [val_lim] at h2
            · intro q hq
              rw [getD_set_ne (by omega)]
              exact hos.out.2.2.2 q (by omega)
            · exact own_set hown.out _ _
            · exact ext_setCell hext.out (Nat.le_refl _) _
            · simp [intOf]; omega
    · obtain rfl : i = n := by omega
      have hval : val os = a * b := by
        have h1 := hos.out.2.2.1
        rwa [take_ge (by rw [hlx.out]; exact Nat.le_refl _), val_lim] at h1
      obtain ⟨G', c', he, hRR⟩ := Rd.own hown.out hos.out.2.1
      cases he
      have HR := Lib.hid hRR
      have HV := Lib.hid hval
      clear hRR hval hck h0
      obtain ⟨xc7, xf7, xl7, xz7⟩ := ext_use (hext.out)
      obtain ⟨l7_0, gc, gf⟩ := kp (hext.out) (w.heap.size + 1 + 1) (by first | omega | (simp; try omega))
      have r7_0 := gc 0
      have f7_0 := gf 0
      clear gc gf
      go_wp2_with (first
        | (go_at_call 109; (with_reducible refine (nfits_any _ _ _ _ _ HR.out (by rw [HV.out]; exact HS.out)).mono ?_); rintro e w8 ⟨A', k, rfl, hF, xb8⟩; obtain ⟨xc8, xf8, xl8, xz8⟩ := ext_use xb8; (try simp at xz8); obtain ⟨l8_0, gc, gf⟩ := kp xb8 (w.heap.size + 1 + 1) (by first | omega | (simp; try omega)); have r8_0 := gc 0; have f8_0 := gf 0; clear gc gf)
       )
      have hw1' := hw1.out
      have hext' := hext.out
      refine bodyPost_ret (v := .tuple #[natV A' k k, .int .i64 0]) ?h rfl ⟨A', k, rfl, ⟨?_, ?_⟩, ?_⟩
      case h => simp [results, Tryz.results55, go_sem, *]
      · have h1 := (hF.out.1 _ HR.out).ext xb8
        rw [HV.out] at h1
        refine h1.set _ (fun q hq => ?_)
        have := hF.out.2 q hq
        cases this
        simp; omega
      · intro q hq
        have := hF.out.2 q hq
        cases this
        simp; omega
      · exact ext_setCell (ext_trans hw1' (ext_trans hext' xb8)) (show w.heap.size ≤ w.heap.size + 1 + 1 by omega) _
end Go.Proofs.YtkhkoeibpkglkaaGreatDoor
end
