/- Lemmas of this proof, laid together: BigE, BigF, BigG, TwBigE, TwBigF, TwBigG. -/
import Derived.Test.YtchchnohmmncfaaGreatDoorMg09
import Derived.Test.YtchchnohmmncfaaGreatDoorMg03
import Derived.Deep.DeepCutAuto
import Derived.Deep.RegionWith
set_option linter.unusedSimpArgs false
set_option linter.unusedVariables false
section
/- Words of the library's: products of any length (Karatsuba's way). -/
namespace Go.Proofs.YtchchnohmmncfaaGreatDoor
open Go.RowKit
attribute [local go_sem] sz2 sz3 sz4 sz5 sz6 sz7 sz8
attribute [local go_sem] Oper.detAt detUpon relUpon
set_option maxHeartbeats 4000000
set_option maxRecDepth 100000
attribute [local irreducible] Calls
theorem Rd.drop {w : World} {b off n c : Nat} {xs : List Nat} (h : Rd w (some ⟨b, off, none⟩) n c xs) {k : Nat} (hk : k ≤ n) : Rd w (some ⟨b, off + k, none⟩) (n - k) (c - k) (xs.drop k) := by
  have hl := h.len
  have hc := h.cap
  have hm := h.mx
  refine ⟨by rw [List.length_drop]; omega, by omega, by omega, fun x hx => h.lb x (List.mem_of_mem_drop hx), (fun e => by cases e), (fun a ha => by cases ha; rfl), fun b' off' hA i hi => ?_⟩
  cases hA
  rw [List.length_drop] at hi
  obtain ⟨h1, h2⟩ := h.cells b off rfl (k + i) (by omega)
  refine ⟨h1, ?_⟩
  rw [Nat.add_assoc, h2, List.getElem_drop]
theorem lim_drop : ∀ (k a : Nat), (lim a).drop k = lim (a / Bs ^ k)
  | 0, a => by simp
  | k + 1, a => by
    by_cases h : a = 0
    · subst h; simp [lim_zero]
    · rw [lim_pos h, List.drop_succ_cons, lim_drop k, Nat.div_div_eq_div_mul, Nat.pow_succ, Nat.mul_comm]
theorem val_take_lim (k a : Nat) : val ((lim a).take k) = a % Bs ^ k := by
  rcases Nat.lt_or_ge k (lim a).length with h | h
  · have h1 := val_append ((lim a).take k) ((lim a).drop k)
    rw [List.take_append_drop, val_lim, lim_drop, val_lim, List.length_take, Nat.min_eq_left (Nat.le_of_lt h)] at h1
    have h2 : val ((lim a).take k) < Bs ^ k := by
      have := val_lt ((lim a).take k) (fun x hx => lb_lim a x (List.mem_of_mem_take hx))
      rwa [List.length_take, Nat.min_eq_left (Nat.le_of_lt h)] at this
    have h3 := Nat.mod_add_div a (Bs ^ k)
    have : a % Bs ^ k < Bs ^ k := Nat.mod_lt _ (Nat.pow_pos (by decide))
    omega
  · rw [take_ge h, val_lim, Nat.mod_eq_of_lt]
    exact Nat.lt_of_lt_of_le (lim_lt a) (Nat.pow_le_pow_right (by decide) h)
theorem Fr.at {W : World} {A : Option Addr} (h : Fr W A) {a : Addr} (ha : A = some a) : W.heap.size ≤ a.block := h a ha
abbrev WPost (w : World) (V : Nat) : Ending → World → Prop := fun e w' => ∃ (A : Option Addr) (k c : Nat), e = .returned (.slice A k c) ∧ Hid (Rd w' A k c (lim V) ∧ Fr w A) ∧ Ext w w'
/-- A row that a call answered, in memory of its own. -/
def RWord (N : Nat) (v : Nat) : List Value → Value → World → Prop := fun _ u w => ∃ (A : Option Addr) (k c : Nat), u = .slice A k c ∧ Rd w A k c (lim v) ∧ ∀ a, A = some a → N ≤ a.block
theorem stays_word (N v : Nat) : Stays (RWord N v) := fun _ _ _ _ ⟨A, k, c, h1, h2, h3⟩ he => ⟨A, k, c, h1, h2.ext he, h3⟩
theorem rword_at {N v : Nat} {vals : List Value} {A : Option Addr} {k c : Nat} {w : World} (h : RWord N v vals (.slice A k c) w) : Rd w A k c (lim v) ∧ ∀ a, A = some a → N ≤ a.block := by
  obtain ⟨A', k', c', e, h2, h3⟩ := h
  simp only [Value.slice.injEq] at e
  obtain ⟨rfl, rfl, rfl⟩ := e
  exact ⟨h2, h3⟩
theorem bw_trim_det (A : Option Addr) (n c : Nat) (xs : List Nat) (w : World) (hR : Rd w A n c xs) :
    Calls Tryz.prog 143 #[.slice A n c] w fun e w' => e = .returned (.slice A (lim (val xs)).length c) ∧ Ext w w' := by
  refine (bw_trim A n c xs w hR).mono ?_
  rintro e w' ⟨k, rfl, h2, rfl⟩
  have := h2.len
  rw [trimZ_lim _ hR.lb] at this
  exact ⟨by rw [this], ext_refl _⟩
theorem rd_trimmed {A : Option Addr} {n c : Nat} {xs : List Nat} {w : World} (hR : Rd w A n c xs) : Rd w A (lim (val xs)).length c (lim (val xs)) := by
  obtain ⟨k, hk, he⟩ := trimZ_prefix xs
  rw [trimZ_lim _ hR.lb] at he
  have e : (lim (val xs)).length = k := by rw [he, List.length_take, Nat.min_eq_left hk]
  rw [e, he]
  exact hR.take (by rw [← hR.len]; exact hk)
end Go.Proofs.YtchchnohmmncfaaGreatDoor
end
section
/- Words of the library's: products of any length. -/
namespace Go.Proofs.YtchchnohmmncfaaGreatDoor
open Go.RowKit
attribute [local go_sem] sz2 sz3 sz4 sz5 sz6 sz7 sz8
attribute [local go_sem] Oper.detAt detUpon relUpon
set_option maxHeartbeats 4000000
set_option maxRecDepth 100000
attribute [local irreducible] Calls
theorem piece_val {a m at_ k n : Nat} (hk : k = min (at_ + m) n - at_) (hn : (lim a).length = n) (h0 : at_ ≤ n) : val ((lim a).take (at_ + m)) = val ((lim a).take at_) + Bs ^ at_ * val (((lim a).drop at_).take k) := by
  have e : ((lim a).drop at_).take k = ((lim a).drop at_).take m := by
    rcases Nat.le_total (at_ + m) n with h | h
    · rw [hk, Nat.min_eq_left h]; congr 1; omega
    · rw [hk, Nat.min_eq_right h, List.take_of_length_le (by simp; omega), List.take_of_length_le (by simp; omega)]
  rw [e, List.take_add, val_append, List.length_take, Nat.min_eq_left (by omega)]
end Go.Proofs.YtchchnohmmncfaaGreatDoor
end
section
/- Words of the library's: products by three smaller ones. -/
namespace Go.Proofs.YtchchnohmmncfaaGreatDoor
open Go.RowKit
attribute [local go_sem] sz2 sz3 sz4 sz5 sz6 sz7 sz8
attribute [local go_sem] Oper.detAt detUpon relUpon
set_option maxHeartbeats 4000000
set_option maxRecDepth 100000
attribute [local irreducible] Calls
theorem kara (R a0 a1 b0 b1 : Nat) : ((a0 + a1) * (b0 + b1) - a0 * b0 - a1 * b1 = a0 * b1 + a1 * b0 ∧ a0 * b0 ≤ (a0 + a1) * (b0 + b1) ∧ a1 * b1 ≤ (a0 + a1) * (b0 + b1) - a0 * b0) ∧
    (a0 + R * a1) * (b0 + R * b1) = a0 * b0 + R * (a0 * b1 + a1 * b0) + R * R * (a1 * b1) := by
  have e : (a0 + a1) * (b0 + b1) = a0 * b0 + a0 * b1 + (a1 * b0 + a1 * b1) := by rw [Nat.add_mul, Nat.mul_add, Nat.mul_add]
  refine ⟨⟨by omega, by omega, by omega⟩, ?_⟩
  have e2 : R * a1 * (R * b1) = R * R * (a1 * b1) := by rw [Nat.mul_mul_mul_comm]
  have e3 : a0 * (R * b1) = R * (a0 * b1) := by rw [← Nat.mul_assoc, Nat.mul_comm a0 R, Nat.mul_assoc]
  rw [Nat.add_mul, Nat.mul_add, Nat.mul_add, e2, e3, Nat.mul_add, Nat.mul_assoc R a1 b0]
  omega
theorem split_lim (a h : Nat) : a = a % Bs ^ h + Bs ^ h * (a / Bs ^ h) := (Nat.mod_add_div a (Bs ^ h)).symm
theorem len_mod (a h : Nat) : (lim (a % Bs ^ h)).length ≤ h := lim_le (Nat.mod_lt _ (Nat.pow_pos (by decide)))
theorem len_div {a h n : Nat} (hn : (lim a).length = n) : (lim (a / Bs ^ h)).length = n - h := by rw [← lim_drop, List.length_drop, hn]
theorem lim_mul_len (x y : Nat) : (lim (x * y)).length ≤ (lim x).length + (lim y).length := by
  refine lim_le ?_
  rw [Nat.pow_add]
  exact Nat.mul_lt_mul'' (lim_lt x) (lim_lt y)
theorem lim_part {P V e k : Nat} (h : Bs ^ e * P ≤ V) (hV : V < Bs ^ k) (he : e ≤ k) : e + (lim P).length ≤ k := by
  have h1 : Bs ^ e * P < Bs ^ e * Bs ^ (k - e) := by
    rw [← Nat.pow_add, show e + (k - e) = k by omega]; omega
  have h2 := lim_le (Nat.lt_of_mul_lt_mul_left h1)
  omega
theorem rd_only {w w' : World} {g : Nat} {A : Option Addr} {n c : Nat} {xs : List Nat} (h : Rd w A n c xs) (hg : Hid (w.grownBy w' (some g))) (hap : ∀ a, A = some a → a.block ≠ g) : Rd w' A n c xs :=
  rd_grown h hg.out (fun a ha _ e => hap a ha (by simp at e; exact e.symm))
end Go.Proofs.YtchchnohmmncfaaGreatDoor
end
section
/- (The document's library.) Words of the library's: products of any length (Karatsuba's way). -/

namespace Go.Proofs.YtchchnohmmncfaaGreatDoor.NB
open Go.RowKit
attribute [local go_sem] sz2 sz3 sz4 sz5 sz6 sz7 sz8
attribute [local go_sem] Oper.detAt detUpon relUpon
set_option maxHeartbeats 4000000
set_option maxRecDepth 100000
attribute [local irreducible] Calls
theorem rel_add (N : Nat) (A B : Option Addr) (n c m d a b : Nat) (hn : n ≤ 1000000) (hm : m ≤ 1000000) (vals : List Value) (w : World) (hN : N ≤ w.heap.size) (hA : Rd w A n c (lim a)) (hB : Rd w B m d (lim b)) :
    Calls Tryz.prog 108 #[.slice A n c, .slice B m d] w fun e w' => ∃ v, e = .returned v ∧ Ext w w' ∧ Fresh w v w' ∧ RWord N (a + b) vals v w' := by
  refine (bw_add A B n c m d a b hn hm w hA hB).mono ?_
  rintro e w' ⟨A', k, c', he, h1, h2⟩
  refine ⟨_, he, h2, ?_, A', k, c', rfl, h1.out.1, fun a ha => Nat.le_trans hN (h1.out.2.1 a ha)⟩
  intro q hq
  cases A' with
  | none => simp [blk] at hq
  | some z =>
    simp only [blk, Option.some.injEq] at hq
    subst hq
    exact ⟨h1.out.2.1 z rfl, h1.out.2.2 z rfl⟩
theorem bw_trim_det (A : Option Addr) (n c : Nat) (xs : List Nat) (w : World) (hR : Rd w A n c xs) :
    Calls Tryz.prog 105 #[.slice A n c] w fun e w' => e = .returned (.slice A (lim (val xs)).length c) ∧ Ext w w' := by
  refine (bw_trim A n c xs w hR).mono ?_
  rintro e w' ⟨k, rfl, h2, rfl⟩
  have := h2.len
  rw [trimZ_lim _ hR.lb] at this
  exact ⟨by rw [this], ext_refl _⟩
end Go.Proofs.YtchchnohmmncfaaGreatDoor.NB
end
section
/- (The document's library.) Words of the library's: products of any length. -/

namespace Go.Proofs.YtchchnohmmncfaaGreatDoor.NB
open Go.RowKit
attribute [local go_sem] sz2 sz3 sz4 sz5 sz6 sz7 sz8
attribute [local go_sem] Oper.detAt detUpon relUpon
set_option maxHeartbeats 4000000
set_option maxRecDepth 100000
attribute [local irreducible] Calls
theorem bw_mul_small (A B : Option Addr) (n c m d a b : Nat) (hnm : m ≤ n) (hs : n + m ≤ 200000) (hm : m < 40) (w : World) (hA : Rd w A n c (lim a)) (hB : Rd w B m d (lim b)) :
    (Calls Tryz.prog 64 #[.slice A n c, .slice B m d] w (WPost w (a * b))) ∧ (m < n → Calls Tryz.prog 64 #[.slice B m d, .slice A n c] w (WPost w (a * b))) := by
  have hp := bw_plain A B n c m d _ _ (by omega) (by omega) w hA hB
  rw [val_lim, val_lim] at hp
  have hmx := hA.mx
  have hcx := hA.cap
  have hmy := hB.mx
  have hcy := hB.cap
  clear hA hB
  refine ⟨?_, fun hlt => ?_⟩
  all_goals
    go_enter Tryz.func64, Tryz.ntmps64
    go_wp2_with (first
      | (go_at_call 106; (with_reducible refine (hp).mono ?_); rintro e w1 ⟨A', k, c', rfl, hR, xb1⟩; obtain ⟨xc1, xf1, xl1, xz1⟩ := ext_use xb1; (try simp at xz1))
     )
    refine bodyPost_ret (v := .slice A' k c') ?h rfl ⟨A', k, c', rfl, hR, xb1⟩
    case h => simp [results, Tryz.results64, go_sem]
theorem bw_mul_long (A B : Option Addr) (n c m d a b : Nat) (hnm : 2 * m ≤ n) (hs : n + m ≤ 200000) (hm : 40 ≤ m) (w : World) (hA : Rd w A n c (lim a)) (hB : Rd w B m d (lim b))
    (IH : ∀ (A B : Option Addr) (n' c m' d a b : Nat), n' + m' < n + m → ∀ w, Rd w A n' c (lim a) → Rd w B m' d (lim b) → Calls Tryz.prog 64 #[.slice A n' c, .slice B m' d] w (WPost w (a * b))) :
    (Calls Tryz.prog 64 #[.slice A n c, .slice B m d] w (WPost w (a * b))) ∧ (m < n → Calls Tryz.prog 64 #[.slice B m d, .slice A n c] w (WPost w (a * b))) := by
  have hmx := hA.mx
  have hcx := hA.cap
  have hmy := hB.mx
  have hcy := hB.cap
  have HA := Lib.hid hA
  have HB := Lib.hid hB
  have hlx := Lib.hid hA.len
  have hly := Lib.hid hB.len
  clear hA hB
  refine ⟨?_, fun hlt => ?_⟩
  all_goals
    go_enter Tryz.func64, Tryz.ntmps64
    go_wp2_with (first
      | (at_make; refine make_u32 rfl _ _ rfl _ _ _ _ (n + m + 1) rfl rfl (by simp) (by simp) (by omega) ?_; intro w1 hx1 ho1; have hext1 := Lib.hid hx1; clear hx1)
     )
    have hGl : w.heap.size < w1.heap.size := (ho1.out.lt w.heap.size rfl).2
    go_loopw [6] (fun vi wr => ∃ (at_ : Nat) (os : List Nat), at_ < n + m ∧ vi = .int .i64 (at_ : Int) ∧ Hid (Lb os ∧ val os = val ((lim a).take at_) * b) ∧
        Hid (wr.ownsRow w.heap.size 38 1 (.slice (some ⟨w.heap.size, 0, none⟩) (n + m + 1) (n + m + 1)) (n + m + 1) (os.map u32V)) ∧ Hid (Ext w wr))
      (fun vi _ => n - (intOf vi).toNat)
    case atStart => exact ⟨0, List.replicate (n + m + 1) 0, by omega, rfl, ⟨lb_replicate _, by rw [val_replicate]; simp [val]⟩, ho1.out, hext1.out⟩
    case round =>
      clear ho1 hext1
      obtain ⟨at_, os, hat, rfl, hos, hown, hext⟩ := hrel
      by_cases h0 : at_ < n
      · obtain ⟨bx, ox, hXe⟩ : ∃ b off, A = some ⟨b, off, none⟩ := by
          rcases HA.out.shape with ⟨_, h, _⟩ | h
          · omega
          · exact h
        subst hXe
        obtain ⟨k, hk⟩ : ∃ k, k = min (at_ + m) n - at_ := ⟨_, rfl⟩
        have hP : Rd wr (some ⟨bx, ox + at_, none⟩) k (c - at_) (((lim a).drop at_).take k) := ((HA.out.ext hext.out).drop (by omega)).take (by omega)
        have hpv := piece_val hk hlx.out (Nat.le_of_lt h0)
        have hPT := rd_trimmed hP
        have hPl : (lim (val (((lim a).drop at_).take k))).length ≤ k := by have h1 := hPT.len; have h2 := lim_le (val_lt _ hP.lb); rwa [hP.len] at h2
        have htr : ∀ L, L = k → Calls Tryz.prog 105 #[.slice (some ⟨bx, ox + at_, none⟩) L (c - at_)] wr fun e w' => e = .returned (.slice (some ⟨bx, ox + at_, none⟩) (lim (val (((lim a).drop at_).take k))).length (c - at_)) ∧ Ext wr w' := fun L hL => by subst hL; exact bw_trim_det _ _ _ _ wr hP
        clear hP
        generalize val (((lim a).drop at_).take k) = P at hpv hPT hPl htr
        have hmul : ∀ w', Hid (Ext wr w') → Calls Tryz.prog 64 #[.slice (some ⟨bx, ox + at_, none⟩) (lim P).length (c - at_), .slice B m d] w' (WPost w' (P * b)) := fun w' he => IH _ _ _ _ _ _ _ _ (by omega) w' (hPT.ext he.out) ((HB.out.ext hext.out).ext he.out)
        have hfit : Hid ((val os + Bs ^ at_ * (P * b) = val ((lim a).take (at_ + m)) * b) ∧ val os + Bs ^ at_ * (P * b) < Bs ^ (n + m + 1) ∧ at_ + (lim (P * b)).length ≤ n + m + 1) := by
          have e1 : val os + Bs ^ at_ * (P * b) = val ((lim a).take (at_ + m)) * b := by rw [hos.out.2, hpv, Nat.add_mul, Nat.mul_assoc]
          refine ⟨e1, ?_, ?_⟩
          · rw [e1, val_take_lim]
            have h1 : a % Bs ^ (at_ + m) ≤ a := Nat.mod_le _ _
            have h2 : a < Bs ^ n := by have := lim_lt a; rwa [hlx.out] at this
            have h3 : b < Bs ^ m := by have := lim_lt b; rwa [hly.out] at this
            have h4 : (a % Bs ^ (at_ + m)) * b < Bs ^ n * Bs ^ m := Nat.mul_lt_mul'' (Nat.lt_of_le_of_lt h1 h2) h3
            rw [← Nat.pow_add] at h4
            exact Nat.lt_of_lt_of_le h4 (Nat.pow_le_pow_right (by decide) (by omega))
          · have h2 : P < Bs ^ k := Nat.lt_of_lt_of_le (lim_lt P) (Nat.pow_le_pow_right (by decide) hPl)
            have h3 : b < Bs ^ m := by have := lim_lt b; rwa [hly.out] at this
            have h4 : P * b < Bs ^ k * Bs ^ m := Nat.mul_lt_mul'' h2 h3
            rw [← Nat.pow_add] at h4
            have := lim_le h4
            omega
        clear hPT hpv
        have HK := Lib.hid hk
        have HPL := Lib.hid hPl
        go_wp2_with (first
          | (go_at_call 105; (with_reducible refine (htr _ (by omega)).mono ?_); rintro e w2 ⟨rfl, xb2⟩; obtain ⟨xc2, xf2, xl2, xz2⟩ := ext_use xb2; (try simp at xz2))
          | (go_at_call 64; (with_reducible refine (hmul _ (Lib.hid xb2)).mono ?_); rintro e w3 ⟨A3, k3, c3, rfl, hR3, xb3⟩; obtain ⟨xc3, xf3, xl3, xz3⟩ := ext_use xb3; (try simp at xz3))
          | (go_at_call 107; (with_reducible refine (bw_addAt w.heap.size w.heap.size (n + m + 1) A3 k3 c3 (lim (P * b)) at_ os w3 (own_ext (own_ext hown.out xb2) xb3) hos.out.1 hR3.out.1 (fun q hq _ e => by have h1 := Fr.at hR3.out.2 hq; have h2 := (hown.out.lt w.heap.size rfl).2; have h3 := ext_size xb2; omega) (by rw [val_lim]; exact hfit.out.2.1) (by omega) (by have h1 := hR3.out.1.len; have h2 := hfit.out.2.2; omega)).mono ?_); rintro e w4 ⟨os4, rfl, hown4, hos4, hg4⟩)
         )
        all_goals
          go_roundw
          case rel =>
            exact ⟨at_ + m, by omega, by simp, os4, ⟨hos4.out.1, by rw [hos4.out.2, val_lim]; exact hfit.out.1⟩, hown4, only_ext (ext_trans (ext_trans hext.out xb2) xb3) hg4.out (Nat.le_refl _)⟩
          case measure => simp [intOf]; omega
      · have hv : val os = a * b := by rw [hos.out.2, take_ge (by rw [hlx.out]; omega), val_lim]
        have hT := bw_trim_own hown.out hos.out.1 hv
        have hE := hext.out
        clear hv
        go_wp2_with (first
          | (go_at_call 105; (with_reducible refine hT.mono ?_); rintro e w' ⟨⟨k, rfl, hR⟩, rfl⟩)
         )
        refine bodyPost_ret (v := .slice (some ⟨w.heap.size, 0, none⟩) k (n + m + 1)) ?h rfl ⟨_, k, n + m + 1, rfl, ⟨hR.out, fun q hq => ?_⟩, hE⟩
        case h => simp [results, Tryz.results64, go_sem]
        cases hq; exact Nat.le_refl _
end Go.Proofs.YtchchnohmmncfaaGreatDoor.NB
end
section
/- (The document's library.) Words of the library's: products by three smaller ones. -/

namespace Go.Proofs.YtchchnohmmncfaaGreatDoor.NB
open Go.RowKit
attribute [local go_sem] sz2 sz3 sz4 sz5 sz6 sz7 sz8
attribute [local go_sem] Oper.detAt detUpon relUpon
set_option maxHeartbeats 4000000
set_option maxRecDepth 100000
attribute [local irreducible] Calls
theorem addAt_call (base g n : Nat) (B : Option Addr) (m d v : Nat) (at_ : Nat) (z : Int) (hz : z = at_) (os : List Nat) (w : World) (hown : Hid (w.ownsRow base 38 1 (.slice (some ⟨g, 0, none⟩) n n) n (os.map u32V))) (hos : Lb os)
    (hB : Rd w B m d (lim v)) (hap : ∀ a, B = some a → a.block ≠ g) (hfit : val os + Bs ^ at_ * v < Bs ^ n) (hn : n ≤ 3000000) (hat : at_ + (lim v).length ≤ n) :
    Calls Tryz.prog 107 #[.slice (some ⟨g, 0, none⟩) n n, .slice B m d, .int .i64 z] w fun e w' => ∃ os' : List Nat, e = .returned (.tuple #[]) ∧ Hid (w'.ownsRow base 38 1 (.slice (some ⟨g, 0, none⟩) n n) n (os'.map u32V)) ∧
      Hid (Lb os' ∧ val os' = val os + Bs ^ at_ * v) ∧ Hid (w.grownBy w' (some g)) := by
  subst hz
  have := bw_addAt base g n B m d (lim v) at_ os w hown.out hos hB (fun a ha _ => hap a ha) (by rw [val_lim]; exact hfit) hn (by rw [← hB.len]; exact hat)
  rwa [val_lim] at this
theorem bw_mul_kara (A B : Option Addr) (n c m d a b : Nat) (hnm : m ≤ n) (h2 : n < 2 * m) (hs : n + m ≤ 200000) (hm : 40 ≤ m) (w : World) (hA : Rd w A n c (lim a)) (hB : Rd w B m d (lim b))
    (IH : ∀ (A B : Option Addr) (n' c m' d a b : Nat), n' + m' < n + m → ∀ w, Rd w A n' c (lim a) → Rd w B m' d (lim b) → Calls Tryz.prog 64 #[.slice A n' c, .slice B m' d] w (WPost w (a * b))) :
    (Calls Tryz.prog 64 #[.slice A n c, .slice B m d] w (WPost w (a * b))) ∧ (m < n → Calls Tryz.prog 64 #[.slice B m d, .slice A n c] w (WPost w (a * b))) := by
  have hmx := hA.mx
  have hcx := hA.cap
  have hmy := hB.mx
  have hcy := hB.cap
  obtain ⟨bx, ox, hXe⟩ : ∃ b off, A = some ⟨b, off, none⟩ := by
    rcases hA.shape with ⟨_, h, _⟩ | h
    · omega
    · exact h
  obtain ⟨by', oy, hYe⟩ : ∃ b off, B = some ⟨b, off, none⟩ := by
    rcases hB.shape with ⟨_, h, _⟩ | h
    · omega
    · exact h
  subst hXe hYe
  obtain ⟨h, hh⟩ : ∃ h, h = (n + 1) / 2 := ⟨_, rfl⟩
  have hhn : h < n := by omega
  have hhm : h ≤ m := by omega
  have h2h : 2 * h ≤ n + 1 := by omega
  have hh1 : 1 ≤ h := by omega
  have hlx := hA.len
  have hly := hB.len
  -- the halves
  have A0 : ∀ w', Ext w w' → Rd w' (some ⟨bx, ox, none⟩) h c ((lim a).take h) := fun w' he => (hA.ext he).take (by omega)
  have B0 : ∀ w', Ext w w' → Rd w' (some ⟨by', oy, none⟩) h d ((lim b).take h) := fun w' he => (hB.ext he).take hhm
  have A1 : ∀ w', Ext w w' → Rd w' (some ⟨bx, ox + h, none⟩) (n - h) (c - h) (lim (a / Bs ^ h)) := fun w' he => by rw [← lim_drop]; exact (hA.ext he).drop (by omega)
  obtain ⟨ob, hob, B1⟩ : ∃ ob, (if d = h then some (⟨by', oy, none⟩ : Addr) else some ⟨by', oy + h, none⟩) = some ⟨by', ob, none⟩ ∧ ∀ w', Ext w w' → Rd w' (some ⟨by', ob, none⟩) (m - h) (d - h) (lim (b / Bs ^ h)) := by
    by_cases e : d = h
    · refine ⟨oy, by rw [if_pos e], fun w' he => ?_⟩
      have hz : lim (b / Bs ^ h) = [] := by
        rw [← lim_drop]
        exact List.drop_eq_nil_of_le (by rw [hly]; omega)
      rw [hz, show m - h = 0 by omega, show d - h = 0 by omega]
      exact ⟨rfl, Nat.le_refl _, by omega, (fun x hx => by cases hx), (fun e => by cases e), (fun a ha => by cases ha; rfl), fun b off hA i hi => by simp at hi⟩
    · refine ⟨oy + h, by rw [if_neg e], fun w' he => ?_⟩
      rw [← lim_drop]
      exact (hB.ext he).drop hhm
  have tA : ∀ w', Ext w w' → Calls Tryz.prog 105 #[.slice (some ⟨bx, ox, none⟩) h c] w' fun e w'' => e = .returned (.slice (some ⟨bx, ox, none⟩) (lim (a % Bs ^ h)).length c) ∧ Ext w' w'' := fun w' he => by have := bw_trim_det _ _ _ _ w' (A0 w' he); rwa [val_take_lim] at this
  have tB : ∀ w', Ext w w' → Calls Tryz.prog 105 #[.slice (some ⟨by', oy, none⟩) h d] w' fun e w'' => e = .returned (.slice (some ⟨by', oy, none⟩) (lim (b % Bs ^ h)).length d) ∧ Ext w' w'' := fun w' he => by have := bw_trim_det _ _ _ _ w' (B0 w' he); rwa [val_take_lim] at this
  have rA : ∀ w', Ext w w' → Rd w' (some ⟨bx, ox, none⟩) (lim (a % Bs ^ h)).length c (lim (a % Bs ^ h)) := fun w' he => by have := rd_trimmed (A0 w' he); rwa [val_take_lim] at this
  have rB : ∀ w', Ext w w' → Rd w' (some ⟨by', oy, none⟩) (lim (b % Bs ^ h)).length d (lim (b % Bs ^ h)) := fun w' he => by have := rd_trimmed (B0 w' he); rwa [val_take_lim] at this
  have la := len_mod a h
  have lb := len_mod b h
  have la1 : (lim (a / Bs ^ h)).length = n - h := len_div hlx
  have lb1 : (lim (b / Bs ^ h)).length = m - h := len_div hly
  have hab : a * b < Bs ^ (n + m) := by
    rw [Nat.pow_add]
    exact Nat.mul_lt_mul'' (by have := lim_lt a; rwa [hlx] at this) (by have := lim_lt b; rwa [hly] at this)
  have K := kara (Bs ^ h) (a % Bs ^ h) (a / Bs ^ h) (b % Bs ^ h) (b / Bs ^ h)
  rw [← split_lim a h, ← split_lim b h] at K
  have lsa : (lim (a % Bs ^ h + a / Bs ^ h)).length ≤ h + 1 := by
    refine lim_le ?_
    have h1 : a % Bs ^ h < Bs ^ h := Nat.mod_lt _ (Nat.pow_pos (by decide))
    have h2 : a / Bs ^ h < Bs ^ h := by
      have := lim_lt (a / Bs ^ h)
      rw [la1] at this
      exact Nat.lt_of_lt_of_le this (Nat.pow_le_pow_right (by decide) (by omega))
    have h3 : Bs ^ (h + 1) = Bs ^ h * Bs := Nat.pow_succ ..
    have h4 : Bs ^ h * 2 ≤ Bs ^ h * Bs := Nat.mul_le_mul_left _ (by decide)
    omega
  have lsb : (lim (b % Bs ^ h + b / Bs ^ h)).length ≤ h + 1 := by
    refine lim_le ?_
    have h1 : b % Bs ^ h < Bs ^ h := Nat.mod_lt _ (Nat.pow_pos (by decide))
    have h2 : b / Bs ^ h < Bs ^ h := by
      have := lim_lt (b / Bs ^ h)
      rw [lb1] at this
      exact Nat.lt_of_lt_of_le this (Nat.pow_le_pow_right (by decide) (by omega))
    have h3 : Bs ^ (h + 1) = Bs ^ h * Bs := Nat.pow_succ ..
    have h4 : Bs ^ h * 2 ≤ Bs ^ h * Bs := Nat.mul_le_mul_left _ (by decide)
    omega
  generalize hV : a * b = V at hab K ⊢
  clear hV A0 B0 hA hB hlx hly
  generalize a % Bs ^ h = a0 at K tA rA la lsa
  generalize b % Bs ^ h = b0 at K tB rB lb lsb
  generalize a / Bs ^ h = a1 at K A1 la1 lsa
  generalize b / Bs ^ h = b1 at K B1 lb1 lsb
  have HH := Lib.hid hh
  clear hh
  have HF : Hid ((lim (a0 * b0)).length ≤ n + m ∧ h + (lim ((a0 + a1) * (b0 + b1) - a0 * b0 - a1 * b1)).length ≤ n + m ∧ 2 * h + (lim (a1 * b1)).length ≤ n + m) := by
    rw [K.1.1]
    refine ⟨?_, lim_part (V := V) (by omega) hab (by omega), lim_part (V := V) ?_ hab (by omega)⟩
    · have := lim_part (P := a0 * b0) (e := 0) (V := V) (by simp; omega) hab (by omega); omega
    · rw [show 2 * h = h + h by omega, Nat.pow_add]; omega
  have KK := Lib.hid K
  have TA := Lib.hid tA
  have TB := Lib.hid tB
  have RA := Lib.hid rA
  have RB := Lib.hid rB
  have AA1 := Lib.hid A1
  have BB1 := Lib.hid B1
  have HAB := Lib.hid hab
  have LSA := Lib.hid lsa
  have LSB := Lib.hid lsb
  clear K tA tB rA rB A1 B1 hab lsa lsb
  refine ⟨?_, fun hlt => ?_⟩
  all_goals
    go_enter Tryz.func64, Tryz.ntmps64
    go_upto_region 13 with (first
      | (at_make; refine make_u32 rfl _ _ rfl _ _ _ _ (n + m + 1) rfl rfl (by simp) (by simp) (by omega) ?_; intro w1 hx1 ho1; have hext1 := Lib.hid hx1; clear hx1)
     )
    have hhi2 : ((n : Int) + 1) / 2 = (h : Int) := by have := HH.out; omega
    simp only [hhi2]
    clear hhi2
    have hGl : w.heap.size < w1.heap.size := (ho1.out.lt w.heap.size rfl).2
    have hTA : ∀ x : Aft w1, Calls Tryz.prog 105 #[.slice (some ⟨bx, ox, none⟩) h c] x.out fun e w'' => e = .returned (.slice (some ⟨bx, ox, none⟩) (lim a0).length c) ∧ Ext x.out w'' := fun x => TA.out _ (ext_trans hext1.out x.use)
    have hTB : ∀ x : Aft w1, Calls Tryz.prog 105 #[.slice (some ⟨by', oy, none⟩) h d] x.out fun e w'' => e = .returned (.slice (some ⟨by', oy, none⟩) (lim b0).length d) ∧ Ext x.out w'' := fun x => TB.out _ (ext_trans hext1.out x.use)
    refine wp_aft_tail 8 (by kernel_rfl) (by kernel_rfl) (by kernel_rfl) (fun hq hqf => ?_)
    simp only [List.take_succ_cons, List.take_zero, List.drop_succ_cons, List.drop_zero]
    repeat (go_big_quiet_step (first
      | (go_at_call 105; exact aft_of (hTA _))
      | (go_at_call 105; exact aft_of (hTB _))
      ))
    refine wpQuiet_nil ?_
    rintro _ ⟨nq, rfl⟩
    have xl := ext_lt nq.use
    have xz := ext_size nq.use
    try simp at xz
    have hE2 := Lib.hid (ext_trans hext1.out nq.use)
    go_wp2_with (first
      | (go_at_call 64; (with_reducible refine (IH _ _ _ _ _ _ _ _ (by omega) _ (RA.out _ hE2.out) (RB.out _ hE2.out)).mono ?_); rintro e w3 ⟨A3, k3, c3, rfl, hR3, xb3⟩; obtain ⟨xc3, xf3, xl3, xz3⟩ := ext_use xb3; (try simp at xz3))
     )
    have hQ1 := Lib.hid nq.use
    have hE3 := Lib.hid (ext_trans hE2.out xb3)
    go_wp2
    refine wp_aft_tail 6 (by kernel_rfl) (by kernel_rfl) (by kernel_rfl) (fun hq hqf => ?_)
    simp only [List.take_succ_cons, List.take_zero, List.drop_succ_cons, List.drop_zero]
    repeat (go_big_quiet_step (first | fail
      ))
    refine wpQuiet_nil ?_
    rintro _ ⟨nq, rfl⟩
    have xl := ext_lt nq.use
    have xz := ext_size nq.use
    try simp at xz
    have hQ3 := Lib.hid nq.use
    have hE4 := Lib.hid (ext_trans hE3.out nq.use)
    go_wp2_with (first
      | (go_at_call 64; (with_reducible refine (IH _ _ _ _ _ _ _ _ (by omega) _ (AA1.out _ hE4.out) (BB1.out _ hE4.out)).mono ?_); rintro e w5 ⟨A5, k5, c5, rfl, hR5, xb5⟩; obtain ⟨xc5, xf5, xl5, xz5⟩ := ext_use xb5; (try simp at xz5))
     )
    have hE5 := Lib.hid (ext_trans hE4.out xb5)
    go_wp2
    have hTA5 : ∀ x : Aft w5, Calls Tryz.prog 105 #[.slice (some ⟨bx, ox, none⟩) h c] x.out fun e w'' => e = .returned (.slice (some ⟨bx, ox, none⟩) (lim a0).length c) ∧ Ext x.out w'' := fun x => TA.out _ (ext_trans hE5.out x.use)
    have hTB5 : ∀ x : Aft w5, Calls Tryz.prog 105 #[.slice (some ⟨by', oy, none⟩) h d] x.out fun e w'' => e = .returned (.slice (some ⟨by', oy, none⟩) (lim b0).length d) ∧ Ext x.out w'' := fun x => TB.out _ (ext_trans hE5.out x.use)
    have f1 : h ≤ c := by omega
    have f2 : h ≤ d := by omega
    have f3 : h ≤ n := by omega
    have f5 : ¬ c = h := by omega
    refine wp_drawn_tail 16 (tab [(7, RWord w5.heap.size (a0 + a1)), (15, RWord w5.heap.size (b0 + b1))]) (by kernel_rfl) (by kernel_rfl) (by kernel_rfl)
      (tab_stays (by simp [stays_word])) (fun hq hqf => ?_)
    simp only [List.take_succ_cons, List.take_zero, List.drop_succ_cons, List.drop_zero]
    iterate 7
      (refine wpK_det rfl (fun K hK => ?_)
       go_simp
       first
         | (refine hK _ ?_; clear hK K)
         | (apply Exists.intro; refine ⟨fun x => ?_, hK _ ?_⟩; (first | exact hTA5 x | (simp [f1, f2, f3, hhm, f5, hcx, hcy, hob]; rfl)); clear hK K))
    refine wpK_rel _ rfl rfl ?_ ?_
    · rintro _ ⟨nn, rfl⟩ _
      unfold Oper.relAt
      go_simp
      exact rel_add _ _ _ _ _ _ _ _ _ (by omega) (by omega) _ _ (ext_size nn.use) (RA.out _ (ext_trans hE5.out nn.use)) (AA1.out _ (ext_trans hE5.out nn.use))
    rintro v ⟨_, ⟨nn, rfl⟩, hr⟩
    obtain ⟨A6, k6, c6, rfl, -, -⟩ := hr
    clear nn
    iterate 7
      (refine wpK_det rfl (fun K hK => ?_)
       go_simp
       first
         | (refine hK _ ?_; clear hK K)
         | (apply Exists.intro; refine ⟨fun x => ?_, hK _ ?_⟩; (first | exact hTB5 x | (simp [f1, f2, f3, hhm, f5, hcx, hcy, hob]; rfl)); clear hK K))
    refine wpK_rel _ rfl rfl ?_ ?_
    · rintro _ ⟨nn, rfl⟩ _
      unfold Oper.relAt
      go_simp
      exact rel_add _ _ _ _ _ _ _ _ _ (by omega) (by omega) _ _ (ext_size nn.use) (RB.out _ (ext_trans hE5.out nn.use)) (BB1.out _ (ext_trans hE5.out nn.use))
    rintro v ⟨_, ⟨nn, rfl⟩, hr⟩
    obtain ⟨A7, k7, c7, rfl, -, -⟩ := hr
    clear nn
    refine wpK_nil ?_
    intro nq2 hG
    have r6 : RWord w5.heap.size (a0 + a1) [] (.slice A6 k6 c6) nq2.out := by have := hG.fact 7; simp [Facts.put] at this; exact this
    have r7 : RWord w5.heap.size (b0 + b1) [] (.slice A7 k7 c7) nq2.out := by have := hG.fact 15; simp [Facts.put] at this; exact this
    have hR6 := Lib.hid (rword_at r6).1
    have hR7 := Lib.hid (rword_at r7).1
    have hl6 := hR6.out.len
    have hl7 := hR7.out.len
    have ha6 := LSA.out
    have ha7 := LSB.out
    clear r6 r7 hG
    have hE6 := Lib.hid (ext_trans hE5.out nq2.use)
    have hk8 : (lim ((a0 + a1) * (b0 + b1))).length ≤ 1000000 := by have := lim_mul_len (a0 + a1) (b0 + b1); omega
    have hQ5 := Lib.hid nq2.use
    have hQ15 := Lib.hid (ext_trans (ext_trans (ext_trans hQ1.out xb3) (ext_trans hQ3.out xb5)) nq2.use)
    have hz3 := ext_size hQ1.out
    have hz5 := ext_size (ext_trans (ext_trans hQ1.out xb3) hQ3.out)
    have ap3 : Hid (∀ q, A3 = some q → q.block ≠ w.heap.size) := fun q hq => by have := Fr.at hR3.out.2 hq; omega
    have ap5 : Hid (∀ q, A5 = some q → q.block ≠ w.heap.size) := fun q hq => by have := Fr.at hR5.out.2 hq; omega
    clear hTA hTB hTA5 hTB5
    go_wp2_with (first
      | (go_at_call 64; (with_reducible refine (IH _ _ _ _ _ _ _ _ (by omega) _ hR6.out hR7.out).mono ?_); rintro e w8 ⟨A8, k8, c8, rfl, hR8, xb8⟩; obtain ⟨xc8, xf8, xl8, xz8⟩ := ext_use xb8; (try simp at xz8))
      | (go_at_call 109; (with_reducible refine (bw_sub A8 A3 k8 c8 k3 c3 ((a0 + a1) * (b0 + b1)) (a0 * b0) KK.out.1.2.1 (by rw [← hR8.out.1.len]; exact hk8) _ hR8.out.1 (hR3.out.1.ext (ext_trans (ext_trans (ext_trans hQ3.out xb5) hQ5.out) xb8))).mono ?_); rintro e w9 ⟨A9, k9, c9, rfl, hR9, xb9⟩; obtain ⟨xc9, xf9, xl9, xz9⟩ := ext_use xb9; (try simp at xz9))
      | (go_at_call 109; (with_reducible refine (bw_sub A9 A5 k9 c9 k5 c5 ((a0 + a1) * (b0 + b1) - a0 * b0) (a1 * b1) KK.out.1.2.2 (by rw [← hR9.out.1.len]; exact Nat.le_trans (lim_mono (Nat.sub_le _ _)) hk8) _ hR9.out.1 (hR5.out.1.ext (ext_trans (ext_trans hQ5.out xb8) xb9))).mono ?_); rintro e w10 ⟨A10, k10, c10, rfl, hR10, xb10⟩; obtain ⟨xc10, xf10, xl10, xz10⟩ := ext_use xb10; (try simp at xz10))
     )
    have hE10 := Lib.hid (ext_trans (ext_trans (ext_trans hE6.out xb8) xb9) xb10)
    have hown10 := Lib.hid (own_ext ho1.out (ext_trans (ext_trans (ext_trans hQ15.out xb8) xb9) xb10))
    have hz10 := ext_size (ext_trans (ext_trans hQ15.out xb8) xb9)
    have ap10 : Hid (∀ q, A10 = some q → q.block ≠ w.heap.size) := fun q hq => by have := Fr.at hR10.out.2 hq; omega
    have hR3' := Lib.hid (hR3.out.1.ext (ext_trans (ext_trans (ext_trans (ext_trans (ext_trans hQ3.out xb5) hQ5.out) xb8) xb9) xb10))
    have hR5' := Lib.hid (hR5.out.1.ext (ext_trans (ext_trans (ext_trans hQ5.out xb8) xb9) xb10))
    have hR10' := Lib.hid hR10.out.1
    have hv0 : val (List.replicate (n + m + 1) 0) = 0 := val_replicate _
    have hBig : V < Bs ^ (n + m + 1) := Nat.lt_of_lt_of_le HAB.out (Nat.pow_le_pow_right (by decide) (by omega))
    obtain ⟨M, hM⟩ : ∃ M, M = (a0 + a1) * (b0 + b1) - a0 * b0 - a1 * b1 := ⟨_, rfl⟩
    have hVV : V = a0 * b0 + Bs ^ h * M + Bs ^ (2 * h) * (a1 * b1) := by
      rw [hM, KK.out.1.1, show 2 * h = h + h by omega, Nat.pow_add]
      exact KK.out.2
    have HFF := HF.out
    rw [← hM] at HFF hR10'
    have HFF := Lib.hid HFF
    have HVV := Lib.hid hVV
    have HBig := Lib.hid hBig
    have HV0 := Lib.hid hv0
    clear hv0 hBig hVV hM
    go_wp2_with (first
      | (go_at_call 107; (with_reducible refine (addAt_call w.heap.size w.heap.size (n + m + 1) A3 k3 c3 (a0 * b0) 0 0 rfl (List.replicate (n + m + 1) 0) w10 hown10 (lb_replicate _) hR3'.out ap3.out (by rw [HV0.out]; have := HVV.out; have := HBig.out; simp; omega) (by omega) (by have := HFF.out.1; omega)).mono ?_); rintro e w11 ⟨os1, rfl, hown11, hos11, hg11⟩)
      | (go_at_call 107; (with_reducible refine (addAt_call w.heap.size w.heap.size (n + m + 1) A10 k10 c10 M h (h : Int) rfl os1 w11 hown11 hos11.out.1 (rd_only hR10'.out hg11 ap10.out) ap10.out (by rw [hos11.out.2, HV0.out]; have := HVV.out; have := HBig.out; simp; omega) (by omega) (by have := HFF.out.2.1; omega)).mono ?_); rintro e w12 ⟨os2, rfl, hown12, hos12, hg12⟩)
      | (go_at_call 107; (with_reducible refine (addAt_call w.heap.size w.heap.size (n + m + 1) A5 k5 c5 (a1 * b1) (2 * h) (2 * (h : Int)) (by omega) os2 w12 hown12 hos12.out.1 (rd_only (rd_only hR5'.out hg11 ap5.out) hg12 ap5.out) ap5.out (by rw [hos12.out.2, hos11.out.2, HV0.out]; have := HVV.out; have := HBig.out; simp; omega) (by omega) (by have := HFF.out.2.2; omega)).mono ?_); rintro e w13 ⟨os3, rfl, hown13, hos13, hg13⟩)
      | (go_at_call 105; (with_reducible refine (bw_trim_own (V := V) hown13.out hos13.out.1 (by rw [hos13.out.2, hos12.out.2, hos11.out.2, HV0.out]; have := HVV.out; simp; omega)).mono ?_); rintro e w' ⟨⟨k, rfl, hR⟩, rfl⟩)
     )
    refine bodyPost_ret (v := .slice (some ⟨w.heap.size, 0, none⟩) k (n + m + 1)) ?h rfl ⟨_, k, n + m + 1, rfl, ⟨hR.out, fun q hq => ?_⟩, only_ext (only_ext (only_ext hE10.out hg11.out (Nat.le_refl _)) hg12.out (Nat.le_refl _)) hg13.out (Nat.le_refl _)⟩
    case h => simp [results, Tryz.results64, go_sem]
    cases hq; exact Nat.le_refl _
theorem bw_mul : ∀ (N : Nat) (A B : Option Addr) (n c m d a b : Nat), n + m = N → N ≤ 200000 → ∀ w, Rd w A n c (lim a) → Rd w B m d (lim b) → Calls Tryz.prog 64 #[.slice A n c, .slice B m d] w (WPost w (a * b)) := by
  intro N
  induction N using Nat.strongRecOn with
  | _ N ih =>
    have core : ∀ (A B : Option Addr) (n c m d a b : Nat), m ≤ n → n + m = N → N ≤ 200000 → ∀ w, Rd w A n c (lim a) → Rd w B m d (lim b) →
        (Calls Tryz.prog 64 #[.slice A n c, .slice B m d] w (WPost w (a * b))) ∧ (m < n → Calls Tryz.prog 64 #[.slice B m d, .slice A n c] w (WPost w (a * b))) := by
      intro A B n c m d a b hnm hN hs w hA hB
      subst hN
      have IH : ∀ (A B : Option Addr) (n' c m' d a b : Nat), n' + m' < n + m → ∀ w, Rd w A n' c (lim a) → Rd w B m' d (lim b) → Calls Tryz.prog 64 #[.slice A n' c, .slice B m' d] w (WPost w (a * b)) :=
        fun A B n' c m' d a b h w hA hB => ih _ h A B n' c m' d a b rfl (by omega) w hA hB
      by_cases hm : m < 40
      · exact bw_mul_small A B n c m d a b hnm hs hm w hA hB
      · by_cases h2 : 2 * m ≤ n
        · exact bw_mul_long A B n c m d a b h2 hs (by omega) w hA hB IH
        · exact bw_mul_kara A B n c m d a b hnm (by omega) hs (by omega) w hA hB IH
    intro A B n c m d a b hN hs w hA hB
    rcases Nat.lt_or_ge n m with h | h
    · have := (core B A m d n c b a (by omega) (by omega) hs w hB hA).2 h
      rwa [Nat.mul_comm] at this
    · exact (core A B n c m d a b h hN hs w hA hB).1
end Go.Proofs.YtchchnohmmncfaaGreatDoor.NB
end
