/- Lemmas of this proof, laid together: BigE, BigF, BigG, BigH, BigJ, NtH. -/
import Derived.Test.YtnkajjealkggdaaGreatDoorMg14
import Derived.Test.YtnkajjealkggdaaGreatDoorMg04
import Derived.Deep.DeepCutAuto
import Derived.Deep.RegionWith
import Derived.Test.YtnkajjealkggdaaGreatDoorMg10
import Derived.Test.YtnkajjealkggdaaGreatDoorMg01
import Derived.Deep.LoopGhost
import Derived.Test.YtnkajjealkggdaaGreatDoorMg11
import Derived.Deep.CutRange
set_option linter.unusedSimpArgs false
set_option linter.unusedVariables false
section
/- Words of the library's: products of any length (Karatsuba's way). -/
namespace Go.Proofs.YtnkajjealkggdaaGreatDoor
open Go.RowKit
attribute [local go_sem] sz2 sz3 sz4 sz5 sz6 sz7 sz8
attribute [local go_sem] Oper.detAt detUpon relUpon
set_option maxHeartbeats 4000000
set_option maxRecDepth 100000
attribute [local irreducible] Calls
theorem Rd.drop {w : World} {b off n c : Nat} {xs : List Nat} (h : Rd w (some ⟨b, off, none⟩) n c xs) {k : Nat} (hk : k ≤ n) : Rd w (some ⟨b, off + k, none⟩) (n - k) (c - k) (xs.drop k) := by
  have hl := h.len
  have hc := h.cap
  have hm := h.mx
  refine ⟨by rw [List.length_drop]; omega, by omega, by omega, fun x hx => h.lb x (List.mem_of_mem_drop hx), (fun e => by cases e), (fun a ha => by cases ha; rfl), fun b' off' hA i hi => ?_⟩
  cases hA
  rw [List.length_drop] at hi
  obtain ⟨h1, h2⟩ := h.cells b off rfl (k + i) (by omega)
  refine ⟨h1, ?_⟩
  rw [Nat.add_assoc, h2, List.getElem_drop]
theorem lim_drop : ∀ (k a : Nat), (lim a).drop k = lim (a / Bs ^ k)
  | 0, a => by simp
  | k + 1, a => by
    by_cases h : a = 0
    · subst h; simp [lim_zero]
    · rw [lim_pos h, List.drop_succ_cons, lim_drop k, Nat.div_div_eq_div_mul, Nat.pow_succ, Nat.mul_comm]
theorem val_take_lim (k a : Nat) : val ((lim a).take k) = a % Bs ^ k := by
  rcases Nat.lt_or_ge k (lim a).length with h | h
  · have h1 := val_append ((lim a).take k) ((lim a).drop k)
    rw [List.take_append_drop, val_lim, lim_drop, val_lim, List.length_take, Nat.min_eq_left (Nat.le_of_lt h)] at h1
    have h2 : val ((lim a).take k) < Bs ^ k := by
      have := val_lt ((lim a).take k) (fun x hx => lb_lim a x (List.mem_of_mem_take hx))
      rwa [List.length_take, Nat.min_eq_left (Nat.le_of_lt h)] at this
    have h3 := Nat.mod_add_div a (Bs ^ k)
    have : a % Bs ^ k < Bs ^ k := Nat.mod_lt _ (Nat.pow_pos (by decide))
    omega
  · rw [take_ge h, val_lim, Nat.mod_eq_of_lt]
    exact Nat.lt_of_lt_of_le (lim_lt a) (Nat.pow_le_pow_right (by decide) h)
theorem Fr.at {W : World} {A : Option Addr} (h : Fr W A) {a : Addr} (ha : A = some a) : W.heap.size ≤ a.block := h a ha
abbrev WPost (w : World) (V : Nat) : Ending → World → Prop := fun e w' => ∃ (A : Option Addr) (k c : Nat), e = .returned (.slice A k c) ∧ Hid (Rd w' A k c (lim V) ∧ Fr w A) ∧ Ext w w'
/-- A row that a call answered, in memory of its own. -/
def RWord (N : Nat) (v : Nat) : List Value → Value → World → Prop := fun _ u w => ∃ (A : Option Addr) (k c : Nat), u = .slice A k c ∧ Rd w A k c (lim v) ∧ ∀ a, A = some a → N ≤ a.block
theorem stays_word (N v : Nat) : Stays (RWord N v) := fun _ _ _ _ ⟨A, k, c, h1, h2, h3⟩ he => ⟨A, k, c, h1, h2.ext he, h3⟩
theorem rword_at {N v : Nat} {vals : List Value} {A : Option Addr} {k c : Nat} {w : World} (h : RWord N v vals (.slice A k c) w) : Rd w A k c (lim v) ∧ ∀ a, A = some a → N ≤ a.block := by
  obtain ⟨A', k', c', e, h2, h3⟩ := h
  simp only [Value.slice.injEq] at e
  obtain ⟨rfl, rfl, rfl⟩ := e
  exact ⟨h2, h3⟩
theorem rel_add (N : Nat) (A B : Option Addr) (n c m d a b : Nat) (hn : n ≤ 1000000) (hm : m ≤ 1000000) (vals : List Value) (w : World) (hN : N ≤ w.heap.size) (hA : Rd w A n c (lim a)) (hB : Rd w B m d (lim b)) :
    Calls Tryz.prog 136 #[.slice A n c, .slice B m d] w fun e w' => ∃ v, e = .returned v ∧ Ext w w' ∧ Fresh w v w' ∧ RWord N (a + b) vals v w' := by
  refine (bw_add A B n c m d a b hn hm w hA hB).mono ?_
  rintro e w' ⟨A', k, c', he, h1, h2⟩
  refine ⟨_, he, h2, ?_, A', k, c', rfl, h1.out.1, fun a ha => Nat.le_trans hN (h1.out.2.1 a ha)⟩
  intro q hq
  cases A' with
  | none => simp [blk] at hq
  | some z =>
    simp only [blk, Option.some.injEq] at hq
    subst hq
    exact ⟨h1.out.2.1 z rfl, h1.out.2.2 z rfl⟩
theorem bw_trim_det (A : Option Addr) (n c : Nat) (xs : List Nat) (w : World) (hR : Rd w A n c xs) :
    Calls Tryz.prog 111 #[.slice A n c] w fun e w' => e = .returned (.slice A (lim (val xs)).length c) ∧ Ext w w' := by
  refine (bw_trim A n c xs w hR).mono ?_
  rintro e w' ⟨k, rfl, h2, rfl⟩
  have := h2.len
  rw [trimZ_lim _ hR.lb] at this
  exact ⟨by rw [this], ext_refl _⟩
theorem rd_trimmed {A : Option Addr} {n c : Nat} {xs : List Nat} {w : World} (hR : Rd w A n c xs) : Rd w A (lim (val xs)).length c (lim (val xs)) := by
  obtain ⟨k, hk, he⟩ := trimZ_prefix xs
  rw [trimZ_lim _ hR.lb] at he
  have e : (lim (val xs)).length = k := by rw [he, List.length_take, Nat.min_eq_left hk]
  rw [e, he]
  exact hR.take (by rw [← hR.len]; exact hk)
end Go.Proofs.YtnkajjealkggdaaGreatDoor
end
section
/- Words of the library's: products of any length. -/
namespace Go.Proofs.YtnkajjealkggdaaGreatDoor
open Go.RowKit
attribute [local go_sem] sz2 sz3 sz4 sz5 sz6 sz7 sz8
attribute [local go_sem] Oper.detAt detUpon relUpon
set_option maxHeartbeats 4000000
set_option maxRecDepth 100000
attribute [local irreducible] Calls
theorem piece_val {a m at_ k n : Nat} (hk : k = min (at_ + m) n - at_) (hn : (lim a).length = n) (h0 : at_ ≤ n) : val ((lim a).take (at_ + m)) = val ((lim a).take at_) + Bs ^ at_ * val (((lim a).drop at_).take k) := by
  have e : ((lim a).drop at_).take k = ((lim a).drop at_).take m := by
    rcases Nat.le_total (at_ + m) n with h | h
    · rw [hk, Nat.min_eq_left h]; congr 1; omega
    · rw [hk, Nat.min_eq_right h, List.take_of_length_le (by simp; omega), List.take_of_length_le (by simp; omega)]
  rw [e, List.take_add, val_append, List.length_take, Nat.min_eq_left (by omega)]
theorem bw_mul_small (A B : Option Addr) (n c m d a b : Nat) (hnm : m ≤ n) (hs : n + m ≤ 200000) (hm : m < 40) (w : World) (hA : Rd w A n c (lim a)) (hB : Rd w B m d (lim b)) :
    (Calls Tryz.prog 171 #[.slice A n c, .slice B m d] w (WPost w (a * b))) ∧ (m < n → Calls Tryz.prog 171 #[.slice B m d, .slice A n c] w (WPost w (a * b))) := by
  have hp := bw_plain A B n c m d _ _ (by omega) (by omega) w hA hB
  rw [val_lim, val_lim] at hp
  have hmx := hA.mx
  have hcx := hA.cap
  have hmy := hB.mx
  have hcy := hB.cap
  clear hA hB
  refine ⟨?_, fun hlt => ?_⟩
  all_goals
    go_enter Tryz.func171, Tryz.ntmps171
    go_wp2_with (first
      | (go_at_call 200; (with_reducible refine (hp).mono ?_); rintro e w1 ⟨A', k, c', rfl, hR, xb1⟩; obtain ⟨xc1, xf1, xl1, xz1⟩ := ext_use xb1; (try simp at xz1))
     )
    refine bodyPost_ret (v := .slice A' k c') ?h rfl ⟨A', k, c', rfl, hR, xb1⟩
    case h => simp [results, Tryz.results171, go_sem]
theorem bw_mul_long (A B : Option Addr) (n c m d a b : Nat) (hnm : 2 * m ≤ n) (hs : n + m ≤ 200000) (hm : 40 ≤ m) (w : World) (hA : Rd w A n c (lim a)) (hB : Rd w B m d (lim b))
    (IH : ∀ (A B : Option Addr) (n' c m' d a b : Nat), n' + m' < n + m → ∀ w, Rd w A n' c (lim a) → Rd w B m' d (lim b) → Calls Tryz.prog 171 #[.slice A n' c, .slice B m' d] w (WPost w (a * b))) :
    (Calls Tryz.prog 171 #[.slice A n c, .slice B m d] w (WPost w (a * b))) ∧ (m < n → Calls Tryz.prog 171 #[.slice B m d, .slice A n c] w (WPost w (a * b))) := by
  have hmx := hA.mx
  have hcx := hA.cap
  have hmy := hB.mx
  have hcy := hB.cap
  have HA := Lib.hid hA
  have HB := Lib.hid hB
  have hlx := Lib.hid hA.len
  have hly := Lib.hid hB.len
  clear hA hB
  refine ⟨?_, fun hlt => ?_⟩
  all_goals
    go_enter Tryz.func171, Tryz.ntmps171
    go_wp2_with (first
      | (at_make; refine make_u32 rfl _ _ rfl _ _ _ _ (n + m + 1) rfl rfl (by simp) (by simp) (by omega) ?_; intro w1 hx1 ho1; have hext1 := Lib.hid hx1; clear hx1)
     )
    have hGl : w.heap.size < w1.heap.size := (ho1.out.lt w.heap.size rfl).2
    go_loopw [6] (fun vi wr => ∃ (at_ : Nat) (os : List Nat), at_ < n + m ∧ vi = .int .i64 (at_ : Int) ∧ Hid (Lb os ∧ val os = val ((lim a).take at_) * b) ∧
        Hid (wr.ownsRow w.heap.size 48 1 (.slice (some ⟨w.heap.size, 0, none⟩) (n + m + 1) (n + m + 1)) (n + m + 1) (os.map u32V)) ∧ Hid (Ext w wr))
      (fun vi _ => n - (intOf vi).toNat)
    case atStart => exact ⟨0, List.replicate (n + m + 1) 0, by omega, rfl, ⟨lb_replicate _, by rw [val_replicate]; simp [val]⟩, ho1.out, hext1.out⟩
    case round =>
      clear ho1 hext1
      obtain ⟨at_, os, hat, rfl, hos, hown, hext⟩ := hrel
      by_cases h0 : at_ < n
      · obtain ⟨bx, ox, hXe⟩ : ∃ b off, A = some ⟨b, off, none⟩ := by
          rcases HA.out.shape with ⟨_, h, _⟩ | h
          · omega
          · exact h
        subst hXe
        obtain ⟨k, hk⟩ : ∃ k, k = min (at_ + m) n - at_ := ⟨_, rfl⟩
        have hP : Rd wr (some ⟨bx, ox + at_, none⟩) k (c - at_) (((lim a).drop at_).take k) := ((HA.out.ext hext.out).drop (by omega)).take (by omega)
        have hpv := piece_val hk hlx.out (Nat.le_of_lt h0)
        have hPT := rd_trimmed hP
        have hPl : (lim (val (((lim a).drop at_).take k))).length ≤ k := by have h1 := hPT.len; have h2 := lim_le (val_lt _ hP.lb); rwa [hP.len] at h2
        have htr : ∀ L, L = k → Calls Tryz.prog 111 #[.slice (some ⟨bx, ox + at_, none⟩) L (c - at_)] wr fun e w' => e = .returned (.slice (some ⟨bx, ox + at_, none⟩) (lim (val (((lim a).drop at_).take k))).length (c - at_)) ∧ Ext wr w' := fun L hL => by subst hL; exact bw_trim_det _ _ _ _ wr hP
        clear hP
        generalize val (((lim a).drop at_).take k) = P at hpv hPT hPl htr
        have hmul : ∀ w', Hid (Ext wr w') → Calls Tryz.prog 171 #[.slice (some ⟨bx, ox + at_, none⟩) (lim P).length (c - at_), .slice B m d] w' (WPost w' (P * b)) := fun w' he => IH _ _ _ _ _ _ _ _ (by omega) w' (hPT.ext he.out) ((HB.out.ext hext.out).ext he.out)
        have hfit : Hid ((val os + Bs ^ at_ * (P * b) = val ((lim a).take (at_ + m)) * b) ∧ val os + Bs ^ at_ * (P * b) < Bs ^ (n + m + 1) ∧ at_ + (lim (P * b)).length ≤ n + m + 1) := by
          have e1 : val os + Bs ^ at_ * (P * b) = val ((lim a).take (at_ + m)) * b := by rw [hos.out.2, hpv, Nat.add_mul, Nat.mul_assoc]
          refine ⟨e1, ?_, ?_⟩
          · rw [e1, val_take_lim]
            have h1 : a % Bs ^ (at_ + m) ≤ a := Nat.mod_le _ _
            have h2 : a < Bs ^ n := by have := lim_lt a; rwa [hlx.out] at this
            have h3 : b < Bs ^ m := by have := lim_lt b; rwa [hly.out] at this
            have h4 : (a % Bs ^ (at_ + m)) * b < Bs ^ n * Bs ^ m := Nat.mul_lt_mul'' (Nat.lt_of_le_of_lt h1 h2) h3
            rw [← Nat.pow_add] at h4
            exact Nat.lt_of_lt_of_le h4 (Nat.pow_le_pow_right (by decide) (by omega))
          · have h2 : P < Bs ^ k := Nat.lt_of_lt_of_le (lim_lt P) (Nat.pow_le_pow_right (by decide) hPl)
            have h3 : b < Bs ^ m := by have := lim_lt b; rwa [hly.out] at this
            have h4 : P * b < Bs ^ k * Bs ^ m := Nat.mul_lt_mul'' h2 h3
            rw [← Nat.pow_add] at h4
            have := lim_le h4
            omega
        clear hPT hpv
        have HK := Lib.hid hk
        have HPL := Lib.hid hPl
        go_wp2_with (first
          | (go_at_call 111; (with_reducible refine (htr _ (by omega)).mono ?_); rintro e w2 ⟨rfl, xb2⟩; obtain ⟨xc2, xf2, xl2, xz2⟩ := ext_use xb2; (try simp at xz2))
          | (go_at_call 171; (with_reducible refine (hmul _ (Lib.hid xb2)).mono ?_); rintro e w3 ⟨A3, k3, c3, rfl, hR3, xb3⟩; obtain ⟨xc3, xf3, xl3, xz3⟩ := ext_use xb3; (try simp at xz3))
          | (go_at_call 201; (with_reducible refine (bw_addAt w.heap.size w.heap.size (n + m + 1) A3 k3 c3 (lim (P * b)) at_ os w3 (own_ext (own_ext hown.out xb2) xb3) hos.out.1 hR3.out.1 (fun q hq _ e => by have h1 := Fr.at hR3.out.2 hq; have h2 := (hown.out.lt w.heap.size rfl).2; have h3 := ext_size xb2; omega) (by rw [val_lim]; exact hfit.out.2.1) (by omega) (by have h1 := hR3.out.1.len; have h2 := hfit.out.2.2; omega)).mono ?_); rintro e w4 ⟨os4, rfl, hown4, hos4, hg4⟩)
         )
        all_goals
          go_roundw
          case rel =>
            exact ⟨at_ + m, by omega, by simp, os4, ⟨hos4.out.1, by rw [hos4.out.2, val_lim]; exact hfit.out.1⟩, hown4, only_ext (ext_trans (ext_trans hext.out xb2) xb3) hg4.out (Nat.le_refl _)⟩
          case measure => simp [intOf]; omega
      · have hv : val os = a * b := by rw [hos.out.2, take_ge (by rw [hlx.out]; omega), val_lim]
        have hT := bw_trim_own hown.out hos.out.1 hv
        have hE := hext.out
        clear hv
        go_wp2_with (first
          | (go_at_call 111; (with_reducible refine hT.mono ?_); rintro e w' ⟨⟨k, rfl, hR⟩, rfl⟩)
         )
        refine bodyPost_ret (v := .slice (some ⟨w.heap.size, 0, none⟩) k (n + m + 1)) ?h rfl ⟨_, k, n + m + 1, rfl, ⟨hR.out, fun q hq => ?_⟩, hE⟩
        case h => simp [results, Tryz.results171, go_sem]
        cases hq; exact Nat.le_refl _
end Go.Proofs.YtnkajjealkggdaaGreatDoor
end
section
/- Words of the library's: products by three smaller ones. -/
namespace Go.Proofs.YtnkajjealkggdaaGreatDoor
open Go.RowKit
attribute [local go_sem] sz2 sz3 sz4 sz5 sz6 sz7 sz8
attribute [local go_sem] Oper.detAt detUpon relUpon
set_option maxHeartbeats 4000000
set_option maxRecDepth 100000
attribute [local irreducible] Calls
theorem kara (R a0 a1 b0 b1 : Nat) : ((a0 + a1) * (b0 + b1) - a0 * b0 - a1 * b1 = a0 * b1 + a1 * b0 ∧ a0 * b0 ≤ (a0 + a1) * (b0 + b1) ∧ a1 * b1 ≤ (a0 + a1) * (b0 + b1) - a0 * b0) ∧
    (a0 + R * a1) * (b0 + R * b1) = a0 * b0 + R * (a0 * b1 + a1 * b0) + R * R * (a1 * b1) := by
  have e : (a0 + a1) * (b0 + b1) = a0 * b0 + a0 * b1 + (a1 * b0 + a1 * b1) := by rw [Nat.add_mul, Nat.mul_add, Nat.mul_add]
  refine ⟨⟨by omega, by omega, by omega⟩, ?_⟩
  have e2 : R * a1 * (R * b1) = R * R * (a1 * b1) := by rw [Nat.mul_mul_mul_comm]
  have e3 : a0 * (R * b1) = R * (a0 * b1) := by rw [← Nat.mul_assoc, Nat.mul_comm a0 R, Nat.mul_assoc]
  rw [Nat.add_mul, Nat.mul_add, Nat.mul_add, e2, e3, Nat.mul_add, Nat.mul_assoc R a1 b0]
  omega
theorem split_lim (a h : Nat) : a = a % Bs ^ h + Bs ^ h * (a / Bs ^ h) := (Nat.mod_add_div a (Bs ^ h)).symm
theorem len_mod (a h : Nat) : (lim (a % Bs ^ h)).length ≤ h := lim_le (Nat.mod_lt _ (Nat.pow_pos (by decide)))
theorem len_div {a h n : Nat} (hn : (lim a).length = n) : (lim (a / Bs ^ h)).length = n - h := by rw [← lim_drop, List.length_drop, hn]
theorem lim_mul_len (x y : Nat) : (lim (x * y)).length ≤ (lim x).length + (lim y).length := by
  refine lim_le ?_
  rw [Nat.pow_add]
  exact Nat.mul_lt_mul'' (lim_lt x) (lim_lt y)
theorem lim_part {P V e k : Nat} (h : Bs ^ e * P ≤ V) (hV : V < Bs ^ k) (he : e ≤ k) : e + (lim P).length ≤ k := by
  have h1 : Bs ^ e * P < Bs ^ e * Bs ^ (k - e) := by
    rw [← Nat.pow_add, show e + (k - e) = k by omega]; omega
  have h2 := lim_le (Nat.lt_of_mul_lt_mul_left h1)
  omega
theorem addAt_call (base g n : Nat) (B : Option Addr) (m d v : Nat) (at_ : Nat) (z : Int) (hz : z = at_) (os : List Nat) (w : World) (hown : Hid (w.ownsRow base 48 1 (.slice (some ⟨g, 0, none⟩) n n) n (os.map u32V))) (hos : Lb os)
    (hB : Rd w B m d (lim v)) (hap : ∀ a, B = some a → a.block ≠ g) (hfit : val os + Bs ^ at_ * v < Bs ^ n) (hn : n ≤ 3000000) (hat : at_ + (lim v).length ≤ n) :
    Calls Tryz.prog 201 #[.slice (some ⟨g, 0, none⟩) n n, .slice B m d, .int .i64 z] w fun e w' => ∃ os' : List Nat, e = .returned (.tuple #[]) ∧ Hid (w'.ownsRow base 48 1 (.slice (some ⟨g, 0, none⟩) n n) n (os'.map u32V)) ∧
      Hid (Lb os' ∧ val os' = val os + Bs ^ at_ * v) ∧ Hid (w.grownBy w' (some g)) := by
  subst hz
  have := bw_addAt base g n B m d (lim v) at_ os w hown.out hos hB (fun a ha _ => hap a ha) (by rw [val_lim]; exact hfit) hn (by rw [← hB.len]; exact hat)
  rwa [val_lim] at this
theorem rd_only {w w' : World} {g : Nat} {A : Option Addr} {n c : Nat} {xs : List Nat} (h : Rd w A n c xs) (hg : Hid (w.grownBy w' (some g))) (hap : ∀ a, A = some a → a.block ≠ g) : Rd w' A n c xs :=
  rd_grown h hg.out (fun a ha _ e => hap a ha (by simp at e; exact e.symm))
theorem bw_mul_kara (A B : Option Addr) (n c m d a b : Nat) (hnm : m ≤ n) (h2 : n < 2 * m) (hs : n + m ≤ 200000) (hm : 40 ≤ m) (w : World) (hA : Rd w A n c (lim a)) (hB : Rd w B m d (lim b))
    (IH : ∀ (A B : Option Addr) (n' c m' d a b : Nat), n' + m' < n + m → ∀ w, Rd w A n' c (lim a) → Rd w B m' d (lim b) → Calls Tryz.prog 171 #[.slice A n' c, .slice B m' d] w (WPost w (a * b))) :
    (Calls Tryz.prog 171 #[.slice A n c, .slice B m d] w (WPost w (a * b))) ∧ (m < n → Calls Tryz.prog 171 #[.slice B m d, .slice A n c] w (WPost w (a * b))) := by
  have hmx := hA.mx
  have hcx := hA.cap
  have hmy := hB.mx
  have hcy := hB.cap
  obtain ⟨bx, ox, hXe⟩ : ∃ b off, A = some ⟨b, off, none⟩ := by
    rcases hA.shape with ⟨_, h, _⟩ | h
    · omega
    · exact h
  obtain ⟨by', oy, hYe⟩ : ∃ b off, B = some ⟨b, off, none⟩ := by
    rcases hB.shape with ⟨_, h, _⟩ | h
    · omega
    · exact h
  subst hXe hYe
  obtain ⟨h, hh⟩ : ∃ h, h = (n + 1) / 2 := ⟨_, rfl⟩
  have hhn : h < n := by omega
  have hhm : h ≤ m := by omega
  have h2h : 2 * h ≤ n + 1 := by omega
  have hh1 : 1 ≤ h := by omega
  have hlx := hA.len
  have hly := hB.len
  -- the halves
  have A0 : ∀ w', Ext w w' → Rd w' (some ⟨bx, ox, none⟩) h c ((lim a).take h) := fun w' he => (hA.ext he).take (by omega)
  have B0 : ∀ w', Ext w w' → Rd w' (some ⟨by', oy, none⟩) h d ((lim b).take h) := fun w' he => (hB.ext he).take hhm
  have A1 : ∀ w', Ext w w' → Rd w' (some ⟨bx, ox + h, none⟩) (n - h) (c - h) (lim (a / Bs ^ h)) := fun w' he => by rw [← lim_drop]; exact (hA.ext he).drop (by omega)
  obtain ⟨ob, hob, B1⟩ : ∃ ob, (if d = h then some (⟨by', oy, none⟩ : Addr) else some ⟨by', oy + h, none⟩) = some ⟨by', ob, none⟩ ∧ ∀ w', Ext w w' → Rd w' (some ⟨by', ob, none⟩) (m - h) (d - h) (lim (b / Bs ^ h)) := by
    by_cases e : d = h
    · refine ⟨oy, by rw [if_pos e], fun w' he => ?_⟩
      have hz : lim (b / Bs ^ h) = [] := by
        rw [← lim_drop]
        exact List.drop_eq_nil_of_le (by rw [hly]; omega)
      rw [hz, show m - h = 0 by omega, show d - h = 0 by omega]
      exact ⟨rfl, Nat.le_refl _, by omega, (fun x hx => by cases hx), (fun e => by cases e), (fun a ha => by cases ha; rfl), fun b off hA i hi => by simp at hi⟩
    · refine ⟨oy + h, by rw [if_neg e], fun w' he => ?_⟩
      rw [← lim_drop]
      exact (hB.ext he).drop hhm
  have tA : ∀ w', Ext w w' → Calls Tryz.prog 111 #[.slice (some ⟨bx, ox, none⟩) h c] w' fun e w'' => e = .returned (.slice (some ⟨bx, ox, none⟩) (lim (a % Bs ^ h)).length c) ∧ Ext w' w'' := fun w' he => by have := bw_trim_det _ _ _ _ w' (A0 w' he); rwa [val_take_lim] at this
  have tB : ∀ w', Ext w w' → Calls Tryz.prog 111 #[.slice (some ⟨by', oy, none⟩) h d] w' fun e w'' => e = .returned (.slice (some ⟨by', oy, none⟩) (lim (b % Bs ^ h)).length d) ∧ Ext w' w'' := fun w' he => by have := bw_trim_det _ _ _ _ w' (B0 w' he); rwa [val_take_lim] at this
  have rA : ∀ w', Ext w w' → Rd w' (some ⟨bx, ox, none⟩) (lim (a % Bs ^ h)).length c (lim (a % Bs ^ h)) := fun w' he => by have := rd_trimmed (A0 w' he); rwa [val_take_lim] at this
  have rB : ∀ w', Ext w w' → Rd w' (some ⟨by', oy, none⟩) (lim (b % Bs ^ h)).length d (lim (b % Bs ^ h)) := fun w' he => by have := rd_trimmed (B0 w' he); rwa [val_take_lim] at this
  have la := len_mod a h
  have lb := len_mod b h
  have la1 : (lim (a / Bs ^ h)).length = n - h := len_div hlx
  have lb1 : (lim (b / Bs ^ h)).length = m - h := len_div hly
  have hab : a * b < Bs ^ (n + m) := by
    rw [Nat.pow_add]
    exact Nat.mul_lt_mul'' (by have := lim_lt a; rwa [hlx] at this) (by have := lim_lt b; rwa [hly] at this)
  have K := kara (Bs ^ h) (a % Bs ^ h) (a / Bs ^ h) (b % Bs ^ h) (b / Bs ^ h)
  rw [← split_lim a h, ← split_lim b h] at K
  have lsa : (lim (a % Bs ^ h + a / Bs ^ h)).length ≤ h + 1 := by
    refine lim_le ?_
    have h1 : a % Bs ^ h < Bs ^ h := Nat.mod_lt _ (Nat.pow_pos (by decide))
    have h2 : a / Bs ^ h < Bs ^ h := by
      have := lim_lt (a / Bs ^ h)
      rw [la1] at this
      exact Nat.lt_of_lt_of_le this (Nat.pow_le_pow_right (by decide) (by omega))
    have h3 : Bs ^ (h + 1) = Bs ^ h * Bs := Nat.pow_succ ..
    have h4 : Bs ^ h * 2 ≤ Bs ^ h * Bs := Nat.mul_le_mul_left _ (by decide)
    omega
  have lsb : (lim (b % Bs ^ h + b / Bs ^ h)).length ≤ h + 1 := by
    refine lim_le ?_
    have h1 : b % Bs ^ h < Bs ^ h := Nat.mod_lt _ (Nat.pow_pos (by decide))
    have h2 : b / Bs ^ h < Bs ^ h := by
      have := lim_lt (b / Bs ^ h)
      rw [lb1] at this
      exact Nat.lt_of_lt_of_le this (Nat.pow_le_pow_right (by decide) (by omega))
    have h3 : Bs ^ (h + 1) = Bs ^ h * Bs := Nat.pow_succ ..
    have h4 : Bs ^ h * 2 ≤ Bs ^ h * Bs := Nat.mul_le_mul_left _ (by decide)
    omega
  generalize hV : a * b = V at hab K ⊢
  clear hV A0 B0 hA hB hlx hly
  generalize a % Bs ^ h = a0 at K tA rA la lsa
  generalize b % Bs ^ h = b0 at K tB rB lb lsb
  generalize a / Bs ^ h = a1 at K A1 la1 lsa
  generalize b / Bs ^ h = b1 at K B1 lb1 lsb
  have HH := Lib.hid hh
  clear hh
  have HF : Hid ((lim (a0 * b0)).length ≤ n + m ∧ h + (lim ((a0 + a1) * (b0 + b1) - a0 * b0 - a1 * b1)).length ≤ n + m ∧ 2 * h + (lim (a1 * b1)).length ≤ n + m) := by
    rw [K.1.1]
    refine ⟨?_, lim_part (V := V) (by omega) hab (by omega), lim_part (V := V) ?_ hab (by omega)⟩
    · have := lim_part (P := a0 * b0) (e := 0) (V := V) (by simp; omega) hab (by omega); omega
    · rw [show 2 * h = h + h by omega, Nat.pow_add]; omega
  have KK := Lib.hid K
  have TA := Lib.hid tA
  have TB := Lib.hid tB
  have RA := Lib.hid rA
  have RB := Lib.hid rB
  have AA1 := Lib.hid A1
  have BB1 := Lib.hid B1
  have HAB := Lib.hid hab
  have LSA := Lib.hid lsa
  have LSB := Lib.hid lsb
  clear K tA tB rA rB A1 B1 hab lsa lsb
  refine ⟨?_, fun hlt => ?_⟩
  all_goals
    go_enter Tryz.func171, Tryz.ntmps171
    go_upto_region 13 with (first
      | (at_make; refine make_u32 rfl _ _ rfl _ _ _ _ (n + m + 1) rfl rfl (by simp) (by simp) (by omega) ?_; intro w1 hx1 ho1; have hext1 := Lib.hid hx1; clear hx1)
     )
    have hhi2 : ((n : Int) + 1) / 2 = (h : Int) := by have := HH.out; omega
    simp only [hhi2]
    clear hhi2
    have hGl : w.heap.size < w1.heap.size := (ho1.out.lt w.heap.size rfl).2
    have hTA : ∀ x : Aft w1, Calls Tryz.prog 111 #[.slice (some ⟨bx, ox, none⟩) h c] x.out fun e w'' => e = .returned (.slice (some ⟨bx, ox, none⟩) (lim a0).length c) ∧ Ext x.out w'' := fun x => TA.out _ (ext_trans hext1.out x.use)
    have hTB : ∀ x : Aft w1, Calls Tryz.prog 111 #[.slice (some ⟨by', oy, none⟩) h d] x.out fun e w'' => e = .returned (.slice (some ⟨by', oy, none⟩) (lim b0).length d) ∧ Ext x.out w'' := fun x => TB.out _ (ext_trans hext1.out x.use)
    refine wp_aft_tail 8 (by kernel_rfl) (by kernel_rfl) (by kernel_rfl) (fun hq hqf => ?_)
    simp only [List.take_succ_cons, List.take_zero, List.drop_succ_cons, List.drop_zero]
    repeat (go_big_quiet_step (first
      | (go_at_call 111; exact aft_of (hTA _))
      | (go_at_call 111; exact aft_of (hTB _))
      ))
    refine wpQuiet_nil ?_
    rintro _ ⟨nq, rfl⟩
    have xl := ext_lt nq.use
    have xz := ext_size nq.use
    try simp at xz
    have hE2 := Lib.hid (ext_trans hext1.out nq.use)
    go_wp2_with (first
      | (go_at_call 171; (with_reducible refine (IH _ _ _ _ _ _ _ _ (by omega) _ (RA.out _ hE2.out) (RB.out _ hE2.out)).mono ?_); rintro e w3 ⟨A3, k3, c3, rfl, hR3, xb3⟩; obtain ⟨xc3, xf3, xl3, xz3⟩ := ext_use xb3; (try simp at xz3))
     )
    have hQ1 := Lib.hid nq.use
    have hE3 := Lib.hid (ext_trans hE2.out xb3)
    go_wp2
    refine wp_aft_tail 6 (by kernel_rfl) (by kernel_rfl) (by kernel_rfl) (fun hq hqf => ?_)
    simp only [List.take_succ_cons, List.take_zero, List.drop_succ_cons, List.drop_zero]
    repeat (go_big_quiet_step (first | fail
      ))
    refine wpQuiet_nil ?_
    rintro _ ⟨nq, rfl⟩
    have xl := ext_lt nq.use
    have xz := ext_size nq.use
    try simp at xz
    have hQ3 := Lib.hid nq.use
    have hE4 := Lib.hid (ext_trans hE3.out nq.use)
    go_wp2_with (first
      | (go_at_call 171; (with_reducible refine (IH _ _ _ _ _ _ _ _ (by omega) _ (AA1.out _ hE4.out) (BB1.out _ hE4.out)).mono ?_); rintro e w5 ⟨A5, k5, c5, rfl, hR5, xb5⟩; obtain ⟨xc5, xf5, xl5, xz5⟩ := ext_use xb5; (try simp at xz5))
     )
    have hE5 := Lib.hid (ext_trans hE4.out xb5)
    go_wp2
    have hTA5 : ∀ x : Aft w5, Calls Tryz.prog 111 #[.slice (some ⟨bx, ox, none⟩) h c] x.out fun e w'' => e = .returned (.slice (some ⟨bx, ox, none⟩) (lim a0).length c) ∧ Ext x.out w'' := fun x => TA.out _ (ext_trans hE5.out x.use)
    have hTB5 : ∀ x : Aft w5, Calls Tryz.prog 111 #[.slice (some ⟨by', oy, none⟩) h d] x.out fun e w'' => e = .returned (.slice (some ⟨by', oy, none⟩) (lim b0).length d) ∧ Ext x.out w'' := fun x => TB.out _ (ext_trans hE5.out x.use)
    have f1 : h ≤ c := by omega
    have f2 : h ≤ d := by omega
    have f3 : h ≤ n := by omega
    have f5 : ¬ c = h := by omega
    refine wp_drawn_tail 16 (tab [(7, RWord w5.heap.size (a0 + a1)), (15, RWord w5.heap.size (b0 + b1))]) (by kernel_rfl) (by kernel_rfl) (by kernel_rfl)
      (tab_stays (by simp [stays_word])) (fun hq hqf => ?_)
    simp only [List.take_succ_cons, List.take_zero, List.drop_succ_cons, List.drop_zero]
    iterate 7
      (refine wpK_det rfl (fun K hK => ?_)
       go_simp
       first
         | (refine hK _ ?_; clear hK K)
         | (apply Exists.intro; refine ⟨fun x => ?_, hK _ ?_⟩; (first | exact hTA5 x | (simp [f1, f2, f3, hhm, f5, hcx, hcy, hob]; rfl)); clear hK K))
    refine wpK_rel _ rfl rfl ?_ ?_
    · rintro _ ⟨nn, rfl⟩ _
      unfold Oper.relAt
      go_simp
      exact rel_add _ _ _ _ _ _ _ _ _ (by omega) (by omega) _ _ (ext_size nn.use) (RA.out _ (ext_trans hE5.out nn.use)) (AA1.out _ (ext_trans hE5.out nn.use))
    rintro v ⟨_, ⟨nn, rfl⟩, hr⟩
    obtain ⟨A6, k6, c6, rfl, -, -⟩ := hr
    clear nn
    iterate 7
      (refine wpK_det rfl (fun K hK => ?_)
       go_simp
       first
         | (refine hK _ ?_; clear hK K)
         | (apply Exists.intro; refine ⟨fun x => ?_, hK _ ?_⟩; (first | exact hTB5 x | (simp [f1, f2, f3, hhm, f5, hcx, hcy, hob]; rfl)); clear hK K))
    refine wpK_rel _ rfl rfl ?_ ?_
    · rintro _ ⟨nn, rfl⟩ _
      unfold Oper.relAt
      go_simp
      exact rel_add _ _ _ _ _ _ _ _ _ (by omega) (by omega) _ _ (ext_size nn.use) (RB.out _ (ext_trans hE5.out nn.use)) (BB1.out _ (ext_trans hE5.out nn.use))
    rintro v ⟨_, ⟨nn, rfl⟩, hr⟩
    obtain ⟨A7, k7, c7, rfl, -, -⟩ := hr
    clear nn
    refine wpK_nil ?_
    intro nq2 hG
    have r6 : RWord w5.heap.size (a0 + a1) [] (.slice A6 k6 c6) nq2.out := by have := hG.fact 7; simp [Facts.put] at this; exact this
    have r7 : RWord w5.heap.size (b0 + b1) [] (.slice A7 k7 c7) nq2.out := by have := hG.fact 15; simp [Facts.put] at this; exact this
    have hR6 := Lib.hid (rword_at r6).1
    have hR7 := Lib.hid (rword_at r7).1
    have hl6 := hR6.out.len
    have hl7 := hR7.out.len
    have ha6 := LSA.out
    have ha7 := LSB.out
    clear r6 r7 hG
    have hE6 := Lib.hid (ext_trans hE5.out nq2.use)
    have hk8 : (lim ((a0 + a1) * (b0 + b1))).length ≤ 1000000 := by have := lim_mul_len (a0 + a1) (b0 + b1); omega
    have hQ5 := Lib.hid nq2.use
    have hQ15 := Lib.hid (ext_trans (ext_trans (ext_trans hQ1.out xb3) (ext_trans hQ3.out xb5)) nq2.use)
    have hz3 := ext_size hQ1.out
    have hz5 := ext_size (ext_trans (ext_trans hQ1.out xb3) hQ3.out)
    have ap3 : Hid (∀ q, A3 = some q → q.block ≠ w.heap.size) := fun q hq => by have := Fr.at hR3.out.2 hq; omega
    have ap5 : Hid (∀ q, A5 = some q → q.block ≠ w.heap.size) := fun q hq => by have := Fr.at hR5.out.2 hq; omega
    clear hTA hTB hTA5 hTB5
    go_wp2_with (first
      | (go_at_call 171; (with_reducible refine (IH _ _ _ _ _ _ _ _ (by omega) _ hR6.out hR7.out).mono ?_); rintro e w8 ⟨A8, k8, c8, rfl, hR8, xb8⟩; obtain ⟨xc8, xf8, xl8, xz8⟩ := ext_use xb8; (try simp at xz8))
      | (go_at_call 202; (with_reducible refine (bw_sub A8 A3 k8 c8 k3 c3 ((a0 + a1) * (b0 + b1)) (a0 * b0) KK.out.1.2.1 (by rw [← hR8.out.1.len]; exact hk8) _ hR8.out.1 (hR3.out.1.ext (ext_trans (ext_trans (ext_trans hQ3.out xb5) hQ5.out) xb8))).mono ?_); rintro e w9 ⟨A9, k9, c9, rfl, hR9, xb9⟩; obtain ⟨xc9, xf9, xl9, xz9⟩ := ext_use xb9; (try simp at xz9))
      | (go_at_call 202; (with_reducible refine (bw_sub A9 A5 k9 c9 k5 c5 ((a0 + a1) * (b0 + b1) - a0 * b0) (a1 * b1) KK.out.1.2.2 (by rw [← hR9.out.1.len]; exact Nat.le_trans (lim_mono (Nat.sub_le _ _)) hk8) _ hR9.out.1 (hR5.out.1.ext (ext_trans (ext_trans hQ5.out xb8) xb9))).mono ?_); rintro e w10 ⟨A10, k10, c10, rfl, hR10, xb10⟩; obtain ⟨xc10, xf10, xl10, xz10⟩ := ext_use xb10; (try simp at xz10))
     )
    have hE10 := Lib.hid (ext_trans (ext_trans (ext_trans hE6.out xb8) xb9) xb10)
    have hown10 := Lib.hid (own_ext ho1.out (ext_trans (ext_trans (ext_trans hQ15.out xb8) xb9) xb10))
    have hz10 := ext_size (ext_trans (ext_trans hQ15.out xb8) xb9)
    have ap10 : Hid (∀ q, A10 = some q → q.block ≠ w.heap.size) := fun q hq => by have := Fr.at hR10.out.2 hq; omega
    have hR3' := Lib.hid (hR3.out.1.ext (ext_trans (ext_trans (ext_trans (ext_trans (ext_trans hQ3.out xb5) hQ5.out) xb8) xb9) xb10))
    have hR5' := Lib.hid (hR5.out.1.ext (ext_trans (ext_trans (ext_trans hQ5.out xb8) xb9) xb10))
    have hR10' := Lib.hid hR10.out.1
    have hv0 : val (List.replicate (n + m + 1) 0) = 0 := val_replicate _
    have hBig : V < Bs ^ (n + m + 1) := Nat.lt_of_lt_of_le HAB.out (Nat.pow_le_pow_right (by decide) (by omega))
    obtain ⟨M, hM⟩ : ∃ M, M = (a0 + a1) * (b0 + b1) - a0 * b0 - a1 * b1 := ⟨_, rfl⟩
    have hVV : V = a0 * b0 + Bs ^ h * M + Bs ^ (2 * h) * (a1 * b1) := by
      rw [hM, KK.out.1.1, show 2 * h = h + h by omega, Nat.pow_add]
      exact KK.out.2
    have HFF := HF.out
    rw [← hM] at HFF hR10'
    have HFF := Lib.hid HFF
    have HVV := Lib.hid hVV
    have HBig := Lib.hid hBig
    have HV0 := Lib.hid hv0
    clear hv0 hBig hVV hM
    go_wp2_with (first
      | (go_at_call 201; (with_reducible refine (addAt_call w.heap.size w.heap.size (n + m + 1) A3 k3 c3 (a0 * b0) 0 0 rfl (List.replicate (n + m + 1) 0) w10 hown10 (lb_replicate _) hR3'.out ap3.out (by rw [HV0.out]; have := HVV.out; have := HBig.out; simp; omega) (by omega) (by have := HFF.out.1; omega)).mono ?_); rintro e w11 ⟨os1, rfl, hown11, hos11, hg11⟩)
      | (go_at_call 201; (with_reducible refine (addAt_call w.heap.size w.heap.size (n + m + 1) A10 k10 c10 M h (h : Int) rfl os1 w11 hown11 hos11.out.1 (rd_only hR10'.out hg11 ap10.out) ap10.out (by rw [hos11.out.2, HV0.out]; have := HVV.out; have := HBig.out; simp; omega) (by omega) (by have := HFF.out.2.1; omega)).mono ?_); rintro e w12 ⟨os2, rfl, hown12, hos12, hg12⟩)
      | (go_at_call 201; (with_reducible refine (addAt_call w.heap.size w.heap.size (n + m + 1) A5 k5 c5 (a1 * b1) (2 * h) (2 * (h : Int)) (by omega) os2 w12 hown12 hos12.out.1 (rd_only (rd_only hR5'.out hg11 ap5.out) hg12 ap5.out) ap5.out (by rw [hos12.out.2, hos11.out.2, HV0.out]; have := HVV.out; have := HBig.out; simp; omega) (by omega) (by have := HFF.out.2.2; omega)).mono ?_); rintro e w13 ⟨os3, rfl, hown13, hos13, hg13⟩)
      | (go_at_call 111; (with_reducible refine (bw_trim_own (V := V) hown13.out hos13.out.1 (by rw [hos13.out.2, hos12.out.2, hos11.out.2, HV0.out]; have := HVV.out; simp; omega)).mono ?_); rintro e w' ⟨⟨k, rfl, hR⟩, rfl⟩)
     )
    refine bodyPost_ret (v := .slice (some ⟨w.heap.size, 0, none⟩) k (n + m + 1)) ?h rfl ⟨_, k, n + m + 1, rfl, ⟨hR.out, fun q hq => ?_⟩, only_ext (only_ext (only_ext hE10.out hg11.out (Nat.le_refl _)) hg12.out (Nat.le_refl _)) hg13.out (Nat.le_refl _)⟩
    case h => simp [results, Tryz.results171, go_sem]
    cases hq; exact Nat.le_refl _
theorem bw_mul : ∀ (N : Nat) (A B : Option Addr) (n c m d a b : Nat), n + m = N → N ≤ 200000 → ∀ w, Rd w A n c (lim a) → Rd w B m d (lim b) → Calls Tryz.prog 171 #[.slice A n c, .slice B m d] w (WPost w (a * b)) := by
  intro N
  induction N using Nat.strongRecOn with
  | _ N ih =>
    have core : ∀ (A B : Option Addr) (n c m d a b : Nat), m ≤ n → n + m = N → N ≤ 200000 → ∀ w, Rd w A n c (lim a) → Rd w B m d (lim b) →
        (Calls Tryz.prog 171 #[.slice A n c, .slice B m d] w (WPost w (a * b))) ∧ (m < n → Calls Tryz.prog 171 #[.slice B m d, .slice A n c] w (WPost w (a * b))) := by
      intro A B n c m d a b hnm hN hs w hA hB
      subst hN
      have IH : ∀ (A B : Option Addr) (n' c m' d a b : Nat), n' + m' < n + m → ∀ w, Rd w A n' c (lim a) → Rd w B m' d (lim b) → Calls Tryz.prog 171 #[.slice A n' c, .slice B m' d] w (WPost w (a * b)) :=
        fun A B n' c m' d a b h w hA hB => ih _ h A B n' c m' d a b rfl (by omega) w hA hB
      by_cases hm : m < 40
      · exact bw_mul_small A B n c m d a b hnm hs hm w hA hB
      · by_cases h2 : 2 * m ≤ n
        · exact bw_mul_long A B n c m d a b h2 hs (by omega) w hA hB IH
        · exact bw_mul_kara A B n c m d a b hnm (by omega) hs (by omega) w hA hB IH
    intro A B n c m d a b hN hs w hA hB
    rcases Nat.lt_or_ge n m with h | h
    · have := (core B A m d n c b a (by omega) (by omega) hs w hB hA).2 h
      rwa [Nat.mul_comm] at this
    · exact (core A B n c m d a b h hN hs w hA hB).1
end Go.Proofs.YtnkajjealkggdaaGreatDoor
end
section
/- Words of the library's: shifts. -/
namespace Go.Proofs.YtnkajjealkggdaaGreatDoor
open Go.RowKit
attribute [local go_sem] sz2 sz3 sz4 sz5 sz6 sz7 sz8
set_option maxHeartbeats 4000000
set_option maxRecDepth 100000
attribute [local irreducible] Calls
theorem or_add {q c s : Nat} (h : c < 2 ^ s) : c ||| 2 ^ s * q = 2 ^ s * q + c := by rw [Nat.two_pow_add_eq_or_of_lt h, Nat.or_comm]
theorem pow_s {s : Nat} (h : s < 32) : 2 ^ s * 2 ^ (32 - s) = 4294967296 ∧ 0 < 2 ^ s ∧ 2 ^ s ≤ 2147483648 := by
  refine ⟨by rw [← Nat.pow_add, show s + (32 - s) = 32 by omega], Nat.two_pow_pos s, ?_⟩
  exact Nat.pow_le_pow_right (by decide) (show s ≤ 31 by omega)
theorem shl_wrap {x s : Nat} (hx : x < 4294967296) (hs : s < 32) : IntKind.u64.wrap ((x : Int) * 2 ^ s) = ((2 ^ s * x : Nat) : Int) ∧ 2 ^ s * x < 9223372036854775808 ∧ 2 ^ s * x / 4294967296 < 2 ^ s := by
  obtain ⟨h1, h2, h3⟩ := pow_s hs
  have h4 : 2 ^ s * x ≤ 2147483648 * 4294967295 := Nat.mul_le_mul h3 (by omega)
  have e : (x : Int) * 2 ^ s = ((2 ^ s * x : Nat) : Int) := by rw [Nat.mul_comm]; simp
  refine ⟨?_, by omega, ?_⟩
  · rw [e, IntKind.wrap_u64]; omega
  · rw [Nat.div_lt_iff_lt_mul (by decide)]
    exact Nat.mul_lt_mul_of_pos_left (by omega) h2
theorem or_low {x s cy : Nat} (hs : s < 32) (hc : cy < 2 ^ s) : bits .or .u32 (cy : Int) (((2 ^ s * x : Nat) : Int) % 4294967296) = ((2 ^ s * x % 4294967296 + cy : Nat) : Int) ∧ 2 ^ s * x % 4294967296 + cy < 4294967296 := by
  obtain ⟨h1, h2, h3⟩ := pow_s hs
  have e : 2 ^ s * x % 4294967296 = 2 ^ s * (x % 2 ^ (32 - s)) := by rw [← h1, Nat.mul_mod_mul_left]
  have hlt : 2 ^ s * (x % 2 ^ (32 - s)) + cy < 4294967296 := by
    have h5 : x % 2 ^ (32 - s) + 1 ≤ 2 ^ (32 - s) := Nat.mod_lt _ (Nat.two_pow_pos _)
    have h6 := Nat.mul_le_mul_left (2 ^ s) h5
    rw [h1, Nat.mul_add, Nat.mul_one] at h6
    omega
  have e2 : (((2 ^ s * x : Nat) : Int) % 4294967296) = ((2 ^ s * x % 4294967296 : Nat) : Int) := by omega
  rw [e2, bits_or32 _ _ (by omega) (by omega), e, or_add hc]
  exact ⟨rfl, hlt⟩
theorem up_step {os : List Nat} {N i k s x cy V : Nat} (hs : s < 32) (hl : os.length = N) (hN : i + k + 1 < N) (hb : Lb os) (hc : os.getD (i + k) 0 = cy) (hcs : cy < 2 ^ s) (hz : ∀ p, i + k < p → os.getD p 0 = 0) (hx : x < 4294967296) (hv : val os = Bs ^ k * (2 ^ s * V)) :
    Lb ((os.set (i + k) (2 ^ s * x % 4294967296 + cy)).set (i + k + 1) (2 ^ s * x / 4294967296)) ∧ val ((os.set (i + k) (2 ^ s * x % 4294967296 + cy)).set (i + k + 1) (2 ^ s * x / 4294967296)) = Bs ^ k * (2 ^ s * (V + Bs ^ i * x)) := by
  have hw := shl_wrap hx hs
  have ho := (or_low (x := x) hs hcs).2
  have hp := pow_s hs
  refine ⟨lb_set (lb_set hb _ ho) _ (by unfold Bs; omega), ?_⟩
  have h1 := val_set os (i + k) (2 ^ s * x % 4294967296 + cy) (by omega)
  have h2 := val_set (os.set (i + k) (2 ^ s * x % 4294967296 + cy)) (i + k + 1) (2 ^ s * x / 4294967296) (by rw [List.length_set]; omega)
  rw [hc] at h1
  rw [getD_set_ne (by omega), hz _ (by omega), Nat.mul_zero, Nat.add_zero] at h2
  rw [h2]
  have h3 : Bs ^ (i + k) * (2 ^ s * x % 4294967296 + cy) + Bs ^ (i + k + 1) * (2 ^ s * x / 4294967296) = Bs ^ (i + k) * (2 ^ s * x) + Bs ^ (i + k) * cy := by
    rw [Nat.pow_succ, Nat.mul_assoc, ← Nat.mul_add, ← Nat.mul_add]
    congr 1
    have := Nat.mod_add_div (2 ^ s * x) 4294967296
    unfold Bs
    omega
  have h4 : Bs ^ k * (2 ^ s * (V + Bs ^ i * x)) = Bs ^ k * (2 ^ s * V) + Bs ^ (i + k) * (2 ^ s * x) := by
    rw [Nat.mul_add, Nat.mul_add]
    congr 1
    rw [Nat.pow_add, Nat.mul_left_comm (2 ^ s), ← Nat.mul_assoc, Nat.mul_comm (Bs ^ k)]
  rw [h4]
  omega
theorem bw_up (A : Option Addr) (n c a : Nat) (z : Nat) (hn : n ≤ 500000) (hz : z ≤ 16000000) (w : World) (hA : Rd w A n c (lim a)) :
    Calls Tryz.prog 110 #[.slice A n c, .int .i64 (z : Int)] w (WPost w (a * 2 ^ z)) := by
  have hmx := hA.mx
  have hcx := hA.cap
  have HA := Lib.hid hA
  have hlx := Lib.hid hA.len
  have hlen := hA.len
  clear hA
  by_cases h0 : n = 0
  · subst h0
    have ha : a = 0 := lim_nil.1 (List.eq_nil_of_length_eq_zero hlen)
    subst ha
    clear hlen
    go_enter Tryz.func110, Tryz.ntmps110
    go_wp2
    refine bodyPost_ret (v := .slice none 0 0) ?h rfl ⟨none, 0, 0, rfl, ⟨by rw [Nat.zero_mul, lim_zero]; exact Rd.nil _, fun a h => by cases h⟩, ext_refl _⟩
    case h => simp [results, Tryz.results110, go_sem]
  · obtain ⟨bx, ox, hXe⟩ : ∃ b off, A = some ⟨b, off, none⟩ := by
      rcases HA.out.shape with ⟨_, h, _⟩ | h
      · omega
      · exact h
    subst hXe
    obtain ⟨k, hk⟩ : ∃ k, k = z / 32 := ⟨_, rfl⟩
    obtain ⟨s, hs⟩ : ∃ s, s = z % 32 := ⟨_, rfl⟩
    have hs32 : s < 32 := by omega
    have hk5 : k ≤ 500000 := by omega
    have hkz : z = 32 * k + s := by omega
    have e1 : (z : Int) / 32 = (k : Int) := by omega
    have e2 : (z : Int) % 32 = (s : Int) := by omega
    have HKZ := Lib.hid hkz
    clear hlen hk hs hkz
    go_enter Tryz.func110, Tryz.ntmps110
    go_wp2_with (first
      | (at_make; refine make_u32 rfl _ _ rfl _ _ _ _ (n + k + 1) rfl rfl (by simp) (by simp) (by omega) ?_; intro w1 hx1 ho1; have hext1 := Lib.hid hx1; clear hx1)
     )
    have hGl : w.heap.size < w1.heap.size := (ho1.out.lt w.heap.size rfl).2
    go_loopw [8] (fun vi wr => ∃ (i cy : Nat) (os : List Nat), i ≤ n ∧ vi = .int .i64 (i : Int) ∧ Hid (os.length = n + k + 1 ∧ Lb os ∧ val os = Bs ^ k * (2 ^ s * val ((lim a).take i)) ∧ (os.getD (i + k) 0 = cy ∧ cy < 2 ^ s) ∧ ∀ p, i + k < p → os.getD p 0 = 0) ∧
        Hid (wr.ownsRow w.heap.size 48 1 (.slice (some ⟨w.heap.size, 0, none⟩) (n + k + 1) (n + k + 1)) (n + k + 1) (os.map u32V)) ∧ Hid (Ext w wr))
      (fun vi _ => n - (intOf vi).toNat)
    case atStart => exact ⟨0, 0, List.replicate (n + k + 1) 0, Nat.zero_le _, rfl, ⟨by simp, lb_replicate _, by rw [val_replicate]; simp [val], ⟨getD_replicate0 _ _, Nat.two_pow_pos s⟩, fun p _ => getD_replicate0 _ _⟩, ho1.out, hext1.out⟩
    case round =>
      clear ho1 hext1
      obtain ⟨i, cy, os, hi, rfl, hos, hown, hext⟩ := hrel
      by_cases h1 : i < n
      · obtain ⟨x, hx, hxb, hcx1⟩ := (HA.out.ext hext.out).get i h1
        obtain ⟨hc1, hf1⟩ := own_at hown.out (i + k) (by omega)
        obtain ⟨hc2, hf2⟩ := own_at hown.out (i + k + 1) (by omega)
        rw [hos.out.2.2.2.1.1] at hc1
        rw [hos.out.2.2.2.2 (i + k + 1) (by omega)] at hc2
        obtain ⟨w1', w2', w3'⟩ := shl_wrap hxb hs32
        obtain ⟨o1, o2⟩ := or_low (x := x) hs32 hos.out.2.2.2.1.2
        have hu := up_step (V := val ((lim a).take i)) hs32 hos.out.1 (by omega) hos.out.2.1 hos.out.2.2.2.1.1 hos.out.2.2.2.1.2 hos.out.2.2.2.2 hxb hos.out.2.2.1
        have O1 := Lib.hid o1
        have O2 := Lib.hid w1'
        have O3 := Lib.hid (show 2 ^ s * x / 4294967296 < 4294967296 ∧ 2 ^ s * x / 4294967296 < 2 ^ s from ⟨by omega, w3'⟩)
        have HU := Lib.hid hu
        clear o1 o2 w1' w2' w3' hu
        go_wp2
        case roundEnd =>
          refine ⟨⟨i + 1, 2 ^ s * x / 4294967296, (os.set (i + k) (2 ^ s * x % 4294967296 + cy)).set (i + k + 1) (2 ^ s * x / 4294967296), by omega, by simp, ⟨by simp [hos.out.1], HU.out.1, ?_, ⟨?_, O3.out.2⟩, fun p hp => ?_⟩, ?_, ?_⟩, ?_⟩
          · rw [HU.out.2, val_take_succ, hx.out]
          · rw [show i + 1 + k = i + k + 1 by omega, List.getD_eq_getElem?_getD, List.getElem?_set_self (by rw [List.length_set, hos.out.1]; omega)]; rfl
          · rw [getD_set_ne (by omega), getD_set_ne (by omega)]; exact hos.out.2.2.2.2 p (by omega)
          · show World.ownsRow _ _ _ _ _ _ _
            rw [O2.out, O1.out, show ((2 ^ s * x : Nat) : Int) / 4294967296 % 4294967296 = ((2 ^ s * x / 4294967296 : Nat) : Int) by have := O3.out.1; omega]
            exact own_set (own_set hown.out _ _) _ _
          · exact ext_setCell (ext_setCell hext.out (Nat.le_refl _) _) (Nat.le_refl _) _
          · simp [intOf]; omega
      · obtain rfl : i = n := by omega
        have hv : val os = a * 2 ^ z := by
          rw [hos.out.2.2.1, take_ge (by rw [hlx.out]; exact Nat.le_refl _), val_lim, HKZ.out, Nat.pow_add, Nat.mul_comm a, Nat.pow_mul, ← Nat.mul_assoc]
        have hT := bw_trim_own hown.out hos.out.2.1 hv
        have hE := hext.out
        clear hv
        go_wp2_with (first
          | (go_at_call 111; (with_reducible refine hT.mono ?_); rintro e w' ⟨⟨j, rfl, hR⟩, rfl⟩)
         )
        refine bodyPost_ret (v := .slice (some ⟨w.heap.size, 0, none⟩) j (i + k + 1)) ?h rfl ⟨_, j, i + k + 1, rfl, ⟨hR.out, fun q hq => ?_⟩, hE⟩
        case h => simp [results, Tryz.results110, go_sem]
        cases hq; exact Nat.le_refl _
theorem or_shift' (r x : Nat) (hr : r < 4294967296) (hx : x < 4294967296) : bits BinOp.or IntKind.u64 (x : Int) ((r : Int) * 4294967296) = ((r * 4294967296 + x : Nat) : Int) := by
  rw [← or_shift r x hr hx]
  show IntKind.u64.wrap ((BitVec.ofInt 64 _ ||| BitVec.ofInt 64 _).toNat : Int) = IntKind.u64.wrap ((BitVec.ofInt 64 _ ||| BitVec.ofInt 64 _).toNat : Int)
  rw [BitVec.or_comm]
theorem limb_at (a j : Nat) : (lim a).getD j 0 = a / Bs ^ j % Bs := by
  have h := lim_drop j a
  have e : (lim a).getD j 0 = ((lim a).drop j).getD 0 0 := by rw [List.getD_eq_getElem?_getD, List.getD_eq_getElem?_getD, List.getElem?_drop, Nat.add_zero]
  rw [e, h]
  by_cases h0 : a / Bs ^ j = 0
  · rw [h0, lim_zero]; rfl
  · rw [lim_pos h0]; rfl
theorem div_limb_aux (T R s M : Nat) : (T + 2 ^ s * (R * M)) / 2 ^ s % M = T / 2 ^ s % M := by rw [Nat.add_mul_div_left _ _ (Nat.two_pow_pos s), Nat.add_mul_mod_self_right]
theorem div_limb {D s T : Nat} (hs : s < 32) (hT : T = D / Bs % Bs * 4294967296 + D % Bs) : T / 2 ^ s % 4294967296 = D / 2 ^ s % Bs := by
  obtain ⟨h1, h2, h3⟩ := pow_s hs
  have e : D = T + 2 ^ s * ((2 ^ (32 - s) * (D / Bs / Bs)) * Bs) := by
    have a1 := Nat.mod_add_div D Bs
    have a2 := Nat.mod_add_div (D / Bs) Bs
    have a3 : 2 ^ s * ((2 ^ (32 - s) * (D / Bs / Bs)) * Bs) = Bs * (Bs * (D / Bs / Bs)) := by
      rw [Nat.mul_comm _ Bs, Nat.mul_left_comm, ← Nat.mul_assoc (2 ^ s), h1]
    rw [a3]
    have a4 : Bs * (D / Bs) = Bs * (D / Bs % Bs) + Bs * (Bs * (D / Bs / Bs)) := by rw [← Nat.mul_add, a2]
    have a5 : D / Bs % Bs * 4294967296 = Bs * (D / Bs % Bs) := by rw [Nat.mul_comm]
    omega
  have h := div_limb_aux T (2 ^ (32 - s) * (D / Bs / Bs)) s Bs
  rw [← e] at h
  exact h.symm
theorem take_set_self {l : List Nat} {i y : Nat} : (l.set i y).take i = l.take i := by
  rw [List.take_set_of_le (Nat.le_refl _)]
theorem bw_down_core (A : Option Addr) (n c a : Nat) (z : Nat) (hn : n ≤ 500000) (hz : z ≤ 16000000) (w : World) (hA : Rd w A n c (lim a)) :
    Calls Tryz.prog 135 #[.slice A n c, .int .i64 (z : Int)] w fun e w' => ∃ (A : Option Addr) (k c : Nat), e = .returned (.slice A k c) ∧ Hid (Rd w' A k c (lim (a / 2 ^ z)) ∧ Fr w A ∧ ∀ q, A = some q → q.block < w'.heap.size) ∧ Ext w w' := by
  have hmx := hA.mx
  have hcx := hA.cap
  have HA := Lib.hid hA
  have hlx := Lib.hid hA.len
  clear hA
  obtain ⟨k, hk⟩ : ∃ k, k = z / 32 := ⟨_, rfl⟩
  obtain ⟨s, hs⟩ : ∃ s, s = z % 32 := ⟨_, rfl⟩
  have hs32 : s < 32 := by omega
  have hk5 : k ≤ 500000 := by omega
  have hkz : z = 32 * k + s := by omega
  have e1 : (z : Int) / 32 = (k : Int) := by omega
  have e2 : (z : Int) % 32 = (s : Int) := by omega
  have HKZ := Lib.hid hkz
  clear hk hs hkz
  have hpz : Hid (a / 2 ^ z = (a / Bs ^ k) / 2 ^ s) := by
    show _ = _
    rw [HKZ.out, Nat.pow_add, Nat.pow_mul, Nat.div_div_eq_div_mul]
  by_cases h0 : n ≤ k
  · have hv : Hid (a / 2 ^ z = 0) := by
      show _ = _
      rw [hpz.out, Nat.div_eq_of_lt (Nat.lt_of_lt_of_le (lim_lt a) (Nat.pow_le_pow_right (by decide) (by rw [hlx.out]; exact h0))), Nat.zero_div]
    go_enter Tryz.func135, Tryz.ntmps135
    go_wp2
    refine bodyPost_ret (v := .slice none 0 0) ?h rfl ⟨none, 0, 0, rfl, ⟨by rw [hv.out, lim_zero]; exact Rd.nil _, (fun a h => by cases h), (fun a h => by cases h)⟩, ext_refl _⟩
    case h => simp [results, Tryz.results135, go_sem]
  · obtain ⟨bx, ox, hXe⟩ : ∃ b off, A = some ⟨b, off, none⟩ := by
      rcases HA.out.shape with ⟨_, h, _⟩ | h
      · omega
      · exact h
    subst hXe
    obtain ⟨q, hq⟩ : ∃ q, n = k + q := ⟨n - k, by omega⟩
    subst hq
    have hq0 : 0 < q := by omega
    go_enter Tryz.func135, Tryz.ntmps135
    go_wp2_with (first
      | (at_make; refine make_u32 rfl _ _ rfl _ _ _ _ q rfl rfl (by omega) (by omega) (by omega) ?_; intro w1 hx1 ho1; have hext1 := Lib.hid hx1; clear hx1)
     )
    have hGl : w.heap.size < w1.heap.size := (ho1.out.lt w.heap.size rfl).2
    go_loopw [8] (fun vi wr => ∃ (i : Nat) (os : List Nat), i ≤ q ∧ vi = .int .i64 (i : Int) ∧ Hid (os.length = q ∧ Lb os ∧ val (os.take i) = (a / Bs ^ k / 2 ^ s) % Bs ^ i ∧ ∀ p, i ≤ p → os.getD p 0 = 0) ∧
        Hid (wr.ownsRow w.heap.size 48 1 (.slice (some ⟨w.heap.size, 0, none⟩) q q) q (os.map u32V)) ∧ Hid (Ext w wr))
      (fun vi _ => q - (intOf vi).toNat)
    case atStart => exact ⟨0, List.replicate q 0, Nat.zero_le _, rfl, ⟨by simp, lb_replicate _, by simp [val, Nat.mod_one], fun p _ => getD_replicate0 _ _⟩, ho1.out, hext1.out⟩
    case round =>
      clear ho1 hext1
      obtain ⟨i, os, hi, rfl, hos, hown, hext⟩ := hrel
      by_cases h1 : i < q
      · obtain ⟨x, hx, hxb, hcx1⟩ := (HA.out.ext hext.out).get (i + k) (by omega)
        obtain ⟨hc1, hf1⟩ := own_at hown.out i (by omega)
        have fin : ∀ (y : Nat) (v : Int), (lim a).getD (i + k + 1) 0 = y → v = (((y * 4294967296 + x) / 2 ^ s % 4294967296 : Nat) : Int) → ∃ (i' : Nat) (os' : List Nat), i' ≤ q ∧ Value.int IntKind.i64 ((i : Int) + 1) = .int .i64 (i' : Int) ∧ Hid (os'.length = q ∧ Lb os' ∧ val (os'.take i') = (a / Bs ^ k / 2 ^ s) % Bs ^ i' ∧ ∀ p, i' ≤ p → os'.getD p 0 = 0) ∧
            Hid ((wr.setCell ⟨w.heap.size, i, none⟩ (.int .u32 v)).ownsRow w.heap.size 48 1 (.slice (some ⟨w.heap.size, 0, none⟩) q q) q (os'.map u32V)) ∧ Hid (Ext w (wr.setCell ⟨w.heap.size, i, none⟩ (.int .u32 v))) := by
          rintro y v hy rfl
          refine ⟨i + 1, os.set i ((y * 4294967296 + x) / 2 ^ s % 4294967296), by omega, by simp, ⟨by simp [hos.out.1], lb_set hos.out.2.1 _ (Nat.mod_lt _ (by decide)), ?_, fun p hp => by rw [getD_set_ne (by omega)]; exact hos.out.2.2.2 p (by omega)⟩, own_set hown.out _ _, ext_setCell hext.out (Nat.le_refl _) _⟩
          have e1 : x = a / Bs ^ (i + k) % Bs := by rw [← hx.out]; exact limb_at _ _
          have e2 : y = a / Bs ^ (i + k) / Bs % Bs := by rw [← hy, limb_at, Nat.pow_succ, Nat.div_div_eq_div_mul]
          have e3 : a / Bs ^ k / 2 ^ s / Bs ^ i = a / Bs ^ (i + k) / 2 ^ s := by rw [Nat.div_div_eq_div_mul, Nat.div_div_eq_div_mul, Nat.div_div_eq_div_mul, Nat.pow_add, Nat.mul_comm (2 ^ s), ← Nat.mul_assoc, Nat.mul_comm (Bs ^ k)]
          have e4 := div_limb (D := a / Bs ^ (i + k)) (T := y * 4294967296 + x) hs32 (by rw [← e1, ← e2])
          have e5 : (os.set i ((y * 4294967296 + x) / 2 ^ s % 4294967296)).getD i 0 = (y * 4294967296 + x) / 2 ^ s % 4294967296 := by
            rw [List.getD_eq_getElem?_getD, List.getElem?_set_self (by rw [hos.out.1]; omega), Option.getD_some]
          rw [val_take_succ, take_set_self, hos.out.2.2.1, Nat.mod_pow_succ, e5, e4, e3]
        have HF := Lib.hid fin
        clear fin
        by_cases h2 : i + k + 1 < k + q
        · obtain ⟨y, hy, hyb, hcy1⟩ := (HA.out.ext hext.out).get (i + k + 1) (by omega)
          have O1 := Lib.hid (or_shift' y x hyb hxb)
          go_wp2
          case roundEnd =>
            refine ⟨HF.out y _ hy.out (by rw [O1.out]; simp), ?_⟩
            simp [intOf]; omega
        · have hy0 : (lim a).getD (i + k + 1) 0 = 0 := getD_ge (by rw [hlx.out]; omega)
          have HY := Lib.hid hy0
          clear hy0
          go_wp2
          case roundEnd =>
            refine ⟨HF.out 0 _ HY.out (by simp), ?_⟩
            simp [intOf]; omega
      · obtain rfl : i = q := by omega
        have hv : val os = a / 2 ^ z := by
          have h3 := hos.out.2.2.1
          rw [take_ge (by rw [hos.out.1]; exact Nat.le_refl _)] at h3
          rw [h3, hpz.out]
          refine Nat.mod_eq_of_lt (Nat.lt_of_le_of_lt (Nat.div_le_self _ _) ?_)
          rw [Nat.div_lt_iff_lt_mul (Nat.pow_pos (by decide)), ← Nat.pow_add]
          have := lim_lt a
          rw [hlx.out] at this
          rwa [Nat.add_comm i k]
        have hT := bw_trim_own hown.out hos.out.2.1 hv
        have hE := hext.out
        have hlt := (hown.out.lt w.heap.size rfl).2
        clear hv
        go_wp2_with (first
          | (go_at_call 111; (with_reducible refine hT.mono ?_); rintro e w' ⟨⟨j, rfl, hR⟩, rfl⟩)
         )
        refine bodyPost_ret (v := .slice (some ⟨w.heap.size, 0, none⟩) j i) ?h rfl ⟨_, j, i, rfl, ⟨hR.out, fun q hq => ?_, fun q hq => ?_⟩, hE⟩
        case h => simp [results, Tryz.results135, go_sem]
        · cases hq; exact Nat.le_refl _
        · cases hq; exact hlt
theorem bw_down (A : Option Addr) (n c a : Nat) (z : Nat) (hn : n ≤ 500000) (hz : z ≤ 16000000) (w : World) (hA : Rd w A n c (lim a)) :
    Calls Tryz.prog 135 #[.slice A n c, .int .i64 (z : Int)] w (WPost w (a / 2 ^ z)) := by
  refine (bw_down_core A n c a z hn hz w hA).mono ?_
  rintro e w' ⟨A', k, c', he, h1, h2⟩
  exact ⟨A', k, c', he, ⟨h1.out.1, h1.out.2.1⟩, h2⟩
end Go.Proofs.YtnkajjealkggdaaGreatDoor
end
section
/- Words of the library's: one figure of a quotient. -/
namespace Go.Proofs.YtnkajjealkggdaaGreatDoor
open Go.RowKit
attribute [local go_sem] sz2 sz3 sz4 sz5 sz6 sz7 sz8
set_option maxHeartbeats 4000000
set_option maxRecDepth 100000
attribute [local irreducible] Calls
/-- A part of a row of the call's own, read. -/
theorem own_seg {w : World} {base g N : Nat} {os : List Nat} (h : Hid (w.ownsRow base 48 1 (.slice (some ⟨g, 0, none⟩) N N) N (os.map u32V))) (j p : Nat) (hp : j + p < N) : w.cell? ⟨g, j + p, none⟩ = some (.int .u32 ((os.getD (j + p) 0 : Nat) : Int)) ∧ w.frozen? ⟨g, j + p, none⟩ = false :=
  own_at h.out (j + p) hp
theorem ext_only {w w' : World} (h : Ext w w') (r : Option Nat) : w.grownBy w' r := ⟨h.os, h.tape, h.output, Below.size h, fun k hk _ => Below.block h k hk⟩
theorem and_low (a : Nat) (ha : a < 18446744073709551616) : bits BinOp.and IntKind.u64 (a : Int) 4294967295 = ((a % 4294967296 : Nat) : Int) := by
  have h1 : (BitVec.ofInt 64 (a : Int)).toNat = a := by
    rw [BitVec.ofInt_natCast, BitVec.toNat_ofNat]; exact Nat.mod_eq_of_lt (by omega)
  have h2 : (BitVec.ofInt 64 (4294967295 : Int)).toNat = 2 ^ 32 - 1 := by decide
  show IntKind.u64.wrap ((BitVec.ofInt 64 (a : Int) &&& BitVec.ofInt 64 (4294967295 : Int)).toNat : Int) = _
  rw [BitVec.toNat_and, h1, h2, Nat.and_two_pow_sub_one_eq_mod, IntKind.wrap_u64]
  omega
theorem borrow_u64 {x l bo : Nat} (hx : x < 4294967296) (hl : l < 4294967296) (hb : bo ≤ 1) :
    IntKind.u64.wrap (IntKind.u64.wrap ((x : Int) - (l : Int)) - (bo : Int)) % 4294967296 = (((x + 8589934592 - l - bo) % 4294967296 : Nat) : Int) ∧
    IntKind.u64.wrap (IntKind.u64.wrap ((x : Int) - (l : Int)) - (bo : Int)) / 9223372036854775808 = ((if x < l + bo then 1 else 0 : Nat) : Int) := by
  simp only [IntKind.wrap_u64]
  refine ⟨by omega, ?_⟩
  split <;> omega
theorem bw_figure (base g N j n cu : Nat) (os0 : List Nat) (B : Option Addr) (d V : Nat) (w : World) (hown : Hid (w.ownsRow base 48 1 (.slice (some ⟨g, 0, none⟩) N N) N (os0.map u32V))) (hlb : Lb os0) (hB : Rd w B n d (lim V)) (hap : ∀ a, B = some a → a.block ≠ g)
    (hn2 : 2 ≤ n) (hjn : j + n + 1 ≤ N) (hN : N ≤ 1000000) (hcu : n + 1 ≤ cu) (hcu2 : cu ≤ 9223372036854775807) (htop : 2147483648 ≤ (lim V).getD (n - 1) 0) (hW : seg os0 j (n + 1) < Bs * V) :
    Calls Tryz.prog 187 #[.slice (some ⟨g, j, none⟩) (n + 1) cu, .slice B n d] w fun e w' => ∃ os' : List Nat, e = .returned (.int .u32 ((seg os0 j (n + 1) / V : Nat) : Int)) ∧ Hid (w'.ownsRow base 48 1 (.slice (some ⟨g, 0, none⟩) N N) N (os'.map u32V)) ∧
      Hid (Lb os' ∧ seg os' j (n + 1) = seg os0 j (n + 1) % V ∧ ∀ p, p < j ∨ j + n + 1 ≤ p → os'.getD p 0 = os0.getD p 0) ∧ Hid (w.grownBy w' (some g)) := by
  have hmy := hB.mx
  have hcy := hB.cap
  have hgl : g < w.heap.size := (hown.out.lt g rfl).2
  have hol : os0.length = N := by have := hown.out.1; simpa using this
  obtain ⟨bv, ov, hBe⟩ : ∃ b off, B = some ⟨b, off, none⟩ := by
    rcases hB.shape with ⟨_, h, _⟩ | h
    · omega
    · exact h
  subst hBe
  have hbg : bv ≠ g := hap _ rfl
  have HB := Lib.hid hB
  have hly := Lib.hid hB.len
  have hap' : Hid (∀ a, some (⟨bv, ov, none⟩ : Addr) = some a → a.block ≠ g) := hap
  have HOL := Lib.hid (show os0.length = N ∧ Lb os0 from ⟨hol, hlb⟩)
  -- the highest words
  obtain ⟨top, ht, htb, hct⟩ := HB.out.get (n - 1) (by omega)
  obtain ⟨x2, hx2, hx2b, hcx2⟩ := HB.out.get (n - 2) (by omega)
  obtain ⟨un, hun⟩ : ∃ un, un = os0.getD (j + n) 0 := ⟨_, rfl⟩
  obtain ⟨u1, hu1⟩ : ∃ u1, u1 = os0.getD (j + (n - 1)) 0 := ⟨_, rfl⟩
  obtain ⟨u2, hu2⟩ : ∃ u2, u2 = os0.getD (j + (n - 2)) 0 := ⟨_, rfl⟩
  have hunb : un < 4294967296 := by rw [hun]; exact lb_getD hlb _
  have hu1b : u1 < 4294967296 := by rw [hu1]; exact lb_getD hlb _
  have hu2b : u2 < 4294967296 := by rw [hu2]; exact lb_getD hlb _
  obtain ⟨cn, fn⟩ := own_seg hown j n (by omega)
  obtain ⟨c1, f1⟩ := own_seg hown j (n - 1) (by omega)
  obtain ⟨c2, f2⟩ := own_seg hown j (n - 2) (by omega)
  rw [← hun] at cn
  rw [← hu1] at c1
  rw [← hu2] at c2
  rw [ht.out] at htop
  obtain ⟨W, hWW⟩ : ∃ W, W = seg os0 j (n + 1) := ⟨_, rfl⟩
  rw [← hWW] at hW ⊢
  -- the three highest of the one, the two highest of the other
  obtain ⟨Bn, hBn⟩ : ∃ Bn, Bn = Bs ^ (n - 2) := ⟨_, rfl⟩
  have hBp : 0 < Bn := by rw [hBn]; exact Nat.pow_pos (by decide)
  obtain ⟨Wr, hWr, hWe⟩ : ∃ Wr, Wr < Bn ∧ W = Wr + Bn * (u2 + 4294967296 * (u1 + 4294967296 * un)) := by
    refine ⟨seg os0 j (n - 2), by rw [hBn]; exact seg_lt hlb _ _, ?_⟩
    have e1 : seg os0 j (n + 1) = seg os0 j (n - 2) + Bs ^ (n - 2) * seg os0 (j + (n - 2)) 3 := by rw [← seg_split]; congr 1; omega
    have e2 : seg os0 (j + (n - 2)) 3 = u2 + 4294967296 * (u1 + 4294967296 * un) := by
      rw [show 3 = 0 + 1 + 1 + 1 by rfl, seg_succ, seg_succ, seg_succ, seg_zero, hu2, hu1, hun, show j + (n - 2) + 0 = j + (n - 2) by omega, show j + (n - 2) + (0 + 1) = j + (n - 1) by omega, show j + (n - 2) + (0 + 1 + 1) = j + n by omega]
      simp [Bs]; omega
    rw [hWW, e1, e2, hBn]
  obtain ⟨Vr, hVr, hVe⟩ : ∃ Vr, Vr < Bn ∧ V = Vr + Bn * (x2 + 4294967296 * top) := by
    have hl : (lim V).length = n := hB.len
    refine ⟨seg (lim V) 0 (n - 2), by rw [hBn]; exact seg_lt (lb_lim V) _ _, ?_⟩
    have e0 : V = seg (lim V) 0 n := by rw [seg_val _ hl, val_lim]
    have e1 : seg (lim V) 0 n = seg (lim V) 0 (n - 2) + Bs ^ (n - 2) * seg (lim V) (0 + (n - 2)) 2 := by rw [← seg_split]; congr 1; omega
    have e2 : seg (lim V) (0 + (n - 2)) 2 = x2 + 4294967296 * top := by
      rw [show 2 = 0 + 1 + 1 by rfl, seg_succ, seg_succ, seg_zero, show 0 + (n - 2) + 0 = n - 2 by omega, show 0 + (n - 2) + (0 + 1) = n - 1 by omega, hx2.out, ht.out]
      simp [Bs]
    rw [hBn, ← e2, ← e1, ← e0]
  have hV0 : 0 < V := by
    have : Bn * 1 ≤ Bn * (x2 + 4294967296 * top) := Nat.mul_le_mul_left _ (by omega)
    omega
  -- the quotient is a word
  obtain ⟨q, hq⟩ : ∃ q, q = W / V := ⟨_, rfl⟩
  have hqB : q < 4294967296 := by rw [hq, Nat.div_lt_iff_lt_mul hV0]; exact hW
  have hunt : un ≤ top := by
    rcases Nat.lt_or_ge top un with h | h
    · exfalso
      have h1 : Bn * (4294967296 * (4294967296 * un)) ≤ W := by rw [hWe]; have := Nat.mul_le_mul_left Bn (show 4294967296 * (4294967296 * un) ≤ u2 + 4294967296 * (u1 + 4294967296 * un) by omega); omega
      have h2 : V < Bn * (4294967296 * (top + 1)) := by
        have h3 := Nat.mul_le_mul_left Bn (show x2 + 4294967296 * top + 1 ≤ 4294967296 * (top + 1) by omega)
        rw [Nat.mul_succ] at h3; omega
      have h4 : Bn * (4294967296 * (top + 1)) ≤ Bn * (4294967296 * un) := Nat.mul_le_mul_left _ (by omega)
      have h5 : Bn * (4294967296 * (4294967296 * un)) = 4294967296 * (Bn * (4294967296 * un)) := by rw [← Nat.mul_assoc, Nat.mul_comm Bn, Nat.mul_assoc]
      have h6 : Bs * V = 4294967296 * V := rfl
      omega
    · exact h
  obtain ⟨num, hnum⟩ : ∃ num, num = un * 4294967296 + u1 := ⟨_, rfl⟩
  have hor : Hid (bits BinOp.or IntKind.u64 ((un : Int) * 4294967296) (u1 : Int) = (num : Int)) := by rw [hnum]; exact or_shift un u1 hunb hu1b
  have hnb : num < 18446744073709551616 := by omega
  have htop0 : ((top : Int) == 0) = false := by rw [beq_eq_false_iff_ne]; omega
  -- what a guess means
  have hlow : ∀ gu rest, num = gu * top + rest → rest * 4294967296 + u2 < gu * x2 → q < gu := fun gu rest h1 h2 => by
    rw [hq]
    refine knuth_lt (V' := top * 4294967296 + x2) (W' := num * 4294967296 + u2) (B := Bn) ?_ ?_ ((guess_iff h1).2 h2) hV0
    · rw [hVe, Nat.mul_comm _ Bn, show top * 4294967296 + x2 = x2 + 4294967296 * top by omega]; omega
    · rw [hWe, Nat.mul_comm _ Bn, hnum, Nat.mul_add Bn (_ + u2) 1, show (un * 4294967296 + u1) * 4294967296 + u2 = u2 + 4294967296 * (u1 + 4294967296 * un) by omega]; omega
  have hhigh : ∀ gu rest, num = gu * top + rest → gu < 4294967296 → gu * x2 ≤ rest * 4294967296 + u2 → gu ≤ q + 1 := fun gu rest h1 h2 h3 => by
    rw [hq]
    refine knuth_ge (V' := top * 4294967296 + x2) (W' := num * 4294967296 + u2) (B := Bn) ?_ ?_ (Nat.le_of_not_lt fun h4 => ?_) (by omega) hV0
    · rw [hVe, Nat.add_mul, Nat.one_mul, Nat.mul_comm _ Bn, show top * 4294967296 + x2 = x2 + 4294967296 * top by omega]; omega
    · rw [hWe, Nat.mul_comm _ Bn, hnum, show (un * 4294967296 + u1) * 4294967296 + u2 = u2 + 4294967296 * (u1 + 4294967296 * un) by omega]; omega
    · have := (guess_iff h1).1 h4; omega
  have HLOW := Lib.hid hlow
  have HHIGH := Lib.hid hhigh
  have HQ := Lib.hid (show q = W / V ∧ q < 4294967296 from ⟨hq, hqB⟩)
  have HWW := Lib.hid hWW
  have HUN := Lib.hid hun
  have HNB := Lib.hid (show num < 18446744073709551616 ∧ num < top * 4294967296 + 4294967296 from ⟨hnb, by omega⟩)
  have HV0 := Lib.hid hV0
  have HVT := Lib.hid (show V < Bs ^ n from by have := lim_lt V; rwa [hly.out] at this)
  have hgd : Hid (num = num / top * top + num % top) := by show _ = _; have := Nat.div_add_mod num top; rw [Nat.mul_comm] at this; exact this.symm
  have hgq : Hid (q ≤ num / top) := by
    show _ ≤ _
    refine Nat.le_of_lt_add_one ?_
    rw [hq, Nat.div_lt_iff_lt_mul hV0, hWe, hVe]
    have h1 : Bn * (u2 + 4294967296 * (u1 + 4294967296 * un)) + Bn ≤ (num / top + 1) * (Bn * (4294967296 * top)) := by
      have h2 : num < (num / top + 1) * top := by have := Nat.lt_div_mul_add (a := num) (b := top) (by omega); rw [Nat.add_mul, Nat.one_mul]; exact this
      have h3 : u2 + 4294967296 * (u1 + 4294967296 * un) + 1 ≤ 4294967296 * ((num / top + 1) * top) := by omega
      have h4 := Nat.mul_le_mul_left Bn h3
      rw [Nat.mul_succ] at h4
      have h5 : Bn * (4294967296 * ((num / top + 1) * top)) = (num / top + 1) * (Bn * (4294967296 * top)) := by
        rw [Nat.mul_left_comm (num / top + 1), Nat.mul_left_comm (num / top + 1)]
      omega
    have h6 : (num / top + 1) * (Bn * (4294967296 * top)) ≤ (num / top + 1) * (Vr + Bn * (x2 + 4294967296 * top)) := Nat.mul_le_mul_left _ (by rw [Nat.mul_add]; omega)
    omega
  have hdi : ((num : Int) / (top : Int)) = ((num / top : Nat) : Int) := by simp
  have hmi : ((num : Int) % (top : Int)) = ((num % top : Nat) : Int) := by simp
  have hd64 : num / top < 18446744073709551616 := Nat.lt_of_le_of_lt (Nat.div_le_self _ _) hnb
  have hm64 : num % top < 4294967296 := Nat.lt_of_lt_of_le (Nat.mod_lt _ (by omega)) (by omega)
  obtain ⟨G0, hG0⟩ : ∃ G0, G0 = num / top := ⟨_, rfl⟩
  obtain ⟨R0, hR0⟩ : ∃ R0, R0 = num % top := ⟨_, rfl⟩
  rw [← hG0] at hdi hd64 hgd hgq
  rw [← hR0] at hmi hm64 hgd
  have hor' := hor.out
  clear hlow hhigh hq hqB hWW hun hu1 hu2 hnb hV0 hWe hVe hWr hVr hBn hBp hnum hG0 hR0 hW hor hB hap hol hlb
  have HU2 := Lib.hid hu2b
  go_enter Tryz.func187, Tryz.ntmps187
  have hbvl : bv < w.heap.size := (HB.out.cells bv ov rfl 0 (by rw [hly.out]; omega)).1
  go_wp2
  go_quiet (fail)
  have hNQ := Lib.hid (show Ext w (w.drewN nq) from ext_drewN (ext_refl _) _)
  go_upto_region 5 with (fail)
  go_cut [8, 9] (fun vg vr wx => vg = .int .u64 (G0 : Int) ∧ vr = .int .u64 (R0 : Int) ∧ Hid (Ext w wx))
  case first =>
    go_wp2
    go_meet
    case rel => exact ⟨by first | rfl | rw [hdi], by first | rfl | rw [hmi], hNQ⟩
  case rest =>
    obtain ⟨rfl, rfl, hNQ⟩ := hcut
    rename ∀ (a : Act) (w : World), Code.wp _ _ _ a w → _ => hK5
    refine hK5 _ _ ?_
    clear hK5 hdi hmi hor' htop0
    refine wp_seq_k (fun K10 hK10 => ?_)
    go_cut [8] (fun vg wx => ∃ gu : Nat, vg = .int .u64 (gu : Int) ∧ gu < 4294967296 ∧ Hid (gu = q ∨ gu = q + 1) ∧ Hid (Ext w wx))
    case first =>
      go_wp2
      go_loopg [8, 9] G0 (fun gk vg vr wr => ∃ gu rest : Nat, gk = gu ∧ vg = .int .u64 (gu : Int) ∧ vr = .int .u64 (rest : Int) ∧ Hid (rest < 4294967296 ∧ gu < 18446744073709551616) ∧ Hid (num = gu * top + rest) ∧ Hid (q ≤ gu) ∧ Hid (Ext w wr))
      case atStart => exact ⟨G0, R0, rfl, rfl, rfl, ⟨hm64, hd64⟩, hgd, hgq, hNQ⟩
      case round =>
        obtain ⟨gu, rest, hgk, rfl, rfl, hbd, hnum, hqg, hext⟩ := hrel
        have HGK := Lib.hid hgk
        clear hgk
        obtain ⟨hr, hg64⟩ := hbd.out
        obtain ⟨xc, xf, -, -⟩ := ext_use hext.out
        have k2 := (xc g (j + (n - 2)) hgl).trans c2
        have kx := (xc bv (ov + (n - 2)) hbvl).trans hcx2
        clear xc xf
        have hdec : q < gu → Hid (num = (gu - 1) * top + (rest + top)) ∧ Hid (q ≤ gu - 1) := fun h => by
          refine ⟨?_, ?_⟩
          · show _ = _
            obtain ⟨g', rfl⟩ : ∃ g', gu = g' + 1 := ⟨gu - 1, by omega⟩
            have := hnum.out
            rw [Nat.add_mul, Nat.one_mul] at this
            simp; omega
          · show _ ≤ _; omega
        have hbrk : ∀ gu' rest', num = gu' * top + rest' → q ≤ gu' → 4294967296 ≤ rest' → gu' < 4294967296 ∧ Hid (gu' = q ∨ gu' = q + 1) := fun gu' rest' e1 e2 e3 => by
          have e4 : gu' < 4294967296 := by
            refine Nat.lt_of_not_le fun h => ?_
            have e5 : 4294967296 * top ≤ gu' * top := Nat.mul_le_mul_right _ h
            have := HNB.out.2
            omega
          refine ⟨e4, ?_⟩
          have e6 : gu' * x2 ≤ 4294967295 * 4294967295 := Nat.mul_le_mul (by omega) (by omega)
          have := HHIGH.out gu' rest' e1 e4 (by omega)
          show _ ∨ _
          omega
        have HBRK := Lib.hid hbrk
        have HDEC := Lib.hid hdec
        clear hbrk hdec
        by_cases h1 : 4294967296 ≤ gu
        · have hgt : q < gu := by have := HQ.out.2; omega
          obtain ⟨hd1, hd2⟩ := HDEC.out hgt
          have hg1 : 1 ≤ gu := by omega
          have h1' : (4294967296 : Int) ≤ gu := by omega
          clear hgt h1
          go_wp2
          go_quiet (fail)
          have hE := hext.out
          go_upto_region 9 with (fail)
          obtain ⟨gu2, hgu2⟩ : ∃ gu2, gu2 = gu - 1 := ⟨_, rfl⟩
          obtain ⟨r2, hr2⟩ : ∃ r2, r2 = rest + top := ⟨_, rfl⟩
          have e9 : (gu : Int) - 1 = (gu2 : Int) := by omega
          have e10 : (rest : Int) + top = (r2 : Int) := by omega
          rw [← hgu2, ← hr2] at hd1
          rw [← hgu2] at hd2
          have hg2 : gu2 < 18446744073709551616 ∧ gu2 < gu := by omega
          have hr2b : r2 < 8589934592 := by omega
          simp only [e9, e10]
          have HG2 := Lib.hid hg2
          clear e9 e10 hgu2 hr2 hg2 hg1 h1'
          by_cases h3 : 4294967296 ≤ r2
          · have h3' : (4294967296 : Int) ≤ (r2 : Int) := by omega
            obtain ⟨b1, b2⟩ := HBRK.out gu2 r2 hd1.out hd2.out h3
            clear h3
            go_wp2
            go_meet
            case rel => exact ⟨gu2, rfl, b1, b2, ext_drewN hE _⟩
          · have h3' : decide ((4294967296 : Int) ≤ (r2 : Int)) = false := decide_eq_false (by omega)
            have H4 := Lib.hid (show r2 < 4294967296 by omega)
            clear h3 hr2b HBRK HDEC
            go_wp2
            go_roundg gu2
            case measure => rw [HGK.out]; exact HG2.out.2
            case rel => exact ⟨gu2, r2, rfl, rfl, rfl, ⟨H4.out, HG2.out.1⟩, hd1, hd2, ext_drewN hE _⟩
        · obtain ⟨p, hp⟩ : ∃ p, p = gu * x2 := ⟨_, rfl⟩
          have hpb : p ≤ 18446744065119617025 := by rw [hp]; exact Nat.mul_le_mul (show gu ≤ 4294967295 by omega) (show x2 ≤ 4294967295 by omega)
          have hpi : (gu : Int) * (x2 : Int) = (p : Int) := by rw [hp]; exact (Int.natCast_mul _ _).symm
          have h1b : decide ((4294967296 : Int) ≤ (gu : Int)) = false := decide_eq_false (by omega)
          have H1 := Lib.hid (show gu < 4294967296 by omega)
          have hor2 := or_shift rest u2 hr hu2b
          obtain ⟨y, hy⟩ : ∃ y, y = rest * 4294967296 + u2 := ⟨_, rfl⟩
          rw [← hy] at hor2
          have HP := Lib.hid hp
          have HY := Lib.hid hy
          have HR := Lib.hid hr
          clear h1 hp hy
          by_cases h2 : y < p
          · have h2' : (y : Int) < (p : Int) := by omega
            have hgt : q < gu := HLOW.out gu rest hnum.out (by rw [← HY.out, ← HP.out]; exact h2)
            obtain ⟨hd1, hd2⟩ := HDEC.out hgt
            have hg1 : 1 ≤ gu := by omega
            have HG1 := Lib.hid hgt
            clear hgt h2
            go_wp2
            go_quiet (fail)
            have hE := hext.out
            go_upto_region 9 with (fail)
            obtain ⟨gu2, hgu2⟩ : ∃ gu2, gu2 = gu - 1 := ⟨_, rfl⟩
            obtain ⟨r2, hr2⟩ : ∃ r2, r2 = rest + top := ⟨_, rfl⟩
            have e9 : (gu : Int) - 1 = (gu2 : Int) := by omega
            have e10 : (rest : Int) + top = (r2 : Int) := by omega
            rw [← hgu2, ← hr2] at hd1
            rw [← hgu2] at hd2
            have hg2 : gu2 < 18446744073709551616 ∧ gu2 < gu := by omega
            have hr2b : r2 < 8589934592 := by omega
            simp only [e9, e10]
            have HG2 := Lib.hid hg2
            clear e9 e10 hgu2 hr2 hg2 hg1
            by_cases h3 : 4294967296 ≤ r2
            · have h3' : (4294967296 : Int) ≤ (r2 : Int) := by omega
              obtain ⟨b1, b2⟩ := HBRK.out gu2 r2 hd1.out hd2.out h3
              clear h3
              go_wp2
              go_meet
              case rel => exact ⟨gu2, rfl, b1, b2, ext_drewN hE _⟩
            · have h3' : decide ((4294967296 : Int) ≤ (r2 : Int)) = false := decide_eq_false (by omega)
              have H4 := Lib.hid (show r2 < 4294967296 by omega)
              clear h3 hr2b HBRK HDEC
              go_wp2
              go_roundg gu2
              case measure => rw [HGK.out]; exact HG2.out.2
              case rel => exact ⟨gu2, r2, rfl, rfl, rfl, ⟨H4.out, HG2.out.1⟩, hd1, hd2, ext_drewN hE _⟩
          · have h2' : (p : Int) ≤ (y : Int) := by omega
            have hle := HHIGH.out gu rest hnum.out H1.out (by rw [← HY.out, ← HP.out]; omega)
            have hfin : Hid (gu = q ∨ gu = q + 1) := by show _ ∨ _; have := hqg.out; omega
            have hE := hext.out
            clear h2 hle
            go_wp2
            go_quiet (fail)
            go_wp2
            go_meet
            case rel => exact ⟨gu, rfl, H1.out, hfin, ext_drewN hE _⟩
    case rest =>
      obtain ⟨gu, rfl, hgb, hgu, hext0⟩ := hcut
      have HGB := Lib.hid hgb
      have hown0 := Lib.hid (own_ext hown.out hext0.out)
      have hcE := hext0.out
      clear c1 f1 c2 f2 hct hcx2
      go_wp2
      go_loopw [10, 11, 12] (fun vc vb vi wr => ∃ (i cy bo : Nat) (os : List Nat), i ≤ n ∧ Hid (cy < 4294967296 ∧ bo ≤ 1) ∧ vi = .int .i64 (i : Int) ∧ vc = .int .u64 (cy : Int) ∧ vb = .int .u64 (bo : Int) ∧
          Hid (os.length = N ∧ Lb os ∧ seg os j i + gu * val ((lim V).take i) = seg os0 j i + Bs ^ i * (cy + bo) ∧ ∀ p, p < j ∨ j + i ≤ p → os.getD p 0 = os0.getD p 0) ∧
          Hid (wr.ownsRow base 48 1 (.slice (some ⟨g, 0, none⟩) N N) N (os.map u32V)) ∧ Hid (wc.grownBy wr (some g)))
        (fun _ _ vi _ => n - (intOf vi).toNat)
      case atStart => exact ⟨0, 0, 0, os0, Nat.zero_le _, ⟨by omega, by omega⟩, rfl, rfl, rfl, ⟨HOL.out.1, HOL.out.2, by simp [seg_zero, val], fun _ _ => rfl⟩, hown0.out, only_refl _ _⟩
      case round =>
        obtain ⟨i, cy, bo, os, hi, hcb, rfl, rfl, rfl, hos, hown1, hgr⟩ := hrel
        have hRB := rd_only (HB.out.ext hext0.out) hgr hap'.out
        by_cases h0 : i < n
        · obtain ⟨v, hv, hvb, hcv⟩ := hRB.get i h0
          obtain ⟨hcx, hfx⟩ := own_seg hown1 j i (by omega)
          obtain ⟨x, hx⟩ : ∃ x, x = os.getD (j + i) 0 := ⟨_, rfl⟩
          rw [← hx] at hcx
          have hxb : x < 4294967296 := by rw [hx]; exact lb_getD hos.out.2.1 _
          obtain ⟨hcb1, hcb2⟩ := hcb.out
          obtain ⟨pr, hpr⟩ : ∃ pr, pr = gu * v := ⟨_, rfl⟩
          have hprb : pr ≤ 18446744065119617025 := by rw [hpr]; exact Nat.mul_le_mul (show gu ≤ 4294967295 by omega) (show v ≤ 4294967295 by omega)
          have hpri : (gu : Int) * (v : Int) = (pr : Int) := by rw [hpr]; exact (Int.natCast_mul _ _).symm
          have HPR := Lib.hid hpr
          have HX := Lib.hid hx
          have hlow := and_low (pr + cy) (by omega)
          have hbu := borrow_u64 (l := (pr + cy) % 4294967296) hxb (Nat.mod_lt _ (by decide)) hcb2
          have hst := mulsub_step (os := os) (os0 := os0) (vs := lim V) (j := j) (g := gu) (by rw [hos.out.1]; omega) hgb hvb hcb1 hcb2 hxb hos.out.2.2.1 (by rw [hx]; exact (hos.out.2.2.2 _ (by omega)).symm) hv.out
          rw [← hpr] at hst
          have hc' : (pr + cy) / 4294967296 < 4294967296 := by omega
          have HLOW2 := Lib.hid hlow
          have HBU := Lib.hid hbu
          have HST := Lib.hid hst
          have HC' := Lib.hid hc'
          clear hpr hx hRB hlow hbu hst hc'
          go_wp2
          case roundEnd =>
            have e0 : (pr : Int) + cy = ((pr + cy : Nat) : Int) := by omega
            rw [e0, HLOW2.out, HBU.out.1, HBU.out.2]
            refine ⟨⟨i + 1, (pr + cy) / 4294967296, if x < (pr + cy) % 4294967296 + bo then 1 else 0, os.set (j + i) ((x + 8589934592 - (pr + cy) % 4294967296 - bo) % 4294967296), by omega, ⟨HC'.out, by split <;> omega⟩, by simp, by simp, rfl, ⟨by simp [hos.out.1], lb_set hos.out.2.1 _ (Nat.mod_lt _ (by decide)), HST.out, fun p hp => ?_⟩, own_set hown1.out _ _, hgr.out.trans (only_set _ _ _ _)⟩, ?_⟩
            · rw [getD_set_ne (by omega)]; exact hos.out.2.2.2 p (by omega)
            · simp [intOf]; omega
        · obtain rfl : i = n := by omega
          have hP : Hid ((gu = q → cy + bo = un ∧ seg os j i = W % V) ∧ (gu = q + 1 → cy + bo = un + 1 ∧ seg os j i + V = Bs ^ i + W % V)) := by
            have hT : W = seg os0 j i + Bs ^ i * un := by rw [HWW.out, HUN.out, seg_succ]
            have h3 := hos.out.2.2.1
            rw [take_ge (l := lim V) (by rw [hly.out]; exact Nat.le_refl _), val_lim] at h3
            exact figure_end HQ.out.1 HV0.out HVT.out hgu.out (seg_lt hos.out.2.1 _ _) hT h3
          obtain ⟨hcx, hfx⟩ := own_seg hown1 j i (by omega)
          have hun' : os.getD (j + i) 0 = un := by rw [HUN.out]; exact hos.out.2.2.2 _ (by omega)
          rw [hun'] at hcx
          obtain ⟨hcb1, hcb2⟩ := hcb.out
          have hE := hext0.out
          have HUN' := Lib.hid hun'
          clear hun' hRB h0
          rcases hgu.out with hg | hg
          · obtain ⟨k1, k2⟩ := hP.out.1 hg
            have e1 : IntKind.u64.wrap (IntKind.u64.wrap ((un : Int) - cy) - bo) = 0 := by simp only [IntKind.wrap_u64]; omega
            have K2 := Lib.hid k2
            have HG := Lib.hid hg
            clear k1 k2 hg
            go_wp2
            refine bodyPost_ret (v := .int .u32 ↑gu) ?h rfl ⟨os.set (j + i) 0, by rw [HG.out, HQ.out.1], own_set hown1.out _ _, ⟨lb_set hos.out.2.1 _ (by decide), ?_, fun p hp => ?_⟩, ((ext_only hE _).trans hgr.out).trans (only_set _ _ _ _)⟩
            case h => simp [results, Tryz.results187, go_sem]
            · rw [seg_set (by rw [hos.out.1]; omega), K2.out, Nat.mul_zero, Nat.add_zero]
            · rw [getD_set_ne (by omega)]; exact hos.out.2.2.2 p (by omega)
          · obtain ⟨k1, k2⟩ := hP.out.2 hg
            have e1 : IntKind.u64.wrap (IntKind.u64.wrap ((un : Int) - cy) - bo) = 18446744073709551615 := by simp only [IntKind.wrap_u64]; omega
            have K2 := Lib.hid k2
            have HG := Lib.hid hg
            clear k1 k2 hg
            go_wp2
            have hown2 := Lib.hid (own_set hown1.out (j + i) 4294967295)
            have hos1 := Lib.hid (show (os.set (j + i) 4294967295).length = N ∧ Lb (os.set (j + i) 4294967295) ∧ seg (os.set (j + i) 4294967295) j i + V = Bs ^ i + W % V ∧ (os.set (j + i) 4294967295).getD (j + i) 0 = 4294967295 ∧ ∀ p, p < j ∨ j + i + 1 ≤ p → (os.set (j + i) 4294967295).getD p 0 = os0.getD p 0 from
              ⟨by simp [hos.out.1], lb_set hos.out.2.1 _ (by decide), by rw [seg_congr (r := os) i (fun p hp => getD_set_ne (by omega))]; exact K2.out, by rw [List.getD_eq_getElem?_getD, List.getElem?_set_self (by rw [hos.out.1]; omega)]; rfl, fun p hp => by rw [getD_set_ne (by omega)]; exact hos.out.2.2.2 p (by omega)⟩)
            have hgr2 := Lib.hid (hgr.out.trans (only_set wr g (j + i) (.int .u32 4294967295)))
            generalize os.set (j + i) 4294967295 = os1 at hown2 hos1
            clear hos hown1 hcx hfx HUN' K2
            go_loopw [16, 17] (fun vc vi wr2 => ∃ (i2 c : Nat) (os2 : List Nat), i2 ≤ i ∧ Hid (c ≤ 1) ∧ vi = .int .i64 (i2 : Int) ∧ vc = .int .u64 (c : Int) ∧
                Hid (os2.length = N ∧ Lb os2 ∧ seg os2 j i2 + Bs ^ i2 * c = seg os1 j i2 + val ((lim V).take i2) ∧ ∀ p, p < j ∨ j + i2 ≤ p → os2.getD p 0 = os1.getD p 0) ∧
                Hid (wr2.ownsRow base 48 1 (.slice (some ⟨g, 0, none⟩) N N) N (os2.map u32V)) ∧ Hid (wc.grownBy wr2 (some g)))
              (fun _ vi _ => i - (intOf vi).toNat)
            case atStart => exact ⟨0, 0, os1, Nat.zero_le _, by show (0 : Nat) ≤ 1; omega, rfl, rfl, ⟨hos1.out.1, hos1.out.2.1, by simp [seg_zero, val], fun _ _ => rfl⟩, hown2.out, hgr2.out⟩
            case round =>
              clear hown2 hgr2
              obtain ⟨i2, c, os2, hi2, hc1, rfl, rfl, hos2, hown3, hgr3⟩ := hrel
              have hRB := rd_only (HB.out.ext hext0.out) hgr3 hap'.out
              have hc1' := hc1.out
              by_cases h0 : i2 < i
              · obtain ⟨v, hv, hvb, hcv⟩ := hRB.get i2 h0
                obtain ⟨hcx, hfx⟩ := own_seg hown3 j i2 (by omega)
                obtain ⟨x, hx⟩ : ∃ x, x = os2.getD (j + i2) 0 := ⟨_, rfl⟩
                rw [← hx] at hcx
                have hxb : x < 4294967296 := by rw [hx]; exact lb_getD hos2.out.2.1 _
                have hst := addback_step (os := os2) (os1 := os1) (vs := lim V) (j := j) (x := x) (v := v) (by rw [hos2.out.1]; omega) hos2.out.2.2.1 (by rw [hx]; exact (hos2.out.2.2.2 _ (by omega)).symm) hv.out
                have HST := Lib.hid hst
                clear hx hRB hst
                go_wp2
                go_quiet (fail)
                go_wp2
                case roundEnd =>
                  have e0 : (x : Int) + v + c = ((x + v + c : Nat) : Int) := by omega
                  rw [e0]
                  refine ⟨⟨i2 + 1, (x + v + c) / 4294967296, os2.set (j + i2) ((x + v + c) % 4294967296), by omega, (by show _ ≤ 1; omega), by simp, by simp, ⟨by simp [hos2.out.1], lb_set hos2.out.2.1 _ (Nat.mod_lt _ (by decide)), HST.out, fun p hp => by rw [getD_set_ne (by omega)]; exact hos2.out.2.2.2 p (by omega)⟩, ?_, (hgr3.out.trans (ext_only (ext_drewN (ext_refl _) _) _)).trans (only_set _ _ _ _)⟩, ?_⟩
                  · have := own_set (own_ext hown3.out (ext_drewN (ext_refl _) nq)) (j + i2) ((x + v + c) % 4294967296)
                    show World.ownsRow _ _ _ _ _ _ _
                    simpa using this
                  · simp [intOf]; omega
              · obtain rfl : i2 = i := by omega
                have h3 := hos2.out.2.2.1
                rw [take_ge (l := lim V) (by rw [hly.out]; exact Nat.le_refl _), val_lim, hos1.out.2.2.1] at h3
                have hsl := seg_lt hos2.out.2.1 j i2
                have hc1 : c = 1 := by
                  rcases Nat.eq_zero_or_pos c with h | h
                  · subst h; omega
                  · omega
                subst hc1
                have K3 := Lib.hid (show seg os2 j i2 = W % V by omega)
                obtain ⟨hcx, hfx⟩ := own_seg hown3 j i2 (by omega)
                have htp : os2.getD (j + i2) 0 = 4294967295 := (hos2.out.2.2.2 _ (by omega)).trans hos1.out.2.2.2.1
                rw [htp] at hcx
                have e2 : IntKind.u64.wrap ((gu : Int) - 1) % 4294967296 = ((W / V : Nat) : Int) := by
                  have a1 := HG.out
                  have a2 := HQ.out
                  rw [← a2.1]
                  simp only [IntKind.wrap_u64]
                  omega
                have E2 := Lib.hid e2
                clear h3 hsl htp hRB h0 e2
                go_wp2
                rw [E2.out]
                refine bodyPost_ret (v := .int .u32 ↑(W / V)) ?h rfl ⟨os2.set (j + i2) 0, rfl, own_set hown3.out _ _, ⟨lb_set hos2.out.2.1 _ (by decide), ?_, fun p hp => ?_⟩, ((ext_only hE _).trans hgr3.out).trans (only_set _ _ _ _)⟩
                case h => simp [results, Tryz.results187, go_sem]
                · rw [seg_set (by rw [hos2.out.1]; omega), K3.out, Nat.mul_zero, Nat.add_zero]
                · rw [getD_set_ne (by omega), hos2.out.2.2.2 p (by omega)]; exact hos1.out.2.2.2.2 p (by omega)
end Go.Proofs.YtnkajjealkggdaaGreatDoor
end
section
/- The program reads digits. -/
namespace Go.Proofs.YtnkajjealkggdaaGreatDoor
open Go.RowKit
attribute [local go_sem] bs_size bs_extract bs_get bs_append bs_toList const_get
attribute [local go_sem] sz2 sz3 sz4 sz5 sz6 sz7 sz8
set_option maxHeartbeats 4000000
set_option maxRecDepth 100000
/-- One limb more of what is multiplied in its own place. -/
theorem inpl_step {O os : List Nat} {p k T N cy o : Nat} (hl : os.length = k) (hO : O.length = k) (hp : p < k) (hd : os.drop p = O.drop p) (hv : val (os.take p) + Bs ^ p * cy = val (O.take p) * T + N) (ho : O.getD p 0 = o) :
    (os.set p ((cy + o * T) % 4294967296)).drop (p + 1) = O.drop (p + 1) ∧ val ((os.set p ((cy + o * T) % 4294967296)).take (p + 1)) + Bs ^ (p + 1) * ((cy + o * T) / 4294967296) = val (O.take (p + 1)) * T + N := by
  refine ⟨?_, ?_⟩
  · rw [List.drop_set_of_lt (by omega)]
    have := congrArg (List.drop 1) hd
    rwa [List.drop_drop, List.drop_drop] at this
  · have h1 : (os.set p ((cy + o * T) % 4294967296)).take (p + 1) = os.take p ++ [(cy + o * T) % 4294967296] := by
      rw [List.take_succ_eq_append_getElem (by rw [List.length_set]; omega), List.getElem_set_self, List.take_set_of_le (by omega)]
    have h2 : (os.take p).length = p := by rw [List.length_take]; omega
    have h3 : (cy + o * T) % 4294967296 + Bs * ((cy + o * T) / 4294967296) = cy + o * T := Nat.mod_add_div _ _
    rw [h1, val_snoc, h2, val_take_succ, ho, Nat.pow_succ, Nat.mul_assoc, Nat.add_assoc, ← Nat.mul_add, h3, Nat.mul_add, Nat.add_mul, Nat.mul_assoc]
    omega
attribute [local irreducible] Calls
end Go.Proofs.YtnkajjealkggdaaGreatDoor
end
