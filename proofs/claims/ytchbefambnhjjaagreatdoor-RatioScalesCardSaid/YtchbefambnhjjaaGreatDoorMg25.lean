/- Lemmas of this proof, laid together: BigT, BigS, BigU, IntL, IntM, IntN, RatK0, RatK, TwIntG, TwIntH. -/
import Derived.Test.YtchbefambnhjjaaGreatDoorMg23
import Derived.Test.YtchbefambnhjjaaGreatDoorMg12
import Derived.Deep.DeepCutAuto
import Derived.Deep.RegionWith
import Derived.Deep.LoopGhost
import Derived.Maps.AppendAt
import Derived.Test.YtchbefambnhjjaaGreatDoorMg22
set_option linter.unusedSimpArgs false
set_option linter.unusedVariables false
section
/- Words of the library's: short numbers are told in tens. -/
namespace Go.Proofs.YtchbefambnhjjaaGreatDoor
open Go.RowKit
attribute [local go_sem] bs_size bs_extract bs_get bs_append bs_toList const_get
attribute [local go_sem] sz2 sz3 sz4 sz5 sz6 sz7 sz8
set_option maxHeartbeats 8000000
set_option maxRecDepth 100000
def tellL (v : Nat) (least : Int) : List UInt8 := List.replicate (least - (digs v).length).toNat 48 ++ digs v
theorem own_pre {w : World} {base : Nat} {e : TypeId} {g n cap : Nat} {xs : List Value} (h : w.ownsRow base e 1 (.slice (some ⟨g, 0, none⟩) n cap) n xs) {k : Nat} (hk : k ≤ n) : w.ownsRow base e 1 (.slice (some ⟨g, 0, none⟩) k cap) k (xs.take k) := by
 obtain ⟨h1, h2⟩ := h
 refine ⟨by rw [List.length_take]; omega, ?_⟩
 rcases h2 with ⟨h3, _⟩ | ⟨g', cap', cur, h3, h4, h5, h6, h7, h8, h9⟩
 ·cases h3
 ·simp only [Value.slice.injEq, Option.some.injEq, Addr.mk.injEq] at h3
  obtain ⟨⟨rfl, _⟩, _, rfl⟩ := h3
  refine .inr ⟨g, cap, cur, rfl, h4, h5, by omega, h7, h8, ?_⟩
  rw [← h9, List.take_take, Nat.mul_one, Nat.mul_one, Nat.min_eq_left hk]
theorem own_base {w : World} {base b2 : Nat} {e : TypeId} {s : Nat} {v : Value} {n : Nat} {xs : List Value} (h : w.ownsRow base e s v n xs) (hb : b2 ≤ base) : w.ownsRow b2 e s v n xs := by
 obtain ⟨h1, h2⟩ := h
 refine ⟨h1, ?_⟩
 rcases h2 with h3 | ⟨g', cap', cur, h3, h4, h5⟩
 ·exact .inl h3
 ·exact .inr ⟨g', cap', cur, h3, by omega, h5⟩
theorem own_only {w w' : World} {base : Nat} {e : TypeId} {s : Nat} {v : Value} {n : Nat} {xs : List Value} (h : w.ownsRow base e s v n xs) {row : Option Nat} (hg : w.grownBy w' row) (hne : ∀ b, v.ownBlock = some b → row ≠ some b) : w'.ownsRow base e s v n xs := by
 have hl := h.lt
 obtain ⟨h1, h2⟩ := h
 refine ⟨h1, ?_⟩
 rcases h2 with h3 | ⟨g', cap', cur, h3, h4, h5, h6⟩
 ·exact .inl h3
 ·refine .inr ⟨g', cap', cur, h3, h4, ?_, h6⟩
  have hb : v.ownBlock = some g' := by rw [h3]; rfl
  rw [hg.block g' (hl g' hb).2 (fun e => hne g' hb e.symm)]
  exact h5
theorem own_form {w : World} {base : Nat} {e : TypeId} {v : Value} {n : Nat} {xs : List Value} (h : w.ownsRow base e 1 v n xs) : (v = .slice none 0 0 ∧ n = 0) ∨ ∃ g c, v = .slice (some ⟨g, 0, none⟩) n c ∧ n ≤ c ∧ c ≤ 9223372036854775807 ∧ base ≤ g ∧ g < w.heap.size := by
 have hl := h.lt
 obtain ⟨h1, h2⟩ := h
 rcases h2 with h3 | ⟨g', cap', cur, h3, h4, h5, h6, h7, h8⟩
 ·exact .inl h3
 ·exact .inr ⟨g', cap', h3, h6, h7, h4, (hl g' (by rw [h3]; rfl)).2⟩
theorem own_size {w : World} {base : Nat} {e : TypeId} {v : Value} {n : Nat} {xs : List Value} (h : w.ownsRow base e 1 v n xs) (hn : 0 < n) : base + 1 ≤ w.heap.size := by
 rcases own_form h with ⟨_, h0⟩ | ⟨g, c, _, _, _, h1, h2⟩ <;> omega
theorem push_u8o {ops : Array Oper} {rest : List Oper} {o : Oper} {a : Act} {Q : Exit → Act → World → Prop} {w : World} (hgd : o.guard = none) (s x : Operand)
  (ho : o.op = .call { callee := .builtin .append, args := #[s, x], argTypes := #[62, 62] })
  {W : World} {w0 : World} (ob : Obj) (hw : w = w0.alloc ob) (hW : Ext W w0) {base : Nat} (hbase : W.heap.size ≤ base) (hsz0 : base ≤ w0.heap.size) {v : Value} {n : Nat} {xs : List UInt8} (hown : w0.ownsRow base 5 1 v n (xs.map bV)) (hs : a.eval s = v)
  (y : UInt8) (ad : Addr) (c : Nat) (hx : a.eval x = .slice (some ad) 1 c) (hnew : w.cell? ad = some (bV y)) (hn : n ≤ 1000000000)
  {b2 : Nat} {e2 : TypeId} {s2 : Nat} {v2 : Value} {n2 : Nat} {xs2 : List Value} (h2 : w0.ownsRow b2 e2 s2 v2 n2 xs2) (hap : ∀ b, v2.ownBlock = some b → b < base)
  (h : ∀ v' w', Ext W w' → Hid (w'.ownsRow base 5 1 v' (n + 1) ((xs ++ [y]).map bV)) → Hid (w'.ownsRow b2 e2 s2 v2 n2 xs2) → wpList Tryz.prog ops Q rest (a.put o.dst v') w') : wpList Tryz.prog ops Q (o :: rest) a w := by
 obtain ⟨i, hi, hz, hsz, hby⟩ := info_parts u8_info
 subst hw
 have hlt := hown.lt
 refine wpList_append_own _ hgd s x _ ho base 5 i _ 1 1 u8_under hi hz hsz hby rfl (by decide) v n _ hs (hown.alloc _) ad 1 c [bV y] hx rfl ?_ ?_ ?_ ?_ ?_ ?_
 ·intro j u hj
  match j, hj with
  | 0, hj => simp at hj; subst hj; simpa [Addr.add] using hnew
 ·intro u hu; simp at hu; subst hu; rfl
 ·unfold maxLen; omega
 ·omega
 ·simp; omega
 ·intro v' w' ho' hg _
  refine h v' w' (ext_grown (jA hW _) (hown.alloc _) hbase hg) ?_ ?_
  ·show World.ownsRow _ _ _ _ _ _ _
   simpa using ho'
  ·refine Lib.hid (own_only (h2.alloc _) hg fun b hb e => ?_)
   have h3 := hap b hb
   have h4 := hlt b e
   omega
theorem fig_at (r : Nat) (h : r % 10 < ([48, 49, 50, 51, 52, 53, 54, 55, 56, 57, 97, 98, 99, 100, 101, 102, 103, 104, 105, 106, 107, 108, 109, 110, 111, 112, 113, 114, 115, 116, 117, 118, 119, 120, 121, 122] : List UInt8).length) : ([48, 49, 50, 51, 52, 53, 54, 55, 56, 57, 97, 98, 99, 100, 101, 102, 103, 104, 105, 106, 107, 108, 109, 110, 111, 112, 113, 114, 115, 116, 117, 118, 119, 120, 121, 122] : List UInt8)[r % 10]'h = UInt8.ofNat (48 + r % 10) := by
 have h10 : r % 10 < 10 := Nat.mod_lt _ (by decide)
 generalize r % 10 = y at *
 have : ∀ (y : Nat) (h : y < ([48, 49, 50, 51, 52, 53, 54, 55, 56, 57, 97, 98, 99, 100, 101, 102, 103, 104, 105, 106, 107, 108, 109, 110, 111, 112, 113, 114, 115, 116, 117, 118, 119, 120, 121, 122] : List UInt8).length), y < 10 → ([48, 49, 50, 51, 52, 53, 54, 55, 56, 57, 97, 98, 99, 100, 101, 102, 103, 104, 105, 106, 107, 108, 109, 110, 111, 112, 113, 114, 115, 116, 117, 118, 119, 120, 121, 122] : List UInt8)[y]'h = UInt8.ofNat (48 + y) := by decide
 exact this y h h10
attribute [local irreducible] Calls
theorem bw_copied_own (A : Option Addr) (n c : Nat) (xs : List Nat) (hn : n ≤ 1000000) (w : World) (hA : Rd w A n c xs) :
  Calls Tryz.prog 122 #[.slice A n c] w fun e w' => e = .returned (.slice (some ⟨w.heap.size, 0, none⟩) n n) ∧ Hid (w'.ownsRow w.heap.size 54 1 (.slice (some ⟨w.heap.size, 0, none⟩) n n) n (xs.map u32V)) ∧ Ext w w' := by
 have HA := Lib.hid hA
 have hlen := Lib.hid hA.len
 clear hA
 go_enter Tryz.func122, Tryz.ntmps122
 go_wp2_with (first
  | (at_make; refine make_u32 rfl _ _ rfl _ _ _ _ n rfl rfl (by simp) (by simp) (by omega) ?_; intro w1 hx1 ho1; have hext1 := Lib.hid hx1; clear hx1)
  | (with_reducible refine copy_u32 rfl (.tmp 7) (.tmp 8) rfl ho1.out (HA.out.ext hext1.out) rfl rfl (Nat.le_refl _) hext1.out (Nat.le_refl _) ?_; intro w2 hx2 ho2; have hext2 := Lib.hid hx2; clear hx2)
  | go_in)
 refine bodyPost_ret (v := .slice (some ⟨w.heap.size, 0, none⟩) n n) ?h rfl ⟨rfl, ?_, hext2.out⟩
 case h => simp [results, Tryz.results122, go_sem]
 have e : xs ++ (List.replicate n 0).drop n = xs := by simp
 rw [e] at ho2
 exact ho2
theorem tell_small (v : Nat) (least : Int) (A : Option Addr) (n c : Nat) (hn : n ≤ 40) (hl : -9000000000 ≤ least ∧ least ≤ 10000000) (w : World) (hA : Rd w A n c (lim v)) :
  Calls Tryz.prog 216 #[.slice A n c, .int .i64 10, .int .i64 least] w fun e w' => ∃ vv, e = .returned vv ∧ Hid (w'.ownsRow w.heap.size 5 1 vv (tellL v least).length ((tellL v least).map bV)) ∧ Ext w w' := by
 have HA := Lib.hid hA
 have hkn := hA.len
 have hcap := hA.cap
 have hmx := hA.mx
 obtain ⟨hl1, hl2⟩ := hl
 have HD : Hid ((digs v).length ≤ 1300) := Lib.hid (Nat.le_trans (digs_lim' (k := 40) (by omega)) (by decide))
 clear hA
 go_enter Tryz.func216, Tryz.ntmps216
 go_wp2
 go_loopg [10, 11] 8 (fun g vb vp wr => ∃ (p B : Nat), g = 9 - p ∧ (1 ≤ p ∧ p ≤ 9) ∧ vb = .int .u32 (B : Int) ∧ vp = .int .i64 (p : Int) ∧ (B ≤ 100000000 ∧ p ≤ 8 ∨ B = 1000000000 ∧ p = 9) ∧ Hid (B = 10 ^ p) ∧ Hid (Ext w wr))
 case atStart => exact ⟨1, 10, rfl, by omega, rfl, rfl, by omega, Lib.hid rfl, jR _⟩
 case round =>
  obtain ⟨p, B, rfl, ⟨hp1, hp2⟩, rfl, rfl, hB, hBp, hext⟩ := hrel
  by_cases h8 : p ≤ 8
  ·have hB8 : B ≤ 100000000 := by omega
   have hB9 : (B : Int) ≤ 429496729 := by omega
   have hBB : Hid (B * 10 ≤ 100000000 ∧ p + 1 ≤ 8 ∨ B * 10 = 1000000000 ∧ p + 1 = 9) := Lib.hid (by
    rcases Nat.lt_or_ge p 8 with h | h
    ·left
     rw [hBp.out, ← Nat.pow_succ]
     exact ⟨Nat.le_trans (Nat.pow_le_pow_right (by decide) (show p + 1 ≤ 8 by omega)) (by decide), by omega⟩
    ·right
     obtain rfl : p = 8 := by omega
     rw [hBp.out]; exact ⟨rfl, rfl⟩)
   clear hB
   go_wp2
   go_roundg (9 - (p + 1))
   case rel => exact ⟨p + 1, B * 10, rfl, by omega, by simp, by simp, hBB.out, Lib.hid (by rw [hBp.out, Nat.pow_succ]), hext⟩
   case measure => omega
  ·obtain rfl : p = 9 := by omega
   obtain rfl : B = 1000000000 := by omega
   clear hB h8 hBp
   obtain ⟨W1, rfl⟩ : ∃ W1, W1 = wr := ⟨wr, rfl⟩
   have hcp : ∀ w', Ext W1 w' → Calls Tryz.prog 122 #[.slice A n c] w' fun e w'' => e = .returned (.slice (some ⟨w'.heap.size, 0, none⟩) n n) ∧ Hid (w''.ownsRow w'.heap.size 54 1 (.slice (some ⟨w'.heap.size, 0, none⟩) n n) n ((lim v).map u32V)) ∧ Ext w' w'' := fun w' he => bw_copied_own A n c (lim v) (by omega) w' ((HA.out.ext hext.out).ext he)
   go_wp2_with (first
    | (go_at_call 122; (with_reducible refine (hcp _ (jR _)).mono ?_); rintro e w1 ⟨rfl, hR1, xb1⟩; obtain ⟨xc1, xf1, xl1, xz1⟩ := jU xb1; (try simp at xz1))
    )
   have HX1 := Lib.hid xb1
   have hz1 : W1.heap.size + 1 ≤ w1.heap.size := by have := (hR1.out.lt W1.heap.size rfl).2; omega
   clear hcp xc1 xf1 xl1 xz1 xb1
   go_loopg [0, 12] v (fun u vw vb wr => ∃ (k : Nat) (back : List UInt8), vw = .slice (some ⟨W1.heap.size, 0, none⟩) k n ∧ k ≤ n ∧ Hid (digs v = digs u ++ back.reverse) ∧ Hid (wr.ownsRow W1.heap.size 54 1 (.slice (some ⟨W1.heap.size, 0, none⟩) k n) k ((lim u).map u32V)) ∧ Hid (wr.ownsRow (W1.heap.size + 1) 5 1 vb back.length (back.map bV)) ∧ Hid (Ext w1 wr ∨ True) ∧ Hid (Ext W1 wr) ∧ W1.heap.size + 1 ≤ wr.heap.size)
   case atStart => exact ⟨n, [], rfl, Nat.le_refl _, Lib.hid (by simp), hR1, World.ownsRow_nil _ _ _ _, Lib.hid (.inr trivial), HX1, hz1⟩
   case round =>
    clear hR1 HX1 hz1
    obtain ⟨k, back, rfl, hk, hdig, hownw, hownb, -, hE, hz⟩ := hrel
    have hku : (lim gk).length = k := by have := hownw.out.1; simpa using this
    have hbl : back.length ≤ 1300 := by
     have h1 := HD.out
     rw [hdig.out] at h1
     simp at h1; omega
    by_cases hk0 : 0 < k
    ·have hu0 : gk ≠ 0 := by intro e; rw [e, lim_zero] at hku; simp at hku; omega
     have HU := Lib.hid hu0
     have HK := Lib.hid hku
     clear hu0 hku
     go_wp2
     go_loopw [13, 14] (fun vr vi wr2 => ∃ (j r : Nat) (os : List Nat), j ≤ k ∧ r < 1000000000 ∧ vi = .int .i64 ((j : Int) - 1) ∧ vr = .int .u64 (r : Int) ∧ Hid (os.length = k ∧ Lb os ∧ os.take j = (lim gk).take j ∧ val ((lim gk).drop j) = 1000000000 * val (os.drop j) + r) ∧
       Hid (wr2.ownsRow W1.heap.size 54 1 (.slice (some ⟨W1.heap.size, 0, none⟩) k n) k (os.map u32V)) ∧ Hid (wr2.ownsRow (W1.heap.size + 1) 5 1 u12 back.length (back.map bV)) ∧ Hid (Ext W1 wr2) ∧ W1.heap.size + 1 ≤ wr2.heap.size)
      (fun _ vi _ => (intOf vi + 1).toNat)
     case atStart =>
      refine ⟨k, 0, lim gk, Nat.le_refl _, by decide, by go_num, rfl, Lib.hid ⟨HK.out, lb_lim _, rfl, ?_⟩, hownw, hownb, hE, hz⟩
      rw [List.drop_eq_nil_of_le (by rw [HK.out]; exact Nat.le_refl _)]; rfl
     case round =>
      clear hownw hownb hE hz
      obtain ⟨j, r, os, hj, hr, rfl, rfl, hos, hownw, hownb, hE, hz⟩ := hrel
      by_cases h0 : 0 < j
      ·obtain ⟨x, hx, hxb⟩ : ∃ x : Nat, Hid ((lim gk).getD (j - 1) 0 = x) ∧ x < 4294967296 := ⟨_, rfl, lb_getD (lb_lim _) _⟩
       have hx2 : os.getD (j - 1) 0 = x := by
        have h1 := congrArg (fun z : List Nat => z.getD (j - 1) 0) hos.out.2.2.1
        simp only [List.getD_eq_getElem?_getD] at h1
        rw [List.getElem?_take_of_lt (by omega), List.getElem?_take_of_lt (by omega)] at h1
        rw [List.getD_eq_getElem?_getD, h1, ← List.getD_eq_getElem?_getD]
        exact hx.out
       obtain ⟨hc1, hf1⟩ := own_at hownw.out (j - 1) (by omega)
       rw [hx2] at hc1
       have hor := or_shift r x (by omega) hxb
       obtain ⟨s, hse⟩ : ∃ s, s = r * 4294967296 + x := ⟨_, rfl⟩
       have hs : s < 1000000000 * 4294967296 := by rw [hse]; omega
       have hq : s / 1000000000 < 4294967296 := by omega
       rw [← hse] at hor
       have HSE := Lib.hid hse
       clear hse hx2
       go_wp2
       case roundEnd =>
        refine ⟨⟨j - 1, s % 1000000000, os.set (j - 1) (s / 1000000000), by omega, by omega, ?_, ?_, ⟨?_, ?_, ?_, ?_⟩, ?_, ?_, ?_, ?_⟩, ?_⟩
        ·simp; omega
        ·simp
        ·simp [hos.out.1]
        ·exact lb_set hos.out.2.1 _ hq
        ·rw [List.take_set_of_le (by omega)]
         have h1 := congrArg (fun z : List Nat => z.take (j - 1)) hos.out.2.2.1
         simp only [List.take_take] at h1
         rwa [Nat.min_eq_left (by omega)] at h1
        ·have h := over_step (d := 1000000000) (by decide) h0 (by rw [HK.out]; exact hj) (by rw [hos.out.1, HK.out]) hos.out.2.2.2 hx.out
         rwa [← HSE.out] at h
        ·show World.ownsRow _ _ _ _ _ _ _
         have e : (s : Int) / 1000000000 = ((s / 1000000000 : Nat) : Int) := by omega
         rw [e]
         exact own_set hownw.out _ _
        ·exact own_far hownb.out _ _ (fun e => by have := (hownb.out.lt _ e).1; simp only at this; omega)
        ·exact jS hE.out (Nat.le_refl _) _
        ·simpa using hz
        ·simp [intOf]; omega
      ·obtain rfl : j = 0 := by omega
       have hv := hos.out.2.2.2
       simp only [List.drop_zero, val_lim] at hv
       obtain ⟨q, hqv⟩ : ∃ q, q = val os := ⟨_, rfl⟩
       have hq1 : gk = 1000000000 * q + r := by rw [hqv]; exact hv
       obtain ⟨A', c', he, hR⟩ := Rd.own hownw.out hos.out.2.1
       have hT : Calls Tryz.prog 175 #[.slice (some ⟨W1.heap.size, 0, none⟩) k n] wr fun e w'' => e = .returned (.slice (some ⟨W1.heap.size, 0, none⟩) (lim q).length n) ∧ wr = w'' := by
        cases he
        refine (bw_trim _ k n os wr hR).mono ?_
        rintro e w'' ⟨k2, rfl, hR2, rfl⟩
        refine ⟨?_, rfl⟩
        rw [← hR2.len, trimZ_lim os hos.out.2.1, hqv]
       have hk2 : (lim q).length ≤ k := by
        have h1 : (lim q).length ≤ (lim gk).length := lim_mono (by omega)
        rw [HK.out] at h1; exact h1
       have hown2 : Hid (wr.ownsRow W1.heap.size 54 1 (.slice (some ⟨W1.heap.size, 0, none⟩) (lim q).length n) (lim q).length ((lim q).map u32V)) := Lib.hid (by
        have h1 := own_pre hownw.out hk2
        obtain ⟨m, hm1, hm2⟩ := trimZ_prefix os
        rw [trimZ_lim os hos.out.2.1, ← hqv] at hm2
        have hm3 : m = (lim q).length := by rw [hm2, List.length_take, hos.out.1]; rw [hos.out.1] at hm1; omega
        rw [← List.map_take, ← hm3, ← hm2] at h1
        rw [← hm3] at *
        exact h1)
       obtain ⟨k2, hk2e⟩ : ∃ k2, k2 = (lim q).length := ⟨_, rfl⟩
       rw [← hk2e] at hT hk2 hown2
       have HK2 := Lib.hid hk2e
       have HQ1 := Lib.hid hq1
       clear hv hqv hq1 he hR hk2e h0 hj hownw
       go_wp2_with (first
        | (go_at_call 175; (with_reducible refine (hT).mono ?_); rintro e w' ⟨rfl, rfl⟩)
        )
       have hr9 : Hid (r < 10 ^ (9 - 0) ∧ digs v = digs (q * 10 ^ (9 - 0) + r) ++ back.reverse) := Lib.hid ⟨hr, by rw [hdig.out]; congr 2; rw [HQ1.out]; show 1000000000 * q + r = q * 1000000000 + r; omega⟩
       go_loopw [12, 16, 17] (fun vb vr vi wr2 => ∃ (j r' : Nat) (back2 : List UInt8), j ≤ 9 ∧ vi = .int .i64 (j : Int) ∧ vr = .int .u32 (r' : Int) ∧ r' < 1000000000 ∧ Hid (r' < 10 ^ (9 - j) ∧ digs v = digs (q * 10 ^ (9 - j) + r') ++ back2.reverse) ∧
         Hid (wr2.ownsRow (W1.heap.size + 1) 5 1 vb back2.length (back2.map bV)) ∧ Hid (wr2.ownsRow W1.heap.size 54 1 (.slice (some ⟨W1.heap.size, 0, none⟩) k2 n) k2 ((lim q).map u32V)) ∧ Hid (Ext W1 wr2) ∧ W1.heap.size + 1 ≤ wr2.heap.size)
        (fun _ _ vi _ => 9 - (intOf vi).toNat)
       case atStart => exact ⟨0, r, back, Nat.zero_le _, rfl, by go_num, hr, hr9, hownb, hown2, hE, hz⟩
       case round =>
        clear hownb hown2 hE hz hr9
        obtain ⟨j, r', back2, hj, rfl, rfl, hr', hd2, hownb, hownw, hE, hz⟩ := hrel
        have hbl2 : back2.length ≤ 1300 := by
         have h1 := HD.out
         rw [hd2.out.2] at h1
         simp at h1; omega
        have hz' : W1.heap.size ≤ W1.heap.size + 1 := Nat.le_succ _
        obtain ⟨dg, hdg⟩ : ∃ dg : UInt8, Hid (dg = UInt8.ofNat (48 + r' % 10)) := ⟨_, rfl⟩
        by_cases hgo : j < 9 ∧ (0 < k2 ∨ 0 < r')
        ·have HP : Hid (r' < 10 * 10 ^ (9 - (j + 1)) → 0 < q * (10 * 10 ^ (9 - (j + 1))) + r') := Lib.hid (fun hlt => by
          rcases hgo.2 with h | h
          ·have h1 : 0 < q := by
            rcases Nat.eq_zero_or_pos q with e | e
            ·have := HK2.out; rw [e, lim_zero] at this; simp at this; omega
            ·exact e
           have := Nat.mul_pos h1 (show 0 < 10 * 10 ^ (9 - (j + 1)) by omega)
           omega
          ·omega)
         by_cases hk20 : 0 < k2
         ·skip
          go_wp2_with (first
           | (at_builtin; refine push_u8o rfl _ _ rfl _ rfl hE.out hz' hz hownb.out rfl dg ⟨wr.heap.size, 0, none⟩ 1 rfl (by rw [World.cell?_alloc_at _ _ _ _ rfl]; simp [bV, hdg.out, fig_at]) (by omega) hownw.out (fun b e => by cases e; exact Nat.lt_succ_self _) ?_)
           | go_in)
          all_goals
           intro v' w3 hx3 ho3 hk3
           have HX3 := Lib.hid hx3
           have hz3 := hx3.size
           have hz4 : W1.heap.size + 1 ≤ w3.heap.size := (hk3.out.lt W1.heap.size rfl).2
           clear hx3 hownb hownw
           go_wp2
           go_roundw
           case rel =>
            have e1 : 10 ^ (9 - j) = 10 * 10 ^ (9 - (j + 1)) := by
             rw [show 9 - j = 9 - (j + 1) + 1 by omega, Nat.pow_succ]; omega
            have hd3 := hd2.out
            rw [e1] at hd3
            refine ⟨j + 1, r' / 10, back2 ++ [dg], by omega, by go_num, by go_num, by omega, ⟨by omega, by rw [hdg.out]; exact digs_step10 hd3.2 (HP.out hd3.1)⟩, ?_, hk3, HX3, hz4⟩
            show World.ownsRow _ _ _ _ _ _ _
            rw [List.length_append, List.map_append]
            exact ho3.out
           case measure => simp [intOf]; omega
         ·obtain rfl : k2 = 0 := by omega
          have hr0 : 0 < r' := by omega
          have hj9 : j < 9 := hgo.1
          clear hgo
          go_wp2_with (first
           | (at_builtin; refine push_u8o rfl _ _ rfl _ rfl hE.out hz' hz hownb.out rfl dg ⟨wr.heap.size, 0, none⟩ 1 rfl (by rw [World.cell?_alloc_at _ _ _ _ rfl]; simp [bV, hdg.out, fig_at]) (by omega) hownw.out (fun b e => by cases e; exact Nat.lt_succ_self _) ?_)
           | go_in)
          all_goals
           intro v' w3 hx3 ho3 hk3
           have HX3 := Lib.hid hx3
           have hz3 := hx3.size
           have hz4 : W1.heap.size + 1 ≤ w3.heap.size := (hk3.out.lt W1.heap.size rfl).2
           clear hx3 hownb hownw
           go_wp2
           go_roundw
           case rel =>
            have e1 : 10 ^ (9 - j) = 10 * 10 ^ (9 - (j + 1)) := by
             rw [show 9 - j = 9 - (j + 1) + 1 by omega, Nat.pow_succ]; omega
            have hd3 := hd2.out
            rw [e1] at hd3
            refine ⟨j + 1, r' / 10, back2 ++ [dg], by omega, by go_num, by go_num, by omega, ⟨by omega, by rw [hdg.out]; exact digs_step10 hd3.2 (HP.out hd3.1)⟩, ?_, hk3, HX3, hz4⟩
            show World.ownsRow _ _ _ _ _ _ _
            rw [List.length_append, List.map_append]
            exact ho3.out
           case measure => simp [intOf]; omega
        ·have HDQ : Hid (digs v = digs q ++ back2.reverse) := Lib.hid (by
          have h1 := hd2.out
          have h2 : r' = 0 := by
           by_cases hj9 : j = 9
           ·subst hj9
            have := h1.1; simp at this; exact this
           ·omega
          by_cases hj9 : j = 9
          ·subst hj9
           rw [h2] at h1
           simpa using h1.2
          ·have hq0 : q = 0 := lim_nil.1 (List.eq_nil_of_length_eq_zero (by have := HK2.out; omega))
           rw [h2, hq0] at h1
           rw [hq0]
           simpa using h1.2)
         by_cases hj9 : j = 9
         ·subst hj9
          clear hgo
          go_wp2
          go_roundg q
          case rel => exact ⟨k2, back2, rfl, by omega, HDQ, hownw, hownb, Lib.hid (.inr trivial), hE, hz⟩
          case measure => have := HQ1.out; have := HU.out; omega
         ·obtain rfl : k2 = 0 := by omega
          obtain rfl : r' = 0 := by omega
          have hj8 : j < 9 := by omega
          clear hgo hj9
          go_wp2
          go_roundg q
          case rel => exact ⟨0, back2, rfl, by omega, HDQ, hownw, hownb, Lib.hid (.inr trivial), hE, hz⟩
          case measure => have := HQ1.out; have := HU.out; omega
    ·obtain rfl : k = 0 := by omega
     have hu0 : gk = 0 := lim_nil.1 (List.eq_nil_of_length_eq_zero hku)
     have HB : Hid (digs v = back.reverse) := Lib.hid (by rw [hdig.out, hu0, digs_zero]; simp)
     clear hk0 hdig hu0 hku hownw
     go_wp2
     go_loopg [12] (least - (back.length : Int)).toNat (fun g vb wr => ∃ (m : Nat), g = (least - (back.length + m : Nat)).toNat ∧ (m = 0 ∨ ((back.length + m : Nat) : Int) ≤ least) ∧ Hid (wr.ownsRow (W1.heap.size + 1) 5 1 vb (back.length + m) ((back ++ List.replicate m 48).map bV)) ∧ Hid (Ext W1 wr) ∧ W1.heap.size + 1 ≤ wr.heap.size)
     case atStart => exact ⟨0, rfl, .inl rfl, Lib.hid (by simpa using hownb.out), hE, hz⟩
     case round =>
      clear hownb hE hz
      obtain ⟨m, rfl, hm, hownb, hE, hz⟩ := hrel
      have hz' : W1.heap.size ≤ W1.heap.size + 1 := Nat.le_succ _
      have hbm : back.length + m ≤ 10001300 := by omega
      have hlen : (back ++ List.replicate m (48 : UInt8)).length = back.length + m := by simp
      have hown1 := hownb.out
      rcases own_form hownb.out with ⟨hu, hz0⟩ | ⟨gb, cb, hu, hc1, hc2, hg1, hg2⟩
      ·subst hu
       have hm0 : m = 0 := by omega
       have hbn : back = [] := List.eq_nil_of_length_eq_zero (by omega)
       subst hm0 hbn
       by_cases hgo : (0 : Int) < least
       ·go_wp2_with (first
         | (at_builtin; refine push_u8 rfl _ _ rfl _ rfl hE.out hz' hz hownb.out rfl 48 ⟨wr.heap.size, 0, none⟩ 1 rfl (by rw [World.cell?_alloc_at _ _ _ _ rfl]; simp [bV]) (by omega) ?_)
         | go_in)
        all_goals
         intro v' w3 hx3 ho3 hk3
         have HX3 := Lib.hid hx3
         have hz3 := hx3.size
         clear hx3 hownb
         go_wp2
         go_roundg (least - (([] : List UInt8).length + 1 : Nat)).toNat
         case rel => exact ⟨1, rfl, .inr (by simp; omega), Lib.hid (by simpa using ho3.out), HX3, by have := own_size ho3.out (by omega); omega⟩
         case measure => simp; omega
       ·have HT : Hid (tellL v least = []) := Lib.hid (by
         unfold tellL
         rw [HB.out]
         simp; omega)
        obtain ⟨wo, rfl⟩ : ∃ wo, wo = wr := ⟨_, rfl⟩
        clear hm hbm hlen hz0 hown1 hownb HB
        go_wp2_with (first
         | (at_make; refine make_u8 rfl _ _ rfl _ _ _ _ 0 rfl rfl rfl rfl (by omega) ?_; intro w5 hx1 ho1; have hext1 := Lib.hid hx1; clear hx1)
         | go_in)
        go_loopw [19] (fun vi wr2 => vi = .int .i64 0 ∧ Hid (wr2.ownsRow wo.heap.size 5 1 (.slice (some ⟨wo.heap.size, 0, none⟩) 0 0) 0 []) ∧ Hid (Ext wo wr2)) (fun _ _ => 0)
        case atStart => exact ⟨rfl, ho1, hext1⟩
        case round =>
         obtain ⟨rfl, ho, hx⟩ := hrel
         have HR : Hid (wr.ownsRow w.heap.size 5 1 (.slice (some ⟨wo.heap.size, 0, none⟩) 0 0) (tellL v least).length ((tellL v least).map bV)) := Lib.hid (by
          rw [HT.out]
          exact own_base ho.out (jT hext.out hE.out).size)
         clear HT
         go_wp2
         refine bodyPost_ret (v := .slice (some ⟨wo.heap.size, 0, none⟩) 0 0) ?h rfl ⟨_, rfl, HR, jT hext.out (jT hE.out hx.out)⟩
         case h => simp [results, Tryz.results216, go_sem]
      ·subst hu
       by_cases hgo : ((back.length + m : Nat) : Int) < least
       ·go_wp2_with (first
         | (at_builtin; refine push_u8 rfl _ _ rfl _ rfl hE.out hz' hz hownb.out rfl 48 ⟨wr.heap.size, 0, none⟩ 1 rfl (by rw [World.cell?_alloc_at _ _ _ _ rfl]; simp [bV]) (by omega) ?_)
         | go_in)
        all_goals
         intro v' w3 hx3 ho3 hk3
         have HX3 := Lib.hid hx3
         have hz3 := hx3.size
         clear hx3 hownb
         go_wp2
         go_roundg (least - (back.length + (m + 1) : Nat)).toNat
         case rel =>
          refine ⟨m + 1, rfl, .inr (by omega), Lib.hid ?_, HX3, by have := own_size ho3.out (by omega); omega⟩
          have h1 := ho3.out
          rw [List.replicate_succ', List.map_append, List.map_append]
          simp only [List.map_replicate, List.map_cons, List.map_nil]
          exact h1
         case measure => omega
       ·obtain ⟨L, hL⟩ : ∃ L, L = back.length + m := ⟨_, rfl⟩
        obtain ⟨B3, hB3⟩ : ∃ B3, B3 = back ++ List.replicate m (48 : UInt8) := ⟨_, rfl⟩
        have HF : Hid (B3.reverse = tellL v least) := Lib.hid (by
         unfold tellL
         rw [hB3, List.reverse_append, List.reverse_replicate, HB.out, List.length_reverse]
         congr 2
         omega)
        have hlen : Hid (B3.length = L) := Lib.hid (by rw [hB3, hL]; simp)
        rw [← hL] at hbm hown1 hc1 hgo ⊢
        rw [← hB3] at hown1
        rw [← hL, ← hB3] at hownb
        clear hL hB3 hm hown1 HB
        obtain ⟨wo, rfl⟩ : ∃ wo, wo = wr := ⟨_, rfl⟩
        go_wp2_with (first
         | (at_make; refine make_u8 rfl _ _ rfl _ _ _ _ L rfl rfl rfl rfl (by omega) ?_; intro w5 hx1 ho1; have hext1 := Lib.hid hx1; clear hx1)
         | go_in)
        have hgl1 : wo.heap.size < w5.heap.size := (ho1.out.lt wo.heap.size rfl).2
        go_loopw [19] (fun vi wr2 => ∃ (i : Nat) (os : List UInt8), i ≤ L ∧ vi = .int .i64 (i : Int) ∧ Hid (os.length = L ∧ ∀ p, p < i → os.getD p 0 = B3.getD (L - 1 - p) 0) ∧
          Hid (wr2.ownsRow wo.heap.size 5 1 (.slice (some ⟨wo.heap.size, 0, none⟩) L L) L (os.map bV)) ∧
          Hid (wr2.ownsRow (W1.heap.size + 1) 5 1 (.slice (some ⟨gb, 0, none⟩) L cb) L (B3.map bV)) ∧ Hid (Ext wo wr2))
         (fun vi _ => L - (intOf vi).toNat)
        case atStart => exact ⟨0, List.replicate L 0, Nat.zero_le _, rfl, ⟨by simp, fun p hp => absurd hp (Nat.not_lt_zero _)⟩, ho1.out, own_ext hownb.out hext1.out, hext1.out⟩
        case round =>
         obtain ⟨i, os, hi, rfl, hos, ho, hb, hx⟩ := hrel
         by_cases hlt : i < L
         ·obtain ⟨y, hy⟩ : ∃ y : UInt8, Hid (B3.getD (L - 1 - i) 0 = y) := ⟨_, rfl⟩
          obtain ⟨hc1, hf1⟩ := ownb_at hb.out (L - 1 - i) (by omega)
          rw [hy.out] at hc1
          obtain ⟨hc2, hf2⟩ := ownb_at ho.out i hlt
          go_wp2
          case roundEnd =>
           refine ⟨⟨i + 1, os.set i y, by omega, by simp, ⟨by rw [List.length_set]; exact hos.out.1, fun p hp => ?_⟩, ownb_set ho.out i y, own_far hb.out _ _ (by simp [Value.ownBlock]; omega), jS hx.out (Nat.le_refl _) _⟩, ?_⟩
           ·by_cases e : p = i
            ·subst e
             rw [List.getD_eq_getElem?_getD, List.getElem?_set_self (by rw [hos.out.1]; exact hlt), hy.out]; rfl
            ·rw [List.getD_eq_getElem?_getD, List.getElem?_set_ne (by omega), ← List.getD_eq_getElem?_getD]
             exact hos.out.2 p (by omega)
           ·simp [intOf]; omega
         ·obtain rfl : i = L := by omega
          have hfin : os = tellL v least := by
           rw [← HF.out]
           refine List.ext_getElem (by rw [List.length_reverse, hlen.out]; exact hos.out.1) fun p h1 h2 => ?_
           have h3 := hos.out.2 p (by rw [← hos.out.1]; exact h1)
           have h4 : p < B3.length := by rw [hlen.out, ← hos.out.1]; exact h1
           rw [List.getD_eq_getElem?_getD, List.getD_eq_getElem?_getD, List.getElem?_eq_getElem h1, List.getElem?_eq_getElem (by have := hlen.out; omega)] at h3
           rw [List.getElem_reverse]
           have e : B3.length - 1 - p = i - 1 - p := by rw [hlen.out]
           simp only [e]
           exact h3
          have HR : Hid (wr.ownsRow w.heap.size 5 1 (.slice (some ⟨wo.heap.size, 0, none⟩) i i) (tellL v least).length ((tellL v least).map bV)) := Lib.hid (by
           rw [← hfin, hos.out.1]
           exact own_base ho.out (jT hext.out hE.out).size)
          clear hfin hlt
          go_wp2
          refine bodyPost_ret (v := .slice (some ⟨wo.heap.size, 0, none⟩) i i) ?h rfl ⟨_, rfl, HR, jT hext.out (jT hE.out hx.out)⟩
          case h => simp [results, Tryz.results216, go_sem]
end Go.Proofs.YtchbefambnhjjaaGreatDoor
end
section
/- Words of the library's: long texts of digits are read by halves. -/
namespace Go.Proofs.YtchbefambnhjjaaGreatDoor
open Go.RowKit
attribute [local go_sem] bs_size bs_extract bs_get bs_append bs_toList const_get
attribute [local go_sem] sz2 sz3 sz4 sz5 sz6 sz7 sz8
set_option maxHeartbeats 4000000
set_option maxRecDepth 100000
theorem read_halves {l : List UInt8} {k h : Nat} (hk : k + h = l.length) : dval (l.take k) * 10 ^ h + dval (l.drop k) = dval l := by
 conv => rhs; rw [← List.take_append_drop k l]
 rw [dval_append, List.length_drop]
 congr 3; omega
theorem dval_words {l : List UInt8} (hd : digsB l = true) (hl : l.length ≤ 70000) : (lim (dval l)).length ≤ 17500 := lim_fits (n := l.length) (Nat.le_of_lt (dval_lt l hd)) (by omega) (by decide)
theorem ten_words {h : Nat} (hl : h ≤ 70000) : (lim (10 ^ h)).length ≤ 17500 := lim_fits (n := h) (Nat.le_refl _) (by omega) (by decide)
attribute [local irreducible] Calls
theorem bw_read : ∀ (N : Nat) (l : List UInt8), l.length = N → N ≤ 70000 → digsB l = true → ∀ w, Calls Tryz.prog 118 #[.string (bs l), .int .i64 10] w (ReadPost w (dval l)) := by
 intro N
 induction N using Nat.strongRecOn with
 | _ N ih =>
  intro l hl hN hd w
  by_cases hs : l.length ≤ 300
  ·exact read_small l hd hs w
  ·obtain ⟨h, hh⟩ : ∃ h, h = l.length / 2 := ⟨_, rfl⟩
   obtain ⟨k, hk⟩ : ∃ k, k = l.length - h := ⟨_, rfl⟩
   have k1 : ∀ w', Calls Tryz.prog 118 #[.string (bs (l.take k)), .int .i64 10] w' (ReadPost w' (dval (l.take k))) := fun w' => ih k (by omega) _ (by rw [List.length_take]; omega) (by omega) (digs_take hd k) w'
   have k2 : ∀ w', Calls Tryz.prog 118 #[.string (bs (l.drop k)), .int .i64 10] w' (ReadPost w' (dval (l.drop k))) := fun w' => ih h (by omega) _ (by rw [List.length_drop]; omega) (by omega) (digs_drop hd k) w'
   have k3 : ∀ w', Calls Tryz.prog 172 #[.int .i64 10, .int .i64 (h : Int)] w' (WPost w' (10 ^ h)) := fun w' => bw_power 10 h (by decide) (by decide) (by omega) (Nat.le_trans (ten_words (by omega)) (by decide)) w'
   have b1 := dval_words (digs_take hd k) (by rw [List.length_take]; omega)
   have b2 := dval_words (digs_drop hd k) (by rw [List.length_drop]; omega)
   have b3 := ten_words (h := h) (by omega)
   have hv := read_halves (l := l) (k := k) (h := h) (by omega)
   have k4 : ∀ (A : Option Addr) (n c : Nat) (B : Option Addr) (m d : Nat) (w' : World), Rd w' A n c (lim (dval (l.take k))) → Rd w' B m d (lim (10 ^ h)) → Calls Tryz.prog 147 #[.slice A n c, .slice B m d] w' (WPost w' (dval (l.take k) * 10 ^ h)) := fun A n c B m d w' g1 g2 =>
    bw_mulA A B n c m d _ _ (by rw [← g1.len, ← g2.len]; omega) w' g1 g2
   have k5 : ∀ (A : Option Addr) (n c : Nat) (B : Option Addr) (m d : Nat) (w' : World), Rd w' A n c (lim (dval (l.take k) * 10 ^ h)) → Rd w' B m d (lim (dval (l.drop k))) → Calls Tryz.prog 171 #[.slice A n c, .slice B m d] w' (WPost w' (dval l)) := fun A n c B m d w' g1 g2 => by
    have g3 := lim_mul_len (dval (l.take k)) (10 ^ h)
    have := bw_add A B n c m d _ _ (by rw [← g1.len]; omega) (by rw [← g2.len]; omega) w' g1 g2
    rw [hv] at this
    exact this.mono fun e w'' ⟨A', k', c', q1, q2, q3⟩ => ⟨A', k', c', q1, ⟨q2.out.1, q2.out.2.1⟩, q3⟩
   have hkh : (l.length : Int) - (h : Int) = (k : Int) := by omega
   have hl2 : (l.length : Int) / 2 = (h : Int) := by omega
   have hbig : (300 : Int) < (l.length : Int) := by omega
   have hkl : k ≤ l.length := by omega
   have hlb : l.length ≤ 70000 := by omega
   have HK := Lib.hid (And.intro k1 (And.intro k2 (And.intro k3 (And.intro k4 k5))))
   have HHH := Lib.hid (And.intro hh hk)
   clear k1 k2 k3 k4 k5 b1 b2 b3 hv hh hk ih hl hN hd hs
   generalize dval (l.take k) = x at *
   generalize dval (l.drop k) = y at *
   generalize dval l = z at *
   generalize 10 ^ h = p at *
   go_enter Tryz.func118, Tryz.ntmps118
   go_wp2_with (first
    | (go_at_call 118; (with_reducible refine (HK.out.1 _).mono ?_); rintro e w1 ⟨A1, n1, c1, rfl, hR1, xb1⟩; obtain ⟨xc1, xf1, xl1, xz1⟩ := jU xb1; (try simp at xz1))
    | (go_at_call 118; (with_reducible refine (HK.out.2.1 _).mono ?_); rintro e w2 ⟨A2, n2, c2, rfl, hR2, xb2⟩; obtain ⟨xc2, xf2, xl2, xz2⟩ := jU xb2; (try simp at xz2))
    | (go_at_call 172; (with_reducible refine (HK.out.2.2.1 _).mono ?_); rintro e w3 ⟨A3, n3, c3, rfl, hR3, xb3⟩; obtain ⟨xc3, xf3, xl3, xz3⟩ := jU xb3; (try simp at xz3))
    | (go_at_call 147; (with_reducible refine (HK.out.2.2.2.1 _ _ _ _ _ _ _ (hR1.out.1.ext (jT xb2 xb3)) hR3.out.1).mono ?_); rintro e w4 ⟨A4, n4, c4, rfl, hR4, xb4⟩; obtain ⟨xc4, xf4, xl4, xz4⟩ := jU xb4; (try simp at xz4))
    | (go_at_call 171; (with_reducible refine (HK.out.2.2.2.2 _ _ _ _ _ _ _ hR4.out.1 (hR2.out.1.ext (jT xb3 xb4))).mono ?_); rintro e w5 ⟨A5, n5, c5, rfl, hR5, xb5⟩; obtain ⟨xc5, xf5, xl5, xz5⟩ := jU xb5; (try simp at xz5))
    )
   refine bodyPost_ret (v := .tuple #[.slice A5 n5 c5, .bool true]) ?h rfl ⟨A5, n5, c5, rfl, ⟨hR5.out.1, hR5.out.2.mono (jT xb1 (jT xb2 (jT xb3 xb4)))⟩, jT xb1 (jT xb2 (jT xb3 (jT xb4 xb5)))⟩
   case h => simp [results, Tryz.results118, go_sem]
end Go.Proofs.YtchbefambnhjjaaGreatDoor
end
section
/- Words of the library's: numbers are told in tens. -/
namespace Go.Proofs.YtchbefambnhjjaaGreatDoor
open Go.RowKit
attribute [local go_sem] bs_size bs_extract bs_get bs_append bs_toList const_get
attribute [local go_sem] sz2 sz3 sz4 sz5 sz6 sz7 sz8
set_option maxHeartbeats 8000000
set_option maxRecDepth 100000
theorem head_app {a b : List UInt8} (h : a ≠ []) : (a ++ b).head? = a.head? := by
 cases a with
 | nil => exact absurd rfl h
 | cons x y => rfl
theorem digs_lead (n : Nat) : lead (digs n) := by
 intro x hx
 induction n using Nat.strongRecOn with
 | _ n ih =>
  by_cases h0 : n = 0
  ·subst h0; rw [digs_zero] at hx; cases hx
  ·rw [digs_pos h0] at hx
   by_cases h1 : n / 10 = 0
   ·rw [h1, digs_zero] at hx
    simp at hx
    subst hx
    intro e
    have := congrArg UInt8.toNat e
    simp at this
    omega
   ·have hne : digs (n / 10) ≠ [] := by rw [digs_pos h1]; simp
    rw [head_app hne] at hx
    exact ih (n / 10) (by omega) hx
theorem digs_split {q r k : Nat} (hq : 0 < q) (hr : r < 10 ^ k) : digs (q * 10 ^ k + r) = digs q ++ (List.replicate (k - (digs r).length) 48 ++ digs r) := by
 have hl := digs_len hr
 have e : q * 10 ^ k + r = dval (digs q ++ (List.replicate (k - (digs r).length) 48 ++ digs r)) := by
  rw [dval_append, dval_append, dval_noughts, dval_digs, dval_digs, List.length_append, List.length_replicate, Nat.sub_add_cancel hl]
  omega
 rw [e]
 refine digs_dval ?_ ?_
 ·have h1 := digs_digs q
  have h2 := digs_digs r
  have h3 := digs_noughts (k - (digs r).length)
  unfold digsB at *
  rw [List.all_append, List.all_append, h1, h2, h3]; rfl
 ·intro x hx
  have hne : digs q ≠ [] := by rw [digs_pos (by omega)]; simp
  rw [head_app hne] at hx
  exact digs_lead q x hx
theorem tell_split {v k : Nat} {least : Int} (hq : 0 < v / 10 ^ k) : tellL v least = tellL (v / 10 ^ k) (least - k) ++ tellL (v % 10 ^ k) k := by
 have hr : v % 10 ^ k < 10 ^ k := Nat.mod_lt _ (Nat.pow_pos (by decide))
 have h1 := digs_split hq hr
 have e : v / 10 ^ k * 10 ^ k + v % 10 ^ k = v := by rw [Nat.mul_comm]; exact Nat.div_add_mod v (10 ^ k)
 rw [e] at h1
 have hl := digs_len hr
 unfold tellL
 have h2 : ((k : Int) - (digs (v % 10 ^ k)).length).toNat = k - (digs (v % 10 ^ k)).length := by omega
 rw [h2, List.append_assoc, ← h1]
 congr 2
 rw [h1, List.length_append, List.length_append, List.length_replicate]
 omega
theorem words_split {v n k : Nat} (hv : (lim v).length = n) (hn : 40 < n) (hk : k = 8 * (n / 2)) : 0 < v / 10 ^ k ∧ (lim (v / 10 ^ k)).length ≤ n - 1 ∧ (lim (v % 10 ^ k)).length ≤ n - 1 ∧ (lim (10 ^ k)).length ≤ n := by
 have h0 : v ≠ 0 := by intro e; subst e; rw [lim_zero] at hv; simp at hv; omega
 have h1 := (lim_len h0).1
 rw [hv] at h1
 have h2 : 10 ^ k ≤ Bs ^ (n / 2) := by
  rw [hk, Nat.pow_mul]
  exact Nat.pow_le_pow_left (by decide) _
 have h3 : Bs ^ (n / 2) ≤ Bs ^ (n - 1) := Nat.pow_le_pow_right (by decide) (by omega)
 have h4 : 0 < 10 ^ k := Nat.pow_pos (by decide)
 refine ⟨Nat.div_pos (by omega) h4, ?_, ?_, ?_⟩
 ·have h5 : v / 10 ^ k ≤ v / Bs ^ 1 := by
   refine Nat.div_le_div_left ?_ (by decide)
   rw [hk, Nat.pow_mul]
   refine Nat.le_trans (show Bs ^ 1 ≤ (10 ^ 8) ^ 2 by decide) (Nat.pow_le_pow_right (by decide) (by omega))
  have h6 := lim_mono h5
  rw [len_div hv] at h6
  exact h6
 ·exact lim_le (Nat.lt_of_lt_of_le (Nat.mod_lt _ h4) (Nat.le_trans h2 h3))
 ·exact Nat.le_trans (lim_mono h2) (lim_le (Nat.pow_lt_pow_right (by decide) (by omega)))
theorem push_u8s {ops : Array Oper} {rest : List Oper} {o : Oper} {a : Act} {Q : Exit → Act → World → Prop} {w : World} (hgd : o.guard = none) (s x : Operand)
  (ho : o.op = .call { callee := .builtin .append, args := #[s, x], argTypes := #[62, 62] })
  {W : World} (hW : Ext W w) {base : Nat} (hbase : W.heap.size ≤ base) (hsz0 : base ≤ w.heap.size) {v : Value} {n : Nat} {xs : List UInt8} (hown : w.ownsRow base 5 1 v n (xs.map bV)) (hs : a.eval s = v)
  {b2 : Nat} {v2 : Value} {m : Nat} {ys : List UInt8} (h2 : w.ownsRow b2 5 1 v2 m (ys.map bV)) (hx : a.eval x = v2) (hm : 0 < m) (hn : n + m ≤ 1000000000)
  (h : ∀ v' w', Ext W w' → Hid (w'.ownsRow base 5 1 v' (n + m) ((xs ++ ys).map bV)) → wpList Tryz.prog ops Q rest (a.put o.dst v') w') : wpList Tryz.prog ops Q (o :: rest) a w := by
 obtain ⟨i, hi, hz, hsz, hby⟩ := info_parts u8_info
 rcases own_form h2 with ⟨_, h0⟩ | ⟨g, c, rfl, hc1, hc2, hg1, hg2⟩
 ·omega
 have hyl : ys.length = m := by have := h2.1; simpa using this
 refine wpList_append_own _ hgd s x _ ho base 5 i _ 1 1 u8_under hi hz hsz hby rfl (by decide) v n _ hs hown ⟨g, 0, none⟩ m c (ys.map bV) hx (by simpa using hyl) ?_ ?_ ?_ ?_ hsz0 ?_
 ·intro j u hj
  have hj' : j < m := by
   have := (List.getElem?_eq_some_iff.1 hj).1
   simp at this; omega
  have h3 := (ownb_at h2 j hj').1
  have e : Addr.add ⟨g, 0, none⟩ j = ⟨g, j, none⟩ := by unfold Addr.add; split <;> simp_all
  rw [e, h3]
  rw [List.getElem?_map] at hj
  rw [List.getD_eq_getElem?_getD]
  cases hq : ys[j]? with
  | none => rw [hq] at hj; cases hj
  | some z => rw [hq] at hj; simp at hj; subst hj; rfl
 ·intro u hu
  obtain ⟨z, _, rfl⟩ := List.mem_map.1 hu
  rfl
 ·unfold maxLen; omega
 ·omega
 ·intro v' w' ho' hg _
  refine h v' w' (ext_grown hW hown hbase hg) ?_
  show World.ownsRow _ _ _ _ _ _ _
  simpa using ho'
attribute [local irreducible] Calls
abbrev TellPost (w : World) (l : List UInt8) : Ending → World → Prop := fun e w' => ∃ vv, e = .returned vv ∧ Hid (w'.ownsRow w.heap.size 5 1 vv l.length (l.map bV)) ∧ Ext w w'
theorem bw_tell : ∀ (N v : Nat) (least : Int) (A : Option Addr) (n c : Nat), n = N → n ≤ 20000 → -9000000 + 80000 * (n : Int) - 1600000000 ≤ least → least ≤ 10000000 → ∀ w, Rd w A n c (lim v) →
  Calls Tryz.prog 216 #[.slice A n c, .int .i64 10, .int .i64 least] w (TellPost w (tellL v least)) := by
 intro N
 induction N using Nat.strongRecOn with
 | _ N ih =>
  intro v least A n c hnN hn hl1 hl2 w hA
  by_cases hs : n ≤ 40
  ·exact tell_small v least A n c hs ⟨by omega, by omega⟩ w hA
  ·obtain ⟨k, hk⟩ : ∃ k, k = 8 * (n / 2) := ⟨_, rfl⟩
   obtain ⟨s1, s2, s3, s4⟩ := words_split hA.len (by omega) hk
   have HA := Lib.hid hA
   have hk0 : 0 < k := by omega
   have hk4 : k ≤ 4 * n := by omega
   have kP : ∀ w', Calls Tryz.prog 172 #[.int .i64 10, .int .i64 (k : Int)] w' (WPost w' (10 ^ k)) := fun w' => bw_power 10 k (by decide) (by decide) (by omega) (by omega) w'
   have kD : ∀ (B : Option Addr) (m d : Nat) (w' : World), Ext w w' → Rd w' B m d (lim (10 ^ k)) → Calls Tryz.prog 207 #[.slice A n c, .slice B m d] w' (QPost w' (v / 10 ^ k) (v % 10 ^ k)) := fun B m d w' he h2 =>
    bw_div A B n c m d v (10 ^ k) (Nat.ne_of_gt (Nat.pow_pos (by decide))) (by omega) w' (HA.out.ext he) h2
   have kH : ∀ (B : Option Addr) (m d : Nat) (w' : World), Rd w' B m d (lim (v / 10 ^ k)) → Calls Tryz.prog 216 #[.slice B m d, .int .i64 10, .int .i64 (least - (k : Int))] w' (TellPost w' (tellL (v / 10 ^ k) (least - k))) := fun B m d w' h2 => by
    have h3 := h2.len
    exact ih m (by omega) _ _ B m d rfl (by omega) (by omega) (by omega) w' h2
   have kL : ∀ (B : Option Addr) (m d : Nat) (w' : World), Rd w' B m d (lim (v % 10 ^ k)) → Calls Tryz.prog 216 #[.slice B m d, .int .i64 10, .int .i64 (k : Int)] w' (TellPost w' (tellL (v % 10 ^ k) k)) := fun B m d w' h2 => by
    have h3 := h2.len
    exact ih m (by omega) _ _ B m d rfl (by omega) (by omega) (by omega) w' h2
   have hT := tell_split (v := v) (k := k) (least := least) s1
   have hll : (tellL (v % 10 ^ k) k).length = k := by
    unfold tellL
    have := digs_len (Nat.mod_lt v (show 0 < 10 ^ k from Nat.pow_pos (by decide)))
    rw [List.length_append, List.length_replicate]
    omega
   have hlh : (tellL (v / 10 ^ k) (least - k)).length ≤ 20000000 := by
    have h3 : (digs (v / 10 ^ k)).length ≤ 32 * n := digs_lim' (k := n) (by omega)
    unfold tellL
    rw [List.length_append, List.length_replicate]
    omega
   have HK := Lib.hid (And.intro kP (And.intro kD (And.intro kH kL)))
   have HT := Lib.hid (And.intro hT hll)
   have hcap := hA.cap
   have hmx := hA.mx
   have hdv : wrap64 (((n : Int) / 2 * 32).tdiv (Lib.bitLen 10 : Nat)) = (k : Int) := by
    rw [show Lib.bitLen 10 = 4 from by kernel_rfl, Int.tdiv_eq_ediv_of_nonneg (by omega)]
    unfold wrap64
    omega
   have hbig : (40 : Int) < (n : Int) := by omega
   have HKE := Lib.hid hk
   have hlo : -2000000000 ≤ least := by omega
   have hlu : least ≤ 10000000 := hl2
   clear hA kP kD kH kL hT hll s1 s2 s3 s4 ih hnN hs hk hl1 hl2
   generalize v / 10 ^ k = q at *
   generalize v % 10 ^ k = r at *
   generalize 10 ^ k = p at *
   go_enter Tryz.func216, Tryz.ntmps216
   go_wp2_with (first
    | (go_at_call 102; (with_reducible refine (Tryz.bits_Len32 10 _ (by omega) (by omega)).mono ?_); rintro e w0 ⟨rfl, rfl⟩)
    | (go_at_call 172; (with_reducible refine (HK.out.1 _).mono ?_); rintro e w1 ⟨A1, n1, c1, rfl, hR1, xb1⟩; obtain ⟨xc1, xf1, xl1, xz1⟩ := jU xb1; (try simp at xz1))
    | (go_at_call 207; (with_reducible refine (HK.out.2.1 _ _ _ _ xb1 hR1.out.1).mono ?_); rintro e w2 ⟨A2, n2, c2, B2, m2, d2, rfl, hR2, hS2, xb2⟩; obtain ⟨xc2, xf2, xl2, xz2⟩ := jU xb2; (try simp at xz2))
    | (go_at_call 216; (with_reducible refine (HK.out.2.2.1 _ _ _ _ hR2.out.1).mono ?_); rintro e w3 ⟨v3, rfl, hR3, xb3⟩; obtain ⟨xc3, xf3, xl3, xz3⟩ := jU xb3; (try simp at xz3))
    | (go_at_call 216; (with_reducible refine (HK.out.2.2.2 _ _ _ _ (hS2.out.1.ext xb3)).mono ?_); rintro e w4 ⟨v4, rfl, hR4, xb4⟩; obtain ⟨xc4, xf4, xl4, xz4⟩ := jU xb4; (try simp at xz4))
    | (at_builtin; refine push_u8s rfl _ _ rfl (jT xb1 (jT xb2 (jT xb3 xb4))) (jT xb1 xb2).size (jT xb3 xb4).size (own_ext hR3.out xb4) rfl hR4.out rfl (by rw [HT.out.2]; exact hk0) (by have := HT.out.2; omega) ?_; intro v5 w5 hx5 ho5)
    )
   refine bodyPost_ret (v := v5) ?h rfl ⟨v5, rfl, ?_, hx5⟩
   case h => simp [results, Tryz.results216, go_sem]
   show World.ownsRow _ _ _ _ _ _ _
   have h6 := own_base ho5.out (jT xb1 xb2).size
   rw [HT.out.1, List.length_append]
   exact h6
end Go.Proofs.YtchbefambnhjjaaGreatDoor
end
section
/- Whole numbers of the library's: their texts. -/
namespace Go.Proofs.YtchbefambnhjjaaGreatDoor
open Go.RowKit
attribute [local go_sem] bs_size bs_extract bs_get bs_append bs_toList const_get
attribute [local go_sem] sz2 sz3 sz4 sz5 sz6 sz7 sz8
set_option maxHeartbeats 4000000
set_option maxRecDepth 100000
theorem tell_one (v : Nat) : tellL v 1 = dtext v := by
 unfold tellL dtext
 split
 ·rename_i h; subst h; rw [digs_zero]; rfl
 ·rename_i h
  have : 0 < (digs v).length := List.length_pos_iff.2 (by rw [digs_pos h]; simp)
  have e : ((1 : Int) - (digs v).length).toNat = 0 := by omega
  rw [e]; rfl
def itext (z : Int) : List UInt8 := (if z < 0 then [45] else []) ++ dtext z.natAbs
attribute [local irreducible] Calls
theorem bi_Text (b : Nat) (z : Int) (A : Option Addr) (n c : Nat) (hn : n ≤ 19000) (w : World) (hx : IntIs w b 0 z A n c) :
  Calls Tryz.prog 185 #[.pointer (some ⟨b, 0, none⟩), .int .i64 10] w fun e w' => e = .returned (.string (bs (itext z))) ∧ Ext w w' := by
 have HX := Lib.hid hx
 have lx := hx.room.lt
 have x0 := hx.neg
 have x1 := hx.words
 simp only [Nat.zero_add] at x1
 have kT : ∀ w', Ext w w' → Calls Tryz.prog 216 #[.slice A n c, .int .i64 10, .int .i64 1] w' fun e w'' => ∃ (g k cp : Nat), e = .returned (.slice (some ⟨g, 0, none⟩) k cp) ∧ ((convert 62 9 (.slice (some ⟨g, 0, none⟩) k cp)).run Tryz.prog w'' = .ok (.string (bs (dtext z.natAbs))) w'') ∧ Ext w' w'' := fun w' he => by
  have h1 := bw_tell n z.natAbs 1 A n c rfl (by omega) (by omega) (by decide) w' (HX.out.rd.ext he)
  rw [tell_one] at h1
  refine h1.mono ?_
  rintro e w'' ⟨vv, rfl, h2, h3⟩
  have hd0 : 0 < (dtext z.natAbs).length := by
   unfold dtext; split
   ·decide
   ·rename_i h; exact List.length_pos_iff.2 (by rw [digs_pos h]; simp)
  rcases own_form h2.out with ⟨_, h0⟩ | ⟨g, cp, rfl, _⟩
  ·omega
  ·exact ⟨g, _, cp, rfl, ownb_str h2.out 0 _ cp (by omega) (dtext z.natAbs) (by simp), h3⟩
 have hlen : (dtext z.natAbs).length ≤ 608001 := by
  unfold dtext; split
  ·decide
  ·have := digs_lim' (v := z.natAbs) (k := n) (by rw [HX.out.rd.len]; exact Nat.le_refl _); omega
 clear hx
 by_cases hz : z < 0
 ·have e : itext z = 45 :: dtext z.natAbs := by unfold itext; rw [if_pos hz]; rfl
  rw [e]
  rw [decide_eq_true hz] at x0
  clear e hz
  generalize dtext z.natAbs = l at *
  go_enter Tryz.func185, Tryz.ntmps185
  go_wp2_with (first
   | (go_at_call 216; (with_reducible refine (kT _ (jR _)).mono ?_); rintro e w1 ⟨g1, k1, c1, rfl, hR1, xb1⟩; obtain ⟨xc1, xf1, xl1, xz1⟩ := jU xb1; (try simp at xz1); obtain ⟨l1_0, r1_0, f1_0, r1_0_1, f1_0_1⟩ := kq2 xb1 (b))
   )
  have e1 : ({ data := #[45] } : ByteArray) ++ bs l = bs (45 :: l) := by show bs [45] ++ bs l = _; rw [bs_append]; rfl
  refine bodyPost_ret (v := .string (bs (45 :: l))) ?h rfl ⟨rfl, xb1⟩
  case h => simp [results, Tryz.results185, go_sem, e1]
 ·have e : itext z = dtext z.natAbs := by unfold itext; rw [if_neg hz]; rfl
  rw [e]
  rw [decide_eq_false hz] at x0
  clear e hz
  generalize dtext z.natAbs = l at *
  go_enter Tryz.func185, Tryz.ntmps185
  go_wp2_with (first
   | (go_at_call 216; (with_reducible refine (kT _ (jR _)).mono ?_); rintro e w1 ⟨g1, k1, c1, rfl, hR1, xb1⟩; obtain ⟨xc1, xf1, xl1, xz1⟩ := jU xb1; (try simp at xz1); obtain ⟨l1_0, r1_0, f1_0, r1_0_1, f1_0_1⟩ := kq2 xb1 (b))
   )
  refine bodyPost_ret (v := .string (bs l)) ?h rfl ⟨rfl, xb1⟩
  case h => simp [results, Tryz.results185, go_sem]
theorem bi_String (b : Nat) (z : Int) (A : Option Addr) (n c : Nat) (hn : n ≤ 19000) (w : World) (hx : IntIs w b 0 z A n c) :
  Calls Tryz.prog 139 #[.pointer (some ⟨b, 0, none⟩)] w fun e w' => e = .returned (.string (bs (itext z))) ∧ Ext w w' := by
 have kT := bi_Text b z A n c hn w hx
 clear hx
 generalize itext z = l at *
 go_enter Tryz.func139, Tryz.ntmps139
 go_wp2_with (first
  | (go_at_call 185; (with_reducible refine (kT).mono ?_); rintro e w1 ⟨rfl, xb1⟩; obtain ⟨xc1, xf1, xl1, xz1⟩ := jU xb1; (try simp at xz1))
  )
 refine bodyPost_ret (v := .string (bs l)) ?h rfl ⟨rfl, xb1⟩
 case h => simp [results, Tryz.results139, go_sem]
end Go.Proofs.YtchbefambnhjjaaGreatDoor
end
section
/- Whole numbers of the library's: out of texts. -/
namespace Go.Proofs.YtchbefambnhjjaaGreatDoor
open Go.RowKit
attribute [local go_sem] bs_size bs_extract bs_get bs_append bs_toList const_get
attribute [local go_sem] sz2 sz3 sz4 sz5 sz6 sz7 sz8
set_option maxHeartbeats 4000000
set_option maxRecDepth 100000
attribute [local irreducible] Calls
abbrev StrPost (w : World) (b : Nat) (z : Int) : Ending → World → Prop := fun e w' => e = .returned (.tuple #[.pointer (some ⟨b, 0, none⟩), .bool true]) ∧ ∃ (A : Option Addr) (n c : Nat), Hid (IntIs w' b 0 z A n c ∧ Fr w A) ∧ Tch b w w'
theorem bi_SetString_pos (b : Nat) (l : List UInt8) (hd : digsB l = true) (h0 : 0 < l.length) (hl : l.length ≤ 70000) (w : World) (hr : Room w b 0) :
  Calls Tryz.prog 56 #[.pointer (some ⟨b, 0, none⟩), .string (bs l), .int .i64 10] w (StrPost w b (dval l)) := by
 have HR := Lib.hid hr
 have hlt := hr.lt
 obtain ⟨hb1, hb2⟩ := digs_at hd 0 h0
 have kR : ∀ w', Calls Tryz.prog 118 #[.string (bs l), .int .i64 10] w' (ReadPost w' (dval l)) := fun w' => bw_read l.length l rfl hl hd w'
 have hsg : Hid (sgn false (dval l) = (dval l : Int)) := Lib.hid rfl
 have hne : l.length ≠ 0 := by omega
 have c1 : ((l[0].toNat : Int) == 45) = false := by rw [beq_eq_false_iff_ne]; omega
 have c2 : ((l[0].toNat : Int) == 43) = false := by rw [beq_eq_false_iff_ne]; omega
 have c3 : ¬ (l[0].toNat : Int) = 45 := by omega
 have c4 : ¬ (l[0].toNat : Int) = 43 := by omega
 clear hr hd
 generalize dval l = v at *
 go_enter Tryz.func56, Tryz.ntmps56
 go_wp2_with (first
  | (go_at_call 118; (with_reducible refine (kR _).mono ?_); rintro e w1 ⟨A1, k1, c1, rfl, hR1, xb1⟩; obtain ⟨xc1, xf1, xl1, xz1⟩ := jU xb1; (try simp at xz1))
  | (go_at_call 119; (with_reducible refine (bi_set b 0 false A1 k1 c1 v _ (HR.out.ext xb1) hR1.out.1 (hR1.out.2.off hlt k1)).mono ?_); rintro e w3 ⟨rfl, hI3, xt3⟩)
  )
 refine bodyPost_ret (v := .tuple #[.pointer (some ⟨b, 0, none⟩), .bool true]) ?h rfl ⟨rfl, A1, k1, c1, ⟨by have := hI3.out; rwa [hsg.out] at this, hR1.out.2⟩, (Tch.of xb1).trans xt3⟩
 case h => simp [results, Tryz.results56, go_sem]
theorem bi_SetString_neg (b : Nat) (l : List UInt8) (hd : digsB l = true) (h0 : 0 < l.length) (hl : l.length ≤ 70000) (w : World) (hr : Room w b 0) :
  Calls Tryz.prog 56 #[.pointer (some ⟨b, 0, none⟩), .string (bs (45 :: l)), .int .i64 10] w (StrPost w b (sgn true (dval l))) := by
 have HR := Lib.hid hr
 have hlt := hr.lt
 have kR : ∀ w', Calls Tryz.prog 118 #[.string (bs l), .int .i64 10] w' (ReadPost w' (dval l)) := fun w' => bw_read l.length l rfl hl hd w'
 have hne : l.length ≠ 0 := by omega
 clear hr hd
 generalize dval l = v at *
 go_enter Tryz.func56, Tryz.ntmps56
 go_wp2_with (first
  | (go_at_call 118; (with_reducible refine (kR _).mono ?_); rintro e w1 ⟨A1, k1, c1, rfl, hR1, xb1⟩; obtain ⟨xc1, xf1, xl1, xz1⟩ := jU xb1; (try simp at xz1))
  | (go_at_call 119; (with_reducible refine (bi_set b 0 true A1 k1 c1 v _ (HR.out.ext xb1) hR1.out.1 (hR1.out.2.off hlt k1)).mono ?_); rintro e w3 ⟨rfl, hI3, xt3⟩)
  )
 refine bodyPost_ret (v := .tuple #[.pointer (some ⟨b, 0, none⟩), .bool true]) ?h rfl ⟨rfl, A1, k1, c1, ⟨hI3.out, hR1.out.2⟩, (Tch.of xb1).trans xt3⟩
 case h => simp [results, Tryz.results56, go_sem]
end Go.Proofs.YtchbefambnhjjaaGreatDoor
end
section
/- Whole numbers of the library's: powers. -/
namespace Go.Proofs.YtchbefambnhjjaaGreatDoor
open Go.RowKit
attribute [local go_sem] sz2 sz3 sz4 sz5 sz6 sz7 sz8
set_option maxHeartbeats 4000000
set_option maxRecDepth 100000
theorem bit_u32 (n i : Nat) (h : n / 2 ^ i < 4294967296) {d : Nat} (hd : n / 2 ^ i % 2 = d) : (bits BinOp.and IntKind.u32 ((n : Int) / 2 ^ i) 1 == 1) = decide (d = 1) := by
 have e : (n : Int) / 2 ^ i = ((n / 2 ^ i : Nat) : Int) := by rw [Int.natCast_ediv, Int.natCast_pow]; rfl
 rw [e, and_one32 _ h, hd]
 rcases (show d = 0 ∨ d = 1 by omega) with rfl | rfl <;> rfl
attribute [local irreducible] Calls
theorem bi_Exp (b bx b2 : Nat) (B e : Nat) (hB : 1 ≤ B) (he0 : 1 ≤ e) (he : e < 4294967296) (A : Option Addr) (n c : Nat) (D : Option Addr) (m d : Nat) (hL : (lim (B ^ e)).length ≤ 20000) (hn : n ≤ 1000000) (w : World) (hr : Room w b 0) (hx : IntIs w bx 0 (B : Int) A n c) (hy : IntIs w b2 0 (e : Int) D m d) :
  Calls Tryz.prog 103 #[.pointer (some ⟨b, 0, none⟩), .pointer (some ⟨bx, 0, none⟩), .pointer (some ⟨b2, 0, none⟩), .pointer none] w (IPost w b 0 (B ^ e : Nat)) := by
 have HX := Lib.hid hx
 have HY := Lib.hid hy
 have HR := Lib.hid hr
 have HL := Lib.hid hL
 have lb := hr.lt
 have ly := hy.room.lt
 have y1 := hy.words
 simp only [Nat.zero_add] at y1
 have hm1 : m = 1 := by
  have h1 := hy.rd.len
  rw [Int.natAbs_natCast, lim_pos (by omega), Nat.div_eq_of_lt he, lim_zero] at h1
  simpa using h1.symm
 subst hm1
 have hsg : Hid ((e : Int).sign = 1) := Lib.hid (Int.sign_eq_one_of_pos (by omega))
 have kS : ∀ w', Ext w w' → Calls Tryz.prog 58 #[.pointer (some ⟨b2, 0, none⟩)] w' fun e w'' => e = .returned (.int .i64 1) ∧ Ext w' w'' := fun w' he => by
  have := bi_Sign b2 0 (e : Int) D 1 d w' (HY.out.ext he)
  rwa [hsg.out] at this
 clear hx hy hr hL
 go_enter Tryz.func103, Tryz.ntmps103
 go_upto_region 7 with (first
  | (go_at_call 104; (with_reducible refine (bi_NewInt 1 (by decide) (by decide) _).mono ?_); rintro e w1 ⟨p1, P1, k1, l1, rfl, hI1, hp1, xb1⟩)
  | (go_at_call 120; (with_reducible refine (bi_Set w1.heap.size 0 bx 0 A n c (B : Int) hn _ (int_room w1) ((HX.out.ext (jT (jA (jR _) _) xb1)).ext (jA (jR _) _))).mono ?_); rintro e w2 ⟨rfl, A2, n2, c2, hI2, xt2⟩)
  )
 have hE1 : Ext w w1 := jT (jA (jR _) _) xb1
 have hE2 : Hid (Ext w w2) := Lib.hid (xt2.ext (jA hE1 _) hE1.size)
 have hz1 : w.heap.size < w1.heap.size := by have := xb1.size; simp at this; omega
 have hp1' : w.heap.size + 1 ≤ p1 := by simpa using hp1
 have hlp1 : p1 < w1.heap.size := hI1.out.1.room.lt
 have hz2 : w1.heap.size + 1 ≤ w2.heap.size := by have := xt2.size; simpa using this
 have HI1 : Hid (IntIs w2 p1 0 1 P1 k1 l1) := Lib.hid ((hI1.out.1.ext (jA (jR _) _)).tch xt2 (by omega) (hI1.out.1.rd.off (Nat.le_refl _)))
 have hby : w2.cell? ⟨w.heap.size, 1, none⟩ = some (.slice none 0 0) := by
  rw [xt2.cell (by simp; omega) (by simp; omega)]
  rw [(Below.cell (p := ⟨w.heap.size, 1, none⟩) (jA (jR w1) _) (by simp; omega))]
  rw [(Below.cell (p := ⟨w.heap.size, 1, none⟩) xb1 (by simp))]
  rw [World.cell?_alloc_at _ _ _ _ rfl]; rfl
 have hfA2 : Off A2 n2 p1 := hI2.out.2.off (by simp; omega) n2
 have HI2 := Lib.hid (And.intro hI2.out.1 hfA2)
 clear hI1 hI2 xt2 xb1 hp1 hE1
 have g1 : w2.cell? ⟨b2, 1, none⟩ = some (.slice D 1 d) := (Below.cell (p := ⟨b2, 1, none⟩) hE2.out ly).trans y1
 have lb2 := ext_lt hE2.out _ ly
 have lw2 : w.heap.size < w2.heap.size := by omega
 clear y1
 go_upto_region 12 with (first
  | (go_at_call 58; (with_reducible refine (kS _ hE2.out).mono ?_); rintro e w3 ⟨rfl, xb3⟩; obtain ⟨xc3, xf3, xl3, xz3⟩ := jU xb3; (try simp at xz3); obtain ⟨l3_0, r3_0, f3_0, r3_0_1, f3_0_1⟩ := kq2 xb3 (b2); obtain ⟨l3_1, r3_1, f3_1, r3_1_1, f3_1_1⟩ := kq2 xb3 (w.heap.size))
  | (go_at_call 122; (with_reducible refine (bw_copied D 1 d (lim e) (by decide) _ ((HY.out.rd.ext hE2.out).ext xb3)).mono ?_); rintro e' w4 ⟨rfl, hR4, xb4⟩)
  )
 have hE34 : Hid (Ext w2 w4) := Lib.hid (jT xb3 xb4)
 have hby4 : w4.cell? ⟨w.heap.size, 1, none⟩ = some (.slice none 0 0) := (Below.cell (p := ⟨w.heap.size, 1, none⟩) hE34.out lw2).trans hby
 have lw4 := ext_lt hE34.out _ lw2
 have hfr4 : Fr w2 (some ⟨w3.heap.size, 0, none⟩) := fun a ha => by cases ha; exact xb3.size
 have lp2 : p1 < w2.heap.size := by omega
 have hOw := hfr4.off lp2 1
 have hI4 := Lib.hid (And.intro (HI1.out.ext hE34.out) (HI2.out.1.ext hE34.out))
 have HOW := Lib.hid hOw
 have hE4 : Hid (Ext w w4) := Lib.hid (jT hE2.out hE34.out)
 have hby0 : Hid (b ≠ p1 ∧ w.heap.size ≠ p1 ∧ w1.heap.size ≠ p1) := Lib.hid ⟨by omega, by omega, by omega⟩
 have HFA := Lib.hid hfA2
 clear xb3 xb4 hby hfr4 hOw hfA2 HI1 HI2 g1 hE34 hz1 hz2 xc3 xf3 xl3 xz3 l3_0 r3_0 f3_0 r3_0_1 f3_0_1 l3_1 r3_1 f3_1 r3_1_1 f3_1_1
 have hwc : w4.cell? ⟨w3.heap.size, 0, none⟩ = some (.int .u32 (e : Int)) := by
  obtain ⟨x, h1, _, h2⟩ := hR4.out.get 0 (by omega)
  have h3 := h1.out
  rw [lim_pos (by omega), Nat.mod_eq_of_lt he] at h3
  simp at h3
  rw [h3]; simpa using h2
 have hlw3 : w3.heap.size < w4.heap.size := World.block_lt_of_cell? w4 _ hwc
 have hpw : w3.heap.size ≠ p1 := by
  have := HOW.out _ rfl (by decide)
  simpa using this
 obtain ⟨gb, hgb⟩ : ∃ gb, gb = w1.heap.size := ⟨_, rfl⟩
 obtain ⟨gw, hgw⟩ : ∃ gw, gw = w3.heap.size := ⟨_, rfl⟩
 rw [← hgb] at hI4 hby0 ⊢
 rw [← hgw] at hwc hlw3 hpw ⊢
 have hby1 := Lib.hid (And.intro hby0.out hpw)
 have HC4 := Lib.hid (And.intro hby4 hwc)
 have hlp4 : p1 < w4.heap.size := hI4.out.1.room.lt
 have hlb4 : gb < w4.heap.size := hI4.out.2.room.lt
 have hpw1 : w.heap.size ≤ p1 := by omega
 clear hgb hgw hby4 hwc hby0 hpw HOW hR4 hlp1 hE2 lb2 lw2 lp2 hp1'
 go_wp2
 go_loopg [13] 32 (fun j vi wr => ∃ (x : Nat) (A : Option Addr) (n c : Nat), j ≤ 32 ∧ vi = .int .i64 ((j : Int) - 1) ∧ Hid (x = B ^ (e / 2 ^ j)) ∧ Hid (IntIs wr p1 0 (x : Int) A n c) ∧ Hid (IntIs wr gb 0 (B : Int) A2 n2 c2) ∧
   Hid (wr.cell? ⟨w.heap.size, 1, none⟩ = some (.slice none 0 0) ∧ wr.cell? ⟨gw, 0, none⟩ = some (.int .u32 (e : Int))) ∧ w4.heap.size ≤ wr.heap.size ∧ Hid (Ext w wr))
 case atStart => exact ⟨1, P1, k1, l1, Nat.le_refl _, rfl, Lib.hid (by rw [Nat.div_eq_of_lt (show e < 2 ^ 32 by omega)]; rfl), Lib.hid hI4.out.1, Lib.hid hI4.out.2, HC4, Nat.le_refl _, hE4⟩
 case round =>
  clear hI4 HC4 hE4
  obtain ⟨x, A, n, c, hj, rfl, hx, hI, hB', hC, hsz, hE⟩ := hrel
  by_cases h0 : 0 < gk
  ·obtain ⟨i, rfl⟩ : ∃ i, gk = i + 1 := ⟨gk - 1, by omega⟩
   have e1 : ((i + 1 : Nat) : Int) - 1 = (i : Int) := by omega
   rw [e1]
   have hnl : n ≤ 20000 := by
    have h1 := hI.out.rd.len
    rw [Int.natAbs_natCast, hx.out] at h1
    have h2 := lim_mono (Nat.pow_le_pow_right hB (Nat.div_le_self e (2 ^ (i + 1))))
    have := HL.out
    omega
   have hsq : Calls Tryz.prog 154 #[.pointer (some ⟨p1, 0, none⟩), .pointer (some ⟨p1, 0, none⟩), .pointer (some ⟨p1, 0, none⟩)] wr (IPost wr p1 0 ((x * x : Nat) : Int)) := by
    have := bi_Mul p1 0 p1 0 p1 0 (x : Int) (x : Int) A n c A n c (by omega) (by omega) wr hI.out.room hI.out hI.out
    rwa [← Int.natCast_mul] at this
   go_upto_region 16 with (first
    | (go_at_call 154; (with_reducible refine hsq.mono ?_); rintro e' w5 ⟨rfl, A5, n5, c5, hI5, xt5⟩)
    )
   have hB5 := Lib.hid (hB'.out.tch xt5 hby1.out.1.2.2 HFA.out)
   have c51 : w5.cell? ⟨w.heap.size, 1, none⟩ = some (.slice none 0 0) := (xt5.cell (by simp; omega) hby1.out.1.2.1).trans hC.out.1
   have c52 : w5.cell? ⟨gw, 0, none⟩ = some (.int .u32 (e : Int)) := (xt5.cell (by simp; omega) hby1.out.2).trans hC.out.2
   have hsz5 : w4.heap.size ≤ w5.heap.size := Nat.le_trans hsz xt5.size
   have hE5 : Hid (Ext w w5) := Lib.hid (xt5.ext hE.out hpw1)
   have hlw5 : gw < w5.heap.size := by omega
   have hlz5 : w.heap.size < w5.heap.size := by have := World.block_lt_of_cell? w5 _ c51; exact this
   have hi0 : (i : Int) / 32 = 0 := by omega
   have hi1 : (i : Int) % 32 = (i : Int) := by omega
   have hst : Hid (x * x * B ^ (e / 2 ^ i % 2) = B ^ (e / 2 ^ i)) := Lib.hid (by rw [hx.out]; exact (pow_halves B e i).symm)
   have hsh : e / 2 ^ i < 4294967296 := Nat.lt_of_le_of_lt (Nat.div_le_self _ _) he
   have HT5 := Lib.hid xt5
   have hC5 := Lib.hid (And.intro c51 c52)
   have hml : n5 ≤ 100000 := by
    have h1 := hI5.out.1.rd.len
    rw [Int.natAbs_natCast] at h1
    have h2 : (lim (x * x)).length ≤ (lim (B ^ (e / 2 ^ i))).length := lim_mono (by
     rw [← hst.out]; exact Nat.le_mul_of_pos_right _ (Nat.pow_pos hB))
    have h3 := lim_mono (Nat.pow_le_pow_right hB (Nat.div_le_self e (2 ^ i)))
    have := HL.out
    omega
   have hbl : n2 ≤ 100000 := by
    have h1 := hB5.out.rd.len
    rw [Int.natAbs_natCast] at h1
    have h2 : B ≤ B ^ e := Nat.le_self_pow (by omega) B
    have h3 := lim_mono h2
    have := HL.out
    omega
   rcases (show e / 2 ^ i % 2 = 0 ∨ e / 2 ^ i % 2 = 1 by omega) with hbit | hbit
   ·have hb1 := bit_u32 e i hsh hbit
    simp at hb1
    have HBIT := Lib.hid hbit
    clear hbit xt5 hsq hj h0
    go_wp2
    go_roundg i
    case rel => exact ⟨x * x, A5, n5, c5, by omega, rfl, Lib.hid (by rw [← hst.out, HBIT.out, Nat.pow_zero, Nat.mul_one]), Lib.hid hI5.out.1, hB5, hC5, hsz5, hE5⟩
    case measure => omega
   ·have hb1 := bit_u32 e i hsh hbit
    simp at hb1
    have HBIT := Lib.hid hbit
    have hmb : Calls Tryz.prog 154 #[.pointer (some ⟨p1, 0, none⟩), .pointer (some ⟨p1, 0, none⟩), .pointer (some ⟨gb, 0, none⟩)] w5 (IPost w5 p1 0 ((x * x * B : Nat) : Int)) := by
     have := bi_Mul p1 0 p1 0 gb 0 ((x * x : Nat) : Int) (B : Int) A5 n5 c5 A2 n2 c2 hml hbl w5 hI5.out.1.room hI5.out.1 hB5.out
     rwa [← Int.natCast_mul] at this
    clear hbit xt5 hsq hj h0
    go_upto_region 18 with (first
     | (go_at_call 154; (with_reducible refine hmb.mono ?_); rintro e' w6 ⟨rfl, A6, n6, c6, hI6, xt6⟩)
     )
    have hB6 := Lib.hid (hB5.out.tch xt6 hby1.out.1.2.2 HFA.out)
    have c61 : w6.cell? ⟨w.heap.size, 1, none⟩ = some (.slice none 0 0) := (xt6.cell hlz5 hby1.out.1.2.1).trans hC5.out.1
    have c62 : w6.cell? ⟨gw, 0, none⟩ = some (.int .u32 (e : Int)) := (xt6.cell hlw5 hby1.out.2).trans hC5.out.2
    have hlz6 : w.heap.size < w6.heap.size := World.block_lt_of_cell? w6 _ c61
    have hsz6 : w4.heap.size ≤ w6.heap.size := Nat.le_trans hsz5 xt6.size
    have hE6 : Hid (Ext w w6) := Lib.hid (xt6.ext hE5.out hpw1)
    have hC6 := Lib.hid (And.intro c61 c62)
    clear c51 c52 xt6
    go_wp2
    go_roundg i
    case rel => exact ⟨x * x * B, A6, n6, c6, by omega, rfl, Lib.hid (by rw [← hst.out, HBIT.out, Nat.pow_one]), Lib.hid hI6.out.1, hB6, hC6, hsz6, hE6⟩
    case measure => omega
  ·obtain rfl : gk = 0 := by omega
   have hxe : x = B ^ e := by rw [hx.out, Nat.pow_zero, Nat.div_one]
   have hnl : n ≤ 1000000 := by
    have h1 := hI.out.rd.len
    rw [Int.natAbs_natCast, hxe] at h1
    have := HL.out
    omega
   have kF := bi_Set b 0 p1 0 A n c (x : Int) hnl wr (HR.out.ext hE.out) hI.out
   have HXE := Lib.hid hxe
   clear hxe h0
   go_wp2_with (first
    | (go_at_call 120; (with_reducible refine kF.mono ?_); rintro e' w7 ⟨rfl, A7, n7, c7, hI7, xt7⟩)
    )
   refine bodyPost_ret (v := .pointer (some ⟨b, 0, none⟩)) ?h rfl ⟨rfl, A7, n7, c7, ⟨by have := hI7.out.1; rwa [HXE.out] at this, hI7.out.2.mono hE.out⟩, (Tch.of hE.out).trans xt7⟩
   case h => simp [results, Tryz.results103, go_sem]
end Go.Proofs.YtchbefambnhjjaaGreatDoor
end
section
/- The order of two fractions, plainly. -/
namespace Go.Proofs.YtchbefambnhjjaaGreatDoor
theorem sign_pos_mul (x : Int) {q : Nat} (hq : q ≠ 0) : (x * (q : Int)).sign = x.sign := by
 rw [Int.sign_mul, Int.sign_eq_one_of_pos (show (0 : Int) < q by omega), Int.mul_one]
theorem sign_three (z : Int) : (z < 0 ∧ z.sign = -1) ∨ (z = 0 ∧ z.sign = 0) ∨ (0 < z ∧ z.sign = 1) := by
 rcases Int.lt_trichotomy z 0 with h | h | h
 ·exact .inl ⟨h, Int.sign_eq_neg_one_of_neg h⟩
 ·exact .inr (.inl ⟨h, by rw [h]; rfl⟩)
 ·exact .inr (.inr ⟨h, Int.sign_eq_one_of_pos h⟩)
theorem rcmp_far {x y : Int} {p q : Nat} (hp : p ≠ 0) (hq : q ≠ 0) (h : x.sign ≠ y.sign) : (x * (q : Int) - y * (p : Int)).sign = if x.sign < y.sign then -1 else 1 := by
 have a := sign_pos_mul x hq
 have b := sign_pos_mul y hp
 generalize x * (q : Int) = X at a ⊢
 generalize y * (p : Int) = Y at b ⊢
 rw [← a, ← b] at h ⊢
 rcases sign_three X with ⟨h1, h2⟩ | ⟨h1, h2⟩ | ⟨h1, h2⟩ <;> rcases sign_three Y with ⟨k1, k2⟩ | ⟨k1, k2⟩ | ⟨k1, k2⟩ <;> rw [h2, k2] at h ⊢ <;>
  first
   | exact absurd rfl h
   | (rw [if_pos (by decide)]; exact Int.sign_eq_neg_one_of_neg (by omega))
   | (rw [if_neg (by decide)]; exact Int.sign_eq_one_of_pos (by omega))
theorem rcmp_nil {x y : Int} {p q : Nat} (hx : x = 0) (hy : y = 0) : (x * (q : Int) - y * (p : Int)).sign = 0 := by
 rw [hx, hy]; simp
theorem rcmp_near {x y : Int} {p q : Nat} (h : x.sign = y.sign) (h0 : x ≠ 0) :
  (x * (q : Int) - y * (p : Int)).sign = if x < 0 then - cmpN (x.natAbs * q) (y.natAbs * p) else cmpN (x.natAbs * q) (y.natAbs * p) := by
 rw [cmpN_sign]
 rcases sign_three x with ⟨h1, h2⟩ | ⟨h1, h2⟩ | ⟨h1, h2⟩
 ·rcases sign_three y with ⟨k1, k2⟩ | ⟨k1, k2⟩ | ⟨k1, k2⟩
  ·rw [if_pos h1, ← Int.sign_neg]
   congr 1
   obtain ⟨a, rfl⟩ : ∃ a : Nat, x = -(a : Int) := ⟨x.natAbs, by omega⟩
   obtain ⟨b, rfl⟩ : ∃ b : Nat, y = -(b : Int) := ⟨y.natAbs, by omega⟩
   simp only [Int.natAbs_neg, Int.natAbs_natCast, Int.natCast_mul]
   grind
  ·rw [h2, k2] at h; exact absurd h (by decide)
  ·rw [h2, k2] at h; exact absurd h (by decide)
 ·exact absurd h1 h0
 ·rcases sign_three y with ⟨k1, k2⟩ | ⟨k1, k2⟩ | ⟨k1, k2⟩
  ·rw [h2, k2] at h; exact absurd h (by decide)
  ·rw [h2, k2] at h; exact absurd h (by decide)
  ·rw [if_neg (by omega)]
   congr 1
   obtain ⟨a, rfl⟩ : ∃ a : Nat, x = (a : Int) := ⟨x.natAbs, by omega⟩
   obtain ⟨b, rfl⟩ : ∃ b : Nat, y = (b : Int) := ⟨y.natAbs, by omega⟩
   simp only [Int.natAbs_natCast, Int.natCast_mul]
theorem wrap_neg_cmp (a b : Nat) : IntKind.i64.wrap (-(cmpN a b)) = -(cmpN a b) := by
 unfold cmpN
 split
 ·decide
 ·split <;> decide
end Go.Proofs.YtchbefambnhjjaaGreatDoor
end
section
/- Fractions of the library's: the order. -/
namespace Go.Proofs.YtchbefambnhjjaaGreatDoor
open Go.RowKit
attribute [local go_sem] sz2 sz3 sz4 sz5 sz6 sz7 sz8
set_option maxHeartbeats 4000000
set_option maxRecDepth 100000
attribute [local irreducible] Calls
attribute [local go_sem] D2.Oper.detAt D2.detUpon D2.relUpon
theorem br_Cmp_far (bx b2 : Nat) (x y : Int) (p q : Nat) (h : x.sign ≠ y.sign) (A : Option Addr) (n c : Nat) (D : Option Addr) (m e : Nat) (B : Option Addr) (n2 c2 : Nat) (C : Option Addr) (m2 e2 : Nat)
  (w : World) (hx : RatIs w bx x A n c p D m e) (hy : RatIs w b2 y B n2 c2 q C m2 e2) :
  Calls Tryz.prog 91 #[.pointer (some ⟨bx, 0, none⟩), .pointer (some ⟨b2, 0, none⟩)] w
   fun e w' => e = .returned (.int .i64 (x * (denOf q : Int) - y * (denOf p : Int)).sign) ∧ Ext w w' := by
 have kX : ∀ w', Ext w w' → Calls Tryz.prog 101 #[.pointer (some ⟨bx, 0, none⟩)] w' fun e w'' => e = .returned (.int .i64 x.sign) ∧ Ext w' w'' := fun w' he => br_Sign _ _ _ _ _ w' (hx.int.ext he)
 have kY : ∀ w', Ext w w' → Calls Tryz.prog 101 #[.pointer (some ⟨b2, 0, none⟩)] w' fun e w'' => e = .returned (.int .i64 y.sign) ∧ Ext w' w'' := fun w' he => br_Sign _ _ _ _ _ w' (hy.int.ext he)
 rw [rcmp_far (denOf_ne p) (denOf_ne q) h]
 have hb : (x.sign == y.sign) = false := by rw [beq_eq_false_iff_ne]; exact h
 have hgt : ¬ x.sign < y.sign → y.sign < x.sign := by omega
 generalize x.sign = X at *
 generalize y.sign = Y at *
 clear hx hy h
 by_cases hlt : X < Y
 ·rw [if_pos hlt]
  clear hgt
  go_enter Tryz.func91, Tryz.ntmps91
  go_wp2_with (first
   | (go_at_call 101; (with_reducible refine (kX _ xcl).mono ?_); rintro e w1 ⟨rfl, xb1⟩)
   | (go_at_call 101; (with_reducible refine (kY _ xcl).mono ?_); rintro e w2 ⟨rfl, xb2⟩)
   | (go_at_call 101; (with_reducible refine (kX _ xcl).mono ?_); rintro e w3 ⟨rfl, xb3⟩)
   | (go_at_call 101; (with_reducible refine (kY _ xcl).mono ?_); rintro e w4 ⟨rfl, xb4⟩)
   )
  refine bodyPost_ret (v := .int .i64 (-1)) ?h rfl ⟨rfl, ?_⟩
  case h => simp [results, Tryz.results91, go_sem]
  exact xcl
 ·rw [if_neg hlt]
  have hgt := hgt hlt
  go_enter Tryz.func91, Tryz.ntmps91
  go_wp2_with (first
   | (go_at_call 101; (with_reducible refine (kX _ xcl).mono ?_); rintro e w1 ⟨rfl, xb1⟩)
   | (go_at_call 101; (with_reducible refine (kY _ xcl).mono ?_); rintro e w2 ⟨rfl, xb2⟩)
   )
  refine bodyPost_ret (v := .int .i64 1) ?h rfl ⟨rfl, ?_⟩
  case h => simp [results, Tryz.results91, go_sem]
  exact xcl
theorem br_Cmp_nil (bx b2 : Nat) (x y : Int) (p q : Nat) (h1 : x = 0) (h2 : y = 0) (A : Option Addr) (n c : Nat) (D : Option Addr) (m e : Nat) (B : Option Addr) (n2 c2 : Nat) (C : Option Addr) (m2 e2 : Nat)
  (w : World) (hx : RatIs w bx x A n c p D m e) (hy : RatIs w b2 y B n2 c2 q C m2 e2) :
  Calls Tryz.prog 91 #[.pointer (some ⟨bx, 0, none⟩), .pointer (some ⟨b2, 0, none⟩)] w
   fun e w' => e = .returned (.int .i64 (x * (denOf q : Int) - y * (denOf p : Int)).sign) ∧ Ext w w' := by
 rw [rcmp_nil h1 h2]
 subst h1; subst h2
 have kX : ∀ w', Ext w w' → Calls Tryz.prog 101 #[.pointer (some ⟨bx, 0, none⟩)] w' fun e w'' => e = .returned (.int .i64 0) ∧ Ext w' w'' := fun w' he => br_Sign _ _ _ _ _ w' (hx.int.ext he)
 have kY : ∀ w', Ext w w' → Calls Tryz.prog 101 #[.pointer (some ⟨b2, 0, none⟩)] w' fun e w'' => e = .returned (.int .i64 0) ∧ Ext w' w'' := fun w' he => br_Sign _ _ _ _ _ w' (hy.int.ext he)
 clear hx hy
 go_enter Tryz.func91, Tryz.ntmps91
 go_wp2_with (first
  | (go_at_call 101; (with_reducible refine (kX _ xcl).mono ?_); rintro e w1 ⟨rfl, xb1⟩)
  | (go_at_call 101; (with_reducible refine (kY _ xcl).mono ?_); rintro e w2 ⟨rfl, xb2⟩)
  )
 refine bodyPost_ret (v := .int .i64 0) ?h rfl ⟨rfl, ?_⟩
 case h => simp [results, Tryz.results91, go_sem]
 exact xcl
theorem br_Cmp_near (bx b2 : Nat) (x y : Int) (p q : Nat) (h : x.sign = y.sign) (h0 : x ≠ 0) (A : Option Addr) (n c : Nat) (D : Option Addr) (m e : Nat) (B : Option Addr) (n2 c2 : Nat) (C : Option Addr) (m2 e2 : Nat)
  (hn : n ≤ 100000) (hm : m ≤ 100000) (hn2 : n2 ≤ 100000) (hm2 : m2 ≤ 100000) (w : World) (hx : RatIs w bx x A n c p D m e) (hy : RatIs w b2 y B n2 c2 q C m2 e2) :
  Calls Tryz.prog 91 #[.pointer (some ⟨bx, 0, none⟩), .pointer (some ⟨b2, 0, none⟩)] w
   fun e w' => e = .returned (.int .i64 (x * (denOf q : Int) - y * (denOf p : Int)).sign) ∧ Ext w w' := by
 have HX := Lib.hid hx
 have HY := Lib.hid hy
 have lx := hx.int.room.lt
 have x0 := hx.int.neg
 have x1 := hx.int.words
 have ly := hy.int.room.lt
 have y1 := hy.int.words
 simp only [Nat.zero_add] at x1 y1
 have kX : ∀ w', Ext w w' → Calls Tryz.prog 101 #[.pointer (some ⟨bx, 0, none⟩)] w' fun e w'' => e = .returned (.int .i64 x.sign) ∧ Ext w' w'' := fun w' he => br_Sign _ _ _ _ _ w' (hx.int.ext he)
 have kY : ∀ w', Ext w w' → Calls Tryz.prog 101 #[.pointer (some ⟨b2, 0, none⟩)] w' fun e w'' => e = .returned (.int .i64 x.sign) ∧ Ext w' w'' := fun w' he => by rw [h]; exact br_Sign _ _ _ _ _ w' (hy.int.ext he)
 have dl := den_len hx hm (by decide)
 have dl2 := den_len hy hm2 (by decide)
 have bX : ∀ w', Ext w w' → Calls Tryz.prog 129 #[.pointer (some ⟨bx, 0, none⟩)] w' fun e' w'' => ∃ (B : Option Addr) (k l : Nat), e' = .returned (.slice B k l) ∧ Hid (Rd w'' B k l (lim (denOf p))) ∧ Ext w' w'' := fun w' he => (br_below _ _ _ _ _ _ _ _ _ w' (HX.out.ext he)).mono fun _ _ ⟨B, k, l, h1, h2, h3⟩ => ⟨B, k, l, h1, h2.out.1, h3⟩
 have bY : ∀ w', Ext w w' → Calls Tryz.prog 129 #[.pointer (some ⟨b2, 0, none⟩)] w' fun e' w'' => ∃ (B : Option Addr) (k l : Nat), e' = .returned (.slice B k l) ∧ Hid (Rd w'' B k l (lim (denOf q))) ∧ Ext w' w'' := fun w' he => (br_below _ _ _ _ _ _ _ _ _ w' (HY.out.ext he)).mono fun _ _ ⟨B, k, l, h1, h2, h3⟩ => ⟨B, k, l, h1, h2.out.1, h3⟩
 have mX : ∀ P1 k l w', Ext w w' → Rd w' P1 k l (lim (denOf q)) → Calls Tryz.prog 147 #[.slice A n c, .slice P1 k l] w' (WPost w' (x.natAbs * denOf q)) := fun P1 k l w' he h1 => bw_mulA A P1 n c k l _ _ (by have := h1.len; omega) w' (HX.out.int.rd.ext he) h1
 have mY : ∀ P1 k l w', Ext w w' → Rd w' P1 k l (lim (denOf p)) → Calls Tryz.prog 147 #[.slice B n2 c2, .slice P1 k l] w' (WPost w' (y.natAbs * denOf p)) := fun P1 k l w' he h1 => bw_mulA B P1 n2 c2 k l _ _ (by have := h1.len; omega) w' (HY.out.int.rd.ext he) h1
 have hs0 : (x.sign == 0) = false := by
  rw [beq_eq_false_iff_ne]; intro h2; exact h0 (Int.sign_eq_zero_iff_zero.1 h2)
 generalize denOf p = p at *
 generalize denOf q = q at *
 rw [rcmp_near h h0]
 have hwr := wrap_neg_cmp (x.natAbs * q) (y.natAbs * p)
 have hcm : ∀ P1 k1 l1 Q1 k2 l2 w', Rd w' P1 k1 l1 (lim (x.natAbs * q)) → Rd w' Q1 k2 l2 (lim (y.natAbs * p)) → Calls Tryz.prog 146 #[.slice P1 k1 l1, .slice Q1 k2 l2] w' fun e w'' => e = .returned (.int .i64 (cmpN (x.natAbs * q) (y.natAbs * p))) ∧ Ext w' w'' := fun P1 k1 l1 Q1 k2 l2 w' h1 h2 => bw_cmp P1 Q1 k1 l1 k2 l2 _ _ w' h1 h2
 clear hx hy h h0
 generalize x.natAbs * q = U at *
 generalize y.natAbs * p = V at *
 generalize cmpN U V = K at *
 generalize x.sign = X at *
 by_cases hneg : x < 0
 ·rw [if_pos hneg]
  rw [decide_eq_true hneg] at x0
  go_enter Tryz.func91, Tryz.ntmps91
  go_upto_region 7 with (first
   | (go_at_call 101; (with_reducible refine (kX _ (jT xb1 xb2)).mono ?_); rintro e w3 ⟨rfl, xb3⟩)
   | (go_at_call 101; (with_reducible refine (kX _ xcl).mono ?_); rintro e w1 ⟨rfl, xb1⟩)
   | (go_at_call 101; (with_reducible refine (kY _ xcl).mono ?_); rintro e w2 ⟨rfl, xb2⟩)
   )
  have hE3 : Hid (Ext w w3) := by show Ext w w3; exact xcl
  have x0' := (Below.cell (p := ⟨bx, 0, none⟩) hE3.out lx).trans x0
  have x1' := (Below.cell (p := ⟨bx, 1, none⟩) hE3.out lx).trans x1
  have y1' := (Below.cell (p := ⟨b2, 1, none⟩) hE3.out ly).trans y1
  have lx' := ext_lt hE3.out bx lx
  have ly' := ext_lt hE3.out b2 ly
  clear kX kY xb1 xb2 xb3
  refine D2.wp_drawn_tail 16 (D2.tab [(6, D2.RRow q), (7, RWord w3.heap.size U), (14, D2.RRow p), (15, RWord w3.heap.size V)]) (by kernel_rfl) (by kernel_rfl) (by kernel_rfl) (D2.tab_stays (by simp [D2.stays_row, D2.stays_word])) (fun hq hqf => ?_)
  simp only [List.take_succ_cons, List.take_zero, List.drop_succ_cons, List.drop_zero]
  have z1 := fun nq => (hq nq bx 1 lx').trans x1'
  have z3 := fun nq => (hq nq b2 1 ly').trans y1'
  iterate 6
   (refine D2.wpK_det rfl (fun K hK => ?_)
    go_simp
    first
     | (refine hK _ ?_; clear hK K)
     | (apply Exists.intro; refine ⟨fun x => ?_, hK _ ?_⟩; (first | exact z1 x | exact z3 x); clear hK K))
  refine D2.wpK_rel _ rfl rfl ?_ ?_
  ·rintro _ ⟨nn, rfl⟩ _
   unfold D2.Oper.relAt
   go_simp
   exact D2.rel_row (bY _ (jT hE3.out nn.use))
  rintro v ⟨_, ⟨nn, rfl⟩, hr⟩
  obtain ⟨A5, k5, c5, rfl, -⟩ := hr
  clear nn
  refine D2.wpK_rel _ rfl rfl ?_ ?_
  ·rintro _ ⟨nn, rfl⟩ hdep
   have q1 := hdep 6 (by kernel_rfl)
   simp only [D2.Facts.put] at q1
   have q2 := D2.row_at (vals := []) q1
   unfold D2.Oper.relAt
   go_simp
   exact D2.rel_wpost (ext_size nn.use) (mX _ _ _ _ (jT hE3.out nn.use) q2)
  rintro v ⟨_, ⟨nn, rfl⟩, hr⟩
  obtain ⟨A6, k6, c6, rfl, -, -⟩ := hr
  clear nn
  iterate 6
   (refine D2.wpK_det rfl (fun K hK => ?_)
    go_simp
    first
     | (refine hK _ ?_; clear hK K)
     | (apply Exists.intro; refine ⟨fun x => ?_, hK _ ?_⟩; (first | exact z1 x | exact z3 x); clear hK K))
  refine D2.wpK_rel _ rfl rfl ?_ ?_
  ·rintro _ ⟨nn, rfl⟩ _
   unfold D2.Oper.relAt
   go_simp
   exact D2.rel_row (bX _ (jT hE3.out nn.use))
  rintro v ⟨_, ⟨nn, rfl⟩, hr⟩
  obtain ⟨A7, k7, c7, rfl, -⟩ := hr
  clear nn
  refine D2.wpK_rel _ rfl rfl ?_ ?_
  ·rintro _ ⟨nn, rfl⟩ hdep
   have q1 := hdep 14 (by kernel_rfl)
   simp only [D2.Facts.put] at q1
   have q2 := D2.row_at (vals := []) q1
   unfold D2.Oper.relAt
   go_simp
   exact D2.rel_wpost (ext_size nn.use) (mY _ _ _ _ (jT hE3.out nn.use) q2)
  rintro v ⟨_, ⟨nn, rfl⟩, hr⟩
  obtain ⟨A8, k8, c8, rfl, -, -⟩ := hr
  clear nn
  refine D2.wpK_nil ?_
  intro nq hG
  have r6 : RWord w3.heap.size U [] (.slice A6 k6 c6) nq.out := by have := hG.fact 7; simp [D2.Facts.put] at this; exact this
  have r8 : RWord w3.heap.size V [] (.slice A8 k8 c8) nq.out := by have := hG.fact 15; simp [D2.Facts.put] at this; exact this
  have hR6 := Lib.hid (rword_at r6)
  have hR8 := Lib.hid (rword_at r8)
  have hE := Lib.hid (jT hE3.out nq.use)
  have x0q := (Below.cell (p := ⟨bx, 0, none⟩) nq.use lx').trans x0'
  have lxq := ext_lt nq.use bx lx'
  clear r6 r8 hG
  go_wp2_with (first
   | (go_at_call 146; (with_reducible refine (hcm _ _ _ _ _ _ _ hR6.out.1 hR8.out.1).mono ?_); rintro e w9 ⟨rfl, xb9⟩; obtain ⟨xc9, xf9, xl9, xz9⟩ := jU xb9; (try simp at xz9); obtain ⟨l9_0, r9_0, f9_0, r9_0_1, f9_0_1⟩ := kq2 xb9 (bx))
   )
  refine bodyPost_ret (v := .int .i64 (-K)) ?h rfl ⟨rfl, jT hE.out xb9⟩
  case h => simp [results, Tryz.results91, go_sem]
 ·rw [if_neg hneg]
  rw [decide_eq_false hneg] at x0
  go_enter Tryz.func91, Tryz.ntmps91
  go_upto_region 7 with (first
   | (go_at_call 101; (with_reducible refine (kX _ (jT xb1 xb2)).mono ?_); rintro e w3 ⟨rfl, xb3⟩)
   | (go_at_call 101; (with_reducible refine (kX _ xcl).mono ?_); rintro e w1 ⟨rfl, xb1⟩)
   | (go_at_call 101; (with_reducible refine (kY _ xcl).mono ?_); rintro e w2 ⟨rfl, xb2⟩)
   )
  have hE3 : Hid (Ext w w3) := by show Ext w w3; exact xcl
  have x0' := (Below.cell (p := ⟨bx, 0, none⟩) hE3.out lx).trans x0
  have x1' := (Below.cell (p := ⟨bx, 1, none⟩) hE3.out lx).trans x1
  have y1' := (Below.cell (p := ⟨b2, 1, none⟩) hE3.out ly).trans y1
  have lx' := ext_lt hE3.out bx lx
  have ly' := ext_lt hE3.out b2 ly
  clear kX kY xb1 xb2 xb3
  refine D2.wp_drawn_tail 16 (D2.tab [(6, D2.RRow q), (7, RWord w3.heap.size U), (14, D2.RRow p), (15, RWord w3.heap.size V)]) (by kernel_rfl) (by kernel_rfl) (by kernel_rfl) (D2.tab_stays (by simp [D2.stays_row, D2.stays_word])) (fun hq hqf => ?_)
  simp only [List.take_succ_cons, List.take_zero, List.drop_succ_cons, List.drop_zero]
  have z1 := fun nq => (hq nq bx 1 lx').trans x1'
  have z3 := fun nq => (hq nq b2 1 ly').trans y1'
  iterate 6
   (refine D2.wpK_det rfl (fun K hK => ?_)
    go_simp
    first
     | (refine hK _ ?_; clear hK K)
     | (apply Exists.intro; refine ⟨fun x => ?_, hK _ ?_⟩; (first | exact z1 x | exact z3 x); clear hK K))
  refine D2.wpK_rel _ rfl rfl ?_ ?_
  ·rintro _ ⟨nn, rfl⟩ _
   unfold D2.Oper.relAt
   go_simp
   exact D2.rel_row (bY _ (jT hE3.out nn.use))
  rintro v ⟨_, ⟨nn, rfl⟩, hr⟩
  obtain ⟨A5, k5, c5, rfl, -⟩ := hr
  clear nn
  refine D2.wpK_rel _ rfl rfl ?_ ?_
  ·rintro _ ⟨nn, rfl⟩ hdep
   have q1 := hdep 6 (by kernel_rfl)
   simp only [D2.Facts.put] at q1
   have q2 := D2.row_at (vals := []) q1
   unfold D2.Oper.relAt
   go_simp
   exact D2.rel_wpost (ext_size nn.use) (mX _ _ _ _ (jT hE3.out nn.use) q2)
  rintro v ⟨_, ⟨nn, rfl⟩, hr⟩
  obtain ⟨A6, k6, c6, rfl, -, -⟩ := hr
  clear nn
  iterate 6
   (refine D2.wpK_det rfl (fun K hK => ?_)
    go_simp
    first
     | (refine hK _ ?_; clear hK K)
     | (apply Exists.intro; refine ⟨fun x => ?_, hK _ ?_⟩; (first | exact z1 x | exact z3 x); clear hK K))
  refine D2.wpK_rel _ rfl rfl ?_ ?_
  ·rintro _ ⟨nn, rfl⟩ _
   unfold D2.Oper.relAt
   go_simp
   exact D2.rel_row (bX _ (jT hE3.out nn.use))
  rintro v ⟨_, ⟨nn, rfl⟩, hr⟩
  obtain ⟨A7, k7, c7, rfl, -⟩ := hr
  clear nn
  refine D2.wpK_rel _ rfl rfl ?_ ?_
  ·rintro _ ⟨nn, rfl⟩ hdep
   have q1 := hdep 14 (by kernel_rfl)
   simp only [D2.Facts.put] at q1
   have q2 := D2.row_at (vals := []) q1
   unfold D2.Oper.relAt
   go_simp
   exact D2.rel_wpost (ext_size nn.use) (mY _ _ _ _ (jT hE3.out nn.use) q2)
  rintro v ⟨_, ⟨nn, rfl⟩, hr⟩
  obtain ⟨A8, k8, c8, rfl, -, -⟩ := hr
  clear nn
  refine D2.wpK_nil ?_
  intro nq hG
  have r6 : RWord w3.heap.size U [] (.slice A6 k6 c6) nq.out := by have := hG.fact 7; simp [D2.Facts.put] at this; exact this
  have r8 : RWord w3.heap.size V [] (.slice A8 k8 c8) nq.out := by have := hG.fact 15; simp [D2.Facts.put] at this; exact this
  have hR6 := Lib.hid (rword_at r6)
  have hR8 := Lib.hid (rword_at r8)
  have hE := Lib.hid (jT hE3.out nq.use)
  have x0q := (Below.cell (p := ⟨bx, 0, none⟩) nq.use lx').trans x0'
  have lxq := ext_lt nq.use bx lx'
  clear r6 r8 hG
  go_wp2_with (first
   | (go_at_call 146; (with_reducible refine (hcm _ _ _ _ _ _ _ hR6.out.1 hR8.out.1).mono ?_); rintro e w9 ⟨rfl, xb9⟩; obtain ⟨xc9, xf9, xl9, xz9⟩ := jU xb9; (try simp at xz9); obtain ⟨l9_0, r9_0, f9_0, r9_0_1, f9_0_1⟩ := kq2 xb9 (bx))
   )
  refine bodyPost_ret (v := .int .i64 K) ?h rfl ⟨rfl, jT hE.out xb9⟩
  case h => simp [results, Tryz.results91, go_sem]
theorem br_Cmp (bx b2 : Nat) (x y : Int) (p q : Nat) (A : Option Addr) (n c : Nat) (D : Option Addr) (m e : Nat) (B : Option Addr) (n2 c2 : Nat) (C : Option Addr) (m2 e2 : Nat)
  (hn : n ≤ 100000) (hm : m ≤ 100000) (hn2 : n2 ≤ 100000) (hm2 : m2 ≤ 100000) (w : World) (hx : RatIs w bx x A n c p D m e) (hy : RatIs w b2 y B n2 c2 q C m2 e2) :
  Calls Tryz.prog 91 #[.pointer (some ⟨bx, 0, none⟩), .pointer (some ⟨b2, 0, none⟩)] w
   fun e w' => e = .returned (.int .i64 (x * (denOf q : Int) - y * (denOf p : Int)).sign) ∧ Ext w w' := by
 by_cases h : x.sign = y.sign
 ·by_cases h0 : x = 0
  ·have hy0 : y = 0 := by rw [h0] at h; exact Int.sign_eq_zero_iff_zero.1 h.symm
   exact br_Cmp_nil bx b2 x y p q h0 hy0 A n c D m e B n2 c2 C m2 e2 w hx hy
  ·exact br_Cmp_near bx b2 x y p q h h0 A n c D m e B n2 c2 C m2 e2 hn hm hn2 hm2 w hx hy
 ·exact br_Cmp_far bx b2 x y p q h A n c D m e B n2 c2 C m2 e2 w hx hy
end Go.Proofs.YtchbefambnhjjaaGreatDoor
end
section
/- (The document's library.) Whole numbers of the library's: order, sums. -/

namespace Go.Proofs.YtchbefambnhjjaaGreatDoor.NB
open Go.RowKit
attribute [local go_sem] sz2 sz3 sz4 sz5 sz6 sz7 sz8
set_option maxHeartbeats 4000000
set_option maxRecDepth 100000
attribute [local irreducible] Calls
theorem bi_Cmp (b o g p : Nat) (x y : Int) (A : Option Addr) (n c : Nat) (B : Option Addr) (m d : Nat) (w : World) (hx : IntIs w b o x A n c) (hy : IntIs w g p y B m d) :
  Calls Tryz.prog 83 #[.pointer (some ⟨b, o, none⟩), .pointer (some ⟨g, p, none⟩)] w fun e w' => e = .returned (.int .i64 (x - y).sign) ∧ Ext w w' := by
 have HX := Lib.hid hx
 have HY := Lib.hid hy
 have lx := hx.room.lt
 have x0 := hx.neg
 have x1 := hx.words
 have ly := hy.room.lt
 have y0 := hy.neg
 have y1 := hy.words
 have kc : ∀ w', Ext w w' → Calls Tryz.prog 143 #[.slice A n c, .slice B m d] w' fun e w'' => e = .returned (.int .i64 (cmpN x.natAbs y.natAbs)) ∧ Ext w' w'' := fun w' he => bw_cmp A B n c m d _ _ w' (HX.out.rd.ext he) (HY.out.rd.ext he)
 clear hx hy HX HY
 by_cases hs : x < 0
 ·rw [decide_eq_true hs] at x0
  by_cases ht : y < 0
  ·rw [decide_eq_true ht] at y0
   have e1 : -(cmpN x.natAbs y.natAbs) = (x - y).sign := by
    rw [cmpN_sign, ← Int.sign_neg]; congr 1; omega
   have e2 : IntKind.i64.wrap (-(cmpN x.natAbs y.natAbs)) = (x - y).sign := by
    rw [e1]
    have : (x - y).sign = -1 ∨ (x - y).sign = 0 ∨ (x - y).sign = 1 := by
     rcases Int.lt_trichotomy (x - y) 0 with h | h | h
     ·exact .inl (Int.sign_eq_neg_one_of_neg h)
     ·rw [h]; exact .inr (.inl rfl)
     ·exact .inr (.inr (Int.sign_eq_one_of_pos h))
    rcases this with h | h | h <;> rw [h] <;> decide
   generalize cmpN x.natAbs y.natAbs = C at kc e1 e2
   generalize (x - y).sign = R at e1 e2 ⊢
   clear hs ht e1
   go_enter Tryz.func83, Tryz.ntmps83
   go_wp2
   refine wp_aft (by kernel_rfl) (by kernel_rfl) (fun hq hqf => ?_)
   repeat (go_big_quiet_step (first | fail
    ))
   refine wpQuiet_nil ?_
   rintro _ ⟨nq, rfl⟩
   have xl := ext_lt nq.use
   have xz := ext_size nq.use
   try simp at xz
   have hE1 := Lib.hid nq.use
   have z0 := (Below.cell (p := ⟨b, o, none⟩) nq.use lx).trans x0
   have z1 := (Below.cell (p := ⟨b, o + 1, none⟩) nq.use lx).trans x1
   have z2 := (Below.cell (p := ⟨g, p + 1, none⟩) nq.use ly).trans y1
   go_wp2
   have lx2 := xl b lx
   have ly2 := xl g ly
   refine wp_aft (by kernel_rfl) (by kernel_rfl) (fun hq hqf => ?_)
   repeat (go_big_quiet_step (first
    | (go_at_call 143; exact aft_of (kc _ (jT hE1.out (Aft.use _))))
    ))
   refine wpQuiet_nil ?_
   rintro _ ⟨nq, rfl⟩
   have xl := ext_lt nq.use
   have xz := ext_size nq.use
   try simp at xz
   go_wp2
   refine bodyPost_ret (v := .int .i64 R) ?h rfl ⟨rfl, jT hE1.out nq.use⟩
   case h => simp [results, Tryz.results83, go_sem]
  ·rw [decide_eq_false ht] at y0
   have e1 : (x - y).sign = -1 := Int.sign_eq_neg_one_of_neg (by omega)
   rw [e1]
   clear hs ht e1 kc
   go_enter Tryz.func83, Tryz.ntmps83
   go_wp2
   refine wp_aft (by kernel_rfl) (by kernel_rfl) (fun hq hqf => ?_)
   repeat (go_big_quiet_step (first | fail
    ))
   refine wpQuiet_nil ?_
   rintro _ ⟨nq, rfl⟩
   have xl := ext_lt nq.use
   have xz := ext_size nq.use
   try simp at xz
   have hE1 := Lib.hid nq.use
   have z0 := (Below.cell (p := ⟨b, o, none⟩) nq.use lx).trans x0
   go_wp2
   refine bodyPost_ret (v := .int .i64 (-1)) ?h rfl ⟨rfl, hE1.out⟩
   case h => simp [results, Tryz.results83, go_sem]
 ·rw [decide_eq_false hs] at x0
  by_cases ht : y < 0
  ·rw [decide_eq_true ht] at y0
   have e1 : (x - y).sign = 1 := Int.sign_eq_one_of_pos (by omega)
   rw [e1]
   clear hs ht e1 kc
   go_enter Tryz.func83, Tryz.ntmps83
   go_wp2
   refine wp_aft (by kernel_rfl) (by kernel_rfl) (fun hq hqf => ?_)
   repeat (go_big_quiet_step (first | fail
    ))
   refine wpQuiet_nil ?_
   rintro _ ⟨nq, rfl⟩
   have xl := ext_lt nq.use
   have xz := ext_size nq.use
   try simp at xz
   have hE1 := Lib.hid nq.use
   have z0 := (Below.cell (p := ⟨b, o, none⟩) nq.use lx).trans x0
   go_wp2
   refine bodyPost_ret (v := .int .i64 1) ?h rfl ⟨rfl, hE1.out⟩
   case h => simp [results, Tryz.results83, go_sem]
  ·rw [decide_eq_false ht] at y0
   have e1 : cmpN x.natAbs y.natAbs = (x - y).sign := by
    rw [cmpN_sign]; congr 1; omega
   generalize cmpN x.natAbs y.natAbs = C at kc e1
   generalize (x - y).sign = R at e1 ⊢
   subst e1
   clear hs ht
   go_enter Tryz.func83, Tryz.ntmps83
   go_wp2
   refine wp_aft (by kernel_rfl) (by kernel_rfl) (fun hq hqf => ?_)
   repeat (go_big_quiet_step (first | fail
    ))
   refine wpQuiet_nil ?_
   rintro _ ⟨nq, rfl⟩
   have xl := ext_lt nq.use
   have xz := ext_size nq.use
   try simp at xz
   have hE1 := Lib.hid nq.use
   have z0 := (Below.cell (p := ⟨b, o, none⟩) nq.use lx).trans x0
   have z1 := (Below.cell (p := ⟨b, o + 1, none⟩) nq.use lx).trans x1
   have z2 := (Below.cell (p := ⟨g, p + 1, none⟩) nq.use ly).trans y1
   go_wp2
   have lx2 := xl b lx
   have ly2 := xl g ly
   refine wp_aft (by kernel_rfl) (by kernel_rfl) (fun hq hqf => ?_)
   repeat (go_big_quiet_step (first
    | (go_at_call 143; exact aft_of (kc _ (jT hE1.out (Aft.use _))))
    ))
   refine wpQuiet_nil ?_
   rintro _ ⟨nq, rfl⟩
   have xl := ext_lt nq.use
   have xz := ext_size nq.use
   try simp at xz
   go_wp2
   refine bodyPost_ret (v := .int .i64 C) ?h rfl ⟨rfl, jT hE1.out nq.use⟩
   case h => simp [results, Tryz.results83, go_sem]
end Go.Proofs.YtchbefambnhjjaaGreatDoor.NB
end
