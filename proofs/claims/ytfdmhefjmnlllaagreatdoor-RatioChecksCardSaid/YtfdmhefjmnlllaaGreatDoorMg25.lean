/- Lemmas of this proof, laid together: BigT, BigU, IntL, IntM, IntN, RatL, RatT, RatU. -/
import Derived.Test.YtfdmhefjmnlllaaGreatDoorMg23
import Derived.Test.YtfdmhefjmnlllaaGreatDoorMg12
import Derived.Deep.DeepCutAuto
import Derived.Deep.RegionWith
import Derived.Deep.LoopGhost
import Derived.Maps.AppendAt
set_option linter.unusedSimpArgs false
set_option linter.unusedVariables false
section
/- Words of the library's: short numbers are told in tens. -/
namespace Go.Proofs.YtfdmhefjmnlllaaGreatDoor
open Go.RowKit
attribute [local go_sem] bs_size bs_extract bs_get bs_append bs_toList const_get
attribute [local go_sem] sz2 sz3 sz4 sz5 sz6 sz7 sz8
set_option maxHeartbeats 8000000
set_option maxRecDepth 100000
def tellL (v : Nat) (least : Int) : List UInt8 := List.replicate (least - (digs v).length).toNat 48 ++ digs v
theorem own_pre {w : World} {base : Nat} {e : TypeId} {g n cap : Nat} {xs : List Value} (h : w.ownsRow base e 1 (.slice (some ⟨g, 0, none⟩) n cap) n xs) {k : Nat} (hk : k ≤ n) : w.ownsRow base e 1 (.slice (some ⟨g, 0, none⟩) k cap) k (xs.take k) := by
 obtain ⟨h1, h2⟩ := h
 refine ⟨by rw [List.length_take]; omega, ?_⟩
 rcases h2 with ⟨h3, _⟩ | ⟨g', cap', cur, h3, h4, h5, h6, h7, h8, h9⟩
 ·cases h3
 ·simp only [Value.slice.injEq, Option.some.injEq, Addr.mk.injEq] at h3
  obtain ⟨⟨rfl, _⟩, _, rfl⟩ := h3
  refine .inr ⟨g, cap, cur, rfl, h4, h5, by omega, h7, h8, ?_⟩
  rw [← h9, List.take_take, Nat.mul_one, Nat.mul_one, Nat.min_eq_left hk]
theorem own_base {w : World} {base b2 : Nat} {e : TypeId} {s : Nat} {v : Value} {n : Nat} {xs : List Value} (h : w.ownsRow base e s v n xs) (hb : b2 ≤ base) : w.ownsRow b2 e s v n xs := by
 obtain ⟨h1, h2⟩ := h
 refine ⟨h1, ?_⟩
 rcases h2 with h3 | ⟨g', cap', cur, h3, h4, h5⟩
 ·exact .inl h3
 ·exact .inr ⟨g', cap', cur, h3, by omega, h5⟩
theorem own_only {w w' : World} {base : Nat} {e : TypeId} {s : Nat} {v : Value} {n : Nat} {xs : List Value} (h : w.ownsRow base e s v n xs) {row : Option Nat} (hg : w.grownBy w' row) (hne : ∀ b, v.ownBlock = some b → row ≠ some b) : w'.ownsRow base e s v n xs := by
 have hl := h.lt
 obtain ⟨h1, h2⟩ := h
 refine ⟨h1, ?_⟩
 rcases h2 with h3 | ⟨g', cap', cur, h3, h4, h5, h6⟩
 ·exact .inl h3
 ·refine .inr ⟨g', cap', cur, h3, h4, ?_, h6⟩
  have hb : v.ownBlock = some g' := by rw [h3]; rfl
  rw [hg.block g' (hl g' hb).2 (fun e => hne g' hb e.symm)]
  exact h5
theorem own_form {w : World} {base : Nat} {e : TypeId} {v : Value} {n : Nat} {xs : List Value} (h : w.ownsRow base e 1 v n xs) : (v = .slice none 0 0 ∧ n = 0) ∨ ∃ g c, v = .slice (some ⟨g, 0, none⟩) n c ∧ n ≤ c ∧ c ≤ 9223372036854775807 ∧ base ≤ g ∧ g < w.heap.size := by
 have hl := h.lt
 obtain ⟨h1, h2⟩ := h
 rcases h2 with h3 | ⟨g', cap', cur, h3, h4, h5, h6, h7, h8⟩
 ·exact .inl h3
 ·exact .inr ⟨g', cap', h3, h6, h7, h4, (hl g' (by rw [h3]; rfl)).2⟩
theorem own_size {w : World} {base : Nat} {e : TypeId} {v : Value} {n : Nat} {xs : List Value} (h : w.ownsRow base e 1 v n xs) (hn : 0 < n) : base + 1 ≤ w.heap.size := by
 rcases own_form h with ⟨_, h0⟩ | ⟨g, c, _, _, _, h1, h2⟩ <;> omega
theorem push_u8o {ops : Array Oper} {rest : List Oper} {o : Oper} {a : Act} {Q : Exit → Act → World → Prop} {w : World} (hgd : o.guard = none) (s x : Operand)
  (ho : o.op = .call { callee := .builtin .append, args := #[s, x], argTypes := #[51, 51] })
  {W : World} {w0 : World} (ob : Obj) (hw : w = w0.alloc ob) (hW : Ext W w0) {base : Nat} (hbase : W.heap.size ≤ base) (hsz0 : base ≤ w0.heap.size) {v : Value} {n : Nat} {xs : List UInt8} (hown : w0.ownsRow base 5 1 v n (xs.map bV)) (hs : a.eval s = v)
  (y : UInt8) (ad : Addr) (c : Nat) (hx : a.eval x = .slice (some ad) 1 c) (hnew : w.cell? ad = some (bV y)) (hn : n ≤ 1000000000)
  {b2 : Nat} {e2 : TypeId} {s2 : Nat} {v2 : Value} {n2 : Nat} {xs2 : List Value} (h2 : w0.ownsRow b2 e2 s2 v2 n2 xs2) (hap : ∀ b, v2.ownBlock = some b → b < base)
  (h : ∀ v' w', Ext W w' → Hid (w'.ownsRow base 5 1 v' (n + 1) ((xs ++ [y]).map bV)) → Hid (w'.ownsRow b2 e2 s2 v2 n2 xs2) → wpList Tryz.prog ops Q rest (a.put o.dst v') w') : wpList Tryz.prog ops Q (o :: rest) a w := by
 obtain ⟨i, hi, hz, hsz, hby⟩ := info_parts u8_info
 subst hw
 have hlt := hown.lt
 refine wpList_append_own _ hgd s x _ ho base 5 i _ 1 1 u8_under hi hz hsz hby rfl (by decide) v n _ hs (hown.alloc _) ad 1 c [bV y] hx rfl ?_ ?_ ?_ ?_ ?_ ?_
 ·intro j u hj
  match j, hj with
  | 0, hj => simp at hj; subst hj; simpa [Addr.add] using hnew
 ·intro u hu; simp at hu; subst hu; rfl
 ·unfold maxLen; omega
 ·omega
 ·simp; omega
 ·intro v' w' ho' hg _
  refine h v' w' (ext_grown (jA hW _) (hown.alloc _) hbase hg) ?_ ?_
  ·show World.ownsRow _ _ _ _ _ _ _
   simpa using ho'
  ·refine Lib.hid (own_only (h2.alloc _) hg fun b hb e => ?_)
   have h3 := hap b hb
   have h4 := hlt b e
   omega
theorem fig_at (r : Nat) (h : r % 10 < ([48, 49, 50, 51, 52, 53, 54, 55, 56, 57, 97, 98, 99, 100, 101, 102, 103, 104, 105, 106, 107, 108, 109, 110, 111, 112, 113, 114, 115, 116, 117, 118, 119, 120, 121, 122] : List UInt8).length) : ([48, 49, 50, 51, 52, 53, 54, 55, 56, 57, 97, 98, 99, 100, 101, 102, 103, 104, 105, 106, 107, 108, 109, 110, 111, 112, 113, 114, 115, 116, 117, 118, 119, 120, 121, 122] : List UInt8)[r % 10]'h = UInt8.ofNat (48 + r % 10) := by
 have h10 : r % 10 < 10 := Nat.mod_lt _ (by decide)
 generalize r % 10 = y at *
 have : ∀ (y : Nat) (h : y < ([48, 49, 50, 51, 52, 53, 54, 55, 56, 57, 97, 98, 99, 100, 101, 102, 103, 104, 105, 106, 107, 108, 109, 110, 111, 112, 113, 114, 115, 116, 117, 118, 119, 120, 121, 122] : List UInt8).length), y < 10 → ([48, 49, 50, 51, 52, 53, 54, 55, 56, 57, 97, 98, 99, 100, 101, 102, 103, 104, 105, 106, 107, 108, 109, 110, 111, 112, 113, 114, 115, 116, 117, 118, 119, 120, 121, 122] : List UInt8)[y]'h = UInt8.ofNat (48 + y) := by decide
 exact this y h h10
attribute [local irreducible] Calls
theorem bw_copied_own (A : Option Addr) (n c : Nat) (xs : List Nat) (hn : n ≤ 1000000) (w : World) (hA : Rd w A n c xs) :
  Calls Tryz.prog 89 #[.slice A n c] w fun e w' => e = .returned (.slice (some ⟨w.heap.size, 0, none⟩) n n) ∧ Hid (w'.ownsRow w.heap.size 47 1 (.slice (some ⟨w.heap.size, 0, none⟩) n n) n (xs.map u32V)) ∧ Ext w w' := by
 have HA := Lib.hid hA
 have hlen := Lib.hid hA.len
 clear hA
 go_enter Tryz.func89, Tryz.ntmps89
 go_wp2_with (first
  | (at_make; refine make_u32 rfl _ _ rfl _ _ _ _ n rfl rfl (by simp) (by simp) (by omega) ?_; intro w1 hx1 ho1; have hext1 := Lib.hid hx1; clear hx1)
  | (with_reducible refine copy_u32 rfl (.tmp 7) (.tmp 8) rfl ho1.out (HA.out.ext hext1.out) rfl rfl (Nat.le_refl _) hext1.out (Nat.le_refl _) ?_; intro w2 hx2 ho2; have hext2 := Lib.hid hx2; clear hx2)
  | go_in)
 refine bodyPost_ret (v := .slice (some ⟨w.heap.size, 0, none⟩) n n) ?h rfl ⟨rfl, ?_, hext2.out⟩
 case h => simp [results, Tryz.results89, go_sem]
 have e : xs ++ (List.replicate n 0).drop n = xs := by simp
 rw [e] at ho2
 exact ho2
theorem tell_small (v : Nat) (least : Int) (A : Option Addr) (n c : Nat) (hn : n ≤ 40) (hl : -9000000000 ≤ least ∧ least ≤ 10000000) (w : World) (hA : Rd w A n c (lim v)) :
  Calls Tryz.prog 172 #[.slice A n c, .int .i64 10, .int .i64 least] w fun e w' => ∃ vv, e = .returned vv ∧ Hid (w'.ownsRow w.heap.size 5 1 vv (tellL v least).length ((tellL v least).map bV)) ∧ Ext w w' := by
 have HA := Lib.hid hA
 have hkn := hA.len
 have hcap := hA.cap
 have hmx := hA.mx
 obtain ⟨hl1, hl2⟩ := hl
 have HD : Hid ((digs v).length ≤ 1300) := Lib.hid (Nat.le_trans (digs_lim' (k := 40) (by omega)) (by decide))
 clear hA
 go_enter Tryz.func172, Tryz.ntmps172
 go_wp2
 go_loopg [10, 11] 8 (fun g vb vp wr => ∃ (p B : Nat), g = 9 - p ∧ (1 ≤ p ∧ p ≤ 9) ∧ vb = .int .u32 (B : Int) ∧ vp = .int .i64 (p : Int) ∧ (B ≤ 100000000 ∧ p ≤ 8 ∨ B = 1000000000 ∧ p = 9) ∧ Hid (B = 10 ^ p) ∧ Hid (Ext w wr))
 case atStart => exact ⟨1, 10, rfl, by omega, rfl, rfl, by omega, Lib.hid rfl, jR _⟩
 case round =>
  obtain ⟨p, B, rfl, ⟨hp1, hp2⟩, rfl, rfl, hB, hBp, hext⟩ := hrel
  by_cases h8 : p ≤ 8
  ·have hB8 : B ≤ 100000000 := by omega
   have hB9 : (B : Int) ≤ 429496729 := by omega
   have hBB : Hid (B * 10 ≤ 100000000 ∧ p + 1 ≤ 8 ∨ B * 10 = 1000000000 ∧ p + 1 = 9) := Lib.hid (by
    rcases Nat.lt_or_ge p 8 with h | h
    ·left
     rw [hBp.out, ← Nat.pow_succ]
     exact ⟨Nat.le_trans (Nat.pow_le_pow_right (by decide) (show p + 1 ≤ 8 by omega)) (by decide), by omega⟩
    ·right
     obtain rfl : p = 8 := by omega
     rw [hBp.out]; exact ⟨rfl, rfl⟩)
   clear hB
   go_wp2
   go_roundg (9 - (p + 1))
   case rel => exact ⟨p + 1, B * 10, rfl, by omega, by simp, by simp, hBB.out, Lib.hid (by rw [hBp.out, Nat.pow_succ]), hext⟩
   case measure => omega
  ·obtain rfl : p = 9 := by omega
   obtain rfl : B = 1000000000 := by omega
   clear hB h8 hBp
   obtain ⟨W1, rfl⟩ : ∃ W1, W1 = wr := ⟨wr, rfl⟩
   have hcp : ∀ w', Ext W1 w' → Calls Tryz.prog 89 #[.slice A n c] w' fun e w'' => e = .returned (.slice (some ⟨w'.heap.size, 0, none⟩) n n) ∧ Hid (w''.ownsRow w'.heap.size 47 1 (.slice (some ⟨w'.heap.size, 0, none⟩) n n) n ((lim v).map u32V)) ∧ Ext w' w'' := fun w' he => bw_copied_own A n c (lim v) (by omega) w' ((HA.out.ext hext.out).ext he)
   go_wp2_with (first
    | (go_at_call 89; (with_reducible refine (hcp _ (jR _)).mono ?_); rintro e w1 ⟨rfl, hR1, xb1⟩; obtain ⟨xc1, xf1, xl1, xz1⟩ := jU xb1; (try simp at xz1))
    )
   have HX1 := Lib.hid xb1
   have hz1 : W1.heap.size + 1 ≤ w1.heap.size := by have := (hR1.out.lt W1.heap.size rfl).2; omega
   clear hcp xc1 xf1 xl1 xz1 xb1
   go_loopg [0, 12] v (fun u vw vb wr => ∃ (k : Nat) (back : List UInt8), vw = .slice (some ⟨W1.heap.size, 0, none⟩) k n ∧ k ≤ n ∧ Hid (digs v = digs u ++ back.reverse) ∧ Hid (wr.ownsRow W1.heap.size 47 1 (.slice (some ⟨W1.heap.size, 0, none⟩) k n) k ((lim u).map u32V)) ∧ Hid (wr.ownsRow (W1.heap.size + 1) 5 1 vb back.length (back.map bV)) ∧ Hid (Ext w1 wr ∨ True) ∧ Hid (Ext W1 wr) ∧ W1.heap.size + 1 ≤ wr.heap.size)
   case atStart => exact ⟨n, [], rfl, Nat.le_refl _, Lib.hid (by simp), hR1, World.ownsRow_nil _ _ _ _, Lib.hid (.inr trivial), HX1, hz1⟩
   case round =>
    clear hR1 HX1 hz1
    obtain ⟨k, back, rfl, hk, hdig, hownw, hownb, -, hE, hz⟩ := hrel
    have hku : (lim gk).length = k := by have := hownw.out.1; simpa using this
    have hbl : back.length ≤ 1300 := by
     have h1 := HD.out
     rw [hdig.out] at h1
     simp at h1; omega
    by_cases hk0 : 0 < k
    ·have hu0 : gk ≠ 0 := by intro e; rw [e, lim_zero] at hku; simp at hku; omega
     have HU := Lib.hid hu0
     have HK := Lib.hid hku
     clear hu0 hku
     go_wp2
     go_loopw [13, 14] (fun vr vi wr2 => ∃ (j r : Nat) (os : List Nat), j ≤ k ∧ r < 1000000000 ∧ vi = .int .i64 ((j : Int) - 1) ∧ vr = .int .u64 (r : Int) ∧ Hid (os.length = k ∧ Lb os ∧ os.take j = (lim gk).take j ∧ val ((lim gk).drop j) = 1000000000 * val (os.drop j) + r) ∧
       Hid (wr2.ownsRow W1.heap.size 47 1 (.slice (some ⟨W1.heap.size, 0, none⟩) k n) k (os.map u32V)) ∧ Hid (wr2.ownsRow (W1.heap.size + 1) 5 1 u12 back.length (back.map bV)) ∧ Hid (Ext W1 wr2) ∧ W1.heap.size + 1 ≤ wr2.heap.size)
      (fun _ vi _ => (intOf vi + 1).toNat)
     case atStart =>
      refine ⟨k, 0, lim gk, Nat.le_refl _, by decide, by go_num, rfl, Lib.hid ⟨HK.out, lb_lim _, rfl, ?_⟩, hownw, hownb, hE, hz⟩
      rw [List.drop_eq_nil_of_le (by rw [HK.out]; exact Nat.le_refl _)]; rfl
     case round =>
      clear hownw hownb hE hz
      obtain ⟨j, r, os, hj, hr, rfl, rfl, hos, hownw, hownb, hE, hz⟩ := hrel
      by_cases h0 : 0 < j
      ·obtain ⟨x, hx, hxb⟩ : ∃ x : Nat, Hid ((lim gk).getD (j - 1) 0 = x) ∧ x < 4294967296 := ⟨_, rfl, lb_getD (lb_lim _) _⟩
       have hx2 : os.getD (j - 1) 0 = x := by
        have h1 := congrArg (fun z : List Nat => z.getD (j - 1) 0) hos.out.2.2.1
        simp only [List.getD_eq_getElem?_getD] at h1
        rw [List.getElem?_take_of_lt (by omega), List.getElem?_take_of_lt (by omega)] at h1
        rw [List.getD_eq_getElem?_getD, h1, ← List.getD_eq_getElem?_getD]
        exact hx.out
       obtain ⟨hc1, hf1⟩ := own_at hownw.out (j - 1) (by omega)
       rw [hx2] at hc1
       have hor := or_shift r x (by omega) hxb
       obtain ⟨s, hse⟩ : ∃ s, s = r * 4294967296 + x := ⟨_, rfl⟩
       have hs : s < 1000000000 * 4294967296 := by rw [hse]; omega
       have hq : s / 1000000000 < 4294967296 := by omega
       rw [← hse] at hor
       have HSE := Lib.hid hse
       clear hse hx2
       go_wp2
       case roundEnd =>
        refine ⟨⟨j - 1, s % 1000000000, os.set (j - 1) (s / 1000000000), by omega, by omega, ?_, ?_, ⟨?_, ?_, ?_, ?_⟩, ?_, ?_, ?_, ?_⟩, ?_⟩
        ·simp; omega
        ·simp
        ·simp [hos.out.1]
        ·exact lb_set hos.out.2.1 _ hq
        ·rw [List.take_set_of_le (by omega)]
         have h1 := congrArg (fun z : List Nat => z.take (j - 1)) hos.out.2.2.1
         simp only [List.take_take] at h1
         rwa [Nat.min_eq_left (by omega)] at h1
        ·have h := over_step (d := 1000000000) (by decide) h0 (by rw [HK.out]; exact hj) (by rw [hos.out.1, HK.out]) hos.out.2.2.2 hx.out
         rwa [← HSE.out] at h
        ·show World.ownsRow _ _ _ _ _ _ _
         have e : (s : Int) / 1000000000 = ((s / 1000000000 : Nat) : Int) := by omega
         rw [e]
         exact own_set hownw.out _ _
        ·exact own_far hownb.out _ _ (fun e => by have := (hownb.out.lt _ e).1; simp only at this; omega)
        ·exact jS hE.out (Nat.le_refl _) _
        ·simpa using hz
        ·simp [intOf]; omega
      ·obtain rfl : j = 0 := by omega
       have hv := hos.out.2.2.2
       simp only [List.drop_zero, val_lim] at hv
       obtain ⟨q, hqv⟩ : ∃ q, q = val os := ⟨_, rfl⟩
       have hq1 : gk = 1000000000 * q + r := by rw [hqv]; exact hv
       obtain ⟨A', c', he, hR⟩ := Rd.own hownw.out hos.out.2.1
       have hT : Calls Tryz.prog 130 #[.slice (some ⟨W1.heap.size, 0, none⟩) k n] wr fun e w'' => e = .returned (.slice (some ⟨W1.heap.size, 0, none⟩) (lim q).length n) ∧ wr = w'' := by
        cases he
        refine (bw_trim _ k n os wr hR).mono ?_
        rintro e w'' ⟨k2, rfl, hR2, rfl⟩
        refine ⟨?_, rfl⟩
        rw [← hR2.len, trimZ_lim os hos.out.2.1, hqv]
       have hk2 : (lim q).length ≤ k := by
        have h1 : (lim q).length ≤ (lim gk).length := lim_mono (by omega)
        rw [HK.out] at h1; exact h1
       have hown2 : Hid (wr.ownsRow W1.heap.size 47 1 (.slice (some ⟨W1.heap.size, 0, none⟩) (lim q).length n) (lim q).length ((lim q).map u32V)) := Lib.hid (by
        have h1 := own_pre hownw.out hk2
        obtain ⟨m, hm1, hm2⟩ := trimZ_prefix os
        rw [trimZ_lim os hos.out.2.1, ← hqv] at hm2
        have hm3 : m = (lim q).length := by rw [hm2, List.length_take, hos.out.1]; rw [hos.out.1] at hm1; omega
        rw [← List.map_take, ← hm3, ← hm2] at h1
        rw [← hm3] at *
        exact h1)
       obtain ⟨k2, hk2e⟩ : ∃ k2, k2 = (lim q).length := ⟨_, rfl⟩
       rw [← hk2e] at hT hk2 hown2
       have HK2 := Lib.hid hk2e
       have HQ1 := Lib.hid hq1
       clear hv hqv hq1 he hR hk2e h0 hj hownw
       go_wp2_with (first
        | (go_at_call 130; (with_reducible refine (hT).mono ?_); rintro e w' ⟨rfl, rfl⟩)
        )
       have hr9 : Hid (r < 10 ^ (9 - 0) ∧ digs v = digs (q * 10 ^ (9 - 0) + r) ++ back.reverse) := Lib.hid ⟨hr, by rw [hdig.out]; congr 2; rw [HQ1.out]; show 1000000000 * q + r = q * 1000000000 + r; omega⟩
       go_loopw [12, 16, 17] (fun vb vr vi wr2 => ∃ (j r' : Nat) (back2 : List UInt8), j ≤ 9 ∧ vi = .int .i64 (j : Int) ∧ vr = .int .u32 (r' : Int) ∧ r' < 1000000000 ∧ Hid (r' < 10 ^ (9 - j) ∧ digs v = digs (q * 10 ^ (9 - j) + r') ++ back2.reverse) ∧
         Hid (wr2.ownsRow (W1.heap.size + 1) 5 1 vb back2.length (back2.map bV)) ∧ Hid (wr2.ownsRow W1.heap.size 47 1 (.slice (some ⟨W1.heap.size, 0, none⟩) k2 n) k2 ((lim q).map u32V)) ∧ Hid (Ext W1 wr2) ∧ W1.heap.size + 1 ≤ wr2.heap.size)
        (fun _ _ vi _ => 9 - (intOf vi).toNat)
       case atStart => exact ⟨0, r, back, Nat.zero_le _, rfl, by go_num, hr, hr9, hownb, hown2, hE, hz⟩
       case round =>
        clear hownb hown2 hE hz hr9
        obtain ⟨j, r', back2, hj, rfl, rfl, hr', hd2, hownb, hownw, hE, hz⟩ := hrel
        have hbl2 : back2.length ≤ 1300 := by
         have h1 := HD.out
         rw [hd2.out.2] at h1
         simp at h1; omega
        have hz' : W1.heap.size ≤ W1.heap.size + 1 := Nat.le_succ _
        obtain ⟨dg, hdg⟩ : ∃ dg : UInt8, Hid (dg = UInt8.ofNat (48 + r' % 10)) := ⟨_, rfl⟩
        by_cases hgo : j < 9 ∧ (0 < k2 ∨ 0 < r')
        ·have HP : Hid (r' < 10 * 10 ^ (9 - (j + 1)) → 0 < q * (10 * 10 ^ (9 - (j + 1))) + r') := Lib.hid (fun hlt => by
          rcases hgo.2 with h | h
          ·have h1 : 0 < q := by
            rcases Nat.eq_zero_or_pos q with e | e
            ·have := HK2.out; rw [e, lim_zero] at this; simp at this; omega
            ·exact e
           have := Nat.mul_pos h1 (show 0 < 10 * 10 ^ (9 - (j + 1)) by omega)
           omega
          ·omega)
         by_cases hk20 : 0 < k2
         ·skip
          go_wp2_with (first
           | (at_builtin; refine push_u8o rfl _ _ rfl _ rfl hE.out hz' hz hownb.out rfl dg ⟨wr.heap.size, 0, none⟩ 1 rfl (by rw [World.cell?_alloc_at _ _ _ _ rfl]; simp [bV, hdg.out, fig_at]) (by omega) hownw.out (fun b e => by cases e; exact Nat.lt_succ_self _) ?_)
           | go_in)
          all_goals
           intro v' w3 hx3 ho3 hk3
           have HX3 := Lib.hid hx3
           have hz3 := hx3.size
           have hz4 : W1.heap.size + 1 ≤ w3.heap.size := (hk3.out.lt W1.heap.size rfl).2
           clear hx3 hownb hownw
           go_wp2
           go_roundw
           case rel =>
            have e1 : 10 ^ (9 - j) = 10 * 10 ^ (9 - (j + 1)) := by
             rw [show 9 - j = 9 - (j + 1) + 1 by omega, Nat.pow_succ]; omega
            have hd3 := hd2.out
            rw [e1] at hd3
            refine ⟨j + 1, r' / 10, back2 ++ [dg], by omega, by go_num, by go_num, by omega, ⟨by omega, by rw [hdg.out]; exact digs_step10 hd3.2 (HP.out hd3.1)⟩, ?_, hk3, HX3, hz4⟩
            show World.ownsRow _ _ _ _ _ _ _
            rw [List.length_append, List.map_append]
            exact ho3.out
           case measure => simp [intOf]; omega
         ·obtain rfl : k2 = 0 := by omega
          have hr0 : 0 < r' := by omega
          have hj9 : j < 9 := hgo.1
          clear hgo
          go_wp2_with (first
           | (at_builtin; refine push_u8o rfl _ _ rfl _ rfl hE.out hz' hz hownb.out rfl dg ⟨wr.heap.size, 0, none⟩ 1 rfl (by rw [World.cell?_alloc_at _ _ _ _ rfl]; simp [bV, hdg.out, fig_at]) (by omega) hownw.out (fun b e => by cases e; exact Nat.lt_succ_self _) ?_)
           | go_in)
          all_goals
           intro v' w3 hx3 ho3 hk3
           have HX3 := Lib.hid hx3
           have hz3 := hx3.size
           have hz4 : W1.heap.size + 1 ≤ w3.heap.size := (hk3.out.lt W1.heap.size rfl).2
           clear hx3 hownb hownw
           go_wp2
           go_roundw
           case rel =>
            have e1 : 10 ^ (9 - j) = 10 * 10 ^ (9 - (j + 1)) := by
             rw [show 9 - j = 9 - (j + 1) + 1 by omega, Nat.pow_succ]; omega
            have hd3 := hd2.out
            rw [e1] at hd3
            refine ⟨j + 1, r' / 10, back2 ++ [dg], by omega, by go_num, by go_num, by omega, ⟨by omega, by rw [hdg.out]; exact digs_step10 hd3.2 (HP.out hd3.1)⟩, ?_, hk3, HX3, hz4⟩
            show World.ownsRow _ _ _ _ _ _ _
            rw [List.length_append, List.map_append]
            exact ho3.out
           case measure => simp [intOf]; omega
        ·have HDQ : Hid (digs v = digs q ++ back2.reverse) := Lib.hid (by
          have h1 := hd2.out
          have h2 : r' = 0 := by
           by_cases hj9 : j = 9
           ·subst hj9
            have := h1.1; simp at this; exact this
           ·omega
          by_cases hj9 : j = 9
          ·subst hj9
           rw [h2] at h1
           simpa using h1.2
          ·have hq0 : q = 0 := lim_nil.1 (List.eq_nil_of_length_eq_zero (by have := HK2.out; omega))
           rw [h2, hq0] at h1
           rw [hq0]
           simpa using h1.2)
         by_cases hj9 : j = 9
         ·subst hj9
          clear hgo
          go_wp2
          go_roundg q
          case rel => exact ⟨k2, back2, rfl, by omega, HDQ, hownw, hownb, Lib.hid (.inr trivial), hE, hz⟩
          case measure => have := HQ1.out; have := HU.out; omega
         ·obtain rfl : k2 = 0 := by omega
          obtain rfl : r' = 0 := by omega
          have hj8 : j < 9 := by omega
          clear hgo hj9
          go_wp2
          go_roundg q
          case rel => exact ⟨0, back2, rfl, by omega, HDQ, hownw, hownb, Lib.hid (.inr trivial), hE, hz⟩
          case measure => have := HQ1.out; have := HU.out; omega
    ·obtain rfl : k = 0 := by omega
     have hu0 : gk = 0 := lim_nil.1 (List.eq_nil_of_length_eq_zero hku)
     have HB : Hid (digs v = back.reverse) := Lib.hid (by rw [hdig.out, hu0, digs_zero]; simp)
     clear hk0 hdig hu0 hku hownw
     go_wp2
     go_loopg [12] (least - (back.length : Int)).toNat (fun g vb wr => ∃ (m : Nat), g = (least - (back.length + m : Nat)).toNat ∧ (m = 0 ∨ ((back.length + m : Nat) : Int) ≤ least) ∧ Hid (wr.ownsRow (W1.heap.size + 1) 5 1 vb (back.length + m) ((back ++ List.replicate m 48).map bV)) ∧ Hid (Ext W1 wr) ∧ W1.heap.size + 1 ≤ wr.heap.size)
     case atStart => exact ⟨0, rfl, .inl rfl, Lib.hid (by simpa using hownb.out), hE, hz⟩
     case round =>
      clear hownb hE hz
      obtain ⟨m, rfl, hm, hownb, hE, hz⟩ := hrel
      have hz' : W1.heap.size ≤ W1.heap.size + 1 := Nat.le_succ _
      have hbm : back.length + m ≤ 10001300 := by omega
      have hlen : (back ++ List.replicate m (48 : UInt8)).length = back.length + m := by simp
      have hown1 := hownb.out
      rcases own_form hownb.out with ⟨hu, hz0⟩ | ⟨gb, cb, hu, hc1, hc2, hg1, hg2⟩
      ·subst hu
       have hm0 : m = 0 := by omega
       have hbn : back = [] := List.eq_nil_of_length_eq_zero (by omega)
       subst hm0 hbn
       by_cases hgo : (0 : Int) < least
       ·go_wp2_with (first
         | (at_builtin; refine push_u8 rfl _ _ rfl _ rfl hE.out hz' hz hownb.out rfl 48 ⟨wr.heap.size, 0, none⟩ 1 rfl (by rw [World.cell?_alloc_at _ _ _ _ rfl]; simp [bV]) (by omega) ?_)
         | go_in)
        all_goals
         intro v' w3 hx3 ho3 hk3
         have HX3 := Lib.hid hx3
         have hz3 := hx3.size
         clear hx3 hownb
         go_wp2
         go_roundg (least - (([] : List UInt8).length + 1 : Nat)).toNat
         case rel => exact ⟨1, rfl, .inr (by simp; omega), Lib.hid (by simpa using ho3.out), HX3, by have := own_size ho3.out (by omega); omega⟩
         case measure => simp; omega
       ·have HT : Hid (tellL v least = []) := Lib.hid (by
         unfold tellL
         rw [HB.out]
         simp; omega)
        obtain ⟨wo, rfl⟩ : ∃ wo, wo = wr := ⟨_, rfl⟩
        clear hm hbm hlen hz0 hown1 hownb HB
        go_wp2_with (first
         | (at_make; refine make_u8 rfl _ _ rfl _ _ _ _ 0 rfl rfl rfl rfl (by omega) ?_; intro w5 hx1 ho1; have hext1 := Lib.hid hx1; clear hx1)
         | go_in)
        go_loopw [19] (fun vi wr2 => vi = .int .i64 0 ∧ Hid (wr2.ownsRow wo.heap.size 5 1 (.slice (some ⟨wo.heap.size, 0, none⟩) 0 0) 0 []) ∧ Hid (Ext wo wr2)) (fun _ _ => 0)
        case atStart => exact ⟨rfl, ho1, hext1⟩
        case round =>
         obtain ⟨rfl, ho, hx⟩ := hrel
         have HR : Hid (wr.ownsRow w.heap.size 5 1 (.slice (some ⟨wo.heap.size, 0, none⟩) 0 0) (tellL v least).length ((tellL v least).map bV)) := Lib.hid (by
          rw [HT.out]
          exact own_base ho.out (jT hext.out hE.out).size)
         clear HT
         go_wp2
         refine bodyPost_ret (v := .slice (some ⟨wo.heap.size, 0, none⟩) 0 0) ?h rfl ⟨_, rfl, HR, jT hext.out (jT hE.out hx.out)⟩
         case h => simp [results, Tryz.results172, go_sem]
      ·subst hu
       by_cases hgo : ((back.length + m : Nat) : Int) < least
       ·go_wp2_with (first
         | (at_builtin; refine push_u8 rfl _ _ rfl _ rfl hE.out hz' hz hownb.out rfl 48 ⟨wr.heap.size, 0, none⟩ 1 rfl (by rw [World.cell?_alloc_at _ _ _ _ rfl]; simp [bV]) (by omega) ?_)
         | go_in)
        all_goals
         intro v' w3 hx3 ho3 hk3
         have HX3 := Lib.hid hx3
         have hz3 := hx3.size
         clear hx3 hownb
         go_wp2
         go_roundg (least - (back.length + (m + 1) : Nat)).toNat
         case rel =>
          refine ⟨m + 1, rfl, .inr (by omega), Lib.hid ?_, HX3, by have := own_size ho3.out (by omega); omega⟩
          have h1 := ho3.out
          rw [List.replicate_succ', List.map_append, List.map_append]
          simp only [List.map_replicate, List.map_cons, List.map_nil]
          exact h1
         case measure => omega
       ·obtain ⟨L, hL⟩ : ∃ L, L = back.length + m := ⟨_, rfl⟩
        obtain ⟨B3, hB3⟩ : ∃ B3, B3 = back ++ List.replicate m (48 : UInt8) := ⟨_, rfl⟩
        have HF : Hid (B3.reverse = tellL v least) := Lib.hid (by
         unfold tellL
         rw [hB3, List.reverse_append, List.reverse_replicate, HB.out, List.length_reverse]
         congr 2
         omega)
        have hlen : Hid (B3.length = L) := Lib.hid (by rw [hB3, hL]; simp)
        rw [← hL] at hbm hown1 hc1 hgo ⊢
        rw [← hB3] at hown1
        rw [← hL, ← hB3] at hownb
        clear hL hB3 hm hown1 HB
        obtain ⟨wo, rfl⟩ : ∃ wo, wo = wr := ⟨_, rfl⟩
        go_wp2_with (first
         | (at_make; refine make_u8 rfl _ _ rfl _ _ _ _ L rfl rfl rfl rfl (by omega) ?_; intro w5 hx1 ho1; have hext1 := Lib.hid hx1; clear hx1)
         | go_in)
        have hgl1 : wo.heap.size < w5.heap.size := (ho1.out.lt wo.heap.size rfl).2
        go_loopw [19] (fun vi wr2 => ∃ (i : Nat) (os : List UInt8), i ≤ L ∧ vi = .int .i64 (i : Int) ∧ Hid (os.length = L ∧ ∀ p, p < i → os.getD p 0 = B3.getD (L - 1 - p) 0) ∧
          Hid (wr2.ownsRow wo.heap.size 5 1 (.slice (some ⟨wo.heap.size, 0, none⟩) L L) L (os.map bV)) ∧
          Hid (wr2.ownsRow (W1.heap.size + 1) 5 1 (.slice (some ⟨gb, 0, none⟩) L cb) L (B3.map bV)) ∧ Hid (Ext wo wr2))
         (fun vi _ => L - (intOf vi).toNat)
        case atStart => exact ⟨0, List.replicate L 0, Nat.zero_le _, rfl, ⟨by simp, fun p hp => absurd hp (Nat.not_lt_zero _)⟩, ho1.out, own_ext hownb.out hext1.out, hext1.out⟩
        case round =>
         obtain ⟨i, os, hi, rfl, hos, ho, hb, hx⟩ := hrel
         by_cases hlt : i < L
         ·obtain ⟨y, hy⟩ : ∃ y : UInt8, Hid (B3.getD (L - 1 - i) 0 = y) := ⟨_, rfl⟩
          obtain ⟨hc1, hf1⟩ := ownb_at hb.out (L - 1 - i) (by omega)
          rw [hy.out] at hc1
          obtain ⟨hc2, hf2⟩ := ownb_at ho.out i hlt
          go_wp2
          case roundEnd =>
           refine ⟨⟨i + 1, os.set i y, by omega, by simp, ⟨by rw [List.length_set]; exact hos.out.1, fun p hp => ?_⟩, ownb_set ho.out i y, own_far hb.out _ _ (by simp [Value.ownBlock]; omega), jS hx.out (Nat.le_refl _) _⟩, ?_⟩
           ·by_cases e : p = i
            ·subst e
             rw [List.getD_eq_getElem?_getD, List.getElem?_set_self (by rw [hos.out.1]; exact hlt), hy.out]; rfl
            ·rw [List.getD_eq_getElem?_getD, List.getElem?_set_ne (by omega), ← List.getD_eq_getElem?_getD]
             exact hos.out.2 p (by omega)
           ·simp [intOf]; omega
         ·obtain rfl : i = L := by omega
          have hfin : os = tellL v least := by
           rw [← HF.out]
           refine List.ext_getElem (by rw [List.length_reverse, hlen.out]; exact hos.out.1) fun p h1 h2 => ?_
           have h3 := hos.out.2 p (by rw [← hos.out.1]; exact h1)
           have h4 : p < B3.length := by rw [hlen.out, ← hos.out.1]; exact h1
           rw [List.getD_eq_getElem?_getD, List.getD_eq_getElem?_getD, List.getElem?_eq_getElem h1, List.getElem?_eq_getElem (by have := hlen.out; omega)] at h3
           rw [List.getElem_reverse]
           have e : B3.length - 1 - p = i - 1 - p := by rw [hlen.out]
           simp only [e]
           exact h3
          have HR : Hid (wr.ownsRow w.heap.size 5 1 (.slice (some ⟨wo.heap.size, 0, none⟩) i i) (tellL v least).length ((tellL v least).map bV)) := Lib.hid (by
           rw [← hfin, hos.out.1]
           exact own_base ho.out (jT hext.out hE.out).size)
          clear hfin hlt
          go_wp2
          refine bodyPost_ret (v := .slice (some ⟨wo.heap.size, 0, none⟩) i i) ?h rfl ⟨_, rfl, HR, jT hext.out (jT hE.out hx.out)⟩
          case h => simp [results, Tryz.results172, go_sem]
end Go.Proofs.YtfdmhefjmnlllaaGreatDoor
end
section
/- Words of the library's: numbers are told in tens. -/
namespace Go.Proofs.YtfdmhefjmnlllaaGreatDoor
open Go.RowKit
attribute [local go_sem] bs_size bs_extract bs_get bs_append bs_toList const_get
attribute [local go_sem] sz2 sz3 sz4 sz5 sz6 sz7 sz8
set_option maxHeartbeats 8000000
set_option maxRecDepth 100000
theorem head_app {a b : List UInt8} (h : a ≠ []) : (a ++ b).head? = a.head? := by
 cases a with
 | nil => exact absurd rfl h
 | cons x y => rfl
theorem digs_lead (n : Nat) : lead (digs n) := by
 intro x hx
 induction n using Nat.strongRecOn with
 | _ n ih =>
  by_cases h0 : n = 0
  ·subst h0; rw [digs_zero] at hx; cases hx
  ·rw [digs_pos h0] at hx
   by_cases h1 : n / 10 = 0
   ·rw [h1, digs_zero] at hx
    simp at hx
    subst hx
    intro e
    have := congrArg UInt8.toNat e
    simp at this
    omega
   ·have hne : digs (n / 10) ≠ [] := by rw [digs_pos h1]; simp
    rw [head_app hne] at hx
    exact ih (n / 10) (by omega) hx
theorem digs_split {q r k : Nat} (hq : 0 < q) (hr : r < 10 ^ k) : digs (q * 10 ^ k + r) = digs q ++ (List.replicate (k - (digs r).length) 48 ++ digs r) := by
 have hl := digs_len hr
 have e : q * 10 ^ k + r = dval (digs q ++ (List.replicate (k - (digs r).length) 48 ++ digs r)) := by
  rw [dval_append, dval_append, dval_noughts, dval_digs, dval_digs, List.length_append, List.length_replicate, Nat.sub_add_cancel hl]
  omega
 rw [e]
 refine digs_dval ?_ ?_
 ·have h1 := digs_digs q
  have h2 := digs_digs r
  have h3 := digs_noughts (k - (digs r).length)
  unfold digsB at *
  rw [List.all_append, List.all_append, h1, h2, h3]; rfl
 ·intro x hx
  have hne : digs q ≠ [] := by rw [digs_pos (by omega)]; simp
  rw [head_app hne] at hx
  exact digs_lead q x hx
theorem tell_split {v k : Nat} {least : Int} (hq : 0 < v / 10 ^ k) : tellL v least = tellL (v / 10 ^ k) (least - k) ++ tellL (v % 10 ^ k) k := by
 have hr : v % 10 ^ k < 10 ^ k := Nat.mod_lt _ (Nat.pow_pos (by decide))
 have h1 := digs_split hq hr
 have e : v / 10 ^ k * 10 ^ k + v % 10 ^ k = v := by rw [Nat.mul_comm]; exact Nat.div_add_mod v (10 ^ k)
 rw [e] at h1
 have hl := digs_len hr
 unfold tellL
 have h2 : ((k : Int) - (digs (v % 10 ^ k)).length).toNat = k - (digs (v % 10 ^ k)).length := by omega
 rw [h2, List.append_assoc, ← h1]
 congr 2
 rw [h1, List.length_append, List.length_append, List.length_replicate]
 omega
theorem words_split {v n k : Nat} (hv : (lim v).length = n) (hn : 40 < n) (hk : k = 8 * (n / 2)) : 0 < v / 10 ^ k ∧ (lim (v / 10 ^ k)).length ≤ n - 1 ∧ (lim (v % 10 ^ k)).length ≤ n - 1 ∧ (lim (10 ^ k)).length ≤ n := by
 have h0 : v ≠ 0 := by intro e; subst e; rw [lim_zero] at hv; simp at hv; omega
 have h1 := (lim_len h0).1
 rw [hv] at h1
 have h2 : 10 ^ k ≤ Bs ^ (n / 2) := by
  rw [hk, Nat.pow_mul]
  exact Nat.pow_le_pow_left (by decide) _
 have h3 : Bs ^ (n / 2) ≤ Bs ^ (n - 1) := Nat.pow_le_pow_right (by decide) (by omega)
 have h4 : 0 < 10 ^ k := Nat.pow_pos (by decide)
 refine ⟨Nat.div_pos (by omega) h4, ?_, ?_, ?_⟩
 ·have h5 : v / 10 ^ k ≤ v / Bs ^ 1 := by
   refine Nat.div_le_div_left ?_ (by decide)
   rw [hk, Nat.pow_mul]
   refine Nat.le_trans (show Bs ^ 1 ≤ (10 ^ 8) ^ 2 by decide) (Nat.pow_le_pow_right (by decide) (by omega))
  have h6 := lim_mono h5
  rw [len_div hv] at h6
  exact h6
 ·exact lim_le (Nat.lt_of_lt_of_le (Nat.mod_lt _ h4) (Nat.le_trans h2 h3))
 ·exact Nat.le_trans (lim_mono h2) (lim_le (Nat.pow_lt_pow_right (by decide) (by omega)))
theorem push_u8s {ops : Array Oper} {rest : List Oper} {o : Oper} {a : Act} {Q : Exit → Act → World → Prop} {w : World} (hgd : o.guard = none) (s x : Operand)
  (ho : o.op = .call { callee := .builtin .append, args := #[s, x], argTypes := #[51, 51] })
  {W : World} (hW : Ext W w) {base : Nat} (hbase : W.heap.size ≤ base) (hsz0 : base ≤ w.heap.size) {v : Value} {n : Nat} {xs : List UInt8} (hown : w.ownsRow base 5 1 v n (xs.map bV)) (hs : a.eval s = v)
  {b2 : Nat} {v2 : Value} {m : Nat} {ys : List UInt8} (h2 : w.ownsRow b2 5 1 v2 m (ys.map bV)) (hx : a.eval x = v2) (hm : 0 < m) (hn : n + m ≤ 1000000000)
  (h : ∀ v' w', Ext W w' → Hid (w'.ownsRow base 5 1 v' (n + m) ((xs ++ ys).map bV)) → wpList Tryz.prog ops Q rest (a.put o.dst v') w') : wpList Tryz.prog ops Q (o :: rest) a w := by
 obtain ⟨i, hi, hz, hsz, hby⟩ := info_parts u8_info
 rcases own_form h2 with ⟨_, h0⟩ | ⟨g, c, rfl, hc1, hc2, hg1, hg2⟩
 ·omega
 have hyl : ys.length = m := by have := h2.1; simpa using this
 refine wpList_append_own _ hgd s x _ ho base 5 i _ 1 1 u8_under hi hz hsz hby rfl (by decide) v n _ hs hown ⟨g, 0, none⟩ m c (ys.map bV) hx (by simpa using hyl) ?_ ?_ ?_ ?_ hsz0 ?_
 ·intro j u hj
  have hj' : j < m := by
   have := (List.getElem?_eq_some_iff.1 hj).1
   simp at this; omega
  have h3 := (ownb_at h2 j hj').1
  have e : Addr.add ⟨g, 0, none⟩ j = ⟨g, j, none⟩ := by unfold Addr.add; split <;> simp_all
  rw [e, h3]
  rw [List.getElem?_map] at hj
  rw [List.getD_eq_getElem?_getD]
  cases hq : ys[j]? with
  | none => rw [hq] at hj; cases hj
  | some z => rw [hq] at hj; simp at hj; subst hj; rfl
 ·intro u hu
  obtain ⟨z, _, rfl⟩ := List.mem_map.1 hu
  rfl
 ·unfold maxLen; omega
 ·omega
 ·intro v' w' ho' hg _
  refine h v' w' (ext_grown hW hown hbase hg) ?_
  show World.ownsRow _ _ _ _ _ _ _
  simpa using ho'
attribute [local irreducible] Calls
abbrev TellPost (w : World) (l : List UInt8) : Ending → World → Prop := fun e w' => ∃ vv, e = .returned vv ∧ Hid (w'.ownsRow w.heap.size 5 1 vv l.length (l.map bV)) ∧ Ext w w'
theorem bw_tell : ∀ (N v : Nat) (least : Int) (A : Option Addr) (n c : Nat), n = N → n ≤ 20000 → -9000000 + 80000 * (n : Int) - 1600000000 ≤ least → least ≤ 10000000 → ∀ w, Rd w A n c (lim v) →
  Calls Tryz.prog 172 #[.slice A n c, .int .i64 10, .int .i64 least] w (TellPost w (tellL v least)) := by
 intro N
 induction N using Nat.strongRecOn with
 | _ N ih =>
  intro v least A n c hnN hn hl1 hl2 w hA
  by_cases hs : n ≤ 40
  ·exact tell_small v least A n c hs ⟨by omega, by omega⟩ w hA
  ·obtain ⟨k, hk⟩ : ∃ k, k = 8 * (n / 2) := ⟨_, rfl⟩
   obtain ⟨s1, s2, s3, s4⟩ := words_split hA.len (by omega) hk
   have HA := Lib.hid hA
   have hk0 : 0 < k := by omega
   have hk4 : k ≤ 4 * n := by omega
   have kP : ∀ w', Calls Tryz.prog 152 #[.int .i64 10, .int .i64 (k : Int)] w' (WPost w' (10 ^ k)) := fun w' => bw_power 10 k (by decide) (by decide) (by omega) (by omega) w'
   have kD : ∀ (B : Option Addr) (m d : Nat) (w' : World), Ext w w' → Rd w' B m d (lim (10 ^ k)) → Calls Tryz.prog 162 #[.slice A n c, .slice B m d] w' (QPost w' (v / 10 ^ k) (v % 10 ^ k)) := fun B m d w' he h2 =>
    bw_div A B n c m d v (10 ^ k) (Nat.ne_of_gt (Nat.pow_pos (by decide))) (by omega) w' (HA.out.ext he) h2
   have kH : ∀ (B : Option Addr) (m d : Nat) (w' : World), Rd w' B m d (lim (v / 10 ^ k)) → Calls Tryz.prog 172 #[.slice B m d, .int .i64 10, .int .i64 (least - (k : Int))] w' (TellPost w' (tellL (v / 10 ^ k) (least - k))) := fun B m d w' h2 => by
    have h3 := h2.len
    exact ih m (by omega) _ _ B m d rfl (by omega) (by omega) (by omega) w' h2
   have kL : ∀ (B : Option Addr) (m d : Nat) (w' : World), Rd w' B m d (lim (v % 10 ^ k)) → Calls Tryz.prog 172 #[.slice B m d, .int .i64 10, .int .i64 (k : Int)] w' (TellPost w' (tellL (v % 10 ^ k) k)) := fun B m d w' h2 => by
    have h3 := h2.len
    exact ih m (by omega) _ _ B m d rfl (by omega) (by omega) (by omega) w' h2
   have hT := tell_split (v := v) (k := k) (least := least) s1
   have hll : (tellL (v % 10 ^ k) k).length = k := by
    unfold tellL
    have := digs_len (Nat.mod_lt v (show 0 < 10 ^ k from Nat.pow_pos (by decide)))
    rw [List.length_append, List.length_replicate]
    omega
   have hlh : (tellL (v / 10 ^ k) (least - k)).length ≤ 20000000 := by
    have h3 : (digs (v / 10 ^ k)).length ≤ 32 * n := digs_lim' (k := n) (by omega)
    unfold tellL
    rw [List.length_append, List.length_replicate]
    omega
   have HK := Lib.hid (And.intro kP (And.intro kD (And.intro kH kL)))
   have HT := Lib.hid (And.intro hT hll)
   have hcap := hA.cap
   have hmx := hA.mx
   have hdv : wrap64 (((n : Int) / 2 * 32).tdiv (Lib.bitLen 10 : Nat)) = (k : Int) := by
    rw [show Lib.bitLen 10 = 4 from by kernel_rfl, Int.tdiv_eq_ediv_of_nonneg (by omega)]
    unfold wrap64
    omega
   have hbig : (40 : Int) < (n : Int) := by omega
   have HKE := Lib.hid hk
   have hlo : -2000000000 ≤ least := by omega
   have hlu : least ≤ 10000000 := hl2
   clear hA kP kD kH kL hT hll s1 s2 s3 s4 ih hnN hs hk hl1 hl2
   generalize v / 10 ^ k = q at *
   generalize v % 10 ^ k = r at *
   generalize 10 ^ k = p at *
   go_enter Tryz.func172, Tryz.ntmps172
   go_wp2_with (first
    | (go_at_call 67; (with_reducible refine (Tryz.bits_Len32 10 _ (by omega) (by omega)).mono ?_); rintro e w0 ⟨rfl, rfl⟩)
    | (go_at_call 152; (with_reducible refine (HK.out.1 _).mono ?_); rintro e w1 ⟨A1, n1, c1, rfl, hR1, xb1⟩; obtain ⟨xc1, xf1, xl1, xz1⟩ := jU xb1; (try simp at xz1))
    | (go_at_call 162; (with_reducible refine (HK.out.2.1 _ _ _ _ xb1 hR1.out.1).mono ?_); rintro e w2 ⟨A2, n2, c2, B2, m2, d2, rfl, hR2, hS2, xb2⟩; obtain ⟨xc2, xf2, xl2, xz2⟩ := jU xb2; (try simp at xz2))
    | (go_at_call 172; (with_reducible refine (HK.out.2.2.1 _ _ _ _ hR2.out.1).mono ?_); rintro e w3 ⟨v3, rfl, hR3, xb3⟩; obtain ⟨xc3, xf3, xl3, xz3⟩ := jU xb3; (try simp at xz3))
    | (go_at_call 172; (with_reducible refine (HK.out.2.2.2 _ _ _ _ (hS2.out.1.ext xb3)).mono ?_); rintro e w4 ⟨v4, rfl, hR4, xb4⟩; obtain ⟨xc4, xf4, xl4, xz4⟩ := jU xb4; (try simp at xz4))
    | (at_builtin; refine push_u8s rfl _ _ rfl (jT xb1 (jT xb2 (jT xb3 xb4))) (jT xb1 xb2).size (jT xb3 xb4).size (own_ext hR3.out xb4) rfl hR4.out rfl (by rw [HT.out.2]; exact hk0) (by have := HT.out.2; omega) ?_; intro v5 w5 hx5 ho5)
    )
   refine bodyPost_ret (v := v5) ?h rfl ⟨v5, rfl, ?_, hx5⟩
   case h => simp [results, Tryz.results172, go_sem]
   show World.ownsRow _ _ _ _ _ _ _
   have h6 := own_base ho5.out (jT xb1 xb2).size
   rw [HT.out.1, List.length_append]
   exact h6
end Go.Proofs.YtfdmhefjmnlllaaGreatDoor
end
section
/- Whole numbers of the library's: their texts. -/
namespace Go.Proofs.YtfdmhefjmnlllaaGreatDoor
open Go.RowKit
attribute [local go_sem] bs_size bs_extract bs_get bs_append bs_toList const_get
attribute [local go_sem] sz2 sz3 sz4 sz5 sz6 sz7 sz8
set_option maxHeartbeats 4000000
set_option maxRecDepth 100000
theorem tell_one (v : Nat) : tellL v 1 = dtext v := by
 unfold tellL dtext
 split
 ·rename_i h; subst h; rw [digs_zero]; rfl
 ·rename_i h
  have : 0 < (digs v).length := List.length_pos_iff.2 (by rw [digs_pos h]; simp)
  have e : ((1 : Int) - (digs v).length).toNat = 0 := by omega
  rw [e]; rfl
def itext (z : Int) : List UInt8 := (if z < 0 then [45] else []) ++ dtext z.natAbs
attribute [local irreducible] Calls
theorem bi_Text (b : Nat) (z : Int) (A : Option Addr) (n c : Nat) (hn : n ≤ 19000) (w : World) (hx : IntIs w b 0 z A n c) :
  Calls Tryz.prog 135 #[.pointer (some ⟨b, 0, none⟩), .int .i64 10] w fun e w' => e = .returned (.string (bs (itext z))) ∧ Ext w w' := by
 have HX := Lib.hid hx
 have lx := hx.room.lt
 have x0 := hx.neg
 have x1 := hx.words
 simp only [Nat.zero_add] at x1
 have kT : ∀ w', Ext w w' → Calls Tryz.prog 172 #[.slice A n c, .int .i64 10, .int .i64 1] w' fun e w'' => ∃ (g k cp : Nat), e = .returned (.slice (some ⟨g, 0, none⟩) k cp) ∧ ((convert 51 9 (.slice (some ⟨g, 0, none⟩) k cp)).run Tryz.prog w'' = .ok (.string (bs (dtext z.natAbs))) w'') ∧ Ext w' w'' := fun w' he => by
  have h1 := bw_tell n z.natAbs 1 A n c rfl (by omega) (by omega) (by decide) w' (HX.out.rd.ext he)
  rw [tell_one] at h1
  refine h1.mono ?_
  rintro e w'' ⟨vv, rfl, h2, h3⟩
  have hd0 : 0 < (dtext z.natAbs).length := by
   unfold dtext; split
   ·decide
   ·rename_i h; exact List.length_pos_iff.2 (by rw [digs_pos h]; simp)
  rcases own_form h2.out with ⟨_, h0⟩ | ⟨g, cp, rfl, _⟩
  ·omega
  ·exact ⟨g, _, cp, rfl, ownb_str h2.out 0 _ cp (by omega) (dtext z.natAbs) (by simp), h3⟩
 have hlen : (dtext z.natAbs).length ≤ 608001 := by
  unfold dtext; split
  ·decide
  ·have := digs_lim' (v := z.natAbs) (k := n) (by rw [HX.out.rd.len]; exact Nat.le_refl _); omega
 clear hx
 by_cases hz : z < 0
 ·have e : itext z = 45 :: dtext z.natAbs := by unfold itext; rw [if_pos hz]; rfl
  rw [e]
  rw [decide_eq_true hz] at x0
  clear e hz
  generalize dtext z.natAbs = l at *
  go_enter Tryz.func135, Tryz.ntmps135
  go_wp2_with (first
   | (go_at_call 172; (with_reducible refine (kT _ (jR _)).mono ?_); rintro e w1 ⟨g1, k1, c1, rfl, hR1, xb1⟩; obtain ⟨xc1, xf1, xl1, xz1⟩ := jU xb1; (try simp at xz1); obtain ⟨l1_0, r1_0, f1_0, r1_0_1, f1_0_1⟩ := kq2 xb1 (b))
   )
  have e1 : ({ data := #[45] } : ByteArray) ++ bs l = bs (45 :: l) := by show bs [45] ++ bs l = _; rw [bs_append]; rfl
  refine bodyPost_ret (v := .string (bs (45 :: l))) ?h rfl ⟨rfl, xb1⟩
  case h => simp [results, Tryz.results135, go_sem, e1]
 ·have e : itext z = dtext z.natAbs := by unfold itext; rw [if_neg hz]; rfl
  rw [e]
  rw [decide_eq_false hz] at x0
  clear e hz
  generalize dtext z.natAbs = l at *
  go_enter Tryz.func135, Tryz.ntmps135
  go_wp2_with (first
   | (go_at_call 172; (with_reducible refine (kT _ (jR _)).mono ?_); rintro e w1 ⟨g1, k1, c1, rfl, hR1, xb1⟩; obtain ⟨xc1, xf1, xl1, xz1⟩ := jU xb1; (try simp at xz1); obtain ⟨l1_0, r1_0, f1_0, r1_0_1, f1_0_1⟩ := kq2 xb1 (b))
   )
  refine bodyPost_ret (v := .string (bs l)) ?h rfl ⟨rfl, xb1⟩
  case h => simp [results, Tryz.results135, go_sem]
theorem bi_String (b : Nat) (z : Int) (A : Option Addr) (n c : Nat) (hn : n ≤ 19000) (w : World) (hx : IntIs w b 0 z A n c) :
  Calls Tryz.prog 102 #[.pointer (some ⟨b, 0, none⟩)] w fun e w' => e = .returned (.string (bs (itext z))) ∧ Ext w w' := by
 have kT := bi_Text b z A n c hn w hx
 clear hx
 generalize itext z = l at *
 go_enter Tryz.func102, Tryz.ntmps102
 go_wp2_with (first
  | (go_at_call 135; (with_reducible refine (kT).mono ?_); rintro e w1 ⟨rfl, xb1⟩; obtain ⟨xc1, xf1, xl1, xz1⟩ := jU xb1; (try simp at xz1))
  )
 refine bodyPost_ret (v := .string (bs l)) ?h rfl ⟨rfl, xb1⟩
 case h => simp [results, Tryz.results102, go_sem]
end Go.Proofs.YtfdmhefjmnlllaaGreatDoor
end
section
/- Whole numbers of the library's: out of texts. -/
namespace Go.Proofs.YtfdmhefjmnlllaaGreatDoor
open Go.RowKit
attribute [local go_sem] bs_size bs_extract bs_get bs_append bs_toList const_get
attribute [local go_sem] sz2 sz3 sz4 sz5 sz6 sz7 sz8
set_option maxHeartbeats 4000000
set_option maxRecDepth 100000
attribute [local irreducible] Calls
abbrev StrPost (w : World) (b : Nat) (z : Int) : Ending → World → Prop := fun e w' => e = .returned (.tuple #[.pointer (some ⟨b, 0, none⟩), .bool true]) ∧ ∃ (A : Option Addr) (n c : Nat), Hid (IntIs w' b 0 z A n c ∧ Fr w A) ∧ Tch b w w'
theorem bi_SetString_pos (b : Nat) (l : List UInt8) (hd : digsB l = true) (h0 : 0 < l.length) (hl : l.length ≤ 70000) (w : World) (hr : Room w b 0) :
  Calls Tryz.prog 75 #[.pointer (some ⟨b, 0, none⟩), .string (bs l), .int .i64 10] w (StrPost w b (dval l)) := by
 have HR := Lib.hid hr
 have hlt := hr.lt
 obtain ⟨hb1, hb2⟩ := digs_at hd 0 h0
 have kR : ∀ w', Calls Tryz.prog 119 #[.string (bs l), .int .i64 10] w' (ReadPost w' (dval l)) := fun w' => bw_read l.length l rfl hl hd w'
 have hsg : Hid (sgn false (dval l) = (dval l : Int)) := Lib.hid rfl
 have hne : l.length ≠ 0 := by omega
 have c1 : ((l[0].toNat : Int) == 45) = false := by rw [beq_eq_false_iff_ne]; omega
 have c2 : ((l[0].toNat : Int) == 43) = false := by rw [beq_eq_false_iff_ne]; omega
 have c3 : ¬ (l[0].toNat : Int) = 45 := by omega
 have c4 : ¬ (l[0].toNat : Int) = 43 := by omega
 clear hr hd
 generalize dval l = v at *
 go_enter Tryz.func75, Tryz.ntmps75
 go_wp2_with (first
  | (go_at_call 119; (with_reducible refine (kR _).mono ?_); rintro e w1 ⟨A1, k1, c1, rfl, hR1, xb1⟩; obtain ⟨xc1, xf1, xl1, xz1⟩ := jU xb1; (try simp at xz1))
  | (go_at_call 88; (with_reducible refine (bi_set b 0 false A1 k1 c1 v _ (HR.out.ext xb1) hR1.out.1 (hR1.out.2.off hlt k1)).mono ?_); rintro e w3 ⟨rfl, hI3, xt3⟩)
  )
 refine bodyPost_ret (v := .tuple #[.pointer (some ⟨b, 0, none⟩), .bool true]) ?h rfl ⟨rfl, A1, k1, c1, ⟨by have := hI3.out; rwa [hsg.out] at this, hR1.out.2⟩, (Tch.of xb1).trans xt3⟩
 case h => simp [results, Tryz.results75, go_sem]
theorem bi_SetString_neg (b : Nat) (l : List UInt8) (hd : digsB l = true) (h0 : 0 < l.length) (hl : l.length ≤ 70000) (w : World) (hr : Room w b 0) :
  Calls Tryz.prog 75 #[.pointer (some ⟨b, 0, none⟩), .string (bs (45 :: l)), .int .i64 10] w (StrPost w b (sgn true (dval l))) := by
 have HR := Lib.hid hr
 have hlt := hr.lt
 have kR : ∀ w', Calls Tryz.prog 119 #[.string (bs l), .int .i64 10] w' (ReadPost w' (dval l)) := fun w' => bw_read l.length l rfl hl hd w'
 have hne : l.length ≠ 0 := by omega
 clear hr hd
 generalize dval l = v at *
 go_enter Tryz.func75, Tryz.ntmps75
 go_wp2_with (first
  | (go_at_call 119; (with_reducible refine (kR _).mono ?_); rintro e w1 ⟨A1, k1, c1, rfl, hR1, xb1⟩; obtain ⟨xc1, xf1, xl1, xz1⟩ := jU xb1; (try simp at xz1))
  | (go_at_call 88; (with_reducible refine (bi_set b 0 true A1 k1 c1 v _ (HR.out.ext xb1) hR1.out.1 (hR1.out.2.off hlt k1)).mono ?_); rintro e w3 ⟨rfl, hI3, xt3⟩)
  )
 refine bodyPost_ret (v := .tuple #[.pointer (some ⟨b, 0, none⟩), .bool true]) ?h rfl ⟨rfl, A1, k1, c1, ⟨hI3.out, hR1.out.2⟩, (Tch.of xb1).trans xt3⟩
 case h => simp [results, Tryz.results75, go_sem]
end Go.Proofs.YtfdmhefjmnlllaaGreatDoor
end
section
/- Fractions of the library's: sums. -/
namespace Go.Proofs.YtfdmhefjmnlllaaGreatDoor
open Go.RowKit
attribute [local go_sem] sz2 sz3 sz4 sz5 sz6 sz7 sz8
set_option maxHeartbeats 4000000
set_option maxRecDepth 100000
attribute [local irreducible] Calls
attribute [local go_sem] D2.Oper.detAt D2.detUpon D2.relUpon
theorem br_belowO (r g : Nat) (z : Int) (A : Option Addr) (n c d : Nat) (D : Option Addr) (m e : Nat) (w : World) (hr : r < w.heap.size) (hx : RatIs w g z A n c d D m e) (ho : Off D m r) (hm : m ≤ 50000) :
  Calls Tryz.prog 90 #[.pointer (some ⟨g, 0, none⟩)] w fun e' w' => ∃ (B : Option Addr) (k l : Nat), (e' = .returned (.slice B k l) ∧ k ≤ 50000) ∧ Hid (Rd w' B k l (lim (denOf d)) ∧ Off B k r) ∧ Ext w w' := by
 by_cases hd : d = 0
 ·subst hd
  refine (br_below_new g z A n c D m e w hx).mono ?_
  rintro e' w' ⟨rfl, h1, h2⟩
  exact ⟨_, 1, 1, ⟨rfl, by decide⟩, ⟨h1.out, fun a ha _ => by cases ha; simp only; omega⟩, h2⟩
 ·refine (br_below_old g z A n c d hd D m e w hx).mono ?_
  rintro e' w' ⟨rfl, h2⟩
  exact ⟨D, m, e, ⟨rfl, hm⟩, ⟨by rw [show denOf d = d from if_neg hd]; exact hx.rd.ext h2, ho⟩, h2⟩
theorem sum_len {a b n : Nat} (ha : (lim a).length ≤ n) (hb : (lim b).length ≤ n) : (lim (a + b)).length ≤ n + 1 := by
 refine lim_le ?_
 have h1 : a < Bs ^ n := Nat.lt_of_lt_of_le (lim_lt a) (Nat.pow_le_pow_right (by decide) ha)
 have h2 : b < Bs ^ n := Nat.lt_of_lt_of_le (lim_lt b) (Nat.pow_le_pow_right (by decide) hb)
 rw [Nat.pow_succ]
 have : (2 : Nat) ≤ Bs := by decide
 generalize Bs ^ n = P at *
 generalize Bs = Q at *
 have := Nat.mul_le_mul_left P this
 omega
theorem sum_len' {X Y : Int} {n : Nat} (ha : (lim X.natAbs).length ≤ n) (hb : (lim Y.natAbs).length ≤ n) : (lim (X + Y).natAbs).length ≤ n + 1 :=
 Nat.le_trans (lim_mono (Int.natAbs_add_le X Y)) (sum_len ha hb)
theorem turned_sgn (t : Bool) (y : Int) (k : Nat) : sgn (!(decide (y < 0) == t)) (y.natAbs * k : Nat) = (if t then -y else y) * (k : Int) := by
 have h : ∀ (s : Bool) (a : Nat), sgn s (a * k : Nat) = sgn s a * (k : Int) := fun s a => by cases s <;> simp [sgn, Int.natCast_mul, Int.neg_mul]
 rw [h]
 congr 1
 cases t with
 | false =>
  rw [show (!(decide (y < 0) == false)) = decide (y < 0) by cases decide (y < 0) <;> rfl, if_neg (by decide)]; exact sgn_self y
 | true =>
  rw [show (!(decide (y < 0) == true)) = !decide (y < 0) by cases decide (y < 0) <;> rfl, if_pos rfl]; exact sgn_neg y
theorem plain_sgn (y : Int) (k : Nat) : sgn (decide (y < 0)) (y.natAbs * k : Nat) = y * (k : Int) := by
 have h : ∀ (s : Bool) (a : Nat), sgn s (a * k : Nat) = sgn s a * (k : Int) := fun s a => by cases s <;> simp [sgn, Int.natCast_mul, Int.neg_mul]
 rw [h, sgn_self]
theorem br_set_nought (g : Nat) (w : World) (hr : RatRoom w g) : Calls Tryz.prog 111 #[.pointer (some ⟨g, 0, none⟩), .bool false, .slice none 0 0, .slice (some ⟨w.heap.size, 0, none⟩) 1 1] (w.alloc (Obj.cells #[.int .u32 1] 47)) (FPost w g 0 0) := by
 have kz : Calls Tryz.prog 111 #[.pointer (some ⟨g, 0, none⟩), .bool false, .slice none 0 0, .slice (some ⟨w.heap.size, 0, none⟩) 1 1] (w.alloc (Obj.cells #[.int .u32 1] 47)) (SPost (w.alloc (Obj.cells #[.int .u32 1] 47)) g 0 0 none (some ⟨w.heap.size, 0, none⟩)) :=
  br_set_zero g false none 0 0 (some ⟨w.heap.size, 0, none⟩) 1 1 1 _ (hr.ext (jA (jR _) _)) (by rw [lim_zero]; exact Rd.nil _) (one_row w)
 refine kz.mono ?_
 rintro e w' ⟨rfl, A', n', c', D', m', k', h1, h2⟩
 have h3 := h1.out.2 w (jA (jR _) _) (Fr.none _) (fun x hx => by cases hx; exact Nat.le_refl _)
 exact ⟨rfl, A', n', c', D', m', k', ⟨h1.out.1, h3.1, h3.2⟩, (Tch.of (jA (jR _) _)).trans h2⟩
theorem add_made (x y : Int) (P Q G : Nat) (hP : G ∣ P) (hQ : G ∣ Q) : (x * ((Q / G : Nat) : Int) + y * ((P / G : Nat) : Int)) * (G : Int) = x * (Q : Int) + y * (P : Int) := by
 obtain ⟨u, rfl⟩ := hP
 obtain ⟨v, rfl⟩ := hQ
 rcases Nat.eq_zero_or_pos G with h | h
 ·subst h; simp
 ·rw [Nat.mul_div_cancel_left _ h, Nat.mul_div_cancel_left _ h, Int.natCast_mul, Int.natCast_mul]; grind
theorem br_added (t : Bool) (g bx b2 : Nat) (x y : Int) (p q : Nat) (hxp : Nat.gcd x.natAbs (denOf p) = 1) (hyq : Nat.gcd y.natAbs (denOf q) = 1) (A : Option Addr) (n c : Nat) (D : Option Addr) (m e : Nat) (B : Option Addr) (n2 c2 : Nat) (C : Option Addr) (m2 e2 : Nat)
  (hn : n ≤ 50000) (hm : m ≤ 50000) (hn2 : n2 ≤ 50000) (hm2 : m2 ≤ 50000) (w : World) (hT : Tz w) (hr : RatRoom w g) (hx : RatIs w bx x A n c p D m e) (hy : RatIs w b2 y B n2 c2 q C m2 e2) (hoD : Off D m g) (hoC : Off C m2 g) :
  Calls Tryz.prog 83 #[.pointer (some ⟨g, 0, none⟩), .pointer (some ⟨bx, 0, none⟩), .pointer (some ⟨b2, 0, none⟩), .bool t] w
   (FPost w g (canN (x * denOf q + (if t then -y else y) * denOf p) (denOf p * denOf q)) (canW (x * denOf q + (if t then -y else y) * denOf p) (denOf p * denOf q))) := by
 have HX := Lib.hid hx
 have HY := Lib.hid hy
 have HR := Lib.hid hr
 have HT := Lib.hid hT
 have lx := hx.int.room.lt
 have x0 := hx.int.neg
 have x1 := hx.int.words
 have ly := hy.int.room.lt
 have y0 := hy.int.neg
 have y1 := hy.int.words
 have hgl := hr.int.lt
 simp only [Nat.zero_add] at x1 y1
 have hlx : (lim x.natAbs).length ≤ 50000 := by rw [hx.int.rd.len]; exact hn
 have hly : (lim y.natAbs).length ≤ 50000 := by rw [hy.int.rd.len]; exact hn2
 have kX : ∀ w', Ext w w' → Calls Tryz.prog 90 #[.pointer (some ⟨bx, 0, none⟩)] w' fun e' w'' => ∃ (B : Option Addr) (k l : Nat), (e' = .returned (.slice B k l) ∧ k ≤ 50000) ∧ Hid (Rd w'' B k l (lim (denOf p)) ∧ Off B k g) ∧ Ext w' w'' := fun w' he => br_belowO g bx x A n c p D m e w' (Nat.lt_of_lt_of_le hgl he.size) (HX.out.ext he) hoD hm
 have kY : ∀ w', Ext w w' → Calls Tryz.prog 90 #[.pointer (some ⟨b2, 0, none⟩)] w' fun e' w'' => ∃ (B : Option Addr) (k l : Nat), (e' = .returned (.slice B k l) ∧ k ≤ 50000) ∧ Hid (Rd w'' B k l (lim (denOf q)) ∧ Off B k g) ∧ Ext w' w'' := fun w' he => br_belowO g b2 y B n2 c2 q C m2 e2 w' (Nat.lt_of_lt_of_le hgl he.size) (HY.out.ext he) hoC hm2
 have hlP := den_len hx hm (by decide)
 have hlQ := den_len hy hm2 (by decide)
 have hp0 := denOf_ne p
 have hq0 := denOf_ne q
 have HoD := Lib.hid hoD
 have HoC := Lib.hid hoC
 clear hx hy hr hT hoD hoC
 generalize denOf p = P at *
 generalize denOf q = Q at *
 obtain ⟨G, hG⟩ : ∃ G, G = Nat.gcd P Q := ⟨_, rfl⟩
 have hG0 : G ≠ 0 := by rw [hG]; intro h; exact hp0 (Nat.eq_zero_of_gcd_eq_zero_left h)
 have kG : ∀ P1 k1 l1 Q1 k2 l2 w', Ext w w' → k1 ≤ 50000 → k2 ≤ 50000 → Rd w' P1 k1 l1 (lim P) → Rd w' Q1 k2 l2 (lim Q) → Calls Tryz.prog 124 #[.slice P1 k1 l1, .slice Q1 k2 l2] w' (WPost w' G) := fun P1 k1 l1 Q1 k2 l2 w' he h1 h2 h3 h4 => by rw [hG]; exact bw_commonA P1 Q1 k1 l1 k2 l2 P Q (by omega) (by omega) w' (HT.out.ext he) h3 h4
 have hdp : G ∣ P := by rw [hG]; exact Nat.gcd_dvd_left P Q
 have hdq : G ∣ Q := by rw [hG]; exact Nat.gcd_dvd_right P Q
 have hyt : Nat.gcd (if t then -y else y).natAbs Q = 1 := by cases t; exact hyq; rw [if_pos rfl, Int.natAbs_neg]; exact hyq
 obtain ⟨S, hS⟩ : ∃ S, S = x * ((Q / G : Nat) : Int) + (if t then -y else y) * ((P / G : Nat) : Int) := ⟨_, rfl⟩
 obtain ⟨H, hH⟩ : ∃ H, H = Nat.gcd S.natAbs G := ⟨_, rfl⟩
 have hcan := can_add hp0 hq0 hxp hyt G hG S hS H hH
 have hSG : S * (G : Int) = x * (Q : Int) + (if t then -y else y) * (P : Int) := by rw [hS]; exact add_made _ _ _ _ _ hdp hdq
 have hsum : sgn (decide (x < 0)) (x.natAbs * (Q / G) : Nat) + sgn (!(decide (y < 0) == t)) (y.natAbs * (P / G) : Nat) = S := by rw [turned_sgn, plain_sgn, hS]
 have hl1 : (lim (x.natAbs * (Q / G))).length ≤ 100000 := Nat.le_trans (lim_mul_len _ _) (by have := lim_mono (Nat.div_le_self Q G); omega)
 have hl2 : (lim (y.natAbs * (P / G))).length ≤ 100000 := Nat.le_trans (lim_mul_len _ _) (by have := lim_mono (Nat.div_le_self P G); omega)
 have hH0 : H ≠ 0 := by rw [hH]; intro h; exact hG0 (Nat.eq_zero_of_gcd_eq_zero_right h)
 have f0 : S = 0 → canN (x * Q + (if t then -y else y) * P) (P * Q) = 0 ∧ canW (x * Q + (if t then -y else y) * P) (P * Q) = 0 := fun h => by
  rw [← hSG, h, Int.zero_mul, canN_zero, canW_zero]; exact ⟨rfl, rfl⟩
 have f1 : S ≠ 0 → canN (x * Q + (if t then -y else y) * P) (P * Q) = sgn (decide (S < 0)) (S.natAbs / H : Nat) ∧ canW (x * Q + (if t then -y else y) * P) (P * Q) = (P / G) * (Q / H) := fun h => by
  refine ⟨hcan.1.symm, ?_⟩
  rw [hcan.2]
  unfold canW
  rw [if_neg]
  rw [← hSG]; exact Int.mul_ne_zero h (by omega)
 have hlS : (lim S.natAbs).length ≤ 100001 := by rw [← hsum]; exact sum_len' (by rw [sgn_abs]; exact hl1) (by rw [sgn_abs]; exact hl2)
 generalize canN (x * Q + (if t then -y else y) * P) (P * Q) = ZN at f0 f1 ⊢
 generalize canW (x * Q + (if t then -y else y) * P) (P * Q) = ZD at f0 f1 ⊢
 have kH : ∀ S1 k1 l1 G1 k2 l2 w', Ext w w' → k1 ≤ 100001 → k2 ≤ 400000 → Rd w' S1 k1 l1 (lim S.natAbs) → Rd w' G1 k2 l2 (lim G) → Calls Tryz.prog 124 #[.slice S1 k1 l1, .slice G1 k2 l2] w' (WPost w' H) := fun S1 k1 l1 G1 k2 l2 w' he h1 h2 h3 h4 => by rw [hH]; exact bw_commonA S1 G1 k1 l1 k2 l2 _ _ (by omega) h2 w' (HT.out.ext he) h3 h4
 have hGP : (lim G).length ≤ 50000 := Nat.le_trans (lim_mono (Nat.le_of_dvd (Nat.pos_of_ne_zero hp0) hdp)) hlP
 have kM1 : ∀ Q1 k l w', Ext w w' → k ≤ 50000 → Rd w' Q1 k l (lim (Q / G)) → Calls Tryz.prog 121 #[.slice A n c, .slice Q1 k l] w' (WPost w' (x.natAbs * (Q / G))) := fun Q1 k l w' he h1 h2 => bw_mulA A Q1 n c k l _ _ (by omega) w' (HX.out.int.rd.ext he) h2
 have kM2 : ∀ Q1 k l w', Ext w w' → k ≤ 50000 → Rd w' Q1 k l (lim (P / G)) → Calls Tryz.prog 121 #[.slice B n2 c2, .slice Q1 k l] w' (WPost w' (y.natAbs * (P / G))) := fun Q1 k l w' he h1 h2 => bw_mulA B Q1 n2 c2 k l _ _ (by omega) w' (HY.out.int.rd.ext he) h2
 have kB : ∀ Q1 k l G1 k2 l2 V W w', W ≠ 0 → k ≤ 400000 → Rd w' Q1 k l (lim V) → Rd w' G1 k2 l2 (lim W) → Calls Tryz.prog 125 #[.slice Q1 k l, .slice G1 k2 l2] w' fun e w'' => ∃ (A' : Option Addr) (k' c' : Nat), e = .returned (.slice A' k' c') ∧ Hid (Rd w'' A' k' c' (lim (V / W))) ∧ Ext w' w'' := fun Q1 k l G1 k2 l2 V W w' h0 h1 h2 h3 => (bw_by Q1 G1 k l k2 l2 V W h0 h1 w' h2 h3).mono fun _ _ ⟨A', k', c', h4, h5, h6⟩ => ⟨A', k', c', h4.1, h5, h6⟩
 have kS : ∀ b s V A' n' c' wz w', Room wz b 0 → Ext wz w' → Rd w' A' n' c' (lim V) → Fr wz A' → Calls Tryz.prog 88 #[.pointer (some ⟨b, 0, none⟩), .bool s, .slice A' n' c'] w' fun e w'' => e = .returned (.pointer (some ⟨b, 0, none⟩)) ∧ Hid (IntIs w'' b 0 (sgn s V) A' n' c') ∧ Tch b w' w'' := fun b s V A' n' c' wz w' h1 h2 h3 h4 => bi_set b 0 s A' n' c' V w' (h1.ext h2) h3 (h4.off h1.lt n')
 have HP := Lib.hid (And.intro hp0 (And.intro hq0 (And.intro hxp hyq)))
 have HS := Lib.hid hS
 have HGG := Lib.hid hG
 have HHH := Lib.hid hH
 clear hcan hSG hdp hdq hyt hp0 hq0 hxp hyq hG hH hS
 go_enter Tryz.func83, Tryz.ntmps83
 go_upto_region 5 with (first
  | (go_at_call 90; (with_reducible refine (kX _ xcl).mono ?_); rintro e w1 ⟨P1, k1, l1, ⟨rfl, hk1⟩, hR1, xb1⟩; obtain ⟨xc1, xf1, xl1, xz1⟩ := jU xb1; (try simp at xz1); obtain ⟨l1_0, r1_0, f1_0, r1_0_1, f1_0_1⟩ := kq2 xb1 (bx))
  | (go_at_call 90; (with_reducible refine (kY _ xcl).mono ?_); rintro e w2 ⟨Q1, k2, l2, ⟨rfl, hk2⟩, hR2, xb2⟩; obtain ⟨xc2, xf2, xl2, xz2⟩ := jU xb2; (try simp at xz2); obtain ⟨l2_0, r2_0, f2_0, r2_0_1, f2_0_1⟩ := kq2 xb2 (bx))
  | (go_at_call 124; (with_reducible refine (kG _ _ _ _ _ _ _ xcl hk1 hk2 (hR1.out.1.ext xb2) hR2.out.1).mono ?_); rintro e w3 ⟨G1, k3, l3, rfl, hR3, xb3⟩; obtain ⟨xc3, xf3, xl3, xz3⟩ := jU xb3; (try simp at xz3); obtain ⟨l3_0, r3_0, f3_0, r3_0_1, f3_0_1⟩ := kq2 xb3 (bx))
  )
 have hE3 : Hid (Ext w w3) := by show Ext w w3; exact xcl
 have hP3 := Lib.hid (hR1.out.1.ext (jT xb2 xb3))
 have hQ3 := Lib.hid (hR2.out.1.ext xb3)
 have hk3 : k3 ≤ 50000 := by rw [← hR3.out.1.len]; exact hGP
 have hoG : Off G1 k3 g := hR3.out.2.off (ext_lt (jT xb1 xb2) g hgl) k3
 have HOG := Lib.hid (And.intro hoG (And.intro hR1.out.2 hR2.out.2))
 clear kX kY kG hoG
 go_cut [13] (fun v wn => v = .pointer (some ⟨w3.heap.size + 1, 0, none⟩) ∧ Hid (Room wn w3.heap.size 0 ∧ Room wn (w3.heap.size + 1) 0) ∧ Hid (Ext w3 wn))
 case first =>
  go_wp2
  go_meet
  case rel =>
   refine ⟨rfl, ⟨(int_room w3).ext (jA (jR _) _), ?_⟩, jA (jA (jR _) _) _⟩
   have h := int_room (w3.alloc (Obj.cells #[.bool false, .slice none 0 0] 66))
   have e : (w3.alloc (Obj.cells #[.bool false, .slice none 0 0] 66)).heap.size = w3.heap.size + 1 := by simp
   rw [e] at h; exact h
 case rest =>
 obtain ⟨wz, rfl⟩ : ∃ wz, wz = wc := ⟨wc, rfl⟩
 obtain ⟨rfl, hRo, hEz⟩ := hcut
 have hE4 := Lib.hid (jT hE3.out hEz.out)
 have x0 := (Below.cell (p := ⟨bx, 0, none⟩) hE4.out lx).trans x0
 have x1 := (Below.cell (p := ⟨bx, 1, none⟩) hE4.out lx).trans x1
 have ltbx := ext_lt hE4.out bx lx
 clear xb1 xb2 xb3
 go_upto_region 6 with (fail)
 go_cut [12] (fun v wn => ∃ (A6 : Option Addr) (n6 c6 : Nat), (v = .pointer (some ⟨w3.heap.size, 0, none⟩) ∧ n6 ≤ 100000) ∧ Hid (IntIs wn w3.heap.size 0 (sgn (decide (x < 0)) (x.natAbs * (Q / G) : Nat)) A6 n6 c6 ∧ Off A6 n6 (w3.heap.size + 1) ∧ Room wn (w3.heap.size + 1) 0) ∧ Hid (Ext w3 wn))
 case first =>
  have z0 := x0
  have z1 := x1
  refine D2.wp_drawn_tail 15 (D2.tab [(13, D2.RRow (Q / G)), (14, RWord wz.heap.size (x.natAbs * (Q / G)))]) (by kernel_rfl) (by kernel_rfl) (by kernel_rfl) (D2.tab_stays (by simp [D2.stays_row, D2.stays_word])) (fun hq hqf => ?_)
  simp only [List.take_succ_cons, List.take_zero, List.drop_succ_cons, List.drop_zero]
  have z0 := fun nq => (hq nq bx 0 ltbx).trans x0
  have z1 := fun nq => (hq nq bx 1 ltbx).trans x1
  iterate 13
   (refine D2.wpK_det rfl (fun K hK => ?_)
    go_simp
    first
     | (refine hK _ ?_; clear hK K)
     | (apply Exists.intro; refine ⟨fun x => ?_, hK _ ?_⟩; (first | exact z0 x | exact z1 x); clear hK K))
  refine D2.wpK_rel _ rfl rfl ?_ ?_
  ·rintro _ ⟨nn, rfl⟩ _
   unfold D2.Oper.relAt
   go_simp
   exact D2.rel_row (kB Q1 k2 l2 G1 k3 l3 Q G _ hG0 (Nat.le_trans hk2 (by decide)) (hQ3.out.ext (jT hEz.out nn.use)) (hR3.out.1.ext (jT hEz.out nn.use)))
  rintro v ⟨_, ⟨nn, rfl⟩, hr⟩
  obtain ⟨A4, n4, c4, rfl, hr4⟩ := hr
  have hn4 : n4 ≤ 50000 := by rw [← hr4.len]; exact Nat.le_trans (lim_mono (Nat.div_le_self _ _)) hlQ
  clear nn hr4
  refine D2.wpK_rel _ rfl rfl ?_ ?_
  ·rintro _ ⟨nn, rfl⟩ hdep
   have q1 := hdep 13 (by kernel_rfl)
   simp only [D2.Facts.put] at q1
   have q2 := D2.row_at (vals := []) q1
   unfold D2.Oper.relAt
   go_simp
   exact D2.rel_wpost (ext_size nn.use) (kM1 _ _ _ _ (jT hE4.out nn.use) hn4 q2)
  rintro v ⟨_, ⟨nn, rfl⟩, hr⟩
  obtain ⟨A5, n5, c5, rfl, hr5, -⟩ := hr
  have hn5 : n5 ≤ 100000 := by rw [← hr5.len]; exact hl1
  clear nn hr5
  refine D2.wpK_nil ?_
  intro nq hGG
  have r5 : RWord wz.heap.size (x.natAbs * (Q / G)) [] (.slice A5 n5 c5) nq.out := by have := hGG.fact 14; simp [D2.Facts.put] at this; exact this
  have hR5 := Lib.hid (rword_at r5)
  have hE := Lib.hid nq.use
  have hF5 : Fr wz A5 := hR5.out.2
  clear r5 hGG
  go_wp2_with (first
   | (go_at_call 88; (with_reducible refine (kS _ _ _ A5 n5 c5 wz _ hRo.out.1 hE.out hR5.out.1 hF5).mono ?_); rintro e w6 ⟨rfl, hI6, xt6⟩)
   )
  go_meet
  case rel =>
   exact ⟨A5, n5, c5, ⟨rfl, hn5⟩, ⟨hI6.out, hF5.off hRo.out.2.lt n5, (hRo.out.2.ext hE.out).tch xt6 (by omega)⟩, xt6.ext (jT hEz.out hE.out) (Nat.le_refl _)⟩
 case rest =>
 obtain ⟨wy, rfl⟩ : ∃ wy, wy = wc := ⟨wc, rfl⟩
 obtain ⟨A6, n6, c6, ⟨rfl, hn6⟩, hI6, hEy⟩ := hcut
 have hE5 := Lib.hid (jT hE3.out hEy.out)
 clear x0 x1
 have x0 := (Below.cell (p := ⟨b2, 0, none⟩) hE5.out ly).trans y0
 have x1 := (Below.cell (p := ⟨b2, 1, none⟩) hE5.out ly).trans y1
 have ltb2 := ext_lt hE5.out b2 ly
 go_upto_region 7 with (fail)
 go_cut [12] (fun v wn => ∃ (A7 : Option Addr) (n7 c7 : Nat), (v = .pointer (some ⟨w3.heap.size, 0, none⟩) ∧ n7 ≤ 100000) ∧ Hid (IntIs wn w3.heap.size 0 (sgn (decide (x < 0)) (x.natAbs * (Q / G) : Nat)) A6 n6 c6 ∧ IntIs wn (w3.heap.size + 1) 0 (sgn (!(decide (y < 0) == t)) (y.natAbs * (P / G) : Nat)) A7 n7 c7) ∧ Hid (Ext w3 wn))
 case first =>
  refine D2.wp_drawn_tail 17 (D2.tab [(15, D2.RRow (P / G)), (16, RWord wy.heap.size (y.natAbs * (P / G)))]) (by kernel_rfl) (by kernel_rfl) (by kernel_rfl) (D2.tab_stays (by simp [D2.stays_row, D2.stays_word])) (fun hq hqf => ?_)
  simp only [List.take_succ_cons, List.take_zero, List.drop_succ_cons, List.drop_zero]
  have z0 := fun nq => (hq nq b2 0 ltb2).trans x0
  have z1 := fun nq => (hq nq b2 1 ltb2).trans x1
  iterate 15
   (refine D2.wpK_det rfl (fun K hK => ?_)
    go_simp
    first
     | (refine hK _ ?_; clear hK K)
     | (apply Exists.intro; refine ⟨fun x => ?_, hK _ ?_⟩; (first | exact z0 x | exact z1 x); clear hK K))
  refine D2.wpK_rel _ rfl rfl ?_ ?_
  ·rintro _ ⟨nn, rfl⟩ _
   unfold D2.Oper.relAt
   go_simp
   exact D2.rel_row (kB P1 k1 l1 G1 k3 l3 P G _ hG0 (Nat.le_trans hk1 (by decide)) (hP3.out.ext (jT hEy.out nn.use)) (hR3.out.1.ext (jT hEy.out nn.use)))
  rintro v ⟨_, ⟨nn, rfl⟩, hr⟩
  obtain ⟨A4, n4, c4, rfl, hr4⟩ := hr
  have hn4 : n4 ≤ 50000 := by rw [← hr4.len]; exact Nat.le_trans (lim_mono (Nat.div_le_self _ _)) hlP
  clear nn hr4
  refine D2.wpK_rel _ rfl rfl ?_ ?_
  ·rintro _ ⟨nn, rfl⟩ hdep
   have q1 := hdep 15 (by kernel_rfl)
   simp only [D2.Facts.put] at q1
   have q2 := D2.row_at (vals := []) q1
   unfold D2.Oper.relAt
   go_simp
   exact D2.rel_wpost (ext_size nn.use) (kM2 _ _ _ _ (jT hE5.out nn.use) hn4 q2)
  rintro v ⟨_, ⟨nn, rfl⟩, hr⟩
  obtain ⟨A5, n5, c5, rfl, hr5, -⟩ := hr
  have hn5 : n5 ≤ 100000 := by rw [← hr5.len]; exact hl2
  clear nn hr5
  refine D2.wpK_nil ?_
  intro nq hGG
  have r5 : RWord wy.heap.size (y.natAbs * (P / G)) [] (.slice A5 n5 c5) nq.out := by have := hGG.fact 16; simp [D2.Facts.put] at this; exact this
  have hR5 := Lib.hid (rword_at r5)
  have hE := Lib.hid nq.use
  have hF5 : Fr wy A5 := hR5.out.2
  clear r5 hGG
  go_wp2_with (first
   | (go_at_call 88; (with_reducible refine (kS _ _ _ A5 n5 c5 wy _ hI6.out.2.2 hE.out hR5.out.1 hF5).mono ?_); rintro e w7 ⟨rfl, hI7, xt7⟩)
   )
  go_meet
  case rel =>
   exact ⟨A5, n5, c5, ⟨rfl, hn5⟩, ⟨(hI6.out.1.ext hE.out).tch xt7 (by omega) hI6.out.2.1, hI7.out⟩, xt7.ext (jT hEy.out hE.out) (by omega)⟩
 case rest =>
 obtain ⟨wx, rfl⟩ : ∃ wx, wx = wc := ⟨wc, rfl⟩
 obtain ⟨A7, n7, c7, ⟨rfl, hn7⟩, hI7, hEx⟩ := hcut
 have hE6 := Lib.hid (jT hE3.out hEx.out)
 clear x0 x1 kM1 kM2
 go_upto_region 9 with (first
  | (go_at_call 126; (with_reducible refine (bi_Add _ 0 _ 0 _ 0 _ _ A6 n6 c6 A7 n7 c7 (Nat.le_trans hn6 (by decide)) (Nat.le_trans hn7 (by decide)) _ hI7.out.1.room hI7.out.1 hI7.out.2).mono ?_); rintro e w8 ⟨rfl, A8, n8, c8, hI8, xt8⟩)
  )
 rw [hsum] at hI8
 have hE8 := Lib.hid (xt8.ext hEx.out (Nat.le_refl _))
 have hE9 := Lib.hid (jT hE3.out hE8.out)
 have s0 := hI8.out.1.neg
 have s1 := hI8.out.1.words
 have ls := hI8.out.1.room.lt
 simp only [Nat.zero_add] at s1
 have hRg := Lib.hid (HR.out.ext hE9.out)
 have hn8 : n8 ≤ 100001 := by rw [← hI8.out.1.rd.len]; exact hlS
 by_cases hS0 : S = 0
 ·obtain rfl : n8 = 0 := hI8.out.1.rd.nil_of (by rw [hS0]; rfl)
  obtain ⟨rfl, rfl⟩ := f0 hS0
  clear kH kB kS
  go_wp2_with (first
   | (go_at_call 111; (with_reducible refine (br_set_nought g _ hRg.out).mono ?_); rintro e w9 ⟨rfl, A9, n9, c9, D9, m9, k9, hI9, xt9⟩)
   )
  refine bodyPost_ret (v := .pointer (some ⟨g, 0, none⟩)) ?h rfl ⟨rfl, A9, n9, c9, D9, m9, k9, ⟨hI9.out.1, hI9.out.2.1.mono hE9.out, hI9.out.2.2.mono hE9.out⟩, (Tch.of hE9.out).trans xt9⟩
  case h => simp [results, Tryz.results83, go_sem]
 ·have hn0 : ((n8 : Int) == 0) = false := by
   rw [beq_eq_false_iff_ne]; have := hI8.out.1.rd.len; intro h; exact hS0 (Int.natAbs_eq_zero.1 (lim_nil.1 (List.eq_nil_of_length_eq_zero (by omega))))
  obtain ⟨rfl, rfl⟩ := f1 hS0
  go_upto_region 12 with (first
   | (go_at_call 124; (with_reducible refine (kH A8 n8 c8 G1 k3 l3 _ hE9.out hn8 (Nat.le_trans hk3 (by decide)) hI8.out.1.rd (hR3.out.1.ext hE8.out)).mono ?_); rintro e w9 ⟨H1, k9, l9, rfl, hR9, xb9⟩)
   )
  have hEa := Lib.hid (jT hE8.out xb9)
  have hEb := Lib.hid (jT hE3.out hEa.out)
  have s0' := (Below.cell (p := ⟨w3.heap.size, 0, none⟩) xb9 ls).trans s0
  have s1' := (Below.cell (p := ⟨w3.heap.size, 1, none⟩) xb9 ls).trans s1
  have ls' := ext_lt xb9 _ ls
  have hRh := Lib.hid (HR.out.ext hEb.out)
  have hlg := ext_lt hEb.out g hgl
  obtain ⟨v2, hv2⟩ := hRh.out.c2
  clear s0 s1 kH
  go_cut [14] (fun v wn => ∃ (A12 : Option Addr) (n12 c12 : Nat), v = .slice H1 k9 l9 ∧ Hid (IntIs wn g 0 (sgn (decide (S < 0)) (S.natAbs / H : Nat)) A12 n12 c12 ∧ Fr w A12) ∧ Hid (wn.cell? ⟨g, 2, none⟩ = some v2 ∧ wn.frozen? ⟨g, 2, none⟩ = false) ∧ Hid (Tch g w9 wn))
  case first =>
   refine D2.wp_drawn_tail 14 (D2.tab [(12, D2.RRow (S.natAbs / H)), (13, RWord w9.heap.size (S.natAbs / H))]) (by kernel_rfl) (by kernel_rfl) (by kernel_rfl) (D2.tab_stays (by simp [D2.stays_row, D2.stays_word])) (fun hq hqf => ?_)
   simp only [List.take_succ_cons, List.take_zero, List.drop_succ_cons, List.drop_zero]
   have z0 := fun nq => (hq nq w3.heap.size 0 ls').trans s0'
   have z1 := fun nq => (hq nq w3.heap.size 1 ls').trans s1'
   iterate 12
    (refine D2.wpK_det rfl (fun K hK => ?_)
     go_simp
     first
      | (refine hK _ ?_; clear hK K)
      | (apply Exists.intro; refine ⟨fun x => ?_, hK _ ?_⟩; (first | exact z0 x | exact z1 x); clear hK K))
   refine D2.wpK_rel _ rfl rfl ?_ ?_
   ·rintro _ ⟨nn, rfl⟩ _
    unfold D2.Oper.relAt
    go_simp
    exact D2.rel_row (kB A8 n8 c8 H1 k9 l9 S.natAbs H _ hH0 (Nat.le_trans hn8 (by decide)) (hI8.out.1.rd.ext (jT xb9 nn.use)) (hR9.out.1.ext nn.use))
   rintro v ⟨_, ⟨nn, rfl⟩, hr⟩
   obtain ⟨A4, n4, c4, rfl, hr4⟩ := hr
   have hn4 : n4 ≤ 1000000 := by rw [← hr4.len]; exact Nat.le_trans (lim_mono (Nat.div_le_self _ _)) (Nat.le_trans hlS (by decide))
   clear nn hr4
   refine D2.wpK_rel _ rfl rfl ?_ ?_
   ·rintro _ ⟨nn, rfl⟩ hdep
    have q1 := hdep 12 (by kernel_rfl)
    simp only [D2.Facts.put] at q1
    have q2 := D2.row_at (vals := []) q1
    unfold D2.Oper.relAt
    go_simp
    exact (rel_copied _ _ _ _ _ hn4 _ _ (ext_size nn.use) q2).mono (fun e w' ⟨u, h1, h2, h3, h4⟩ => ⟨u, h1, h2, (by obtain ⟨A, k, c, rfl, -⟩ := h4; exact D2.fresh_row), h4⟩)
   rintro v ⟨_, ⟨nn, rfl⟩, hr⟩
   obtain ⟨A5, n5, c5, rfl, -, -⟩ := hr
   clear nn
   refine D2.wpK_nil ?_
   intro nq hGG
   have r5 : RWord w9.heap.size (S.natAbs / H) [] (.slice A5 n5 c5) nq.out := by have := hGG.fact 13; simp [D2.Facts.put] at this; exact this
   have hR5 := Lib.hid (rword_at r5)
   have hE := Lib.hid nq.use
   have hF5 : Fr w9 A5 := hR5.out.2
   clear r5 hGG
   go_wp2_with (first
    | (go_at_call 88; (with_reducible refine (bi_setx g 0 _ A5 n5 c5 _ _ (hRh.out.int.ext hE.out) hR5.out.1 (hF5.off hlg n5)).mono ?_); rintro e w10 ⟨rfl, hI10, xt10, hq10⟩)
    )
   go_meet
   case rel =>
    exact ⟨A5, n5, c5, rfl, ⟨hI10.out, hF5.mono hEb.out⟩, ⟨((hq10.out 2 (by omega) (by omega)).1.trans (Below.cell (p := ⟨g, 2, none⟩) hE.out hlg)).trans hv2, ((hq10.out 2 (by omega) (by omega)).2.trans (Below.frozen (p := ⟨g, 2, none⟩) hE.out hlg)).trans hRh.out.f2⟩, (Tch.of hE.out).trans xt10⟩
  case rest =>
  obtain ⟨wv, rfl⟩ : ∃ wv, wv = wc := ⟨wc, rfl⟩
  obtain ⟨A12, n12, c12, rfl, hI12, hv12, xt12⟩ := hcut
  have cv := hv12.out.1
  have cf := hv12.out.2
  have lgv := hI12.out.1.room.lt
  have hP9 := Lib.hid ((hP3.out.ext hEa.out).tch xt12.out HOG.out.2.1)
  have hQ9 := Lib.hid ((hQ3.out.ext hEa.out).tch xt12.out HOG.out.2.2)
  have hG9 := Lib.hid ((hR3.out.1.ext hEa.out).tch xt12.out HOG.out.1)
  have hH9 := Lib.hid (hR9.out.1.tch xt12.out (hR9.out.2.off (ext_lt hE9.out g hgl) k9))
  clear s0' s1'
  go_wp2_with (first
   | (go_at_call 125; (with_reducible refine (bw_by P1 G1 k1 l1 k3 l3 P G hG0 (Nat.le_trans hk1 (by decide)) _ hP9.out hG9.out).mono ?_); rintro e wa ⟨Aa, na, ca, ⟨rfl, hka⟩, hRa, xba⟩)
   | (go_at_call 125; (with_reducible refine (bw_by Q1 H1 k2 l2 k9 l9 Q H hH0 (Nat.le_trans hk2 (by decide)) _ (hQ9.out.ext xba) (hH9.out.ext xba)).mono ?_); rintro e wb ⟨Ab, nb, cb, ⟨rfl, hkb⟩, hRb, xbb⟩; have hsb : na + nb ≤ 200000 := Nat.le_trans (Nat.add_le_add (Nat.le_trans hka hk1) (Nat.le_trans hkb hk2)) (by decide))
   | (go_at_call 121; (with_reducible refine (bw_mulA Aa Ab na ca nb cb _ _ hsb _ (hRa.out.ext xbb) hRb.out).mono ?_); rintro e wd ⟨Ad, nd, cd, rfl, hRd, xbd⟩; have hEd := Lib.hid (jT xba (jT xbb xbd)); have cvd := (Below.cell (p := ⟨g, 2, none⟩) hEd.out lgv).trans cv; have cfd := (Below.frozen (p := ⟨g, 2, none⟩) hEd.out lgv).trans cf; have hFd := Lib.hid (hRd.out.2.mono (jT xba xbb)))
   )
  have hFw : Fr w Ad := hFd.out.szmono (Nat.le_trans (ext_size hEb.out) xt12.out.size)
  refine bodyPost_ret (v := .pointer (some ⟨g, 0, none⟩)) ?h rfl ⟨rfl, A12, n12, c12, Ad, nd, cd, ⟨rat_made (hI12.out.1.ext hEd.out) ⟨_, cvd⟩ cfd hRd.out.1 (hFd.out.off lgv nd), hI12.out.2, hFw⟩, (((Tch.of hEb.out).trans xt12.out).trans (Tch.of hEd.out)).set 2 _⟩
  case h => simp [results, Tryz.results83, go_sem]
theorem br_Add (g bx b2 : Nat) (x y : Int) (p q : Nat) (hxp : Nat.gcd x.natAbs (denOf p) = 1) (hyq : Nat.gcd y.natAbs (denOf q) = 1) (A : Option Addr) (n c : Nat) (D : Option Addr) (m e : Nat) (B : Option Addr) (n2 c2 : Nat) (C : Option Addr) (m2 e2 : Nat)
  (hn : n ≤ 50000) (hm : m ≤ 50000) (hn2 : n2 ≤ 50000) (hm2 : m2 ≤ 50000) (w : World) (hT : Tz w) (hr : RatRoom w g) (hx : RatIs w bx x A n c p D m e) (hy : RatIs w b2 y B n2 c2 q C m2 e2) (hoD : Off D m g) (hoC : Off C m2 g) :
  Calls Tryz.prog 39 #[.pointer (some ⟨g, 0, none⟩), .pointer (some ⟨bx, 0, none⟩), .pointer (some ⟨b2, 0, none⟩)] w
   (FPost w g (canN (x * denOf q + y * denOf p) (denOf p * denOf q)) (canW (x * denOf q + y * denOf p) (denOf p * denOf q))) := by
 have k := br_added false g bx b2 x y p q hxp hyq A n c D m e B n2 c2 C m2 e2 hn hm hn2 hm2 w hT hr hx hy hoD hoC
 simp only [Bool.false_eq_true, if_false] at k
 generalize canN (x * denOf q + y * denOf p) (denOf p * denOf q) = ZN at k ⊢
 generalize canW (x * denOf q + y * denOf p) (denOf p * denOf q) = ZD at k ⊢
 clear hT hr hx hy hoD hoC hxp hyq
 go_enter Tryz.func39, Tryz.ntmps39
 go_wp2_with (first
  | (go_at_call 83; (with_reducible refine k.mono ?_); rintro e w9 ⟨rfl, A9, n9, c9, D9, m9, k9, hI9, xt9⟩)
  )
 refine bodyPost_ret (v := .pointer (some ⟨g, 0, none⟩)) ?h rfl ⟨rfl, A9, n9, c9, D9, m9, k9, hI9, xt9⟩
 case h => simp [results, Tryz.results39, go_sem]
end Go.Proofs.YtfdmhefjmnlllaaGreatDoor
end
section
/- Fractions of the library's: out of whole numbers; differences, quotients. -/
namespace Go.Proofs.YtfdmhefjmnlllaaGreatDoor
open Go.RowKit
attribute [local go_sem] sz2 sz3 sz4 sz5 sz6 sz7 sz8
set_option maxHeartbeats 4000000
set_option maxRecDepth 100000
attribute [local irreducible] Calls
section
attribute [local go_sem] Oper.detAt detUpon relUpon
theorem bi_Setx (b o bx ox : Nat) (A : Option Addr) (n c : Nat) (z : Int) (hn : n ≤ 1000000) (w : World) (hr : Room w b o) (hx : IntIs w bx ox z A n c) :
  Calls Tryz.prog 87 #[.pointer (some ⟨b, o, none⟩), .pointer (some ⟨bx, ox, none⟩)] w fun e w' => e = .returned (.pointer (some ⟨b, o, none⟩)) ∧ ∃ (A : Option Addr) (n c : Nat), Hid (IntIs w' b o z A n c ∧ Fr w A) ∧ Tch b w w' ∧ Hid (∀ p, p ≠ o → p ≠ o + 1 → w'.cell? ⟨b, p, none⟩ = w.cell? ⟨b, p, none⟩ ∧ w'.frozen? ⟨b, p, none⟩ = w.frozen? ⟨b, p, none⟩) := by
 have HX := Lib.hid hx
 have HR := Lib.hid hr
 have lx := hx.room.lt
 have x0 := hx.neg
 have x1 := hx.words
 clear hx hr
 go_enter Tryz.func87, Tryz.ntmps87
 go_wp2
 refine wp_drawn_tail 10 (tab [(9, RWord w.heap.size z.natAbs)]) (by kernel_rfl) (by kernel_rfl) (by kernel_rfl) (tab_stays (by simp [stays_word])) (fun hq hqf => ?_)
 simp only [List.take_succ_cons, List.take_zero, List.drop_succ_cons, List.drop_zero]
 have y0 := fun nq => (hq nq bx ox lx).trans x0
 have y1 := fun nq => (hq nq bx (ox + 1) lx).trans x1
 iterate 9
  (refine wpK_det rfl (fun K hK => ?_)
   go_simp
   first
    | (refine hK _ ?_; clear hK K)
    | (apply Exists.intro; refine ⟨fun x => ?_, hK _ ?_⟩; (first | exact y0 x | exact y1 x | (simp [y0, y1]; rfl)); clear hK K))
 refine wpK_rel _ rfl rfl ?_ ?_
 ·rintro _ ⟨nn, rfl⟩ _
  unfold Oper.relAt
  go_simp
  exact rel_copied _ _ _ _ _ hn _ _ (ext_size nn.use) (HX.out.rd.ext nn.use)
 rintro v ⟨_, ⟨nn, rfl⟩, hr⟩
 obtain ⟨A9, k9, c9, rfl, -, -⟩ := hr
 clear nn
 refine wpK_nil ?_
 intro nq2 hG
 have r9 : RWord w.heap.size z.natAbs [] (.slice A9 k9 c9) nq2.out := by have := hG.fact 9; simp [Facts.put] at this; exact this
 have hR9 := Lib.hid (rword_at r9)
 have hF9 : Fr w A9 := hR9.out.2
 have hO9 := hF9.off HR.out.lt k9
 clear r9 hG
 go_wp2_with (first
  | (go_at_call 88; (with_reducible refine (bi_setx b o _ A9 k9 c9 z.natAbs _ (HR.out.ext nq2.use) hR9.out.1 hO9).mono ?_); rintro e w3 ⟨rfl, hI3, xt3, hP3⟩)
  )
 refine bodyPost_ret (v := .pointer (some ⟨b, o, none⟩)) ?h rfl ⟨rfl, A9, k9, c9, ⟨by have := hI3.out; rwa [sgn_self] at this, hF9⟩, (Tch.of nq2.use).trans xt3, Lib.hid fun p h1 h2 => ⟨(hP3.out p h1 h2).1.trans (Below.cell (p := ⟨b, p, none⟩) nq2.use HR.out.lt), (hP3.out p h1 h2).2.trans (Below.frozen (p := ⟨b, p, none⟩) nq2.use HR.out.lt)⟩⟩
 case h => simp [results, Tryz.results87, go_sem]
end
section
attribute [local go_sem] D2.Oper.detAt D2.detUpon D2.relUpon
end
theorem br_Sub (g bx b2 : Nat) (x y : Int) (p q : Nat) (hxp : Nat.gcd x.natAbs (denOf p) = 1) (hyq : Nat.gcd y.natAbs (denOf q) = 1) (A : Option Addr) (n c : Nat) (D : Option Addr) (m e : Nat) (B : Option Addr) (n2 c2 : Nat) (C : Option Addr) (m2 e2 : Nat)
  (hn : n ≤ 50000) (hm : m ≤ 50000) (hn2 : n2 ≤ 50000) (hm2 : m2 ≤ 50000) (w : World) (hT : Tz w) (hr : RatRoom w g) (hx : RatIs w bx x A n c p D m e) (hy : RatIs w b2 y B n2 c2 q C m2 e2) (hoD : Off D m g) (hoC : Off C m2 g) :
  Calls Tryz.prog 37 #[.pointer (some ⟨g, 0, none⟩), .pointer (some ⟨bx, 0, none⟩), .pointer (some ⟨b2, 0, none⟩)] w
   (FPost w g (canN (x * denOf q - y * denOf p) (denOf p * denOf q)) (canW (x * denOf q - y * denOf p) (denOf p * denOf q))) := by
 have k := br_added true g bx b2 x y p q hxp hyq A n c D m e B n2 c2 C m2 e2 hn hm hn2 hm2 w hT hr hx hy hoD hoC
 simp only [if_true] at k
 rw [show x * (denOf q : Int) + -y * (denOf p : Int) = x * denOf q - y * denOf p by rw [Int.neg_mul]; rfl] at k
 generalize canN (x * denOf q - y * denOf p) (denOf p * denOf q) = ZN at k ⊢
 generalize canW (x * denOf q - y * denOf p) (denOf p * denOf q) = ZD at k ⊢
 clear hT hr hx hy hoD hoC hxp hyq
 go_enter Tryz.func37, Tryz.ntmps37
 go_wp2_with (first
  | (go_at_call 83; (with_reducible refine k.mono ?_); rintro e w9 ⟨rfl, A9, n9, c9, D9, m9, k9, hI9, xt9⟩)
  )
 refine bodyPost_ret (v := .pointer (some ⟨g, 0, none⟩)) ?h rfl ⟨rfl, A9, n9, c9, D9, m9, k9, hI9, xt9⟩
 case h => simp [results, Tryz.results37, go_sem]
theorem br_SetInt (g bx : Nat) (z : Int) (A : Option Addr) (n c : Nat) (hn : n ≤ 1000000) (w : World) (hr : RatRoom w g) (hx : IntIs w bx 0 z A n c) :
  Calls Tryz.prog 68 #[.pointer (some ⟨g, 0, none⟩), .pointer (some ⟨bx, 0, none⟩)] w (FPost w g z 0) := by
 have HR := Lib.hid hr
 have kS := bi_Setx g 0 bx 0 A n c z hn w hr.int hx
 have hlt := hr.int.lt
 obtain ⟨v2, h2⟩ := hr.c2
 have f2 := hr.f2
 clear hx hr
 go_enter Tryz.func68, Tryz.ntmps68
 go_wp2_with (first
  | (go_at_call 87; (with_reducible refine kS.mono ?_); rintro e w3 ⟨rfl, A3, n3, c3, hI3, xt3, hP3⟩; have g2 := (hP3.out 2 (by decide) (by decide)).1.trans h2; have g3 := (hP3.out 2 (by decide) (by decide)).2.trans f2; have g4 := hI3.out.1.room.lt; have HT3 := Lib.hid xt3; clear xt3)
  )
 have hM := Lib.hid (rat_made (D := none) (m := 0) (k := 0) (d := 0) hI3.out.1 ⟨_, g2⟩ g3 (by rw [lim_zero]; exact Rd.nil w3) (fun x hx => by cases hx))
 refine bodyPost_ret (v := .pointer (some ⟨g, 0, none⟩)) ?h rfl ⟨rfl, A3, n3, c3, none, 0, 0, ⟨hM.out, hI3.out.2, fun a ha => by cases ha⟩, HT3.out.set _ _⟩
 case h => simp [results, Tryz.results68, go_sem]
theorem br_SetInt64 (g : Nat) (x : Int) (h1 : -9223372036854775808 ≤ x) (h2 : x ≤ 9223372036854775807) (w : World) (hr : RatRoom w g) :
  Calls Tryz.prog 76 #[.pointer (some ⟨g, 0, none⟩), .int .i64 x] w (FPost w g x 0) := by
 have HR := Lib.hid hr
 have kS : ∀ (b : Nat) (A : Option Addr) (n c : Nat) (w' : World), Ext w w' → IntIs w' b 0 x A n c → Calls Tryz.prog 68 #[.pointer (some ⟨g, 0, none⟩), .pointer (some ⟨b, 0, none⟩)] w' (FPost w' g x 0) := fun b A n c w' he hI => by
  have h3 := hI.rd.len
  have h4 : (lim x.natAbs).length ≤ 2 := lim_le (by show x.natAbs < 4294967296 ^ 2; omega)
  exact br_SetInt g b x A n c (by omega) w' (HR.out.ext he) hI
 clear hr
 go_enter Tryz.func76, Tryz.ntmps76
 go_wp2_with (first
  | (go_at_call 70; (with_reducible refine (bi_NewInt x h1 h2 _).mono ?_); rintro e w1 ⟨p1, P1, k1, l1, rfl, hI1, hp1, xb1⟩)
  | (go_at_call 68; (with_reducible refine (kS _ _ _ _ _ xb1 hI1.out.1).mono ?_); rintro e w9 ⟨rfl, A9, n9, c9, D9, m9, k9, hI9, xt9⟩)
  )
 refine bodyPost_ret (v := .pointer (some ⟨g, 0, none⟩)) ?h rfl ⟨rfl, A9, n9, c9, D9, m9, k9, ⟨hI9.out.1, hI9.out.2.1.mono xb1, hI9.out.2.2.mono xb1⟩, (Tch.of xb1).trans xt9⟩
 case h => simp [results, Tryz.results76, go_sem]
end Go.Proofs.YtfdmhefjmnlllaaGreatDoor
end
section
/- Fractions of the library's: their texts; turned over. -/
namespace Go.Proofs.YtfdmhefjmnlllaaGreatDoor
open Go.RowKit
attribute [local go_sem] bs_size bs_extract bs_get bs_append bs_toList const_get
attribute [local go_sem] sz2 sz3 sz4 sz5 sz6 sz7 sz8
set_option maxHeartbeats 4000000
set_option maxRecDepth 100000
def rtext (z : Int) (d : Nat) : List UInt8 := if d = 1 then itext z else itext z ++ 47 :: dtext d
theorem itext_nat (d : Nat) : itext ((d : Nat) : Int) = dtext d := by
 unfold itext; rw [if_neg (by omega), Int.natAbs_natCast]; rfl
attribute [local irreducible] Calls
theorem br_IsInt (g : Nat) (z : Int) (A : Option Addr) (n c d : Nat) (D : Option Addr) (m e : Nat) (w : World) (hx : RatIs w g z A n c d D m e) :
  Calls Tryz.prog 101 #[.pointer (some ⟨g, 0, none⟩)] w fun e' w' => e' = .returned (.bool (decide (denOf d = 1))) ∧ Ext w w' := by
 have c2 := hx.c2
 have hl := hx.int.room.lt
 have hmd := hx.rd.len
 have hcap := hx.rd.cap
 have hmx := hx.rd.mx
 have HR := Lib.hid hx.rd
 clear hx
 by_cases h0 : d = 0
 ·subst h0
  rw [lim_zero] at hmd
  simp at hmd
  subst hmd
  have e1 : decide (denOf 0 = 1) = true := rfl
  rw [e1]
  clear e1
  go_enter Tryz.func101, Tryz.ntmps101
  go_wp2
  refine bodyPost_ret (v := .bool true) ?h rfl ⟨rfl, ?_⟩
  case h => simp [results, Tryz.results101, go_sem]
  exact xcl
 ·have e1 : denOf d = d := by unfold denOf; rw [if_neg h0]
  rw [e1]
  by_cases h1 : m = 1
  ·subst h1
   obtain ⟨bb, off, rfl⟩ : ∃ bb off, D = some ⟨bb, off, none⟩ := by
    rcases HR.out.shape with ⟨_, h, _⟩ | h
    ·omega
    ·exact h
   obtain ⟨y, hy, hyb, hc⟩ := HR.out.get 0 (by omega)
   have hdy : d = y := by
    have h2 : d < Bs := by have := lim_lt d; rw [hmd, Nat.pow_one] at this; exact this
    have h3 := hy.out
    rw [lim_pos h0] at h3
    rw [← h3]
    exact (Nat.mod_eq_of_lt h2).symm
   subst hdy
   rw [Nat.add_zero] at hc
   have hbl : bb < w.heap.size := World.block_lt_of_cell? w _ hc
   clear e1 hmd
   by_cases hd1 : d = 1
   ·subst hd1
    go_enter Tryz.func101, Tryz.ntmps101
    go_wp2
    refine bodyPost_ret (v := .bool true) ?h rfl ⟨rfl, ?_⟩
    case h => simp [results, Tryz.results101, go_sem]
    exact xcl
   ·rw [decide_eq_false hd1]
    have hne : ((d : Int) == 1) = false := by rw [beq_eq_false_iff_ne]; omega
    go_enter Tryz.func101, Tryz.ntmps101
    go_wp2
    refine bodyPost_ret (v := .bool false) ?h rfl ⟨rfl, ?_⟩
    case h => simp [results, Tryz.results101, go_sem]
    exact xcl
  ·have hd1 : d ≠ 1 := by
    intro e; subst e
    have : (lim 1).length = 1 := by kernel_rfl
    omega
   have hm0 : m ≠ 0 := by
    intro e; subst e
    exact h0 (lim_nil.1 (List.eq_nil_of_length_eq_zero hmd))
   rw [decide_eq_false hd1]
   have hne0 : ((m : Int) == 0) = false := by rw [beq_eq_false_iff_ne]; omega
   have hne1 : ((m : Int) == 1) = false := by rw [beq_eq_false_iff_ne]; omega
   clear e1 hmd
   go_enter Tryz.func101, Tryz.ntmps101
   go_wp2
   refine bodyPost_ret (v := .bool false) ?h rfl ⟨rfl, ?_⟩
   case h => simp [results, Tryz.results101, go_sem]
   exact xcl
theorem br_String (g : Nat) (z : Int) (A : Option Addr) (n c d : Nat) (D : Option Addr) (m e : Nat) (hn : n ≤ 18000) (hm : m ≤ 18000) (w : World) (hx : RatIs w g z A n c d D m e) :
  Calls Tryz.prog 103 #[.pointer (some ⟨g, 0, none⟩)] w fun e' w' => e' = .returned (.string (bs (itext z ++ 47 :: dtext (denOf d)))) ∧ Ext w w' := by
 have HX := Lib.hid hx
 have hl := hx.int.room.lt
 have k1 := bi_String g z A n c (by omega) w hx.int
 have k2 : ∀ w', Ext w w' → Calls Tryz.prog 43 #[.pointer (some ⟨g, 0, none⟩)] w' (NPost w' (denOf d : Nat)) := fun w' he => br_Denom g z A n c d D m e (by omega) w' (HX.out.ext he)
 have k3 : ∀ (b : Nat) (B : Option Addr) (k l : Nat) (w' : World), IntIs w' b 0 (denOf d : Nat) B k l → Calls Tryz.prog 102 #[.pointer (some ⟨b, 0, none⟩)] w' fun e' w'' => e' = .returned (.string (bs (dtext (denOf d)))) ∧ Ext w' w'' := fun b B k l w' hI => by
  have h1 := hI.rd.len
  have h2 := denOf_len hx.rd.len
  rw [Int.natAbs_natCast] at h1
  have := bi_String b (denOf d : Nat) B k l (by omega) w' hI
  rwa [itext_nat] at this
 have l1 : (itext z).length ≤ 600002 := by
  have h1 := hx.int.rd.len
  unfold itext dtext
  rw [List.length_append]
  have h2 : (digs z.natAbs).length ≤ 32 * 18000 := digs_lim' (k := 18000) (by omega)
  split <;> split <;> simp <;> omega
 have l2 : (dtext (denOf d)).length ≤ 600002 := by
  have h1 := denOf_len hx.rd.len
  unfold dtext
  have h2 : (digs (denOf d)).length ≤ 32 * 18001 := digs_lim' (k := 18001) (by omega)
  split
  ·simp
  ·omega
 clear hx
 generalize itext z = a at *
 generalize dtext (denOf d) = b at *
 go_enter Tryz.func103, Tryz.ntmps103
 go_wp2_with (first
  | (go_at_call 102; (with_reducible refine k1.mono ?_); rintro e' w1 ⟨rfl, xb1⟩)
  | (go_at_call 43; (with_reducible refine (k2 _ xb1).mono ?_); rintro e w2 ⟨b2, B2, n2, c2, rfl, hI2, hb2, xb2⟩; obtain ⟨xc2, xf2, xl2, xz2⟩ := jU xb2; (try simp at xz2))
  | (go_at_call 102; (with_reducible refine (k3 _ _ _ _ _ hI2.out.1).mono ?_); rintro e' w3 ⟨rfl, xb3⟩)
  )
 have e1 : bs a ++ ({ data := #[47] } : ByteArray) ++ bs b = bs (a ++ 47 :: b) := by
  show bs a ++ bs [47] ++ bs b = _
  rw [bs_append, bs_append, List.append_assoc]; rfl
 refine bodyPost_ret (v := .string (bs (a ++ 47 :: b))) ?h rfl ⟨rfl, jT xb1 (jT xb2 xb3)⟩
 case h => simp [results, Tryz.results103, go_sem, e1]
theorem br_RatString (g : Nat) (z : Int) (A : Option Addr) (n c d : Nat) (D : Option Addr) (m e : Nat) (hn : n ≤ 18000) (hm : m ≤ 18000) (w : World) (hx : RatIs w g z A n c d D m e) :
  Calls Tryz.prog 52 #[.pointer (some ⟨g, 0, none⟩)] w fun e' w' => e' = .returned (.string (bs (rtext z (denOf d)))) ∧ Ext w w' := by
 have HX := Lib.hid hx
 have hl := hx.int.room.lt
 have k1 := br_IsInt g z A n c d D m e w hx
 have k2 : ∀ w', Ext w w' → Calls Tryz.prog 102 #[.pointer (some ⟨g, 0, none⟩)] w' fun e' w'' => e' = .returned (.string (bs (itext z))) ∧ Ext w' w'' := fun w' he => bi_String g z A n c (by omega) w' (HX.out.ext he).int
 have k3 : ∀ w', Ext w w' → Calls Tryz.prog 103 #[.pointer (some ⟨g, 0, none⟩)] w' fun e' w'' => e' = .returned (.string (bs (itext z ++ 47 :: dtext (denOf d)))) ∧ Ext w' w'' := fun w' he => br_String g z A n c d D m e hn hm w' (HX.out.ext he)
 clear hx
 by_cases h1 : denOf d = 1
 ·rw [decide_eq_true h1] at k1
  have e1 : rtext z (denOf d) = itext z := by unfold rtext; rw [if_pos h1]
  rw [e1]
  clear h1 e1 k3
  generalize itext z = a at *
  go_enter Tryz.func52, Tryz.ntmps52
  go_wp2_with (first
   | (go_at_call 101; (with_reducible refine (k1).mono ?_); rintro e w1 ⟨rfl, xb1⟩; obtain ⟨xc1, xf1, xl1, xz1⟩ := jU xb1; (try simp at xz1))
   | (go_at_call 102; (with_reducible refine (k2 _ xb1).mono ?_); rintro e w2 ⟨rfl, xb2⟩; obtain ⟨xc2, xf2, xl2, xz2⟩ := jU xb2; (try simp at xz2))
   )
  refine bodyPost_ret (v := .string (bs a)) ?h rfl ⟨rfl, jT xb1 xb2⟩
  case h => simp [results, Tryz.results52, go_sem]
 ·rw [decide_eq_false h1] at k1
  have e1 : rtext z (denOf d) = itext z ++ 47 :: dtext (denOf d) := by unfold rtext; rw [if_neg h1]
  rw [e1]
  clear h1 e1 k2
  generalize itext z ++ 47 :: dtext (denOf d) = a at *
  go_enter Tryz.func52, Tryz.ntmps52
  go_wp2_with (first
   | (go_at_call 101; (with_reducible refine (k1).mono ?_); rintro e w1 ⟨rfl, xb1⟩; obtain ⟨xc1, xf1, xl1, xz1⟩ := jU xb1; (try simp at xz1))
   | (go_at_call 103; (with_reducible refine (k3 _ xb1).mono ?_); rintro e w2 ⟨rfl, xb2⟩; obtain ⟨xc2, xf2, xl2, xz2⟩ := jU xb2; (try simp at xz2))
   )
  refine bodyPost_ret (v := .string (bs a)) ?h rfl ⟨rfl, jT xb1 xb2⟩
  case h => simp [results, Tryz.results52, go_sem]
end Go.Proofs.YtfdmhefjmnlllaaGreatDoor
end
