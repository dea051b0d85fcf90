/- Lemmas of this proof, laid together: TwBigO, IntA, TwIntA, IntB, TwIntB, ByP, IntC, TwIntC, IntD, TwIntD, IntF, TwIntF, IntE, SlO, BigP, TwBigP. -/
import Derived.Test.YtfdmhefjmnlllaaGreatDoorMg20
import Derived.Deep.DeepCutAuto
import Derived.Deep.RegionWith
import Derived.Deep.LoopGhost
import Derived.Test.YtfdmhefjmnlllaaGreatDoorMg09
import Derived.Test.YtfdmhefjmnlllaaGreatDoorMg06
import Derived.Deep.Heap
import Derived.Test.YtfdmhefjmnlllaaGreatDoorMg13
import Derived.Maps.AppendAt
set_option linter.unusedSimpArgs false
set_option linter.unusedVariables false
section
/- (The document's library.) Words of the library's: the greatest common divisor. -/

namespace Go.Proofs.YtfdmhefjmnlllaaGreatDoor.NB
open Go.RowKit
attribute [local go_sem] sz2 sz3 sz4 sz5 sz6 sz7 sz8
set_option maxHeartbeats 4000000
set_option maxRecDepth 100000
attribute [local irreducible] Calls
theorem up_one (W : World) (za zb g : Nat) (hg : Hid (g = 2 ^ min za zb)) (h1 : za ≤ 16000000) (wx : World) (hx : Ext (W.alloc (Obj.cells #[.int .u32 1] 47)) wx) :
  Calls Tryz.prog 140 #[.slice (some ⟨W.heap.size, 0, none⟩) 1 1, .int .i64 (min (za : Int) (zb : Int))] wx (WPost wx g) := by
 have h := bw_up (some ⟨W.heap.size, 0, none⟩) 1 1 1 (min za zb) (by omega) (by omega) wx ((one_row W).ext hx)
 have e : ((min za zb : Nat) : Int) = min (za : Int) (zb : Int) := by omega
 rw [e, Nat.one_mul, ← hg.out] at h
 exact h
theorem bw_common (A B : Option Addr) (n c m d a b : Nat) (hn : n ≤ 400000) (hm : m ≤ 400000) (w : World) (hTz : Tz w) (hA : Rd w A n c (lim a)) (hB : Rd w B m d (lim b)) :
  Calls Tryz.prog 108 #[.slice A n c, .slice B m d] w (WPost w (Nat.gcd a b)) := by
 obtain ⟨g, hg⟩ : ∃ g, g = Nat.gcd a b := ⟨_, rfl⟩
 rw [← hg]
 have HA := Lib.hid hA
 have HB := Lib.hid hB
 have HT := Lib.hid hTz
 have HG := Lib.hid hg
 clear hA hB hTz hg
 go_enter Tryz.func108, Tryz.ntmps108
 go_upto_if 25 with (first
  | (go_at_call 106; (with_reducible refine (bw_cmp A _ n c m d a b _ HA.out HB.out).mono ?_); rintro e w1 ⟨rfl, xb1⟩)
  )
 go_cut [0, 1] (fun va vb wx => Two w g va vb wx)
 case first =>
  by_cases h : a < b
  ·have hc : decide (cmpN a b < 0) = true := by unfold cmpN; rw [if_pos h]; rfl
   rw [hc]
   go_wp2
   go_meet
   case rel => exact ⟨B, m, d, A, n, c, b, a, rfl, rfl, HB.out.ext xb1, HA.out.ext xb1, ⟨by omega, by rw [Nat.gcd_comm]; exact HG.out.symm⟩, xb1, hm⟩
  ·have hc : decide (cmpN a b < 0) = false := by unfold cmpN; rw [if_neg h]; split <;> rfl
   rw [hc]
   go_wp2
   go_meet
   case rel => exact ⟨A, n, c, B, m, d, a, b, rfl, rfl, HA.out.ext xb1, HB.out.ext xb1, ⟨by omega, HG.out.symm⟩, xb1, hn⟩
 case rest =>
  clear HA HB HG hm hn xb1 n c m d a b A B
  obtain ⟨A, n, c, B, m, d, a, b, rfl, rfl, HA, HB, HG, HE, hn⟩ := hcut
  have hmn : m ≤ n := by have := lim_mono HG.out.1; rwa [HA.out.len, HB.out.len] at this
  have hHT := Lib.hid (HT.out.ext HE.out)
  have hmx := HA.out.mx
  have hcx := HA.out.cap
  have hmy := HB.out.mx
  have hcy := HB.out.cap
  have hb0 : m = 0 ↔ b = 0 := by
   rw [← HB.out.len]; exact ⟨fun h => lim_nil.1 (List.eq_nil_of_length_eq_zero h), fun h => by rw [h, lim_zero]; rfl⟩
  have ha0 : n = 0 ↔ a = 0 := by
   rw [← HA.out.len]; exact ⟨fun h => lim_nil.1 (List.eq_nil_of_length_eq_zero h), fun h => by rw [h, lim_zero]; rfl⟩
  have HB0 := Lib.hid hb0
  have HA0 := Lib.hid ha0
  clear hb0 ha0
  go_upto_region 3 with (fail)
  go_cut [38] (fun v wx => ∃ bo, v = .bool bo ∧ Hid (decide (b ≠ 0 ∧ zz b + 1 = bitsOf b) = bo) ∧ Hid (Ext wc wx))
  case first =>
   by_cases h0 : m = 0
   ·have hd : decide (b ≠ 0 ∧ zz b + 1 = bitsOf b) = false := by simp [HB0.out.1 h0]
    have HD := Lib.hid hd
    clear hd
    subst h0
    go_wp2
    go_meet
    case rel => exact ⟨_, rfl, HD, jR _⟩
   ·have hm0 : 0 < m := by omega
    obtain ⟨zb, hzb⟩ : ∃ z, z = zz b := ⟨_, rfl⟩
    obtain ⟨tb, htb⟩ : ∃ z, z = bitsOf b := ⟨_, rfl⟩
    have c1 := bw_zeros B m d b (by omega) wc hHT.out HB.out
    have c2 : ∀ wx, Ext wc wx → Calls Tryz.prog 139 #[.slice B m d] wx _ := fun wx hx => bw_bitLen B m d b (by omega) wx (HB.out.ext hx)
    have hzs : zb ≤ 100000000 ∧ tb ≤ 100000000 := by
     have h1 := bits_le b
     have h2 := zz_le b
     rw [HB.out.len] at h1
     rw [hzb, htb]; omega
    have hd : decide (b ≠ 0 ∧ zz b + 1 = bitsOf b) = ((zb : Int) + 1 == (tb : Int)) := by
     rw [← hzb, ← htb]
     have : b ≠ 0 := fun h => h0 (HB0.out.2 h)
     by_cases h : zb + 1 = tb
     ·have h' : (zb : Int) + 1 = tb := by omega
      simp [this, h, h']
     ·have h' : ¬ (zb : Int) + 1 = tb := by omega
      simp [this, h, h']
    have HD := Lib.hid hd
    rw [← hzb] at c1
    rw [← htb] at c2
    clear hzb htb hd
    go_wp2_with (first
     | (go_at_call 138; (with_reducible refine c1.mono ?_); rintro e w1 ⟨rfl, xb1⟩)
     | (go_at_call 139; (with_reducible refine (c2 _ xb1).mono ?_); rintro e w2 ⟨rfl, xb2⟩)
     )
    all_goals
     go_meet
     case rel => exact ⟨_, rfl, HD, jT xb1 xb2⟩
  case rest =>
   obtain ⟨bo, rfl, hbo, hE2⟩ := hcut
   have hpow : ∀ wx, Ext wc wx → Hid (a ≠ 0 ∧ b ≠ 0 ∧ (a = 2 ^ zz a ∨ b = 2 ^ zz b) → g = 2 ^ min (zz a) (zz b)) := fun wx hx h => by
    rw [← HG.out.2]
    obtain ⟨h1, h2, h3 | h3⟩ := h
    ·rw [Nat.gcd_comm, Nat.min_comm]; conv => lhs; rw [h3]
     exact gcd_pow h2
    ·conv => lhs; rw [h3]
     exact gcd_pow h1
   have cA : ∀ wx, Ext w wx → Hid (Rd wx A n c (lim a)) → Calls Tryz.prog 138 #[.slice A n c] wx _ := fun wx hx hr => bw_zeros A n c a (by omega) wx (HT.out.ext hx) hr.out
   have cB : ∀ wx, Ext w wx → Hid (Rd wx B m d (lim b)) → Calls Tryz.prog 138 #[.slice B m d] wx _ := fun wx hx hr => bw_zeros B m d b (by omega) wx (HT.out.ext hx) hr.out
   have HE3 := Lib.hid (jT HE.out hE2.out)
   have HA3 := Lib.hid (HA.out.ext hE2.out)
   have HB3 := Lib.hid (HB.out.ext hE2.out)
   cases bo with
   | true =>
    have hh : b ≠ 0 ∧ zz b + 1 = bitsOf b := of_decide_eq_true hbo.out
    have hg : Hid (g = 2 ^ min (zz a) (zz b)) := by
     have ha : a ≠ 0 := by have := HG.out.1; omega
     exact (hpow _ (jR _)).out ⟨ha, hh.1, .inr ((zz_bits hh.1).1 hh.2)⟩
    clear hpow hh
    obtain ⟨za, hza⟩ : ∃ z, z = zz a := ⟨_, rfl⟩
    obtain ⟨zb, hzb⟩ : ∃ z, z = zz b := ⟨_, rfl⟩
    have hzs : za ≤ 16000000 ∧ zb ≤ 16000000 := by
     have h1 := bits_le b
     have h2 := zz_le b
     have h3 := bits_le a
     have h4 := zz_le a
     rw [HB.out.len] at h1
     rw [HA.out.len] at h3
     rw [hza, hzb]; omega
    obtain ⟨hzs1, hzs2⟩ := hzs
    rw [← hza] at cA hg
    rw [← hzb] at cB hg
    clear hza hzb
    go_wp2_with (first
     | (go_at_call 138; (with_reducible refine (cA _ (jA HE3.out _) (Lib.hid (HA3.out.ext (jA (jR _) _)))).mono ?_); rintro e w5 ⟨rfl, xb5⟩)
     | (go_at_call 138; (with_reducible refine (cB _ (jT (jA HE3.out _) xb5) (Lib.hid (HB3.out.ext (jT (jA (jR _) _) xb5)))).mono ?_); rintro e w6 ⟨rfl, xb6⟩)
     | (go_at_call 140; (with_reducible refine (up_one wc za zb g hg hzs1 _ (jT xb5 xb6)).mono ?_); rintro e w7 ⟨A7, k7, c7, rfl, hR7, xb7⟩)
     )
    have hz := ext_size (jT (jT (jA HE3.out _) xb5) xb6)
    refine bodyPost_ret (v := .slice A7 k7 c7) ?h rfl ⟨A7, k7, c7, rfl, ⟨hR7.out.1, fun q hq => Nat.le_trans hz (Fr.at hR7.out.2 hq)⟩, jT (jT (jT (jA HE3.out _) xb5) xb6) xb7⟩
    case h => simp [results, Tryz.results108, go_sem]
   | false =>
    clear hbo
    go_upto_region 5 with (fail)
    go_cut [61] (fun v wx => ∃ bo, v = .bool bo ∧ Hid (decide (a ≠ 0 ∧ zz a + 1 = bitsOf a ∧ b ≠ 0) = bo) ∧ Hid (Ext wc wx))
    case first =>
     clear cA cB hpow
     by_cases h0 : n = 0
     ·have hd : decide (a ≠ 0 ∧ zz a + 1 = bitsOf a ∧ b ≠ 0) = false := by simp [HA0.out.1 h0]
      have HD := Lib.hid hd
      clear hd
      subst h0
      go_wp2
      go_meet
      case rel => exact ⟨_, rfl, HD, jR _⟩
     ·have hn0 : 0 < n := by omega
      have han : a ≠ 0 := fun h => h0 (HA0.out.2 h)
      obtain ⟨zb, hzb⟩ : ∃ z, z = zz a := ⟨_, rfl⟩
      obtain ⟨tb, htb⟩ : ∃ z, z = bitsOf a := ⟨_, rfl⟩
      have c1 := bw_zeros A n c a (by omega) wc (HT.out.ext HE3.out) HA3.out
      have c2 : ∀ wx, Ext wc wx → Calls Tryz.prog 139 #[.slice A n c] wx _ := fun wx hx => bw_bitLen A n c a (by omega) wx (HA3.out.ext hx)
      have hzs : zb ≤ 100000000 ∧ tb ≤ 100000000 := by
       have h1 := bits_le a
       have h2 := zz_le a
       rw [HA.out.len] at h1
       rw [hzb, htb]; omega
      rw [← hzb] at c1
      rw [← htb] at c2
      by_cases hp : zb + 1 = tb
      ·have hd : decide (a ≠ 0 ∧ zz a + 1 = bitsOf a ∧ b ≠ 0) = decide (0 < m) := by
        rw [← hzb, ← htb]
        have hmb := HB0.out
        by_cases hm0 : m = 0
        ·simp [hm0, hmb.1 hm0]
        ·have h1 : b ≠ 0 := fun h => hm0 (hmb.2 h)
         have h2 : 0 < m := by omega
         simp [han, hp, h1]; omega
       have HD := Lib.hid hd
       have hbe : ((zb : Int) + 1 == (tb : Int)) = true := by simp; omega
       clear hd hzb htb hp
       go_wp2_with (first
        | (go_at_call 138; (with_reducible refine c1.mono ?_); rintro e w1 ⟨rfl, xb1⟩)
        | (go_at_call 139; (with_reducible refine (c2 _ xb1).mono ?_); rintro e w2 ⟨rfl, xb2⟩)
        )
       all_goals
        go_meet
        case rel => exact ⟨_, rfl, HD, jT xb1 xb2⟩
      ·have hd : decide (a ≠ 0 ∧ zz a + 1 = bitsOf a ∧ b ≠ 0) = false := by rw [← hzb, ← htb]; simp [hp]
       have HD := Lib.hid hd
       have hbe : ((zb : Int) + 1 == (tb : Int)) = false := by rw [beq_eq_false_iff_ne]; omega
       clear hd hzb htb hp
       go_wp2_with (first
        | (go_at_call 138; (with_reducible refine c1.mono ?_); rintro e w1 ⟨rfl, xb1⟩)
        | (go_at_call 139; (with_reducible refine (c2 _ xb1).mono ?_); rintro e w2 ⟨rfl, xb2⟩)
        )
       all_goals
        go_meet
        case rel => exact ⟨_, rfl, HD, jT xb1 xb2⟩
    case rest =>
     obtain ⟨bo, rfl, hbo, hE4⟩ := hcut
     have HE5 := Lib.hid (jT HE3.out hE4.out)
     have HA5 := Lib.hid (HA3.out.ext hE4.out)
     have HB5 := Lib.hid (HB3.out.ext hE4.out)
     cases bo with
     | true =>
      have hh : a ≠ 0 ∧ zz a + 1 = bitsOf a ∧ b ≠ 0 := of_decide_eq_true hbo.out
      have hg : Hid (g = 2 ^ min (zz a) (zz b)) := (hpow _ (jR _)).out ⟨hh.1, hh.2.2, .inl ((zz_bits hh.1).1 hh.2.1)⟩
      clear hpow hh
      obtain ⟨za, hza⟩ : ∃ z, z = zz a := ⟨_, rfl⟩
      obtain ⟨zb, hzb⟩ : ∃ z, z = zz b := ⟨_, rfl⟩
      have hzs : za ≤ 16000000 ∧ zb ≤ 16000000 := by
       have h1 := bits_le b
       have h2 := zz_le b
       have h3 := bits_le a
       have h4 := zz_le a
       rw [HB.out.len] at h1
       rw [HA.out.len] at h3
       rw [hza, hzb]; omega
      obtain ⟨hzs1, hzs2⟩ := hzs
      rw [← hza] at cA hg
      rw [← hzb] at cB hg
      clear hza hzb
      go_wp2_with (first
       | (go_at_call 138; (with_reducible refine (cA _ (jA HE5.out _) (Lib.hid (HA5.out.ext (jA (jR _) _)))).mono ?_); rintro e w5 ⟨rfl, xc5⟩)
       | (go_at_call 138; (with_reducible refine (cB _ (jT (jA HE5.out _) xc5) (Lib.hid (HB5.out.ext (jT (jA (jR _) _) xc5)))).mono ?_); rintro e w6 ⟨rfl, xc6⟩)
       | (go_at_call 140; (with_reducible refine (up_one wc za zb g hg hzs1 _ (jT xc5 xc6)).mono ?_); rintro e w7 ⟨A7, k7, c7, rfl, hR7, xc7⟩)
       )
      have hz := ext_size (jT (jT (jA HE5.out _) xc5) xc6)
      refine bodyPost_ret (v := .slice A7 k7 c7) ?h rfl ⟨A7, k7, c7, rfl, ⟨hR7.out.1, fun q hq => Nat.le_trans hz (Fr.at hR7.out.2 hq)⟩, jT (jT (jT (jA HE5.out _) xc5) xc6) xc7⟩
      case h => simp [results, Tryz.results108, go_sem]
     | false =>
      clear hbo hpow cA cB HB0 HA0 hHT
      go_wp2
      go_loopg [0, 1] (a + b) (fun gk va vb wr => TwoG w g gk va vb wr)
      case atStart => exact ⟨A, n, c, B, m, d, a, b, rfl, rfl, HA5, HB5, HG, HE5, hn, rfl⟩
      case round =>
       clear HA HB HA3 HB3 HA5 HB5 HG HE HE3 HE5 hE2 hE4 hmn hmx hcx hmy hcy hn
       clear A n c B m d a b
       obtain ⟨A, n, c, B, m, d, a, b, rfl, rfl, HA, HB, HG, HE, hn, hgk⟩ := hrel
       have hmn : m ≤ n := by have := lim_mono HG.out.1; rwa [HA.out.len, HB.out.len] at this
       have hmx := HA.out.mx
       have hcx := HA.out.cap
       have hmy := HB.out.mx
       have hcy := HB.out.cap
       by_cases h2 : 2 < m
       ·obtain ⟨ta, hta⟩ : ∃ t, t = bitsOf a := ⟨_, rfl⟩
        have hb2 : 18446744073709551616 ≤ b := by
         have hb0 : b ≠ 0 := by rintro rfl; have := HB.out.len; rw [lim_zero] at this; simp at this; omega
         have h1 := (lim_len hb0).1
         rw [HB.out.len] at h1
         exact Nat.le_trans (Nat.le_trans (by decide) (Nat.pow_le_pow_right (by decide) (show 2 ≤ m - 1 by omega))) h1
        have ha2 : 18446744073709551616 ≤ a := Nat.le_trans hb2 HG.out.1
        obtain ⟨-, s1, s2⟩ := bitsOf_spec (a := a) (by omega)
        rw [← hta] at s1 s2
        have hta60 : 60 < ta := by
         refine Nat.lt_of_not_le fun h => ?_
         have := Nat.lt_of_lt_of_le s2 (Nat.pow_le_pow_right (by decide) h)
         omega
        obtain ⟨z, rfl⟩ : ∃ z, ta = z + 60 := ⟨ta - 60, by omega⟩
        have hz1 : z ≤ 100000000 := by have := bits_le a; rw [HA.out.len, ← hta] at this; omega
        have hX : a / 2 ^ z < 1152921504606846976 := by
         rw [Nat.div_lt_iff_lt_mul (Nat.two_pow_pos z), Nat.mul_comm]
         rw [Nat.pow_add] at s2; exact s2
        have hYX : b / 2 ^ z ≤ a / 2 ^ z := Nat.div_le_div_right HG.out.1
        have HST := Lib.hid (show a ≠ 0 ∧ b ≠ 0 by omega)
        obtain ⟨X, hXe⟩ : ∃ X, X = a / 2 ^ z := ⟨_, rfl⟩
        obtain ⟨Y, hYe⟩ : ∃ Y, Y = b / 2 ^ z := ⟨_, rfl⟩
        rw [← hXe] at hX hYX
        rw [← hYe] at hYX
        have c1 : ∀ wx, Ext wr wx → Calls Tryz.prog 139 #[.slice A n c] wx (fun e w' => e = .returned (.int .i64 ((z : Int) + 60)) ∧ Ext wx w') := fun wx hx => by
         have := bw_bitLen A n c a (by omega) wx (HA.out.ext hx)
         rw [← hta] at this
         simpa using this
        have c2 : ∀ wx, Ext wr wx → Calls Tryz.prog 141 #[.slice A n c, .int .i64 (z : Int)] wx (fun e w' => e = .returned (.int .u64 (X : Int)) ∧ Ext wx w') := fun wx hx => by
         have := bw_topBits A n c a z (by omega) hz1 wx (HA.out.ext hx)
         rwa [← hXe, Nat.mod_eq_of_lt (by omega)] at this
        have c3 : ∀ wx, Ext wr wx → Calls Tryz.prog 141 #[.slice B m d, .int .i64 (z : Int)] wx (fun e w' => e = .returned (.int .u64 (Y : Int)) ∧ Ext wx w') := fun wx hx => by
         have := bw_topBits B m d b z (by omega) hz1 wx (HB.out.ext hx)
         rwa [← hYe, Nat.mod_eq_of_lt (by omega)] at this
        have HXE := Lib.hid hXe
        have HYE := Lib.hid hYe
        subst hgk
        clear hb2 ha2 s1 s2 hta60 hta hXe hYe
        go_wp2_with (first
         | (go_at_call 139; (with_reducible refine (c1 _ (jR _)).mono ?_); rintro e w1 ⟨rfl, xb1⟩)
         | (go_at_call 141; (with_reducible refine (c2 _ xb1).mono ?_); rintro e w2 ⟨rfl, xb2⟩)
         | (go_at_call 141; (with_reducible refine (c3 _ (jT xb1 xb2)).mono ?_); rintro e w3 ⟨rfl, xb3⟩)
         )
        go_loopg [6, 7, 8, 9, 10, 11, 12, 13, 14] Y (fun gk vx vy vu0 vu1 vu2 vv0 vv1 vv2 ve wi => Inn w A n c a B m d b X Y gk vx vy vu0 vu1 vu2 vv0 vv1 vv2 ve wi)
        case atStart => exact ⟨X, Y, 0, 1, 0, 0, 0, 1, false, rfl, rfl, rfl, rfl, rfl, rfl, rfl, rfl, rfl, rfl, Leh.start hYX, (by decide : 1 < 1152921504606846976), jT HE.out (jT xb1 (jT xb2 xb3)), HA.out.ext (jT xb1 (jT xb2 xb3)), HB.out.ext (jT xb1 (jT xb2 xb3))⟩
        case round =>
         obtain ⟨x, y, u0, u1, u2, v0, v1, v2, even, hgy, rfl, rfl, rfl, rfl, rfl, rfl, rfl, rfl, rfl, HL, HV, HEI, HAI, HBI⟩ := hrel
         clear HE HA HB c1 c2 c3 xb1 xb2 xb3
         have e1 := HL.out.hyx
         have e2 := Nat.le_trans HL.out.le (Nat.le_of_lt hX)
         have e3 := HV.out
         have e4 := HL.out.hv
         obtain ⟨e4, e5, e6⟩ := e4
         have HYP := Lib.hid (show gk = y from hgy)
         clear hgy
         go_upto_region 14 with (fail)
         go_cut [92] (fun v wi2 => ∃ bo, v = .bool bo ∧ Hid (decide (v2 ≤ y ∧ v1 + v2 ≤ x - y) = bo) ∧ Hid (Ext wr wi2))
         case first =>
          by_cases f1 : v2 ≤ y
          ·by_cases f2 : v1 + v2 ≤ x - y
           ·have F2 := Lib.hid (show decide (v2 ≤ y ∧ v1 + v2 ≤ x - y) = true from decide_eq_true ⟨f1, f2⟩)
            have f3 : (v1 : Int) + (v2 : Int) ≤ (x : Int) - (y : Int) := by omega
            clear f2
            go_wp2
            go_meet
            case rel => exact ⟨_, rfl, F2, jR _⟩
           ·have F2 := Lib.hid (show decide (v2 ≤ y ∧ v1 + v2 ≤ x - y) = false from decide_eq_false (fun h => f2 h.2))
            have f3 : decide ((v1 : Int) + (v2 : Int) ≤ (x : Int) - (y : Int)) = false := decide_eq_false (by omega)
            clear f2
            go_wp2
            go_meet
            case rel => exact ⟨_, rfl, F2, jR _⟩
          ·have F2 := Lib.hid (show decide (v2 ≤ y ∧ v1 + v2 ≤ x - y) = false from decide_eq_false (fun h => f1 h.1))
           go_wp2
           go_meet
           case rel => exact ⟨_, rfl, F2, jR _⟩
         case rest =>
          obtain ⟨bo, rfl, hbo, hEi⟩ := hcut
          cases bo with
          | true =>
           obtain ⟨f1, f2⟩ : v2 ≤ y ∧ v1 + v2 ≤ x - y := of_decide_eq_true hbo.out
           have hy0 : 0 < y := by omega
           have hstep := HL.out.step hX f1 f2
           obtain ⟨q, hq⟩ : ∃ q, q = x / y := ⟨_, rfl⟩
           obtain ⟨r, hr⟩ : ∃ r, r = x % y := ⟨_, rfl⟩
           have hxy : x = q * y + r := by rw [hq, hr, Nat.mul_comm]; exact (Nat.div_add_mod x y).symm
           have hry : r < y := by rw [hr]; exact Nat.mod_lt _ hy0
           rw [← hq, ← hr] at hstep
           have HST2 := Lib.hid hstep
           have g1 := hstep.whole
           have g2 : v1 + q * v2 ≤ y * (v1 + q * v2) := Nat.le_mul_of_pos_left _ hy0
           have g3 : u1 + q * u2 ≤ v1 + q * v2 := hstep.hv.2.2
           clear hstep
           obtain ⟨p, hp⟩ : ∃ p, p = q * y := ⟨_, rfl⟩
           obtain ⟨su, hsu⟩ : ∃ p, p = q * u2 := ⟨_, rfl⟩
           obtain ⟨sv, hsv⟩ : ∃ p, p = q * v2 := ⟨_, rfl⟩
           rw [← hsv] at g1 g2 g3 HST2
           rw [← hsu] at g3 HST2
           rw [← hp] at hxy
           have k1 : (q : Int) * (y : Int) = (p : Int) := by rw [hp]; simp
           have k2 : (q : Int) * (u2 : Int) = (su : Int) := by rw [hsu]; simp
           have k3 : (q : Int) * (v2 : Int) = (sv : Int) := by rw [hsv]; simp
           have kq : (x : Int) / (y : Int) = (q : Int) := by rw [hq]; simp
           have hqx : q ≤ x := by rw [hq]; exact Nat.div_le_self _ _
           have l1 : v1 + sv < 1152921504606846976 := by omega
           have l2 : u1 + su < 1152921504606846976 := by omega
           have HYP2 := Lib.hid (show r < gk by rw [HYP.out]; exact hry)
           have kr : (x : Int) - (p : Int) = (r : Int) := by omega
           obtain ⟨un, hun⟩ : ∃ p, p = u1 + su := ⟨_, rfl⟩
           obtain ⟨vn, hvn⟩ : ∃ p, p = v1 + sv := ⟨_, rfl⟩
           rw [← hun] at l2 HST2
           rw [← hvn] at l1 HST2
           have ku : (u1 : Int) + (su : Int) = (un : Int) := by omega
           have kv : (v1 : Int) + (sv : Int) = (vn : Int) := by omega
           clear hun hvn
           clear g1 g2 g3 hp hsu hsv hq hr HL HYP f1 f2
           have hy1 : ((y : Int) == 0) = false := by rw [beq_eq_false_iff_ne]; omega
           have HXY := Lib.hid hxy
           clear hxy
           go_wp2
           go_roundg r
           case measure => exact HYP2.out
           case rel => exact ⟨y, r, u1, u2, un, v1, v2, vn, !even, rfl, rfl, rfl, rfl, rfl, rfl, rfl, rfl, rfl, rfl, by cases even <;> exact HST2.out, l1, jT HEI.out hEi.out, HAI.out.ext hEi.out, HBI.out.ext hEi.out⟩
          | false =>
           have HEW := Lib.hid (jT HEI.out hEi.out)
           have HAW := Lib.hid (HAI.out.ext hEi.out)
           have HBW := Lib.hid (HBI.out.ext hEi.out)
           clear hbo HEI HAI HBI hEi HYP e2
           by_cases hv0 : v0 = 0
           ·subst hv0
            have hba := HG.out.1
            have hb0 := HST.out.2
            have hgg : Hid (a % b ≤ b ∧ Nat.gcd b (a % b) = g) := by
             refine ⟨Nat.le_of_lt (Nat.mod_lt a (Nat.pos_of_ne_zero hb0)), ?_⟩
             rw [← HG.out.2, Nat.gcd_comm b, ← Nat.gcd_rec, Nat.gcd_comm]
            have hgm : Hid (b + a % b < a + b) := by
             show _ < _
             have := Nat.mod_lt a (Nat.pos_of_ne_zero hb0)
             omega
            clear hba hb0
            go_wp2_with (first
             | (go_at_call 132; (with_reducible refine (bw_div A B n c m d a b HST.out.2 hn _ HAW.out HBW.out).mono ?_); rintro e w7 ⟨A2, k2, d2, B2, m2, e2, rfl, hR2, hS2, xb2⟩)
             )
            go_roundg (b + a % b)
            case measure => exact hgm.out
            case rel => exact ⟨B, m, d, B2, m2, e2, b, a % b, rfl, rfl, HBW.out.ext xb2, hS2.out.1, hgg, jT HEW.out xb2, by omega, rfl⟩
           ·have hv1 : ((v0 : Int) == 0) = false := by rw [beq_eq_false_iff_ne]; omega
            obtain ⟨a2, b2, eA, eB, q1, q2, q3, q4, q5, q6, q7⟩ := HL.out.blend hv0 HXE.out HYE.out (Nat.two_pow_pos z)
            have hgg : Hid (b2 ≤ a2 ∧ Nat.gcd a2 b2 = g) := ⟨q1, by rw [q3]; exact HG.out.2⟩
            have hgm : Hid (a2 + b2 < a + b) := by show _ < _; have := HST.out.2; omega
            have hla : (lim a2).length ≤ n := by have := lim_mono (show a2 ≤ a by omega); rwa [HAW.out.len] at this
            have HLA := Lib.hid hla
            clear q1 q2 q3 hla hv0
            cases even with
            | true =>
             have c4 : ∀ wx, Ext wc wx → Calls Tryz.prog 142 #[.slice A n c, .slice B m d, .int .i64 (u0 : Int), .int .i64 (-(v0 : Int))] wx (WPost wx a2) := fun wx hx =>
              bw_blend A B n c m d a b (u0 : Int) (-(v0 : Int)) a2 hmn (by omega) (by omega) (by omega) (by omega) (by omega) (by rw [eA]; simp; grind) wx (HAW.out.ext hx) (HBW.out.ext hx)
             have c5 : ∀ wx, Ext wc wx → Calls Tryz.prog 142 #[.slice A n c, .slice B m d, .int .i64 (-(u1 : Int)), .int .i64 (v1 : Int)] wx (WPost wx b2) := fun wx hx =>
              bw_blend A B n c m d a b (-(u1 : Int)) (v1 : Int) b2 hmn (by omega) (by omega) (by omega) (by omega) (by omega) (by rw [eB]; simp; grind) wx (HAW.out.ext hx) (HBW.out.ext hx)
             clear eA eB
             go_wp2_with (first
              | (go_at_call 142; (with_reducible refine (c4 _ (jR _)).mono ?_); rintro e w7 ⟨A2, k2, d2, rfl, hR2, xb2⟩)
              | (go_at_call 142; (with_reducible refine (c5 _ xb2).mono ?_); rintro e w8 ⟨B2, m2, e2, rfl, hS2, xb3⟩)
              )
             go_roundg (a2 + b2)
             case measure => exact hgm.out
             case rel => exact ⟨A2, k2, d2, B2, m2, e2, a2, b2, rfl, rfl, hR2.out.1.ext xb3, hS2.out.1, hgg, jT HEW.out (jT xb2 xb3), by have := HLA.out; rw [hR2.out.1.len] at this; omega, rfl⟩
            | false =>
             have c4 : ∀ wx, Ext wc wx → Calls Tryz.prog 142 #[.slice A n c, .slice B m d, .int .i64 (-(u0 : Int)), .int .i64 (v0 : Int)] wx (WPost wx a2) := fun wx hx =>
              bw_blend A B n c m d a b (-(u0 : Int)) (v0 : Int) a2 hmn (by omega) (by omega) (by omega) (by omega) (by omega) (by rw [eA]; simp; grind) wx (HAW.out.ext hx) (HBW.out.ext hx)
             have c5 : ∀ wx, Ext wc wx → Calls Tryz.prog 142 #[.slice A n c, .slice B m d, .int .i64 (u1 : Int), .int .i64 (-(v1 : Int))] wx (WPost wx b2) := fun wx hx =>
              bw_blend A B n c m d a b (u1 : Int) (-(v1 : Int)) b2 hmn (by omega) (by omega) (by omega) (by omega) (by omega) (by rw [eB]; simp; grind) wx (HAW.out.ext hx) (HBW.out.ext hx)
             clear eA eB
             go_wp2_with (first
              | (go_at_call 142; (with_reducible refine (c4 _ (jR _)).mono ?_); rintro e w7 ⟨A2, k2, d2, rfl, hR2, xb2⟩)
              | (go_at_call 142; (with_reducible refine (c5 _ xb2).mono ?_); rintro e w8 ⟨B2, m2, e2, rfl, hS2, xb3⟩)
              )
             go_roundg (a2 + b2)
             case measure => exact hgm.out
             case rel => exact ⟨A2, k2, d2, B2, m2, e2, a2, b2, rfl, rfl, hR2.out.1.ext xb3, hS2.out.1, hgg, jT HEW.out (jT xb2 xb3), by have := HLA.out; rw [hR2.out.1.len] at this; omega, rfl⟩
       ·by_cases hm0 : m = 0
        ·have hb0 : b = 0 := lim_nil.1 (List.eq_nil_of_length_eq_zero (by rw [HB.out.len]; exact hm0))
         have hga : Hid (g = a) := by
          show _ = _
          rw [← HG.out.2, hb0, Nat.gcd_zero_right]
         clear hb0
         subst hm0
         go_wp2_with (first
          | (go_at_call 92; (with_reducible refine (bw_copied A n c (lim a) (by omega) _ HA.out).mono ?_); rintro e w2 ⟨rfl, hR2, xb2⟩)
          )
         have hz := ext_size HE.out
         refine bodyPost_ret (v := .slice (some ⟨wr.heap.size, 0, none⟩) n n) ?h rfl ⟨_, n, n, rfl, ⟨by rw [hga.out]; exact hR2.out, fun q hq => by cases hq; exact hz⟩, jT HE.out xb2⟩
         case h => simp [results, Tryz.results108, go_sem]
        ·have hb0 : b ≠ 0 := fun h => hm0 (by rw [← HB.out.len, h, lim_zero]; rfl)
         have hm1 : ((m : Int) == 0) = false := by rw [beq_eq_false_iff_ne]; omega
         have hlb : (lim (a % b)).length ≤ 2 := by
          have := lim_mono (Nat.le_of_lt (Nat.mod_lt a (Nat.pos_of_ne_zero hb0)))
          rw [HB.out.len] at this; omega
         go_wp2_with (first
          | (go_at_call 132; (with_reducible refine (bw_div A B n c m d a b hb0 hn _ HA.out HB.out).mono ?_); rintro e w2 ⟨A2, k2, c2, B2, m2, d2, rfl, hR2, hS2, xb2⟩)
          | (go_at_call 143; (with_reducible refine (bw_toUint B m d b (by rw [HB.out.len]; omega) _ (HB.out.ext xb2)).mono ?_); rintro e w3 ⟨rfl, rfl⟩)
          | (go_at_call 143; (with_reducible refine (bw_toUint B2 m2 d2 (a % b) hlb _ hS2.out.1).mono ?_); rintro e w4 ⟨rfl, rfl⟩)
          )
         have hE2' := Lib.hid (jT HE.out xb2)
         have hB64 : b < 18446744073709551616 := by
          have h1 := lim_lt b
          rw [HB.out.len] at h1
          exact Nat.lt_of_lt_of_le h1 (Nat.le_trans (Nat.pow_le_pow_right (by decide) (show m ≤ 2 by omega)) (by decide))
         have hy64 : a % b < 18446744073709551616 := Nat.lt_trans (Nat.mod_lt a (Nat.pos_of_ne_zero hb0)) hB64
         have hgg : Hid (Nat.gcd b (a % b) = g) := by
          show _ = _
          rw [← HG.out.2, Nat.gcd_comm b, ← Nat.gcd_rec, Nat.gcd_comm]
         go_loopw [20, 21] (fun vx vy wr2 => ∃ x y : Nat, vx = .int .u64 (x : Int) ∧ vy = .int .u64 (y : Int) ∧ (x < 18446744073709551616 ∧ y < 18446744073709551616) ∧ Hid (Nat.gcd x y = g) ∧ Hid (Ext w wr2))
          (fun _ vy _ => (intOf vy).toNat)
         case atStart => exact ⟨b, a % b, rfl, by simp, ⟨hB64, hy64⟩, hgg.out, hE2'.out⟩
         case round =>
          obtain ⟨x, y, rfl, rfl, ⟨hx64, hy64⟩, hxy, hE5⟩ := hrel
          by_cases hy0 : y = 0
          ·subst hy0
           have hgx : g = x := by rw [← hxy.out, Nat.gcd_zero_right]
           have HGX := Lib.hid hgx
           clear hgx
           go_wp2_with (first
            | (go_at_call 137; (with_reducible refine (bw_fromUint x hx64 _).mono ?_); rintro e w7 ⟨A7, k7, c7, rfl, hR7, xb7⟩)
            )
           have hz := ext_size hE5.out
           refine bodyPost_ret (v := .slice A7 k7 c7) ?h rfl ⟨A7, k7, c7, rfl, ⟨by rw [HGX.out]; exact hR7.out.1, fun q hq => Nat.le_trans hz (Fr.at hR7.out.2 hq)⟩, jT hE5.out xb7⟩
           case h => simp [results, Tryz.results108, go_sem]
          ·have hy1 : ((y : Int) == 0) = false := by rw [beq_eq_false_iff_ne]; omega
           have hlt : x % y < y := Nat.mod_lt _ (by omega)
           go_wp2
           go_quiet (fail)
           go_wp2
           case roundEnd =>
            have hmi : (x : Int) % (y : Int) = ((x % y : Nat) : Int) := by simp
            refine ⟨⟨y, x % y, rfl, by rw [hmi], ⟨hy64, by omega⟩, ?_, jN hE5.out _⟩, ?_⟩
            ·show _ = _
             rw [← hxy.out, Nat.gcd_comm y, ← Nat.gcd_rec, Nat.gcd_comm]
            ·rw [hmi]
             show ((x % y : Nat) : Int).toNat < ((y : Nat) : Int).toNat
             rw [Int.toNat_natCast, Int.toNat_natCast]
             exact hlt
end Go.Proofs.YtfdmhefjmnlllaaGreatDoor.NB
end
section
/- Whole numbers of the library's: objects in memory, set. -/
namespace Go.Proofs.YtfdmhefjmnlllaaGreatDoor
open Go.RowKit
attribute [local go_sem] sz2 sz3 sz4 sz5 sz6 sz7 sz8
set_option maxHeartbeats 4000000
set_option maxRecDepth 100000
attribute [local irreducible] Calls
structure Tch (b : Nat) (w w' : World) : Prop where
 os : w'.os = w.os
 tape : w'.tape = w.tape
 output : w'.output = w.output
 size : w.heap.size ≤ w'.heap.size
 block : ∀ k, k < w.heap.size → k ≠ b → w'.heap[k]? = w.heap[k]?
theorem Tch.refl (b : Nat) (w : World) : Tch b w w := ⟨rfl, rfl, rfl, Nat.le_refl _, fun _ _ _ => rfl⟩
theorem Tch.trans {b : Nat} {u v w : World} (h : Tch b u v) (k : Tch b v w) : Tch b u w :=
 ⟨k.os.trans h.os, k.tape.trans h.tape, k.output.trans h.output, Nat.le_trans h.size k.size, fun i hi hb => (k.block i (Nat.lt_of_lt_of_le hi h.size) hb).trans (h.block i hi hb)⟩
theorem Tch.of {b : Nat} {w w' : World} (h : Ext w w') : Tch b w w' := ⟨h.os, h.tape, h.output, h.size, fun i hi _ => h.block i hi⟩
theorem Tch.set {b : Nat} {u w : World} (h : Tch b u w) (o : Nat) (v : Value) : Tch b u (w.setCell ⟨b, o, none⟩ v) :=
 ⟨h.os, h.tape, h.output, by simpa using h.size, fun i hi hb => (Below.heap_setCell w ⟨b, o, none⟩ v i hb).trans (h.block i hi hb)⟩
theorem Tch.ext {b : Nat} {W w w' : World} (h : Tch b w w') (hE : Ext W w) (hb : W.heap.size ≤ b) : Ext W w' :=
 ⟨h.os.trans hE.os, h.tape.trans hE.tape, h.output.trans hE.output, Nat.le_trans hE.size h.size, fun i hi => (h.block i (Nat.lt_of_lt_of_le hi hE.size) (by omega)).trans (hE.block i hi)⟩
theorem Tch.cell {b : Nat} {w w' : World} (h : Tch b w w') {p : Addr} (hp : p.block < w.heap.size) (hb : p.block ≠ b) : w'.cell? p = w.cell? p := World.cell?_of_block (w := w) (h.block p.block hp hb)
theorem Tch.frozen {b : Nat} {w w' : World} (h : Tch b w w') {p : Addr} (hp : p.block < w.heap.size) (hb : p.block ≠ b) : w'.frozen? p = w.frozen? p := World.frozen?_of_block (w := w) (h.block p.block hp hb)
def Off (A : Option Addr) (n b : Nat) : Prop := ∀ x, A = some x → n ≠ 0 → x.block ≠ b
theorem Fr.off {W : World} {A : Option Addr} (h : Fr W A) {b : Nat} (hb : b < W.heap.size) (n : Nat) : Off A n b := fun x hx _ e => by have := h x hx; omega
theorem Rd.tch {b : Nat} {w w' : World} {A : Option Addr} {n c : Nat} {xs : List Nat} (h : Rd w A n c xs) (ht : Tch b w w') (ho : Off A n b) : Rd w' A n c xs :=
 ⟨h.len, h.cap, h.mx, h.lb, h.none_, h.at_, fun g off hA i hi => by
  obtain ⟨h1, h2⟩ := h.cells g off hA i hi
  exact ⟨Nat.lt_of_lt_of_le h1 ht.size, (ht.cell (p := ⟨g, off + i, none⟩) h1 (ho ⟨g, off, none⟩ hA (by have := h.len; omega))).trans h2⟩⟩
theorem Rd.off {w : World} {A : Option Addr} {n c : Nat} {xs : List Nat} (h : Rd w A n c xs) {g : Nat} (hg : w.heap.size ≤ g) : Off A n g := fun x hx hn e => by
 have := h.at_ x hx
 obtain ⟨g', off, s⟩ := x
 simp only at this e
 subst this e
 have := (h.cells _ off hx 0 (by have := h.len; omega)).1
 omega
structure Room (w : World) (b o : Nat) : Prop where
 lt : b < w.heap.size
 c0 : ∃ v, w.cell? ⟨b, o, none⟩ = some v
 c1 : ∃ v, w.cell? ⟨b, o + 1, none⟩ = some v
 f0 : w.frozen? ⟨b, o, none⟩ = false
 f1 : w.frozen? ⟨b, o + 1, none⟩ = false
structure IntIs (w : World) (b o : Nat) (z : Int) (A : Option Addr) (n c : Nat) : Prop where
 room : Room w b o
 neg : w.cell? ⟨b, o, none⟩ = some (.bool (decide (z < 0)))
 words : w.cell? ⟨b, o + 1, none⟩ = some (.slice A n c)
 rd : Rd w A n c (lim z.natAbs)
 off : Off A n b
theorem Room.ext {w w' : World} {b o : Nat} (h : Room w b o) (he : Ext w w') : Room w' b o := by
 obtain ⟨hl, ⟨v, h0⟩, ⟨u, h1⟩, h2, h3⟩ := h
 exact ⟨Nat.lt_of_lt_of_le hl he.size, ⟨v, (Below.cell (p := ⟨b, o, none⟩) he hl).trans h0⟩, ⟨u, (Below.cell (p := ⟨b, o + 1, none⟩) he hl).trans h1⟩, (Below.frozen (p := ⟨b, o, none⟩) he hl).trans h2, (Below.frozen (p := ⟨b, o + 1, none⟩) he hl).trans h3⟩
theorem Room.tch {w w' : World} {b o g : Nat} (h : Room w b o) (he : Tch g w w') (hg : b ≠ g) : Room w' b o := by
 obtain ⟨hl, ⟨v, h0⟩, ⟨u, h1⟩, h2, h3⟩ := h
 exact ⟨Nat.lt_of_lt_of_le hl he.size, ⟨v, (he.cell (p := ⟨b, o, none⟩) hl hg).trans h0⟩, ⟨u, (he.cell (p := ⟨b, o + 1, none⟩) hl hg).trans h1⟩, (he.frozen (p := ⟨b, o, none⟩) hl hg).trans h2, (he.frozen (p := ⟨b, o + 1, none⟩) hl hg).trans h3⟩
theorem IntIs.ext {w w' : World} {b o : Nat} {z : Int} {A : Option Addr} {n c : Nat} (h : IntIs w b o z A n c) (he : Ext w w') : IntIs w' b o z A n c :=
 ⟨h.room.ext he, (Below.cell (p := ⟨b, o, none⟩) he h.room.lt).trans h.neg, (Below.cell (p := ⟨b, o + 1, none⟩) he h.room.lt).trans h.words, h.rd.ext he, h.off⟩
theorem IntIs.tch {w w' : World} {b o g : Nat} {z : Int} {A : Option Addr} {n c : Nat} (h : IntIs w b o z A n c) (he : Tch g w w') (hg : b ≠ g) (ho : Off A n g) : IntIs w' b o z A n c :=
 ⟨h.room.tch he hg, (he.cell (p := ⟨b, o, none⟩) h.room.lt hg).trans h.neg, (he.cell (p := ⟨b, o + 1, none⟩) h.room.lt hg).trans h.words, h.rd.tch he ho, h.off⟩
theorem int_made {w : World} {b o : Nat} {A : Option Addr} {k c : Nat} (hr : Room w b o) {z : Int} (hR : Rd w A k c (lim z.natAbs)) (ho : Off A k b) {s : Bool} (hs : s = decide (z < 0)) :
  IntIs ((w.setCell ⟨b, o + 1, none⟩ (.slice A k c)).setCell ⟨b, o, none⟩ (.bool s)) b o z A k c := by
 have ht : Tch b w ((w.setCell ⟨b, o + 1, none⟩ (.slice A k c)).setCell ⟨b, o, none⟩ (.bool s)) := ((Tch.refl b w).set _ _).set _ _
 obtain ⟨hl, ⟨v0, h0⟩, ⟨v1, h1⟩, h2, h3⟩ := hr
 have k0 : ((w.setCell ⟨b, o + 1, none⟩ (.slice A k c)).setCell ⟨b, o, none⟩ (.bool s)).cell? ⟨b, o, none⟩ = some (.bool s) := by
  refine World.cell?_setCell_same _ _ _ (u := v0) ?_
  rw [World.cell?_setCell_other _ _ _ _ (by intro e; simp at e)]; exact h0
 have k1 : ((w.setCell ⟨b, o + 1, none⟩ (.slice A k c)).setCell ⟨b, o, none⟩ (.bool s)).cell? ⟨b, o + 1, none⟩ = some (.slice A k c) := by
  rw [World.cell?_setCell_other _ _ _ _ (by intro e; simp at e)]
  exact World.cell?_setCell_same _ _ _ h1
 exact ⟨⟨by simpa using hl, ⟨_, k0⟩, ⟨_, k1⟩, by simpa using h2, by simpa using h3⟩, by rw [k0, hs], k1, hR.tch ht ho, ho⟩
theorem trimZ_lim_lim (a : Nat) : trimZ (lim a) = lim a := by rw [trimZ_lim _ (lb_lim a), val_lim]
def sgn (neg : Bool) (a : Nat) : Int := if neg then -(a : Int) else a
theorem sgn_abs (neg : Bool) (a : Nat) : (sgn neg a).natAbs = a := by cases neg <;> simp [sgn]
theorem sgn_lt (neg : Bool) (a : Nat) : decide (sgn neg a < 0) = (neg && decide (0 < a)) := by cases neg <;> simp [sgn] <;> omega
theorem bi_setx (b o : Nat) (neg : Bool) (A : Option Addr) (n c a : Nat) (w : World) (hr : Room w b o) (hA : Rd w A n c (lim a)) (ho : Off A n b) :
  Calls Tryz.prog 88 #[.pointer (some ⟨b, o, none⟩), .bool neg, .slice A n c] w fun e w' => e = .returned (.pointer (some ⟨b, o, none⟩)) ∧ Hid (IntIs w' b o (sgn neg a) A n c) ∧ Tch b w w' ∧ Hid (∀ p, p ≠ o → p ≠ o + 1 → w'.cell? ⟨b, p, none⟩ = w.cell? ⟨b, p, none⟩ ∧ w'.frozen? ⟨b, p, none⟩ = w.frozen? ⟨b, p, none⟩) := by
 have hlen := hA.len
 have HA := Lib.hid hA
 have HR := Lib.hid hr
 obtain ⟨hl, ⟨v0, h0⟩, ⟨v1, h1⟩, h2, h3⟩ := hr
 have HO := Lib.hid ho
 have hz : a = 0 ↔ n = 0 := by rw [← hlen]; exact ⟨fun h => by rw [h, lim_zero]; rfl, fun h => lim_nil.1 (List.eq_nil_of_length_eq_zero h)⟩
 have HZ := Lib.hid (show decide (0 < n) = decide (0 < a) by rw [decide_eq_decide]; omega)
 clear ho hA hz
 cases neg
 all_goals
  go_enter Tryz.func88, Tryz.ntmps88
  go_wp2_with (first
  | (go_at_call 130; (with_reducible refine (bw_trim A n c (lim a) _ HA.out).mono ?_); rintro e w1 ⟨k, rfl, hR1, rfl⟩; rw [trimZ_lim_lim] at hR1; obtain rfl : n = k := by rw [← hlen]; exact hR1.len)
  )
  refine bodyPost_ret (v := .pointer (some ⟨b, o, none⟩)) ?h rfl ⟨rfl, int_made HR.out (by rw [sgn_abs]; exact hR1) HO.out (by rw [sgn_lt]; first | rfl | (rw [← HZ.out]; rfl)), ((Tch.refl b w).set _ _).set _ _, fun p h1 h2 => ⟨by rw [World.cell?_setCell_other _ _ _ _ (by intro e; simp at e; try omega), World.cell?_setCell_other _ _ _ _ (by intro e; simp at e; try omega)], by simp⟩⟩
  case h => simp [results, Tryz.results88, go_sem]
theorem bi_set (b o : Nat) (neg : Bool) (A : Option Addr) (n c a : Nat) (w : World) (hr : Room w b o) (hA : Rd w A n c (lim a)) (ho : Off A n b) :
  Calls Tryz.prog 88 #[.pointer (some ⟨b, o, none⟩), .bool neg, .slice A n c] w fun e w' => e = .returned (.pointer (some ⟨b, o, none⟩)) ∧ Hid (IntIs w' b o (sgn neg a) A n c) ∧ Tch b w w' :=
 (bi_setx b o neg A n c a w hr hA ho).mono fun _ _ ⟨h1, h2, h3, _⟩ => ⟨h1, h2, h3⟩
end Go.Proofs.YtfdmhefjmnlllaaGreatDoor
end
section
/- (The document's library.) Whole numbers of the library's: objects in memory, set. -/

namespace Go.Proofs.YtfdmhefjmnlllaaGreatDoor.NB
open Go.RowKit
attribute [local go_sem] sz2 sz3 sz4 sz5 sz6 sz7 sz8
set_option maxHeartbeats 4000000
set_option maxRecDepth 100000
attribute [local irreducible] Calls
theorem bi_setx (b o : Nat) (neg : Bool) (A : Option Addr) (n c a : Nat) (w : World) (hr : Room w b o) (hA : Rd w A n c (lim a)) (ho : Off A n b) :
  Calls Tryz.prog 96 #[.pointer (some ⟨b, o, none⟩), .bool neg, .slice A n c] w fun e w' => e = .returned (.pointer (some ⟨b, o, none⟩)) ∧ Hid (IntIs w' b o (sgn neg a) A n c) ∧ Tch b w w' ∧ Hid (∀ p, p ≠ o → p ≠ o + 1 → w'.cell? ⟨b, p, none⟩ = w.cell? ⟨b, p, none⟩ ∧ w'.frozen? ⟨b, p, none⟩ = w.frozen? ⟨b, p, none⟩) := by
 have hlen := hA.len
 have HA := Lib.hid hA
 have HR := Lib.hid hr
 obtain ⟨hl, ⟨v0, h0⟩, ⟨v1, h1⟩, h2, h3⟩ := hr
 have HO := Lib.hid ho
 have hz : a = 0 ↔ n = 0 := by rw [← hlen]; exact ⟨fun h => by rw [h, lim_zero]; rfl, fun h => lim_nil.1 (List.eq_nil_of_length_eq_zero h)⟩
 have HZ := Lib.hid (show decide (0 < n) = decide (0 < a) by rw [decide_eq_decide]; omega)
 clear ho hA hz
 cases neg
 all_goals
  go_enter Tryz.func96, Tryz.ntmps96
  go_wp2_with (first
  | (go_at_call 134; (with_reducible refine (bw_trim A n c (lim a) _ HA.out).mono ?_); rintro e w1 ⟨k, rfl, hR1, rfl⟩; rw [trimZ_lim_lim] at hR1; obtain rfl : n = k := by rw [← hlen]; exact hR1.len)
  )
  refine bodyPost_ret (v := .pointer (some ⟨b, o, none⟩)) ?h rfl ⟨rfl, int_made HR.out (by rw [sgn_abs]; exact hR1) HO.out (by rw [sgn_lt]; first | rfl | (rw [← HZ.out]; rfl)), ((Tch.refl b w).set _ _).set _ _, fun p h1 h2 => ⟨by rw [World.cell?_setCell_other _ _ _ _ (by intro e; simp at e; try omega), World.cell?_setCell_other _ _ _ _ (by intro e; simp at e; try omega)], by simp⟩⟩
  case h => simp [results, Tryz.results96, go_sem]
theorem bi_set (b o : Nat) (neg : Bool) (A : Option Addr) (n c a : Nat) (w : World) (hr : Room w b o) (hA : Rd w A n c (lim a)) (ho : Off A n b) :
  Calls Tryz.prog 96 #[.pointer (some ⟨b, o, none⟩), .bool neg, .slice A n c] w fun e w' => e = .returned (.pointer (some ⟨b, o, none⟩)) ∧ Hid (IntIs w' b o (sgn neg a) A n c) ∧ Tch b w w' :=
 (bi_setx b o neg A n c a w hr hA ho).mono fun _ _ ⟨h1, h2, h3, _⟩ => ⟨h1, h2, h3⟩
end Go.Proofs.YtfdmhefjmnlllaaGreatDoor.NB
end
section
/- Whole numbers of the library's: copied, with the sign turned. -/
namespace Go.Proofs.YtfdmhefjmnlllaaGreatDoor
open Go.RowKit
attribute [local go_sem] sz2 sz3 sz4 sz5 sz6 sz7 sz8
set_option maxHeartbeats 4000000
set_option maxRecDepth 100000
attribute [local irreducible] Calls
attribute [local go_sem] Oper.detAt detUpon relUpon
theorem rel_copied (N : Nat) (A : Option Addr) (n c a : Nat) (hn : n ≤ 1000000) (vals : List Value) (w : World) (hN : N ≤ w.heap.size) (hA : Rd w A n c (lim a)) :
  Calls Tryz.prog 89 #[.slice A n c] w fun e w' => ∃ v, e = .returned v ∧ Ext w w' ∧ Fresh w v w' ∧ RWord N a vals v w' := by
 have HA := Lib.hid hA
 have hlen := Lib.hid hA.len
 clear hA
 go_enter Tryz.func89, Tryz.ntmps89
 go_wp2_with (first
  | (at_make; refine make_u32 rfl _ _ rfl _ _ _ _ n rfl rfl (by simp) (by simp) (by omega) ?_; intro w1 hx1 ho1; have hext1 := Lib.hid hx1; clear hx1)
  | (with_reducible refine copy_u32 rfl (.tmp 7) (.tmp 8) rfl ho1.out (HA.out.ext hext1.out) rfl rfl (Nat.le_refl _) hext1.out (Nat.le_refl _) ?_; intro w2 hx2 ho2; have hext2 := Lib.hid hx2; clear hx2)
  | go_in)
 refine bodyPost_ret (v := .slice (some ⟨w.heap.size, 0, none⟩) n n) ?h rfl ⟨_, rfl, hext2.out, ?_, ?_⟩
 case h => simp [results, Tryz.results89, go_sem]
 ·intro b hb
  simp only [blk, Option.some.injEq] at hb
  subst hb
  exact ho2.out.lt _ rfl
 ·have e : lim a ++ (List.replicate n 0).drop n = lim a := by simp
  rw [e] at ho2
  obtain ⟨A', c', he, hR⟩ := Rd.own ho2.out (lb_lim a)
  cases he
  exact ⟨_, _, _, rfl, hR, fun q hq => by cases hq; exact hN⟩
theorem sgn_self (z : Int) : sgn (decide (z < 0)) z.natAbs = z := by unfold sgn; split <;> simp at * <;> omega
theorem sgn_neg (z : Int) : sgn (!decide (z < 0)) z.natAbs = -z := by unfold sgn; split <;> simp at * <;> omega
abbrev IPost (w : World) (b o : Nat) (z : Int) : Ending → World → Prop := fun e w' => e = .returned (.pointer (some ⟨b, o, none⟩)) ∧ ∃ (A : Option Addr) (n c : Nat), Hid (IntIs w' b o z A n c ∧ Fr w A) ∧ Tch b w w'
theorem bi_Set (b o bx ox : Nat) (A : Option Addr) (n c : Nat) (z : Int) (hn : n ≤ 1000000) (w : World) (hr : Room w b o) (hx : IntIs w bx ox z A n c) :
  Calls Tryz.prog 87 #[.pointer (some ⟨b, o, none⟩), .pointer (some ⟨bx, ox, none⟩)] w (IPost w b o z) := by
 have HX := Lib.hid hx
 have HR := Lib.hid hr
 have lx := hx.room.lt
 have x0 := hx.neg
 have x1 := hx.words
 clear hx hr
 go_enter Tryz.func87, Tryz.ntmps87
 go_wp2
 refine wp_drawn_tail 10 (tab [(9, RWord w.heap.size z.natAbs)]) (by kernel_rfl) (by kernel_rfl) (by kernel_rfl) (tab_stays (by simp [stays_word])) (fun hq hqf => ?_)
 simp only [List.take_succ_cons, List.take_zero, List.drop_succ_cons, List.drop_zero]
 have y0 := fun nq => (hq nq bx ox lx).trans x0
 have y1 := fun nq => (hq nq bx (ox + 1) lx).trans x1
 iterate 9
  (refine wpK_det rfl (fun K hK => ?_)
   go_simp
   first
    | (refine hK _ ?_; clear hK K)
    | (apply Exists.intro; refine ⟨fun x => ?_, hK _ ?_⟩; (first | exact y0 x | exact y1 x | (trace_state; simp [y0, y1]; rfl)); clear hK K))
 refine wpK_rel _ rfl rfl ?_ ?_
 ·rintro _ ⟨nn, rfl⟩ _
  unfold Oper.relAt
  go_simp
  exact rel_copied _ _ _ _ _ hn _ _ (ext_size nn.use) (HX.out.rd.ext nn.use)
 rintro v ⟨_, ⟨nn, rfl⟩, hr⟩
 obtain ⟨A9, k9, c9, rfl, -, -⟩ := hr
 clear nn
 refine wpK_nil ?_
 intro nq2 hG
 have r9 : RWord w.heap.size z.natAbs [] (.slice A9 k9 c9) nq2.out := by have := hG.fact 9; simp [Facts.put] at this; exact this
 have hR9 := Lib.hid (rword_at r9)
 have hF9 : Fr w A9 := hR9.out.2
 have hO9 := hF9.off HR.out.lt k9
 clear r9 hG
 go_wp2_with (first
  | (go_at_call 88; (with_reducible refine (bi_set b o _ A9 k9 c9 z.natAbs _ (HR.out.ext nq2.use) hR9.out.1 hO9).mono ?_); rintro e w3 ⟨rfl, hI3, xt3⟩)
  )
 refine bodyPost_ret (v := .pointer (some ⟨b, o, none⟩)) ?h rfl ⟨rfl, A9, k9, c9, ⟨by have := hI3.out; rwa [sgn_self] at this, hF9⟩, (Tch.of nq2.use).trans xt3⟩
 case h => simp [results, Tryz.results87, go_sem]
end Go.Proofs.YtfdmhefjmnlllaaGreatDoor
end
section
/- (The document's library.) Whole numbers of the library's: copied, with the sign turned. -/

namespace Go.Proofs.YtfdmhefjmnlllaaGreatDoor.NB
open Go.RowKit
attribute [local go_sem] sz2 sz3 sz4 sz5 sz6 sz7 sz8
set_option maxHeartbeats 4000000
set_option maxRecDepth 100000
attribute [local irreducible] Calls
attribute [local go_sem] Oper.detAt detUpon relUpon
theorem rel_copied (N : Nat) (A : Option Addr) (n c a : Nat) (hn : n ≤ 1000000) (vals : List Value) (w : World) (hN : N ≤ w.heap.size) (hA : Rd w A n c (lim a)) :
  Calls Tryz.prog 92 #[.slice A n c] w fun e w' => ∃ v, e = .returned v ∧ Ext w w' ∧ Fresh w v w' ∧ RWord N a vals v w' := by
 have HA := Lib.hid hA
 have hlen := Lib.hid hA.len
 clear hA
 go_enter Tryz.func92, Tryz.ntmps92
 go_wp2_with (first
  | (at_make; refine make_u32 rfl _ _ rfl _ _ _ _ n rfl rfl (by simp) (by simp) (by omega) ?_; intro w1 hx1 ho1; have hext1 := Lib.hid hx1; clear hx1)
  | (with_reducible refine copy_u32 rfl (.tmp 7) (.tmp 8) rfl ho1.out (HA.out.ext hext1.out) rfl rfl (Nat.le_refl _) hext1.out (Nat.le_refl _) ?_; intro w2 hx2 ho2; have hext2 := Lib.hid hx2; clear hx2)
  | go_in)
 refine bodyPost_ret (v := .slice (some ⟨w.heap.size, 0, none⟩) n n) ?h rfl ⟨_, rfl, hext2.out, ?_, ?_⟩
 case h => simp [results, Tryz.results92, go_sem]
 ·intro b hb
  simp only [blk, Option.some.injEq] at hb
  subst hb
  exact ho2.out.lt _ rfl
 ·have e : lim a ++ (List.replicate n 0).drop n = lim a := by simp
  rw [e] at ho2
  obtain ⟨A', c', he, hR⟩ := Rd.own ho2.out (lb_lim a)
  cases he
  exact ⟨_, _, _, rfl, hR, fun q hq => by cases hq; exact hN⟩
theorem bi_Set (b o bx ox : Nat) (A : Option Addr) (n c : Nat) (z : Int) (hn : n ≤ 1000000) (w : World) (hr : Room w b o) (hx : IntIs w bx ox z A n c) :
  Calls Tryz.prog 98 #[.pointer (some ⟨b, o, none⟩), .pointer (some ⟨bx, ox, none⟩)] w (IPost w b o z) := by
 have HX := Lib.hid hx
 have HR := Lib.hid hr
 have lx := hx.room.lt
 have x0 := hx.neg
 have x1 := hx.words
 clear hx hr
 go_enter Tryz.func98, Tryz.ntmps98
 go_wp2
 refine wp_drawn_tail 10 (tab [(9, RWord w.heap.size z.natAbs)]) (by kernel_rfl) (by kernel_rfl) (by kernel_rfl) (tab_stays (by simp [stays_word])) (fun hq hqf => ?_)
 simp only [List.take_succ_cons, List.take_zero, List.drop_succ_cons, List.drop_zero]
 have y0 := fun nq => (hq nq bx ox lx).trans x0
 have y1 := fun nq => (hq nq bx (ox + 1) lx).trans x1
 iterate 9
  (refine wpK_det rfl (fun K hK => ?_)
   go_simp
   first
    | (refine hK _ ?_; clear hK K)
    | (apply Exists.intro; refine ⟨fun x => ?_, hK _ ?_⟩; (first | exact y0 x | exact y1 x | (trace_state; simp [y0, y1]; rfl)); clear hK K))
 refine wpK_rel _ rfl rfl ?_ ?_
 ·rintro _ ⟨nn, rfl⟩ _
  unfold Oper.relAt
  go_simp
  exact rel_copied _ _ _ _ _ hn _ _ (ext_size nn.use) (HX.out.rd.ext nn.use)
 rintro v ⟨_, ⟨nn, rfl⟩, hr⟩
 obtain ⟨A9, k9, c9, rfl, -, -⟩ := hr
 clear nn
 refine wpK_nil ?_
 intro nq2 hG
 have r9 : RWord w.heap.size z.natAbs [] (.slice A9 k9 c9) nq2.out := by have := hG.fact 9; simp [Facts.put] at this; exact this
 have hR9 := Lib.hid (rword_at r9)
 have hF9 : Fr w A9 := hR9.out.2
 have hO9 := hF9.off HR.out.lt k9
 clear r9 hG
 go_wp2_with (first
  | (go_at_call 96; (with_reducible refine (bi_set b o _ A9 k9 c9 z.natAbs _ (HR.out.ext nq2.use) hR9.out.1 hO9).mono ?_); rintro e w3 ⟨rfl, hI3, xt3⟩)
  )
 refine bodyPost_ret (v := .pointer (some ⟨b, o, none⟩)) ?h rfl ⟨rfl, A9, k9, c9, ⟨by have := hI3.out; rwa [sgn_self] at this, hF9⟩, (Tch.of nq2.use).trans xt3⟩
 case h => simp [results, Tryz.results98, go_sem]
end Go.Proofs.YtfdmhefjmnlllaaGreatDoor.NB
end
section
/- Bytes of a number, the one of most worth first: the plain part. -/
namespace Go.Proofs.YtfdmhefjmnlllaaGreatDoor
set_option maxRecDepth 100000
def beB (n a : Nat) : List UInt8 := (List.range n).map fun i => UInt8.ofNat (a / 256 ^ (n - 1 - i) % 256)
theorem beB_length (n a : Nat) : (beB n a).length = n := by simp [beB]
theorem beB_getD {n a i : Nat} (h : i < n) : ((beB n a).getD i 0).toNat = a / 256 ^ (n - 1 - i) % 256 := by
 rw [List.getD_eq_getElem?_getD, List.getElem?_eq_getElem (by rw [beB_length]; exact h)]
 simp [beB]
theorem pow256 (q r : Nat) : 256 ^ (4 * q + r) = Bs ^ q * 256 ^ r := by rw [Nat.pow_add, Nat.pow_mul]
theorem or_byte {os : List Nat} (hb : Lb os) {q r c V : Nat} (hr : r < 4) (hq : q < os.length) (hv : val os = 256 ^ (4 * q + r + 1) * V) (hc : c < 256) {x : Nat} (hx : os.getD q 0 = x) :
  c * 2 ^ (8 * r) < 4294967296 ∧ (x ||| c * 2 ^ (8 * r)) = x + c * 2 ^ (8 * r) ∧ x + c * 2 ^ (8 * r) < 4294967296 ∧ val (os.set q (x + c * 2 ^ (8 * r))) = 256 ^ (4 * q + r) * (256 * V + c) ∧ Lb (os.set q (x + c * 2 ^ (8 * r))) := by
 have hxb : x < 4294967296 := by
  rw [← hx, List.getD_eq_getElem?_getD, List.getElem?_eq_getElem hq]; exact hb _ (List.getElem_mem hq)
 have hs : val os = val (os.take q) + Bs ^ q * (x + Bs * val (os.drop (q + 1))) := by
  have h1 : os = os.take q ++ (x :: os.drop (q + 1)) := by
   have h2 : os.drop q = x :: os.drop (q + 1) := by
    rw [List.drop_eq_getElem_cons hq]
    rw [List.getD_eq_getElem?_getD, List.getElem?_eq_getElem hq] at hx
    rw [← hx]; rfl
   rw [← h2, List.take_append_drop]
  conv => lhs; rw [h1]
  rw [val_append, List.length_take, Nat.min_eq_left (Nat.le_of_lt hq)]
  rfl
 have ht : val (os.take q) < Bs ^ q := by
  have := val_lt (os.take q) (fun y hy => hb y (List.mem_of_mem_take hy))
  rwa [List.length_take, Nat.min_eq_left (Nat.le_of_lt hq)] at this
 have hp : 0 < Bs ^ q := Nat.pow_pos (by decide)
 have he : 256 ^ (4 * q + r + 1) * V = Bs ^ q * (256 ^ (r + 1) * V) := by rw [Nat.add_assoc, pow256, Nat.mul_assoc]
 have h0 : x + Bs * val (os.drop (q + 1)) = 256 ^ (r + 1) * V := by
  have h1 : Bs ^ q * (256 ^ (r + 1) * V) = val (os.take q) + Bs ^ q * (x + Bs * val (os.drop (q + 1))) := by rw [← he, ← hv, hs]
  have h2 : (Bs ^ q * (256 ^ (r + 1) * V)) / Bs ^ q = (val (os.take q) + Bs ^ q * (x + Bs * val (os.drop (q + 1)))) / Bs ^ q := by rw [h1]
  rw [Nat.mul_div_cancel_left _ hp, Nat.add_mul_div_left _ _ hp, Nat.div_eq_of_lt ht, Nat.zero_add] at h2
  exact h2.symm
 obtain ⟨R, hR⟩ : ∃ R, R = val (os.drop (q + 1)) := ⟨_, rfl⟩
 rw [← hR] at h0
 unfold Bs at h0
 have hdiv : ∃ y, x = 2 ^ (8 * r + 8) * y ∧ 2 ^ (8 * r + 8) * y + 2 ^ (8 * r + 8) ≤ 4294967296 := by
  match r, hr with
  | 0, _ => exact ⟨x / 256, by simp at h0 ⊢; omega, by simp at h0 ⊢; omega⟩
  | 1, _ => exact ⟨x / 65536, by simp at h0 ⊢; omega, by simp at h0 ⊢; omega⟩
  | 2, _ => exact ⟨x / 16777216, by simp at h0 ⊢; omega, by simp at h0 ⊢; omega⟩
  | 3, _ => exact ⟨x / 4294967296, by simp at h0 ⊢; omega, by simp at h0 ⊢; omega⟩
 obtain ⟨y, hy, hyb⟩ := hdiv
 have hcs : c * 2 ^ (8 * r) < 2 ^ (8 * r + 8) := by
  rw [Nat.pow_add, Nat.mul_comm]; exact Nat.mul_lt_mul_of_pos_left hc (Nat.two_pow_pos _)
 have hlt : x + c * 2 ^ (8 * r) < 4294967296 := by omega
 refine ⟨by omega, ?_, hlt, ?_, ?_⟩
 ·rw [hy, Nat.or_comm, or_add hcs]
 ·have h1 := val_set os q (x + c * 2 ^ (8 * r)) hq
  rw [hx, hv, he] at h1
  have h2 : Bs ^ q * (x + c * 2 ^ (8 * r)) = Bs ^ q * x + Bs ^ q * (c * 2 ^ (8 * r)) := Nat.mul_add ..
  have h3 : 256 ^ (4 * q + r) * (256 * V + c) = Bs ^ q * (256 ^ (r + 1) * V) + Bs ^ q * (c * 2 ^ (8 * r)) := by
   rw [pow256, Nat.mul_assoc, Nat.mul_add, Nat.mul_add]
   congr 1
   ·rw [Nat.pow_succ, Nat.mul_assoc]
   ·rw [Nat.mul_comm c, Nat.pow_mul]
  omega
 ·intro z hz
  rcases List.mem_or_eq_of_mem_set hz with h | h
  ·exact hb z h
  ·subst h; exact hlt
theorem byte_next (a k : Nat) : 256 * (a / 256 ^ (k + 1)) + a / 256 ^ k % 256 = a / 256 ^ k := by
 rw [Nat.pow_succ, ← Nat.div_div_eq_div_mul]
 exact Nat.div_add_mod _ _
theorem byte_of_limb (a q r : Nat) (hr : r < 4) : a / Bs ^ q % Bs / 2 ^ (8 * r) % 256 = a / 256 ^ (4 * q + r) % 256 := by
 rw [pow256, ← Nat.div_div_eq_div_mul]
 generalize a / Bs ^ q = D
 unfold Bs
 match r, hr with
 | 0, _ => simp <;> omega
 | 1, _ => simp <;> omega
 | 2, _ => simp <;> omega
 | 3, _ => simp <;> omega
theorem lim_bytes (a : Nat) : ((bitsOf a + 7) / 8 + 3) / 4 = (lim a).length ∧ a < 256 ^ ((bitsOf a + 7) / 8) := by
 by_cases h : a = 0
 ·subst h; simp [bitsOf, lim_zero]
 ·obtain ⟨h0, h1, h2⟩ := bitsOf_spec h
  obtain ⟨h3, h4⟩ := lim_len h
  have h5 := lim_lt a
  have e1 : ∀ k, Bs ^ k = 2 ^ (32 * k) := fun k => by rw [Nat.pow_mul]
  have e2 : ∀ k, 256 ^ k = 2 ^ (8 * k) := fun k => by rw [Nat.pow_mul]
  rw [e1] at h3 h5
  have h6 : 32 * ((lim a).length - 1) < bitsOf a := (Nat.pow_lt_pow_iff_right (a := 2) (by decide)).1 (Nat.lt_of_le_of_lt h3 h2)
  have h7 : bitsOf a - 1 < 32 * (lim a).length := (Nat.pow_lt_pow_iff_right (a := 2) (by decide)).1 (Nat.lt_of_le_of_lt (by first | exact h1 | (have := h1; rwa [Nat.pow_sub_one] at this) | skip) h5)
  refine ⟨by omega, ?_⟩
  rw [e2]
  exact Nat.lt_of_lt_of_le h2 (Nat.pow_le_pow_right (by decide) (by omega))
end Go.Proofs.YtfdmhefjmnlllaaGreatDoor
end
section
/- Whole numbers of the library's: out of bytes. -/
namespace Go.Proofs.YtfdmhefjmnlllaaGreatDoor
open Go.RowKit
attribute [local go_sem] sz2 sz3 sz4 sz5 sz6 sz7 sz8
set_option maxHeartbeats 4000000
set_option maxRecDepth 100000
attribute [local irreducible] Calls
attribute [local go_sem] Oper.detAt detUpon relUpon
theorem bi_Neg (b o bx ox : Nat) (A : Option Addr) (n c : Nat) (z : Int) (hn : n ≤ 1000000) (w : World) (hr : Room w b o) (hx : IntIs w bx ox z A n c) :
  Calls Tryz.prog 63 #[.pointer (some ⟨b, o, none⟩), .pointer (some ⟨bx, ox, none⟩)] w (IPost w b o (-z)) := by
 have HX := Lib.hid hx
 have HR := Lib.hid hr
 have lx := hx.room.lt
 have x0 := hx.neg
 have x1 := hx.words
 clear hx hr
 go_enter Tryz.func63, Tryz.ntmps63
 go_wp2
 refine wp_drawn_tail 11 (tab [(10, RWord w.heap.size z.natAbs)]) (by kernel_rfl) (by kernel_rfl) (by kernel_rfl) (tab_stays (by simp [stays_word])) (fun hq hqf => ?_)
 simp only [List.take_succ_cons, List.take_zero, List.drop_succ_cons, List.drop_zero]
 have y0 := fun nq => (hq nq bx ox lx).trans x0
 have y1 := fun nq => (hq nq bx (ox + 1) lx).trans x1
 iterate 10
  (refine wpK_det rfl (fun K hK => ?_)
   go_simp
   first
    | (refine hK _ ?_; clear hK K)
    | (apply Exists.intro; refine ⟨fun x => ?_, hK _ ?_⟩; (first | exact y0 x | exact y1 x | (simp [y0, y1]; rfl)); clear hK K))
 refine wpK_rel _ rfl rfl ?_ ?_
 ·rintro _ ⟨nn, rfl⟩ _
  unfold Oper.relAt
  go_simp
  exact rel_copied _ _ _ _ _ hn _ _ (ext_size nn.use) (HX.out.rd.ext nn.use)
 rintro v ⟨_, ⟨nn, rfl⟩, hr⟩
 obtain ⟨A9, k9, c9, rfl, -, -⟩ := hr
 clear nn
 refine wpK_nil ?_
 intro nq2 hG
 have r9 : RWord w.heap.size z.natAbs [] (.slice A9 k9 c9) nq2.out := by have := hG.fact 10; simp [Facts.put] at this; exact this
 have hR9 := Lib.hid (rword_at r9)
 have hF9 : Fr w A9 := hR9.out.2
 have hO9 := hF9.off HR.out.lt k9
 clear r9 hG
 go_wp2_with (first
  | (go_at_call 88; (with_reducible refine (bi_set b o _ A9 k9 c9 z.natAbs _ (HR.out.ext nq2.use) hR9.out.1 hO9).mono ?_); rintro e w3 ⟨rfl, hI3, xt3⟩)
  )
 refine bodyPost_ret (v := .pointer (some ⟨b, o, none⟩)) ?h rfl ⟨rfl, A9, k9, c9, ⟨by have := hI3.out; rwa [sgn_neg] at this, hF9⟩, (Tch.of nq2.use).trans xt3⟩
 case h => simp [results, Tryz.results63, go_sem]
theorem bi_SetWords (b o : Nat) (A : Option Addr) (n c a : Nat) (hn : n ≤ 1000000) (w : World) (hr : Room w b o) (hA : Rd w A n c (lim a)) :
  Calls Tryz.prog 144 #[.pointer (some ⟨b, o, none⟩), .slice A n c] w (IPost w b o a) := by
 have HA := Lib.hid hA
 have HR := Lib.hid hr
 have hlt := hr.lt
 have hO : ∀ k, Off (some ⟨w.heap.size, 0, none⟩) k b := fun k x hx _ e => by cases hx; simp at e; omega
 clear hA hr
 go_enter Tryz.func144, Tryz.ntmps144
 go_wp2_with (first
  | (go_at_call 89; (with_reducible refine (bw_copied A n c (lim a) hn _ HA.out).mono ?_); rintro e w2 ⟨rfl, hR2, xb2⟩)
  | (go_at_call 88; (with_reducible refine (bi_set b o _ _ _ _ a _ (HR.out.ext xb2) hR2.out (hO _)).mono ?_); rintro e w3 ⟨rfl, hI3, xt3⟩)
  )
 refine bodyPost_ret (v := .pointer (some ⟨b, o, none⟩)) ?h rfl ⟨rfl, _, _, _, ⟨hI3.out, fun q hq => by cases hq; exact Nat.le_refl _⟩, (Tch.of xb2).trans xt3⟩
 case h => simp [results, Tryz.results144, go_sem]
end Go.Proofs.YtfdmhefjmnlllaaGreatDoor
end
section
/- (The document's library.) Whole numbers of the library's: out of bytes. -/

namespace Go.Proofs.YtfdmhefjmnlllaaGreatDoor.NB
open Go.RowKit
attribute [local go_sem] sz2 sz3 sz4 sz5 sz6 sz7 sz8
set_option maxHeartbeats 4000000
set_option maxRecDepth 100000
attribute [local irreducible] Calls
attribute [local go_sem] Oper.detAt detUpon relUpon
theorem bi_Neg (b o bx ox : Nat) (A : Option Addr) (n c : Nat) (z : Int) (hn : n ≤ 1000000) (w : World) (hr : Room w b o) (hx : IntIs w bx ox z A n c) :
  Calls Tryz.prog 78 #[.pointer (some ⟨b, o, none⟩), .pointer (some ⟨bx, ox, none⟩)] w (IPost w b o (-z)) := by
 have HX := Lib.hid hx
 have HR := Lib.hid hr
 have lx := hx.room.lt
 have x0 := hx.neg
 have x1 := hx.words
 clear hx hr
 go_enter Tryz.func78, Tryz.ntmps78
 go_wp2
 refine wp_drawn_tail 11 (tab [(10, RWord w.heap.size z.natAbs)]) (by kernel_rfl) (by kernel_rfl) (by kernel_rfl) (tab_stays (by simp [stays_word])) (fun hq hqf => ?_)
 simp only [List.take_succ_cons, List.take_zero, List.drop_succ_cons, List.drop_zero]
 have y0 := fun nq => (hq nq bx ox lx).trans x0
 have y1 := fun nq => (hq nq bx (ox + 1) lx).trans x1
 iterate 10
  (refine wpK_det rfl (fun K hK => ?_)
   go_simp
   first
    | (refine hK _ ?_; clear hK K)
    | (apply Exists.intro; refine ⟨fun x => ?_, hK _ ?_⟩; (first | exact y0 x | exact y1 x | (simp [y0, y1]; rfl)); clear hK K))
 refine wpK_rel _ rfl rfl ?_ ?_
 ·rintro _ ⟨nn, rfl⟩ _
  unfold Oper.relAt
  go_simp
  exact rel_copied _ _ _ _ _ hn _ _ (ext_size nn.use) (HX.out.rd.ext nn.use)
 rintro v ⟨_, ⟨nn, rfl⟩, hr⟩
 obtain ⟨A9, k9, c9, rfl, -, -⟩ := hr
 clear nn
 refine wpK_nil ?_
 intro nq2 hG
 have r9 : RWord w.heap.size z.natAbs [] (.slice A9 k9 c9) nq2.out := by have := hG.fact 10; simp [Facts.put] at this; exact this
 have hR9 := Lib.hid (rword_at r9)
 have hF9 : Fr w A9 := hR9.out.2
 have hO9 := hF9.off HR.out.lt k9
 clear r9 hG
 go_wp2_with (first
  | (go_at_call 96; (with_reducible refine (bi_set b o _ A9 k9 c9 z.natAbs _ (HR.out.ext nq2.use) hR9.out.1 hO9).mono ?_); rintro e w3 ⟨rfl, hI3, xt3⟩)
  )
 refine bodyPost_ret (v := .pointer (some ⟨b, o, none⟩)) ?h rfl ⟨rfl, A9, k9, c9, ⟨by have := hI3.out; rwa [sgn_neg] at this, hF9⟩, (Tch.of nq2.use).trans xt3⟩
 case h => simp [results, Tryz.results78, go_sem]
theorem bi_SetWords (b o : Nat) (A : Option Addr) (n c a : Nat) (hn : n ≤ 1000000) (w : World) (hr : Room w b o) (hA : Rd w A n c (lim a)) :
  Calls Tryz.prog 105 #[.pointer (some ⟨b, o, none⟩), .slice A n c] w (IPost w b o a) := by
 have HA := Lib.hid hA
 have HR := Lib.hid hr
 have hlt := hr.lt
 have hO : ∀ k, Off (some ⟨w.heap.size, 0, none⟩) k b := fun k x hx _ e => by cases hx; simp at e; omega
 clear hA hr
 go_enter Tryz.func105, Tryz.ntmps105
 go_wp2_with (first
  | (go_at_call 92; (with_reducible refine (bw_copied A n c (lim a) hn _ HA.out).mono ?_); rintro e w2 ⟨rfl, hR2, xb2⟩)
  | (go_at_call 96; (with_reducible refine (bi_set b o _ _ _ _ a _ (HR.out.ext xb2) hR2.out (hO _)).mono ?_); rintro e w3 ⟨rfl, hI3, xt3⟩)
  )
 refine bodyPost_ret (v := .pointer (some ⟨b, o, none⟩)) ?h rfl ⟨rfl, _, _, _, ⟨hI3.out, fun q hq => by cases hq; exact Nat.le_refl _⟩, (Tch.of xb2).trans xt3⟩
 case h => simp [results, Tryz.results105, go_sem]
end Go.Proofs.YtfdmhefjmnlllaaGreatDoor.NB
end
section
/- Whole numbers of the library's: out of bytes. -/
namespace Go.Proofs.YtfdmhefjmnlllaaGreatDoor
open Go.RowKit
attribute [local go_sem] sz2 sz3 sz4 sz5 sz6 sz7 sz8
set_option maxHeartbeats 4000000
set_option maxRecDepth 100000
attribute [local irreducible] Calls
def ByAt (w : World) (g n : Nat) (l : List UInt8) : Prop := g < w.heap.size ∧ ∀ i, i < n → w.cell? ⟨g, i, none⟩ = some (.int .u8 ((l.getD i 0).toNat : Int))
theorem ByAt.ext {w w' : World} {g n : Nat} {l : List UInt8} (h : ByAt w g n l) (he : Ext w w') : ByAt w' g n l :=
 ⟨Nat.lt_of_lt_of_le h.1 he.size, fun i hi => (Below.cell (p := ⟨g, i, none⟩) he h.1).trans (h.2 i hi)⟩
theorem bi_SetBytes (b o g n a : Nat) (hn : n ≤ 1000000) (ha : a < 256 ^ n) (w : World) (hr : Room w b o) (hB : ByAt w g n (beB n a)) :
  Calls Tryz.prog 109 #[.pointer (some ⟨b, o, none⟩), .slice (some ⟨g, 0, none⟩) n n] w (IPost w b o a) := by
 have HR := Lib.hid hr
 have HB := Lib.hid hB
 have hO : ∀ k, Off (some ⟨w.heap.size, 0, none⟩) k b := fun k x hx _ e => by have := hr.lt; cases hx; simp at e; omega
 have hgl := hB.1
 obtain ⟨N, hN⟩ : ∃ N, N = (n + 3) / 4 := ⟨_, rfl⟩
 have e0 : ((n : Int) + 3) / 4 = (N : Int) := by omega
 have HN := Lib.hid (show 4 * N ≥ n ∧ 4 * N ≤ n + 3 by omega)
 have hN1 : N ≤ 1000000 := by omega
 have HA := Lib.hid ha
 clear hB hr hN ha
 go_enter Tryz.func109, Tryz.ntmps109
 go_wp2_with (first
  | (at_make; refine make_u32 rfl _ _ rfl _ _ _ _ N rfl rfl e0 e0 (by omega) ?_; intro w1 hx1 ho1; have hext1 := Lib.hid hx1; clear hx1)
  )
 go_loopw [16] (fun vi wr => ∃ (i : Nat) (os : List Nat), i ≤ n ∧ vi = .int .i64 (i : Int) ∧ Hid (os.length = N ∧ Lb os ∧ val os = 256 ^ (n - i) * (a / 256 ^ (n - i))) ∧
   Hid (wr.ownsRow w.heap.size 47 1 (.slice (some ⟨w.heap.size, 0, none⟩) N N) N (os.map u32V)) ∧ Hid (Ext w wr))
  (fun vi _ => n - (intOf vi).toNat)
 case atStart => exact ⟨0, List.replicate N 0, Nat.zero_le _, rfl, ⟨by simp, lb_replicate _, by rw [val_replicate, Nat.sub_zero, Nat.div_eq_of_lt HA.out, Nat.mul_zero]⟩, ho1.out, hext1.out⟩
 case round =>
  clear ho1 hext1
  obtain ⟨i, os, hi, rfl, hos, hown, hext⟩ := hrel
  by_cases h1 : i < n
  ·obtain ⟨k, hk⟩ : ∃ k, k = n - 1 - i := ⟨_, rfl⟩
   obtain ⟨q, hq⟩ : ∃ q, q = k / 4 := ⟨_, rfl⟩
   obtain ⟨r, hr4⟩ : ∃ r, r = k % 4 := ⟨_, rfl⟩
   obtain ⟨c, hc⟩ : ∃ c, c = a / 256 ^ k % 256 := ⟨_, rfl⟩
   obtain ⟨s, hs⟩ : ∃ s, s = 8 * r := ⟨_, rfl⟩
   have hcell := (HB.out.ext hext.out).2 i h1
   rw [beB_getD h1, ← hk, ← hc] at hcell
   have hc256 : c < 256 := by rw [hc]; exact Nat.mod_lt _ (by decide)
   obtain ⟨x, hx⟩ : ∃ x, os.getD q 0 = x := ⟨_, rfl⟩
   have hqN : q < N := by have := HN.out; omega
   obtain ⟨hc1, hf1⟩ := own_at hown.out q hqN
   rw [hx] at hc1
   have hob := or_byte (V := a / 256 ^ (k + 1)) hos.out.2.1 (show r < 4 by omega) (by rw [hos.out.1]; exact hqN) (by rw [hos.out.2.2, show n - i = 4 * q + r + 1 by omega, show 4 * q + r + 1 = k + 1 by omega]) hc256 hx
   rw [show 4 * q + r = k by omega, hc, byte_next, ← hc, ← hs] at hob
   have e1 : (n : Int) - 1 - (i : Int) = (k : Int) := by omega
   have e2 : (k : Int) / 4 = (q : Int) := by omega
   have e3 : (k : Int) % 4 = (r : Int) := by omega
   have e4 : 8 * (r : Int) = (s : Int) := by omega
   have hs24 : s ≤ 24 := by omega
   have HOB := Lib.hid hob
   have hgl2 : w.heap.size < wr.heap.size := (hown.out.lt w.heap.size rfl).2
   clear hob hk hq hr4 hc hs
   go_wp2
   refine wp_aft_tail 13 (by kernel_rfl) (by kernel_rfl) (by kernel_rfl) (fun hq hqf => ?_)
   simp only [List.take_succ_cons, List.take_zero, List.drop_succ_cons, List.drop_zero]
   repeat (go_big_quiet_step (first | fail
    ))
   refine wpQuiet_nil ?_
   rintro _ ⟨nq, rfl⟩
   have xl := ext_lt nq.use
   have xz := ext_size nq.use
   try simp at xz
   have y1 := (hq nq w.heap.size q hgl2).trans hc1
   have y2 := (hqf nq w.heap.size q hgl2).trans hf1
   clear hq hqf
   have hE2 := Lib.hid nq.use
   have hor : Hid (bits BinOp.or IntKind.u32 (x : Int) ((c : Int) * 2 ^ s % 4294967296) = ((x + c * 2 ^ s : Nat) : Int)) := by
    obtain ⟨o1, o2, o3, -, -⟩ := HOB.out
    have e5 : (c : Int) * 2 ^ s % 4294967296 = ((c * 2 ^ s : Nat) : Int) := by
     have : (c : Int) * 2 ^ s = ((c * 2 ^ s : Nat) : Int) := by simp
     rw [this]; omega
    show _ = _
    rw [e5, bits_or32 _ _ (by omega) o1, o2]
   go_wp2
   case roundEnd =>
    refine ⟨⟨i + 1, os.set q (x + c * 2 ^ s), by omega, by simp, ⟨by simp [hos.out.1], HOB.out.2.2.2.2, ?_⟩, ?_, ?_⟩, ?_⟩
    ·rw [HOB.out.2.2.2.1, show n - (i + 1) = k by omega]
    ·show World.ownsRow _ _ _ _ _ _ _
     rw [hor.out]
     exact own_set (own_ext hown.out hE2.out) _ _
    ·exact jS (jT hext.out hE2.out) (Nat.le_refl _) _
    ·simp [intOf]; omega
  ·obtain rfl : i = n := by omega
   have hv : val os = a := by rw [hos.out.2.2, Nat.sub_self, Nat.pow_zero, Nat.div_one, Nat.one_mul]
   have hT := bw_trim_own hown.out hos.out.2.1 hv
   have hE := hext.out
   clear hv
   go_wp2_with (first
    | (go_at_call 130; (with_reducible refine hT.mono ?_); rintro e w' ⟨⟨j, rfl, hR⟩, rfl⟩)
    | (go_at_call 144; (with_reducible refine (bi_SetWords b o _ j N a (by have := hR.out.cap; omega) _ (HR.out.ext hE) hR.out).mono ?_); rintro e w3 ⟨rfl, A3, n3, c3, hI3, xt3⟩)
    )
   refine bodyPost_ret (v := .pointer (some ⟨b, o, none⟩)) ?h rfl ⟨rfl, A3, n3, c3, ⟨hI3.out.1, Fr.mono hI3.out.2 hE⟩, (Tch.of hE).trans xt3⟩
   case h => simp [results, Tryz.results109, go_sem]
end Go.Proofs.YtfdmhefjmnlllaaGreatDoor
end
section
/- Words of the library's: by a number that goes into them. -/
namespace Go.Proofs.YtfdmhefjmnlllaaGreatDoor
open Go.RowKit
attribute [local go_sem] sz2 sz3 sz4 sz5 sz6 sz7 sz8
set_option maxHeartbeats 4000000
set_option maxRecDepth 100000
attribute [local irreducible] Calls
theorem bw_by_one (A G : Option Addr) (n c m d : Nat) (w : World) (hG : Rd w G m d (lim 1)) :
  Calls Tryz.prog 125 #[.slice A n c, .slice G m d] w fun e w' => e = .returned (.slice A n c) ∧ Ext w w' := by
 have HG := Lib.hid hG
 clear hG
 go_enter Tryz.func125, Tryz.ntmps125
 go_wp2_with (first
  | (go_at_call 165; (with_reducible refine (bw_one G m d 1 _ HG.out).mono ?_); rintro e w1 ⟨rfl, rfl⟩)
  )
 refine bodyPost_ret (v := .slice A n c) ?h rfl ⟨rfl, jR _⟩
 case h => simp [results, Tryz.results125, go_sem]
theorem bw_by_div (A G : Option Addr) (n c m d a g : Nat) (h1 : g ≠ 1) (h0 : g ≠ 0) (hn : n ≤ 400000) (w : World) (hA : Rd w A n c (lim a)) (hG : Rd w G m d (lim g)) :
  Calls Tryz.prog 125 #[.slice A n c, .slice G m d] w (WPost w (a / g)) := by
 have HA := Lib.hid hA
 have HG := Lib.hid hG
 clear hA hG
 have hone : decide (g = 1) = false := decide_eq_false h1
 go_enter Tryz.func125, Tryz.ntmps125
 go_wp2_with (first
  | (go_at_call 165; (with_reducible refine (bw_one G m d g _ HG.out).mono ?_); rintro e w1 ⟨rfl, rfl⟩)
  | (go_at_call 162; (with_reducible refine (bw_div A G n c m d a g h0 hn _ HA.out HG.out).mono ?_); rintro e w2 ⟨A2, k2, d2, B2, m2, e2, rfl, hR2, hS2, xb2⟩)
  )
 refine bodyPost_ret (v := .slice A2 k2 d2) ?h rfl ⟨A2, k2, d2, rfl, hR2, xb2⟩
 case h => simp [results, Tryz.results125, go_sem]
theorem rel_by (N : Nat) (A G : Option Addr) (n c m d a g : Nat) (h1 : g ≠ 1) (h0 : g ≠ 0) (hga : a / g ≠ 0) (hn : n ≤ 400000) (vals : List Value) (w : World) (hN : N ≤ w.heap.size) (hA : Rd w A n c (lim a)) (hG : Rd w G m d (lim g)) :
  Calls Tryz.prog 125 #[.slice A n c, .slice G m d] w fun e w' => ∃ v, e = .returned v ∧ Ext w w' ∧ Fresh w v w' ∧ RWord N (a / g) vals v w' := by
 refine (bw_by_div A G n c m d a g h1 h0 hn w hA hG).mono ?_
 rintro e w' ⟨A', k, c', rfl, h2, h3⟩
 refine ⟨_, rfl, h3, fun b hb => ?_, A', k, c', rfl, h2.out.1, fun q hq => Nat.le_trans hN (h2.out.2 q hq)⟩
 cases A' with
 | none => simp [blk] at hb
 | some q =>
  simp only [blk, Option.some.injEq] at hb
  subst hb
  refine ⟨h2.out.2 q rfl, rd_lt h2.out.1 rfl (fun e => hga (lim_nil.1 e))⟩
end Go.Proofs.YtfdmhefjmnlllaaGreatDoor
end
section
/- (The document's library.) Words of the library's: by a number that goes into them. -/

namespace Go.Proofs.YtfdmhefjmnlllaaGreatDoor.NB
open Go.RowKit
attribute [local go_sem] sz2 sz3 sz4 sz5 sz6 sz7 sz8
set_option maxHeartbeats 4000000
set_option maxRecDepth 100000
attribute [local irreducible] Calls
theorem bw_by_one (A G : Option Addr) (n c m d : Nat) (w : World) (hG : Rd w G m d (lim 1)) :
  Calls Tryz.prog 157 #[.slice A n c, .slice G m d] w fun e w' => e = .returned (.slice A n c) ∧ Ext w w' := by
 have HG := Lib.hid hG
 clear hG
 go_enter Tryz.func157, Tryz.ntmps157
 go_wp2_with (first
  | (go_at_call 178; (with_reducible refine (bw_one G m d 1 _ HG.out).mono ?_); rintro e w1 ⟨rfl, rfl⟩)
  )
 refine bodyPost_ret (v := .slice A n c) ?h rfl ⟨rfl, jR _⟩
 case h => simp [results, Tryz.results157, go_sem]
theorem bw_by_div (A G : Option Addr) (n c m d a g : Nat) (h1 : g ≠ 1) (h0 : g ≠ 0) (hn : n ≤ 400000) (w : World) (hA : Rd w A n c (lim a)) (hG : Rd w G m d (lim g)) :
  Calls Tryz.prog 157 #[.slice A n c, .slice G m d] w (WPost w (a / g)) := by
 have HA := Lib.hid hA
 have HG := Lib.hid hG
 clear hA hG
 have hone : decide (g = 1) = false := decide_eq_false h1
 go_enter Tryz.func157, Tryz.ntmps157
 go_wp2_with (first
  | (go_at_call 178; (with_reducible refine (bw_one G m d g _ HG.out).mono ?_); rintro e w1 ⟨rfl, rfl⟩)
  | (go_at_call 132; (with_reducible refine (bw_div A G n c m d a g h0 hn _ HA.out HG.out).mono ?_); rintro e w2 ⟨A2, k2, d2, B2, m2, e2, rfl, hR2, hS2, xb2⟩)
  )
 refine bodyPost_ret (v := .slice A2 k2 d2) ?h rfl ⟨A2, k2, d2, rfl, hR2, xb2⟩
 case h => simp [results, Tryz.results157, go_sem]
theorem rel_by (N : Nat) (A G : Option Addr) (n c m d a g : Nat) (h1 : g ≠ 1) (h0 : g ≠ 0) (hga : a / g ≠ 0) (hn : n ≤ 400000) (vals : List Value) (w : World) (hN : N ≤ w.heap.size) (hA : Rd w A n c (lim a)) (hG : Rd w G m d (lim g)) :
  Calls Tryz.prog 157 #[.slice A n c, .slice G m d] w fun e w' => ∃ v, e = .returned v ∧ Ext w w' ∧ Fresh w v w' ∧ RWord N (a / g) vals v w' := by
 refine (bw_by_div A G n c m d a g h1 h0 hn w hA hG).mono ?_
 rintro e w' ⟨A', k, c', rfl, h2, h3⟩
 refine ⟨_, rfl, h3, fun b hb => ?_, A', k, c', rfl, h2.out.1, fun q hq => Nat.le_trans hN (h2.out.2 q hq)⟩
 cases A' with
 | none => simp [blk] at hb
 | some q =>
  simp only [blk, Option.some.injEq] at hb
  subst hb
  refine ⟨h2.out.2 q rfl, rd_lt h2.out.1 rfl (fun e => hga (lim_nil.1 e))⟩
end Go.Proofs.YtfdmhefjmnlllaaGreatDoor.NB
end
section
/- Whole numbers of the library's: out of limbs. -/
namespace Go.Proofs.YtfdmhefjmnlllaaGreatDoor
open Go.RowKit
attribute [local go_sem] sz2 sz3 sz4 sz5 sz6 sz7 sz8
set_option maxHeartbeats 4000000
set_option maxRecDepth 100000
attribute [local irreducible] Calls
theorem bV_ofNat (x : Nat) : bV (UInt8.ofNat (x % 256)) = .int .u8 ((x : Int) % 256) := by
 simp [bV]
theorem ofNat_byte (x : Nat) : (UInt8.ofNat (x % 256)).toNat = x % 256 := by simp
theorem getD_set8 {l : List UInt8} {i j : Nat} {y : UInt8} (hi : i < l.length) : (l.set i y).getD j 0 = if i = j then y else l.getD j 0 := by
 rw [List.getD_eq_getElem?_getD, List.getD_eq_getElem?_getD, List.getElem?_set]
 by_cases h : i = j
 ·subst h; simp [hi]
 ·simp [h]
theorem ra_whole (A : Option Addr) (n c a : Nat) (hn : n ≤ 200000) (w : World) (hA : Rd w A n c (lim a)) :
  Calls Tryz.prog 62 #[natV A n c] w fun e w' => ∃ (b : Nat) (B : Option Addr) (k d : Nat), e = .returned (.pointer (some ⟨b, 0, none⟩)) ∧ Hid (IntIs w' b 0 a B k d ∧ Fr w B) ∧ w.heap.size ≤ b ∧ Ext w w' := by
 have hmx := hA.mx
 have hcx := hA.cap
 have HA := Lib.hid hA
 have HL := Lib.hid (show a < 256 ^ (4 * n) by have := lim_lt a; rw [hA.len] at this; rw [Nat.pow_mul]; exact this)
 clear hA
 go_enter Tryz.func62, Tryz.ntmps62
 go_wp2_with (first
  | (at_make; refine make_u8 rfl _ _ rfl _ _ _ _ (4 * n) rfl rfl (by simp) (by simp) (by omega) ?_; intro w1 hx1 ho1; have hext1 := Lib.hid hx1; have cb : w1.cell? ⟨w.heap.size, 0, none⟩ = some (.slice A n c) := (Below.cell (p := ⟨w.heap.size, 0, none⟩) hx1 (by simp)).trans (by simp [go_sem]); clear hx1)
  )
 have hG : (w.alloc (Obj.cells #[Value.slice A n c] 24)).heap.size = w.heap.size + 1 := by simp
 rw [hG] at ho1
 have hE0 := Lib.hid (jT (jA (jR w) _) hext1.out)
 clear hG hext1
 go_loopw [15] (fun vi wr => ∃ (i : Nat) (l : List UInt8), i ≤ n ∧ vi = .int .i64 (i : Int) ∧ Hid (l.length = 4 * n ∧ ∀ p, p < 4 * n → 4 * n ≤ p + 4 * i → (l.getD p 0).toNat = a / 256 ^ (4 * n - 1 - p) % 256) ∧
   Hid (wr.ownsRow (w.heap.size + 1) 5 1 (.slice (some ⟨w.heap.size + 1, 0, none⟩) (4 * n) (4 * n)) (4 * n) (l.map bV)) ∧ Hid (Ext w wr) ∧ wr.cell? ⟨w.heap.size, 0, none⟩ = some (.slice A n c))
  (fun vi _ => n - (intOf vi).toNat)
 case atStart => exact ⟨0, List.replicate (4 * n) 0, Nat.zero_le _, rfl, ⟨by simp, fun p h1 h2 => by omega⟩, ho1.out, hE0.out, cb⟩
 case round =>
  clear ho1 hE0 cb
  obtain ⟨i, l, hi, rfl, hl, hown, hext, cb⟩ := hrel
  by_cases h1 : i < n
  ·obtain ⟨bx, ox, hXe⟩ : ∃ b off, A = some ⟨b, off, none⟩ := by
    rcases HA.out.shape with ⟨_, h, _⟩ | h
    ·omega
    ·exact h
   subst hXe
   obtain ⟨x, hx, hxb, hcx1⟩ := (HA.out.ext hext.out).get i h1
   have hlt : w.heap.size < wr.heap.size := by have : w.heap.size + 1 < wr.heap.size := (hown.out.lt _ rfl).2; omega
   obtain ⟨t, ht⟩ : ∃ t, t = 4 * n - 4 * i := ⟨_, rfl⟩
   obtain ⟨t1, ht1⟩ : ∃ u, u = t - 1 := ⟨_, rfl⟩
   obtain ⟨t2, ht2⟩ : ∃ u, u = t - 2 := ⟨_, rfl⟩
   obtain ⟨t3, ht3⟩ : ∃ u, u = t - 3 := ⟨_, rfl⟩
   obtain ⟨t4, ht4⟩ : ∃ u, u = t - 4 := ⟨_, rfl⟩
   have et : 4 * (n : Int) - 4 * (i : Int) = (t : Int) := by omega
   have e1 : (t : Int) - 1 = (t1 : Int) := by omega
   have e2 : (t : Int) - 2 = (t2 : Int) := by omega
   have e3 : (t : Int) - 3 = (t3 : Int) := by omega
   have e4 : (t : Int) - 4 = (t4 : Int) := by omega
   have b1 : t1 < 4 * n := by omega
   have b2 : t2 < 4 * n := by omega
   have b3 : t3 < 4 * n := by omega
   have b4 : t4 < 4 * n := by omega
   have b5 : t ≤ 4 * n := by omega
   obtain ⟨c1, f1⟩ := ownb_at hown.out t1 b1
   obtain ⟨c2, f2⟩ := ownb_at hown.out t2 b2
   obtain ⟨c3, f3⟩ := ownb_at hown.out t3 b3
   obtain ⟨c4, f4⟩ := ownb_at hown.out t4 b4
   have d12 : ¬ t1 = t2 := by omega
   have d13 : ¬ t1 = t3 := by omega
   have d14 : ¬ t1 = t4 := by omega
   have d23 : ¬ t2 = t3 := by omega
   have d24 : ¬ t2 = t4 := by omega
   have d34 : ¬ t3 = t4 := by omega
   have HT := Lib.hid (show t = 4 * n - 4 * i ∧ t1 = t - 1 ∧ t2 = t - 2 ∧ t3 = t - 3 ∧ t4 = t - 4 ∧ 4 ≤ t by omega)
   clear ht ht1 ht2 ht3 ht4
   go_wp2
   case roundEnd =>
    obtain ⟨ht, ht1, ht2, ht3, ht4, ht5⟩ := HT.out
    have hlim : x = a / Bs ^ i % Bs := by rw [← limb_at]; exact hx.out.symm
    have lb : ∀ r, r < 4 → x / 2 ^ (8 * r) % 256 = a / 256 ^ (4 * i + r) % 256 := fun r hr => by rw [hlim, byte_of_limb _ _ _ hr]
    have v1 : Value.int IntKind.u8 ((x : Int) % 256) = bV (UInt8.ofNat (x % 256)) := (bV_ofNat x).symm
    have v2 : Value.int IntKind.u8 ((x : Int) / 256 % 256) = bV (UInt8.ofNat (x / 256 % 256)) := by rw [bV_ofNat]; simp
    have v3 : Value.int IntKind.u8 ((x : Int) / 65536 % 256) = bV (UInt8.ofNat (x / 65536 % 256)) := by rw [bV_ofNat]; simp
    have v4 : Value.int IntKind.u8 ((x : Int) / 16777216) = bV (UInt8.ofNat (x / 16777216 % 256)) := by
     have e : ((x / 16777216 : Nat) : Int) % 256 = (x : Int) / 16777216 := by omega
     rw [bV_ofNat, e]
    rw [v1, v2, v3, v4]
    refine ⟨⟨i + 1, (((l.set t1 (UInt8.ofNat (x % 256))).set t2 (UInt8.ofNat (x / 256 % 256))).set t3 (UInt8.ofNat (x / 65536 % 256))).set t4 (UInt8.ofNat (x / 16777216 % 256)), by omega, by simp, ⟨by simp [hl.out.1], fun p hp hq => ?_⟩, ?_, ?_, ?_⟩, ?_⟩
    ·have hlen := hl.out.1
     rw [getD_set8 (by simp [hlen]; omega), getD_set8 (by simp [hlen]; omega), getD_set8 (by simp [hlen]; omega), getD_set8 (by omega)]
     by_cases p4 : t4 = p
     ·rw [if_pos p4, ofNat_byte]
      have := lb 3 (by omega)
      rw [show 4 * n - 1 - p = 4 * i + 3 by omega, ← this]
     ·rw [if_neg p4]
      by_cases p3 : t3 = p
      ·rw [if_pos p3, ofNat_byte]
       have := lb 2 (by omega)
       rw [show 4 * n - 1 - p = 4 * i + 2 by omega, ← this]
      ·rw [if_neg p3]
       by_cases p2 : t2 = p
       ·rw [if_pos p2, ofNat_byte]
        have := lb 1 (by omega)
        rw [show 4 * n - 1 - p = 4 * i + 1 by omega, ← this]
       ·rw [if_neg p2]
        by_cases p1 : t1 = p
        ·rw [if_pos p1, ofNat_byte]
         have := lb 0 (by omega)
         rw [show 4 * n - 1 - p = 4 * i + 0 by omega, ← this]; simp
        ·rw [if_neg p1]
         exact hl.out.2 p hp (by omega)
    ·exact ownb_set (ownb_set (ownb_set (ownb_set hown.out _ _) _ _) _ _) _ _
    ·exact jS (jS (jS (jS hext.out (by simp) _) (by simp) _) (by simp) _) (by simp) _
    ·have fr : ∀ (W : World) (p : Nat) (u : Value), (W.setCell ⟨w.heap.size + 1, p, none⟩ u).cell? ⟨w.heap.size, 0, none⟩ = W.cell? ⟨w.heap.size, 0, none⟩ := fun W p u => World.cell?_setCell_other _ _ _ _ (by intro e; simp at e)
     rw [fr, fr, fr, fr]; exact cb
    ·simp [intOf]; omega
  ·obtain rfl : i = n := by omega
   have hby : Hid (ByAt wr (w.heap.size + 1) (4 * i) (beB (4 * i) a)) := by
    refine ⟨(hown.out.lt _ rfl).2, fun p hp => ?_⟩
    rw [(ownb_at hown.out p hp).1, hl.out.2 p hp (by omega), beB_getD hp]
   have hsz := (hown.out.lt _ rfl).2
   have hroom : Room (wr.alloc (Obj.cells #[.bool false, .slice none 0 0] 66)) wr.heap.size 0 := ⟨by simp, ⟨_, by simp [go_sem]; rfl⟩, ⟨_, by simp [go_sem]; rfl⟩, by simp [go_sem], by simp [go_sem]⟩
   have HRM := Lib.hid hroom
   clear hroom
   go_wp2_with (first
    | (go_at_call 109; (with_reducible refine (bi_SetBytes _ 0 _ (4 * i) a (by omega) HL.out _ HRM.out (hby.out.ext (jA (jR _) _))).mono ?_); rintro e w3 ⟨rfl, A3, n3, c3, hI3, xt3⟩)
    )
   have hEE := Lib.hid (xt3.ext (jA hext.out _) (ext_size hext.out))
   refine bodyPost_ret (v := .pointer (some ⟨wr.heap.size, 0, none⟩)) ?h rfl ⟨_, A3, n3, c3, rfl, ⟨hI3.out.1, Fr.mono hI3.out.2 (jA hext.out _)⟩, ext_size hext.out, hEE.out⟩
   case h => simp [results, Tryz.results62, go_sem]
end Go.Proofs.YtfdmhefjmnlllaaGreatDoor
end
section
/- Rows of limbs of a call's own, whole. -/
namespace Go.Proofs.YtfdmhefjmnlllaaGreatDoor
open Go.RowKit
theorem own_zero {w : World} {base : Nat} {e : TypeId} {size : Nat} {v : Value} {n : Nat} {xs : List Value} (h : w.ownsRow base e size v n xs) : w.ownsRow 0 e size v n xs := by
 obtain ⟨h1, h2⟩ := h
 refine ⟨h1, ?_⟩
 rcases h2 with h2 | ⟨g, cap, cur, rfl, _, h3⟩
 ·exact .inl h2
 ·exact .inr ⟨g, cap, cur, rfl, Nat.zero_le _, h3⟩
theorem own_still {w w' : World} {e : TypeId} {size : Nat} {A : Option Addr} {c m n : Nat} {xs : List Value} (h : w.ownsRow 0 e size (.slice A m c) n xs) (hb : ∀ a, A = some a → w'.heap[a.block]? = w.heap[a.block]?) : w'.ownsRow 0 e size (.slice A m c) n xs := by
 obtain ⟨h1, h2⟩ := h
 refine ⟨h1, ?_⟩
 rcases h2 with h2 | ⟨g, cap, cur, he, h0, h3, h4⟩
 ·exact .inl h2
 ·refine .inr ⟨g, cap, cur, he, h0, ?_, h4⟩
  have := hb ⟨g, 0, none⟩ (by simp only [Value.slice.injEq] at he; exact he.1)
  exact this.trans h3
theorem own_lt {w : World} {e : TypeId} {size : Nat} {A : Option Addr} {c m n : Nat} {xs : List Value} (h : w.ownsRow 0 e size (.slice A m c) n xs) {a : Addr} (ha : A = some a) : a.block < w.heap.size := by
 subst ha
 exact (h.lt a.block rfl).2
structure RdO (w : World) (A : Option Addr) (n c : Nat) (xs : List Nat) (Z : Option Addr) : Prop extends Rd w A n c xs where
 own : w.ownsRow 0 47 1 (.slice A n c) n (xs.map u32V)
 apt : ∀ a z, A = some a → Z = some z → a.block ≠ z.block
 full : c = n
instance rdoRd (w : World) (A : Option Addr) (n c : Nat) (xs : List Nat) (Z : Option Addr) : CoeOut (RdO w A n c xs Z) (Rd w A n c xs) := ⟨RdO.toRd⟩
theorem RdO.ext {w w' : World} {A : Option Addr} {n c : Nat} {xs : List Nat} {Z : Option Addr} (h : RdO w A n c xs Z) (he : Ext w w') : RdO w' A n c xs Z :=
 ⟨h.toRd.ext he, own_still h.own (fun a ha => he.block _ (own_lt h.own ha)), h.apt, h.full⟩
theorem RdO.set {w : World} {A : Option Addr} {n c : Nat} {xs : List Nat} {Z : Option Addr} (h : RdO w A n c xs Z) {p : Addr} (u : Value) (hne : ∀ a, A = some a → p.block < a.block) : RdO (w.setCell p u) A n c xs Z :=
 ⟨h.toRd.set u hne, own_still h.own (fun a ha => Go.Deep.blk_setCell_other w p u a.block (Nat.ne_of_gt (hne a ha))), h.apt, h.full⟩
theorem RdO.tch {b : Nat} {w w' : World} {A : Option Addr} {n c : Nat} {xs : List Nat} {Z : Option Addr} (h : RdO w A n c xs Z) (ht : Tch b w w') (ho : ∀ a, A = some a → a.block ≠ b) : RdO w' A n c xs Z :=
 ⟨h.toRd.tch ht (fun a ha _ => ho a ha), own_still h.own (fun a ha => ht.block _ (own_lt h.own ha) (ho a ha)), h.apt, h.full⟩
theorem RdO.weak {w : World} {A : Option Addr} {n c : Nat} {xs : List Nat} {Z : Option Addr} (h : RdO w A n c xs none) (hz : ∀ a z, A = some a → Z = some z → a.block ≠ z.block) : RdO w A n c xs Z := ⟨h.toRd, h.own, hz, h.full⟩
theorem RdO.set3 {w : World} {A : Option Addr} {n c : Nat} {xs : List Nat} {Z : Option Addr} (h : RdO w A n c xs Z) {b : Nat} (hne : ∀ a, A = some a → b < a.block) (v0 v1 v2 : Value) : RdO (((w.setCell ⟨b, 0, none⟩ v0).setCell ⟨b, 1, none⟩ v1).setCell ⟨b, 2, none⟩ v2) A n c xs Z :=
 ((h.set v0 hne).set v1 hne).set v2 hne
end Go.Proofs.YtfdmhefjmnlllaaGreatDoor
end
section
/- Words of the library's: times a word and a word more, in place; powers. -/
namespace Go.Proofs.YtfdmhefjmnlllaaGreatDoor
open Go.RowKit
attribute [local go_sem] sz2 sz3 sz4 sz5 sz6 sz7 sz8
set_option maxHeartbeats 4000000
set_option maxRecDepth 100000
theorem small_len {x m cc : Nat} (hm : 0 < m) {os : List Nat} {k cy : Nat} (hk : os.length = k) (hb : Lb os) (hkx : (lim x).length = k) (hv : val os + Bs ^ k * cy = x * m + cc) (hcy : cy < Bs) :
  (cy = 0 → os = lim (x * m + cc)) ∧ (0 < cy → os ++ [cy] = lim (x * m + cc)) := by
 constructor
 ·intro h
  subst h
  rw [Nat.mul_zero, Nat.add_zero] at hv
  rw [← hv]
  refine lim_of os hb ?_
  intro hne
  have h0 : x ≠ 0 := by
   intro e
   subst e
   rw [lim_zero] at hkx
   have h1 := List.length_pos_iff.2 hne
   simp at hkx
   omega
  have h1 := (lim_len h0).1
  have h2 : x * 1 ≤ x * m := Nat.mul_le_mul_left _ hm
  rw [hkx, ← hk] at h1
  omega
 ·intro h
  have h1 : val (os ++ [cy]) = x * m + cc := by rw [val_snoc, hk]; exact hv
  rw [← h1]
  refine lim_of _ (lb_snoc.2 ⟨hb, hcy⟩) ?_
  intro _
  rw [List.length_append, val_snoc]
  simp only [List.length_singleton, Nat.add_sub_cancel]
  have : Bs ^ os.length * 1 ≤ Bs ^ os.length * cy := Nat.mul_le_mul_left _ h
  omega
attribute [local irreducible] Calls
theorem bw_mulSmall (W : World) (v : Value) (n x m cc : Nat) (hm : 0 < m) (hm2 : m < 4294967296) (hcc : cc < 4294967296) (hn : n ≤ 100000) (w : World) (hE : Ext W w) (hown : w.ownsRow W.heap.size 47 1 v n ((lim x).map u32V)) :
  Calls Tryz.prog 154 #[v, .int .u32 (m : Int), .int .u32 (cc : Int)] w fun e w' => ∃ (v' : Value) (n' : Nat), e = .returned v' ∧ Hid (w'.ownsRow W.heap.size 47 1 v' n' ((lim (x * m + cc)).map u32V)) ∧ n' ≤ n + 1 ∧ Ext W w' := by
 have hkx : (lim x).length = n := by have := hown.1; simpa using this
 obtain ⟨AO, cO, rfl, hRd⟩ := Rd.own hown (lb_lim x)
 have hcO := hRd.cap
 have hcOm := hRd.mx
 have HO := Lib.hid hown
 have HW := Lib.hid hE
 have HK := Lib.hid hkx
 clear hRd hown hE hkx
 go_enter Tryz.func154, Tryz.ntmps154
 go_wp2
 go_loopw [7, 8] (fun vc vi wr => ∃ (p cy : Nat) (os : List Nat), p ≤ n ∧ cy < 4294967296 ∧ vi = .int .i64 (p : Int) ∧ vc = .int .u64 (cy : Int) ∧ Hid (os.length = n ∧ Lb os ∧ os.drop p = (lim x).drop p ∧ val (os.take p) + Bs ^ p * cy = val ((lim x).take p) * m + cc) ∧
   Hid (wr.ownsRow W.heap.size 47 1 (.slice AO n cO) n (os.map u32V)) ∧ Hid (Ext W wr)) (fun _ vi _ => n - (intOf vi).toNat)
 case atStart => exact ⟨0, cc, lim x, Nat.zero_le _, hcc, rfl, rfl, ⟨HK.out, lb_lim x, rfl, by simp [val]⟩, HO.out, HW.out⟩
 case round =>
  clear HO HW
  obtain ⟨p, cy, os, hp, hcy, rfl, rfl, hos, hown, hext⟩ := hrel
  by_cases hpk : p < n
  ·obtain ⟨g, hg⟩ : ∃ g, AO = some ⟨g, 0, none⟩ := by
    rcases hown.out.2 with ⟨_, h⟩ | ⟨g, cap', cur, h, _⟩
    ·omega
    ·simp only [Value.slice.injEq] at h
     exact ⟨g, h.1⟩
   subst hg
   have hlt := hown.out.lt g rfl
   obtain ⟨o, ho, hob⟩ : ∃ o : Nat, Hid ((lim x).getD p 0 = o) ∧ o < 4294967296 := ⟨_, rfl, lb_getD (lb_lim x) _⟩
   have ho2 : os.getD p 0 = o := by
    have h1 := congrArg (fun z : List Nat => z.getD 0 0) hos.out.2.2.1
    simp only [List.getD_eq_getElem?_getD, List.getElem?_drop, Nat.add_zero] at h1
    rw [List.getD_eq_getElem?_getD, h1, ← List.getD_eq_getElem?_getD]
    exact ho.out
   obtain ⟨hc1, hf1⟩ := own_at hown.out p hpk
   rw [ho2] at hc1
   obtain ⟨pr, hpr⟩ : ∃ pr, pr = o * m := ⟨_, rfl⟩
   have hprb : pr ≤ 18446744065119617025 := by
    rw [hpr]
    exact Nat.mul_le_mul (show o ≤ 4294967295 by omega) (show m ≤ 4294967295 by omega)
   have hpri : (o : Int) * (m : Int) = (pr : Int) := by rw [hpr]; exact (Int.natCast_mul _ _).symm
   have HPR := Lib.hid hpr
   have hlg := hlt.2
   clear hpr ho2 hlt
   go_wp2
   case roundEnd =>
    have hst := inpl_step (T := m) hos.out.1 HK.out hpk hos.out.2.2.1 hos.out.2.2.2 ho.out
    rw [← HPR.out] at hst
    refine ⟨⟨p + 1, (cy + pr) / 4294967296, os.set p ((cy + pr) % 4294967296), by omega, by omega, by simp, by go_num, ⟨by rw [List.length_set]; exact hos.out.1, lb_set hos.out.2.1 _ (Nat.mod_lt _ (by decide)), hst.1, hst.2⟩, ?_, ?_⟩, ?_⟩
    ·have e : ((pr : Int) + (cy : Int)) % 4294967296 = (((cy + pr) % 4294967296 : Nat) : Int) := by omega
     show World.ownsRow _ _ _ _ _ _ _
     rw [e]
     exact own_set hown.out p _
    ·exact jS hext.out ((hown.out.lt g rfl).1) _
    ·simp [intOf]; omega
  ·obtain rfl : p = n := by omega
   have hfin : Hid (val os + Bs ^ p * cy = x * m + cc) := Lib.hid (by
    have h1 := hos.out.2.2.2
    rw [take_ge (by rw [hos.out.1]; exact Nat.le_refl _), take_ge (by rw [HK.out]; exact Nat.le_refl _), val_lim] at h1
    exact h1)
   have hS := Lib.hid (small_len hm hos.out.1 hos.out.2.1 HK.out hfin.out hcy)
   clear hpk
   by_cases hc0 : 0 < cy
   ·go_wp2_with (first
     | (at_builtin; refine push_u32 rfl _ _ rfl _ rfl hext.out hown.out rfl cy ⟨wr.heap.size, 0, none⟩ 1 rfl (by rw [World.cell?_alloc_at _ _ _ _ rfl]; simp [u32V]; try omega) (by omega) ?_)
     | go_in)
    all_goals
     intro v' w3 hx3 ho3
     have HX3 := Lib.hid hx3
     have HO3 := Lib.hid ho3
     clear hx3 ho3 hown hext
     go_wp2
     refine bodyPost_ret (v := v') ?h rfl ⟨_, p + 1, rfl, ?_, Nat.le_refl _, HX3.out⟩
     case h => simp [results, Tryz.results154, go_sem]
     rw [← hS.out.2 hc0, List.map_append]
     exact HO3
   ·obtain rfl : cy = 0 := by omega
    go_wp2
    refine bodyPost_ret (v := .slice AO p cO) ?h rfl ⟨_, rfl, p, ?_, by omega, hext.out⟩
    case h => simp [results, Tryz.results154, go_sem]
    rw [← hS.out.1 (by simp)]
    exact hown
end Go.Proofs.YtfdmhefjmnlllaaGreatDoor
end
