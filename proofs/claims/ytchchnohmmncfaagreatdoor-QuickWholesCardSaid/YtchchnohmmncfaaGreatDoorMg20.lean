/- Lemmas of this proof, laid together: TwBigO, TwIntA, TwIntB, TwIntF, TwRatA, TwIntC, TwIntD, TwRatB, TwRatC, TwRatD, TwIntG, TwIntH, TwRatI, TwBigP, TwBigQ, TwBigR. -/
import Derived.Test.YtchchnohmmncfaaGreatDoorMg19
import Derived.Test.YtchchnohmmncfaaGreatDoorMg17
import Derived.Deep.DeepCutAuto
import Derived.Deep.RegionWith
import Derived.Deep.LoopGhost
import Derived.Test.YtchchnohmmncfaaGreatDoorMg18
import Derived.Maps.AppendAt
set_option linter.unusedSimpArgs false
set_option linter.unusedVariables false
section
/- (The document's library.) Words of the library's: the greatest common divisor. -/

namespace Go.Proofs.YtchchnohmmncfaaGreatDoor.NB
open Go.RowKit
attribute [local go_sem] sz2 sz3 sz4 sz5 sz6 sz7 sz8
set_option maxHeartbeats 4000000
set_option maxRecDepth 100000
attribute [local irreducible] Calls
theorem up_one (W : World) (za zb g : Nat) (hg : Hid (g = 2 ^ min za zb)) (h1 : za ≤ 16000000) (wx : World) (hx : Ext (W.alloc (Obj.cells #[.int .u32 1] 38)) wx) :
    Calls Tryz.prog 133 #[.slice (some ⟨W.heap.size, 0, none⟩) 1 1, .int .i64 (min (za : Int) (zb : Int))] wx (WPost wx g) := by
  have h := bw_up (some ⟨W.heap.size, 0, none⟩) 1 1 1 (min za zb) (by omega) (by omega) wx ((one_row W).ext hx)
  have e : ((min za zb : Nat) : Int) = min (za : Int) (zb : Int) := by omega
  rw [e, Nat.one_mul, ← hg.out] at h
  exact h
theorem bw_common (A B : Option Addr) (n c m d a b : Nat) (hn : n ≤ 400000) (hm : m ≤ 400000) (w : World) (hTz : Tz w) (hA : Rd w A n c (lim a)) (hB : Rd w B m d (lim b)) :
    Calls Tryz.prog 138 #[.slice A n c, .slice B m d] w (WPost w (Nat.gcd a b)) := by
  obtain ⟨g, hg⟩ : ∃ g, g = Nat.gcd a b := ⟨_, rfl⟩
  rw [← hg]
  have HA := Lib.hid hA
  have HB := Lib.hid hB
  have HT := Lib.hid hTz
  have HG := Lib.hid hg
  clear hA hB hTz hg
  go_enter Tryz.func138, Tryz.ntmps138
  go_upto_if 25 with (first
    | (go_at_call 74; (with_reducible refine (bw_cmp A _ n c m d a b _ HA.out HB.out).mono ?_); rintro e w1 ⟨rfl, xb1⟩)
   )
  go_cut [0, 1] (fun va vb wx => Two w g va vb wx)
  case first =>
    by_cases h : a < b
    · have hc : decide (cmpN a b < 0) = true := by unfold cmpN; rw [if_pos h]; rfl
      rw [hc]
      go_wp2
      go_meet
      case rel => exact ⟨B, m, d, A, n, c, b, a, rfl, rfl, HB.out.ext xb1, HA.out.ext xb1, ⟨by omega, by rw [Nat.gcd_comm]; exact HG.out.symm⟩, xb1, hm⟩
    · have hc : decide (cmpN a b < 0) = false := by unfold cmpN; rw [if_neg h]; split <;> rfl
      rw [hc]
      go_wp2
      go_meet
      case rel => exact ⟨A, n, c, B, m, d, a, b, rfl, rfl, HA.out.ext xb1, HB.out.ext xb1, ⟨by omega, HG.out.symm⟩, xb1, hn⟩
  case rest =>
    clear HA HB HG hm hn xb1 n c m d a b A B
    obtain ⟨A, n, c, B, m, d, a, b, rfl, rfl, HA, HB, HG, HE, hn⟩ := hcut
    have hmn : m ≤ n := by have := lim_mono HG.out.1; rwa [HA.out.len, HB.out.len] at this
    have hHT := Lib.hid (HT.out.ext HE.out)
    have hmx := HA.out.mx
    have hcx := HA.out.cap
    have hmy := HB.out.mx
    have hcy := HB.out.cap
    have hb0 : m = 0 ↔ b = 0 := by
      rw [← HB.out.len]; exact ⟨fun h => lim_nil.1 (List.eq_nil_of_length_eq_zero h), fun h => by rw [h, lim_zero]; rfl⟩
    have ha0 : n = 0 ↔ a = 0 := by
      rw [← HA.out.len]; exact ⟨fun h => lim_nil.1 (List.eq_nil_of_length_eq_zero h), fun h => by rw [h, lim_zero]; rfl⟩
    have HB0 := Lib.hid hb0
    have HA0 := Lib.hid ha0
    clear hb0 ha0
    go_upto_region 3 with (fail)
    go_cut [38] (fun v wx => ∃ bo, v = .bool bo ∧ Hid (decide (b ≠ 0 ∧ zz b + 1 = bitsOf b) = bo) ∧ Hid (Ext wc wx))
    case first =>
      by_cases h0 : m = 0
      · have hd : decide (b ≠ 0 ∧ zz b + 1 = bitsOf b) = false := by simp [HB0.out.1 h0]
        have HD := Lib.hid hd
        clear hd
        subst h0
        go_wp2
        go_meet
        case rel => exact ⟨_, rfl, HD, ext_refl _⟩
      · have hm0 : 0 < m := by omega
        obtain ⟨zb, hzb⟩ : ∃ z, z = zz b := ⟨_, rfl⟩
        obtain ⟨tb, htb⟩ : ∃ z, z = bitsOf b := ⟨_, rfl⟩
        have c1 := bw_zeros B m d b (by omega) wc hHT.out HB.out
        have c2 : ∀ wx, Ext wc wx → Calls Tryz.prog 110 #[.slice B m d] wx _ := fun wx hx => bw_bitLen B m d b (by omega) wx (HB.out.ext hx)
        have hzs : zb ≤ 100000000 ∧ tb ≤ 100000000 := by
          have h1 := bits_le b
          have h2 := zz_le b
          rw [HB.out.len] at h1
          rw [hzb, htb]; omega
        have hd : decide (b ≠ 0 ∧ zz b + 1 = bitsOf b) = ((zb : Int) + 1 == (tb : Int)) := by
          rw [← hzb, ← htb]
          have : b ≠ 0 := fun h => h0 (HB0.out.2 h)
          by_cases h : zb + 1 = tb
          · have h' : (zb : Int) + 1 = tb := by omega
            simp [this, h, h']
          · have h' : ¬ (zb : Int) + 1 = tb := by omega
            simp [this, h, h']
        have HD := Lib.hid hd
        rw [← hzb] at c1
        rw [← htb] at c2
        clear hzb htb hd
        go_wp2_with (first
          | (go_at_call 151; (with_reducible refine c1.mono ?_); rintro e w1 ⟨rfl, xb1⟩)
          | (go_at_call 110; (with_reducible refine (c2 _ xb1).mono ?_); rintro e w2 ⟨rfl, xb2⟩)
         )
        all_goals
          go_meet
          case rel => exact ⟨_, rfl, HD, ext_trans xb1 xb2⟩
    case rest =>
      obtain ⟨bo, rfl, hbo, hE2⟩ := hcut
      have hpow : ∀ wx, Ext wc wx → Hid (a ≠ 0 ∧ b ≠ 0 ∧ (a = 2 ^ zz a ∨ b = 2 ^ zz b) → g = 2 ^ min (zz a) (zz b)) := fun wx hx h => by
        rw [← HG.out.2]
        obtain ⟨h1, h2, h3 | h3⟩ := h
        · rw [Nat.gcd_comm, Nat.min_comm]; conv => lhs; rw [h3]
          exact gcd_pow h2
        · conv => lhs; rw [h3]
          exact gcd_pow h1
      have cA : ∀ wx, Ext w wx → Hid (Rd wx A n c (lim a)) → Calls Tryz.prog 151 #[.slice A n c] wx _ := fun wx hx hr => bw_zeros A n c a (by omega) wx (HT.out.ext hx) hr.out
      have cB : ∀ wx, Ext w wx → Hid (Rd wx B m d (lim b)) → Calls Tryz.prog 151 #[.slice B m d] wx _ := fun wx hx hr => bw_zeros B m d b (by omega) wx (HT.out.ext hx) hr.out
      have HE3 := Lib.hid (ext_trans HE.out hE2.out)
      have HA3 := Lib.hid (HA.out.ext hE2.out)
      have HB3 := Lib.hid (HB.out.ext hE2.out)
      cases bo with
      | true =>
        have hh : b ≠ 0 ∧ zz b + 1 = bitsOf b := of_decide_eq_true hbo.out
        have hg : Hid (g = 2 ^ min (zz a) (zz b)) := by
          have ha : a ≠ 0 := by have := HG.out.1; omega
          exact (hpow _ (ext_refl _)).out ⟨ha, hh.1, .inr ((zz_bits hh.1).1 hh.2)⟩
        clear hpow hh
        obtain ⟨za, hza⟩ : ∃ z, z = zz a := ⟨_, rfl⟩
        obtain ⟨zb, hzb⟩ : ∃ z, z = zz b := ⟨_, rfl⟩
        have hzs : za ≤ 16000000 ∧ zb ≤ 16000000 := by
          have h1 := bits_le b
          have h2 := zz_le b
          have h3 := bits_le a
          have h4 := zz_le a
          rw [HB.out.len] at h1
          rw [HA.out.len] at h3
          rw [hza, hzb]; omega
        obtain ⟨hzs1, hzs2⟩ := hzs
        rw [← hza] at cA hg
        rw [← hzb] at cB hg
        clear hza hzb
        go_wp2_with (first
          | (go_at_call 151; (with_reducible refine (cA _ (ext_alloc HE3.out _) (Lib.hid (HA3.out.ext (ext_alloc (ext_refl _) _)))).mono ?_); rintro e w5 ⟨rfl, xb5⟩)
          | (go_at_call 151; (with_reducible refine (cB _ (ext_trans (ext_alloc HE3.out _) xb5) (Lib.hid (HB3.out.ext (ext_trans (ext_alloc (ext_refl _) _) xb5)))).mono ?_); rintro e w6 ⟨rfl, xb6⟩)
          | (go_at_call 133; (with_reducible refine (up_one wc za zb g hg hzs1 _ (ext_trans xb5 xb6)).mono ?_); rintro e w7 ⟨A7, k7, c7, rfl, hR7, xb7⟩)
         )
        have hz := ext_size (ext_trans (ext_trans (ext_alloc HE3.out _) xb5) xb6)
        refine bodyPost_ret (v := .slice A7 k7 c7) ?h rfl ⟨A7, k7, c7, rfl, ⟨hR7.out.1, fun q hq => Nat.le_trans hz (Fr.at hR7.out.2 hq)⟩, ext_trans (ext_trans (ext_trans (ext_alloc HE3.out _) xb5) xb6) xb7⟩
        case h => simp [results, Tryz.results138, go_sem]
      | false =>
        clear hbo
        go_upto_region 5 with (fail)
        go_cut [61] (fun v wx => ∃ bo, v = .bool bo ∧ Hid (decide (a ≠ 0 ∧ zz a + 1 = bitsOf a ∧ b ≠ 0) = bo) ∧ Hid (Ext wc wx))
        case first =>
          clear cA cB hpow
          by_cases h0 : n = 0
          · have hd : decide (a ≠ 0 ∧ zz a + 1 = bitsOf a ∧ b ≠ 0) = false := by simp [HA0.out.1 h0]
            have HD := Lib.hid hd
            clear hd
            subst h0
            go_wp2
            go_meet
            case rel => exact ⟨_, rfl, HD, ext_refl _⟩
          · have hn0 : 0 < n := by omega
            have han : a ≠ 0 := fun h => h0 (HA0.out.2 h)
            obtain ⟨zb, hzb⟩ : ∃ z, z = zz a := ⟨_, rfl⟩
            obtain ⟨tb, htb⟩ : ∃ z, z = bitsOf a := ⟨_, rfl⟩
            have c1 := bw_zeros A n c a (by omega) wc (HT.out.ext HE3.out) HA3.out
            have c2 : ∀ wx, Ext wc wx → Calls Tryz.prog 110 #[.slice A n c] wx _ := fun wx hx => bw_bitLen A n c a (by omega) wx (HA3.out.ext hx)
            have hzs : zb ≤ 100000000 ∧ tb ≤ 100000000 := by
              have h1 := bits_le a
              have h2 := zz_le a
              rw [HA.out.len] at h1
              rw [hzb, htb]; omega
            rw [← hzb] at c1
            rw [← htb] at c2
            by_cases hp : zb + 1 = tb
            · have hd : decide (a ≠ 0 ∧ zz a + 1 = bitsOf a ∧ b ≠ 0) = decide (0 < m) := by
                rw [← hzb, ← htb]
                have hmb := HB0.out
                by_cases hm0 : m = 0
                · simp [hm0, hmb.1 hm0]
                · have h1 : b ≠ 0 := fun h => hm0 (hmb.2 h)
                  have h2 : 0 < m := by omega
                  simp [han, hp, h1]; omega
              have HD := Lib.hid hd
              have hbe : ((zb : Int) + 1 == (tb : Int)) = true := by simp; omega
              clear hd hzb htb hp
              go_wp2_with (first
                | (go_at_call 151; (with_reducible refine c1.mono ?_); rintro e w1 ⟨rfl, xb1⟩)
                | (go_at_call 110; (with_reducible refine (c2 _ xb1).mono ?_); rintro e w2 ⟨rfl, xb2⟩)
               )
              all_goals
                go_meet
                case rel => exact ⟨_, rfl, HD, ext_trans xb1 xb2⟩
            · have hd : decide (a ≠ 0 ∧ zz a + 1 = bitsOf a ∧ b ≠ 0) = false := by rw [← hzb, ← htb]; simp [hp]
              have HD := Lib.hid hd
              have hbe : ((zb : Int) + 1 == (tb : Int)) = false := by rw [beq_eq_false_iff_ne]; omega
              clear hd hzb htb hp
              go_wp2_with (first
                | (go_at_call 151; (with_reducible refine c1.mono ?_); rintro e w1 ⟨rfl, xb1⟩)
                | (go_at_call 110; (with_reducible refine (c2 _ xb1).mono ?_); rintro e w2 ⟨rfl, xb2⟩)
               )
              all_goals
                go_meet
                case rel => exact ⟨_, rfl, HD, ext_trans xb1 xb2⟩
        case rest =>
          obtain ⟨bo, rfl, hbo, hE4⟩ := hcut
          have HE5 := Lib.hid (ext_trans HE3.out hE4.out)
          have HA5 := Lib.hid (HA3.out.ext hE4.out)
          have HB5 := Lib.hid (HB3.out.ext hE4.out)
          cases bo with
          | true =>
            have hh : a ≠ 0 ∧ zz a + 1 = bitsOf a ∧ b ≠ 0 := of_decide_eq_true hbo.out
            have hg : Hid (g = 2 ^ min (zz a) (zz b)) := (hpow _ (ext_refl _)).out ⟨hh.1, hh.2.2, .inl ((zz_bits hh.1).1 hh.2.1)⟩
            clear hpow hh
            obtain ⟨za, hza⟩ : ∃ z, z = zz a := ⟨_, rfl⟩
            obtain ⟨zb, hzb⟩ : ∃ z, z = zz b := ⟨_, rfl⟩
            have hzs : za ≤ 16000000 ∧ zb ≤ 16000000 := by
              have h1 := bits_le b
              have h2 := zz_le b
              have h3 := bits_le a
              have h4 := zz_le a
              rw [HB.out.len] at h1
              rw [HA.out.len] at h3
              rw [hza, hzb]; omega
            obtain ⟨hzs1, hzs2⟩ := hzs
            rw [← hza] at cA hg
            rw [← hzb] at cB hg
            clear hza hzb
            go_wp2_with (first
              | (go_at_call 151; (with_reducible refine (cA _ (ext_alloc HE5.out _) (Lib.hid (HA5.out.ext (ext_alloc (ext_refl _) _)))).mono ?_); rintro e w5 ⟨rfl, xc5⟩)
              | (go_at_call 151; (with_reducible refine (cB _ (ext_trans (ext_alloc HE5.out _) xc5) (Lib.hid (HB5.out.ext (ext_trans (ext_alloc (ext_refl _) _) xc5)))).mono ?_); rintro e w6 ⟨rfl, xc6⟩)
              | (go_at_call 133; (with_reducible refine (up_one wc za zb g hg hzs1 _ (ext_trans xc5 xc6)).mono ?_); rintro e w7 ⟨A7, k7, c7, rfl, hR7, xc7⟩)
             )
            have hz := ext_size (ext_trans (ext_trans (ext_alloc HE5.out _) xc5) xc6)
            refine bodyPost_ret (v := .slice A7 k7 c7) ?h rfl ⟨A7, k7, c7, rfl, ⟨hR7.out.1, fun q hq => Nat.le_trans hz (Fr.at hR7.out.2 hq)⟩, ext_trans (ext_trans (ext_trans (ext_alloc HE5.out _) xc5) xc6) xc7⟩
            case h => simp [results, Tryz.results138, go_sem]
          | false =>
            clear hbo hpow cA cB HB0 HA0 hHT
            go_wp2
            go_loopg [0, 1] (a + b) (fun gk va vb wr => TwoG w g gk va vb wr)
            case atStart => exact ⟨A, n, c, B, m, d, a, b, rfl, rfl, HA5, HB5, HG, HE5, hn, rfl⟩
            case round =>
              clear HA HB HA3 HB3 HA5 HB5 HG HE HE3 HE5 hE2 hE4 hmn hmx hcx hmy hcy hn
              clear A n c B m d a b
              obtain ⟨A, n, c, B, m, d, a, b, rfl, rfl, HA, HB, HG, HE, hn, hgk⟩ := hrel
              have hmn : m ≤ n := by have := lim_mono HG.out.1; rwa [HA.out.len, HB.out.len] at this
              have hmx := HA.out.mx
              have hcx := HA.out.cap
              have hmy := HB.out.mx
              have hcy := HB.out.cap
              by_cases h2 : 2 < m
              · obtain ⟨ta, hta⟩ : ∃ t, t = bitsOf a := ⟨_, rfl⟩
                have hb2 : 18446744073709551616 ≤ b := by
                  have hb0 : b ≠ 0 := by rintro rfl; have := HB.out.len; rw [lim_zero] at this; simp at this; omega
                  have h1 := (lim_len hb0).1
                  rw [HB.out.len] at h1
                  exact Nat.le_trans (Nat.le_trans (by decide) (Nat.pow_le_pow_right (by decide) (show 2 ≤ m - 1 by omega))) h1
                have ha2 : 18446744073709551616 ≤ a := Nat.le_trans hb2 HG.out.1
                obtain ⟨-, s1, s2⟩ := bitsOf_spec (a := a) (by omega)
                rw [← hta] at s1 s2
                have hta60 : 60 < ta := by
                  refine Nat.lt_of_not_le fun h => ?_
                  have := Nat.lt_of_lt_of_le s2 (Nat.pow_le_pow_right (by decide) h)
                  omega
                obtain ⟨z, rfl⟩ : ∃ z, ta = z + 60 := ⟨ta - 60, by omega⟩
                have hz1 : z ≤ 100000000 := by have := bits_le a; rw [HA.out.len, ← hta] at this; omega
                have hX : a / 2 ^ z < 1152921504606846976 := by
                  rw [Nat.div_lt_iff_lt_mul (Nat.two_pow_pos z), Nat.mul_comm]
                  rw [Nat.pow_add] at s2; exact s2
                have hYX : b / 2 ^ z ≤ a / 2 ^ z := Nat.div_le_div_right HG.out.1
                have HST := Lib.hid (show a ≠ 0 ∧ b ≠ 0 by omega)
                obtain ⟨X, hXe⟩ : ∃ X, X = a / 2 ^ z := ⟨_, rfl⟩
                obtain ⟨Y, hYe⟩ : ∃ Y, Y = b / 2 ^ z := ⟨_, rfl⟩
                rw [← hXe] at hX hYX
                rw [← hYe] at hYX
                have c1 : ∀ wx, Ext wr wx → Calls Tryz.prog 110 #[.slice A n c] wx (fun e w' => e = .returned (.int .i64 ((z : Int) + 60)) ∧ Ext wx w') := fun wx hx => by
                  have := bw_bitLen A n c a (by omega) wx (HA.out.ext hx)
                  rw [← hta] at this
                  simpa using this
                have c2 : ∀ wx, Ext wr wx → Calls Tryz.prog 152 #[.slice A n c, .int .i64 (z : Int)] wx (fun e w' => e = .returned (.int .u64 (X : Int)) ∧ Ext wx w') := fun wx hx => by
                  have := bw_topBits A n c a z (by omega) hz1 wx (HA.out.ext hx)
                  rwa [← hXe, Nat.mod_eq_of_lt (by omega)] at this
                have c3 : ∀ wx, Ext wr wx → Calls Tryz.prog 152 #[.slice B m d, .int .i64 (z : Int)] wx (fun e w' => e = .returned (.int .u64 (Y : Int)) ∧ Ext wx w') := fun wx hx => by
                  have := bw_topBits B m d b z (by omega) hz1 wx (HB.out.ext hx)
                  rwa [← hYe, Nat.mod_eq_of_lt (by omega)] at this
                have HXE := Lib.hid hXe
                have HYE := Lib.hid hYe
                subst hgk
                clear hb2 ha2 s1 s2 hta60 hta hXe hYe
                go_wp2_with (first
                  | (go_at_call 110; (with_reducible refine (c1 _ (ext_refl _)).mono ?_); rintro e w1 ⟨rfl, xb1⟩)
                  | (go_at_call 152; (with_reducible refine (c2 _ xb1).mono ?_); rintro e w2 ⟨rfl, xb2⟩)
                  | (go_at_call 152; (with_reducible refine (c3 _ (ext_trans xb1 xb2)).mono ?_); rintro e w3 ⟨rfl, xb3⟩)
                 )
                go_loopg [6, 7, 8, 9, 10, 11, 12, 13, 14] Y (fun gk vx vy vu0 vu1 vu2 vv0 vv1 vv2 ve wi => Inn w A n c a B m d b X Y gk vx vy vu0 vu1 vu2 vv0 vv1 vv2 ve wi)
                case atStart => exact ⟨X, Y, 0, 1, 0, 0, 0, 1, false, rfl, rfl, rfl, rfl, rfl, rfl, rfl, rfl, rfl, rfl, Leh.start hYX, (by decide : 1 < 1152921504606846976), ext_trans HE.out (ext_trans xb1 (ext_trans xb2 xb3)), HA.out.ext (ext_trans xb1 (ext_trans xb2 xb3)), HB.out.ext (ext_trans xb1 (ext_trans xb2 xb3))⟩
                case round =>
                  obtain ⟨x, y, u0, u1, u2, v0, v1, v2, even, hgy, rfl, rfl, rfl, rfl, rfl, rfl, rfl, rfl, rfl, HL, HV, HEI, HAI, HBI⟩ := hrel
                  clear HE HA HB c1 c2 c3 xb1 xb2 xb3
                  have e1 := HL.out.hyx
                  have e2 := Nat.le_trans HL.out.le (Nat.le_of_lt hX)
                  have e3 := HV.out
                  have e4 := HL.out.hv
                  obtain ⟨e4, e5, e6⟩ := e4
                  have HYP := Lib.hid (show gk = y from hgy)
                  clear hgy
                  go_upto_region 14 with (fail)
                  go_cut [92] (fun v wi2 => ∃ bo, v = .bool bo ∧ Hid (decide (v2 ≤ y ∧ v1 + v2 ≤ x - y) = bo) ∧ Hid (Ext wr wi2))
                  case first =>
                    by_cases f1 : v2 ≤ y
                    · by_cases f2 : v1 + v2 ≤ x - y
                      · have F2 := Lib.hid (show decide (v2 ≤ y ∧ v1 + v2 ≤ x - y) = true from decide_eq_true ⟨f1, f2⟩)
                        have f3 : (v1 : Int) + (v2 : Int) ≤ (x : Int) - (y : Int) := by omega
                        clear f2
                        go_wp2
                        go_meet
                        case rel => exact ⟨_, rfl, F2, ext_refl _⟩
                      · have F2 := Lib.hid (show decide (v2 ≤ y ∧ v1 + v2 ≤ x - y) = false from decide_eq_false (fun h => f2 h.2))
                        have f3 : decide ((v1 : Int) + (v2 : Int) ≤ (x : Int) - (y : Int)) = false := decide_eq_false (by omega)
                        clear f2
                        go_wp2
                        go_meet
                        case rel => exact ⟨_, rfl, F2, ext_refl _⟩
                    · have F2 := Lib.hid (show decide (v2 ≤ y ∧ v1 + v2 ≤ x - y) = false from decide_eq_false (fun h => f1 h.1))
                      go_wp2
                      go_meet
                      case rel => exact ⟨_, rfl, F2, ext_refl _⟩
                  case rest =>
                    obtain ⟨bo, rfl, hbo, hEi⟩ := hcut
                    cases bo with
                    | true =>
                      obtain ⟨f1, f2⟩ : v2 ≤ y ∧ v1 + v2 ≤ x - y := of_decide_eq_true hbo.out
                      have hy0 : 0 < y := by omega
                      have hstep := HL.out.step hX f1 f2
                      obtain ⟨q, hq⟩ : ∃ q, q = x / y := ⟨_, rfl⟩
                      obtain ⟨r, hr⟩ : ∃ r, r = x % y := ⟨_, rfl⟩
                      have hxy : x = q * y + r := by rw [hq, hr, Nat.mul_comm]; exact (Nat.div_add_mod x y).symm
                      have hry : r < y := by rw [hr]; exact Nat.mod_lt _ hy0
                      rw [← hq, ← hr] at hstep
                      have HST2 := Lib.hid hstep
                      have g1 := hstep.whole
                      have g2 : v1 + q * v2 ≤ y * (v1 + q * v2) := Nat.le_mul_of_pos_left _ hy0
                      have g3 : u1 + q * u2 ≤ v1 + q * v2 := hstep.hv.2.2
                      clear hstep
                      obtain ⟨p, hp⟩ : ∃ p, p = q * y := ⟨_, rfl⟩
                      obtain ⟨su, hsu⟩ : ∃ p, p = q * u2 := ⟨_, rfl⟩
                      obtain ⟨sv, hsv⟩ : ∃ p, p = q * v2 := ⟨_, rfl⟩
                      rw [← hsv] at g1 g2 g3 HST2
                      rw [← hsu] at g3 HST2
                      rw [← hp] at hxy
                      have k1 : (q : Int) * (y : Int) = (p : Int) := by rw [hp]; simp
                      have k2 : (q : Int) * (u2 : Int) = (su : Int) := by rw [hsu]; simp
                      have k3 : (q : Int) * (v2 : Int) = (sv : Int) := by rw [hsv]; simp
                      have kq : (x : Int) / (y : Int) = (q : Int) := by rw [hq]; simp
                      have hqx : q ≤ x := by rw [hq]; exact Nat.div_le_self _ _
                      have l1 : v1 + sv < 1152921504606846976 := by omega
                      have l2 : u1 + su < 1152921504606846976 := by omega
                      have HYP2 := Lib.hid (show r < gk by rw [HYP.out]; exact hry)
                      have kr : (x : Int) - (p : Int) = (r : Int) := by omega
                      obtain ⟨un, hun⟩ : ∃ p, p = u1 + su := ⟨_, rfl⟩
                      obtain ⟨vn, hvn⟩ : ∃ p, p = v1 + sv := ⟨_, rfl⟩
                      rw [← hun] at l2 HST2
                      rw [← hvn] at l1 HST2
                      have ku : (u1 : Int) + (su : Int) = (un : Int) := by omega
                      have kv : (v1 : Int) + (sv : Int) = (vn : Int) := by omega
                      clear hun hvn
                      clear g1 g2 g3 hp hsu hsv hq hr HL HYP f1 f2
                      have hy1 : ((y : Int) == 0) = false := by rw [beq_eq_false_iff_ne]; omega
                      have HXY := Lib.hid hxy
                      clear hxy
                      go_wp2
                      go_roundg r
                      case measure => exact HYP2.out
                      case rel => exact ⟨y, r, u1, u2, un, v1, v2, vn, !even, rfl, rfl, rfl, rfl, rfl, rfl, rfl, rfl, rfl, rfl, by cases even <;> exact HST2.out, l1, ext_trans HEI.out hEi.out, HAI.out.ext hEi.out, HBI.out.ext hEi.out⟩
                    | false =>
                      have HEW := Lib.hid (ext_trans HEI.out hEi.out)
                      have HAW := Lib.hid (HAI.out.ext hEi.out)
                      have HBW := Lib.hid (HBI.out.ext hEi.out)
                      clear hbo HEI HAI HBI hEi HYP e2
                      by_cases hv0 : v0 = 0
                      · subst hv0
                        have hba := HG.out.1
                        have hb0 := HST.out.2
                        have hgg : Hid (a % b ≤ b ∧ Nat.gcd b (a % b) = g) := by
                          refine ⟨Nat.le_of_lt (Nat.mod_lt a (Nat.pos_of_ne_zero hb0)), ?_⟩
                          rw [← HG.out.2, Nat.gcd_comm b, ← Nat.gcd_rec, Nat.gcd_comm]
                        have hgm : Hid (b + a % b < a + b) := by
                          show _ < _
                          have := Nat.mod_lt a (Nat.pos_of_ne_zero hb0)
                          omega
                        clear hba hb0
                        go_wp2_with (first
                          | (go_at_call 153; (with_reducible refine (bw_div A B n c m d a b HST.out.2 hn _ HAW.out HBW.out).mono ?_); rintro e w7 ⟨A2, k2, d2, B2, m2, e2, rfl, hR2, hS2, xb2⟩)
                         )
                        go_roundg (b + a % b)
                        case measure => exact hgm.out
                        case rel => exact ⟨B, m, d, B2, m2, e2, b, a % b, rfl, rfl, HBW.out.ext xb2, hS2.out.1, hgg, ext_trans HEW.out xb2, by omega, rfl⟩
                      · have hv1 : ((v0 : Int) == 0) = false := by rw [beq_eq_false_iff_ne]; omega
                        obtain ⟨a2, b2, eA, eB, q1, q2, q3, q4, q5, q6, q7⟩ := HL.out.blend hv0 HXE.out HYE.out (Nat.two_pow_pos z)
                        have hgg : Hid (b2 ≤ a2 ∧ Nat.gcd a2 b2 = g) := ⟨q1, by rw [q3]; exact HG.out.2⟩
                        have hgm : Hid (a2 + b2 < a + b) := by show _ < _; have := HST.out.2; omega
                        have hla : (lim a2).length ≤ n := by have := lim_mono (show a2 ≤ a by omega); rwa [HAW.out.len] at this
                        have HLA := Lib.hid hla
                        clear q1 q2 q3 hla hv0
                        cases even with
                        | true =>
                          have c4 : ∀ wx, Ext wc wx → Calls Tryz.prog 154 #[.slice A n c, .slice B m d, .int .i64 (u0 : Int), .int .i64 (-(v0 : Int))] wx (WPost wx a2) := fun wx hx =>
                            bw_blend A B n c m d a b (u0 : Int) (-(v0 : Int)) a2 hmn (by omega) (by omega) (by omega) (by omega) (by omega) (by rw [eA]; simp; grind) wx (HAW.out.ext hx) (HBW.out.ext hx)
                          have c5 : ∀ wx, Ext wc wx → Calls Tryz.prog 154 #[.slice A n c, .slice B m d, .int .i64 (-(u1 : Int)), .int .i64 (v1 : Int)] wx (WPost wx b2) := fun wx hx =>
                            bw_blend A B n c m d a b (-(u1 : Int)) (v1 : Int) b2 hmn (by omega) (by omega) (by omega) (by omega) (by omega) (by rw [eB]; simp; grind) wx (HAW.out.ext hx) (HBW.out.ext hx)
                          clear eA eB
                          go_wp2_with (first
                            | (go_at_call 154; (with_reducible refine (c4 _ (ext_refl _)).mono ?_); rintro e w7 ⟨A2, k2, d2, rfl, hR2, xb2⟩)
                            | (go_at_call 154; (with_reducible refine (c5 _ xb2).mono ?_); rintro e w8 ⟨B2, m2, e2, rfl, hS2, xb3⟩)
                           )
                          go_roundg (a2 + b2)
                          case measure => exact hgm.out
                          case rel => exact ⟨A2, k2, d2, B2, m2, e2, a2, b2, rfl, rfl, hR2.out.1.ext xb3, hS2.out.1, hgg, ext_trans HEW.out (ext_trans xb2 xb3), by have := HLA.out; rw [hR2.out.1.len] at this; omega, rfl⟩
                        | false =>
                          have c4 : ∀ wx, Ext wc wx → Calls Tryz.prog 154 #[.slice A n c, .slice B m d, .int .i64 (-(u0 : Int)), .int .i64 (v0 : Int)] wx (WPost wx a2) := fun wx hx =>
                            bw_blend A B n c m d a b (-(u0 : Int)) (v0 : Int) a2 hmn (by omega) (by omega) (by omega) (by omega) (by omega) (by rw [eA]; simp; grind) wx (HAW.out.ext hx) (HBW.out.ext hx)
                          have c5 : ∀ wx, Ext wc wx → Calls Tryz.prog 154 #[.slice A n c, .slice B m d, .int .i64 (u1 : Int), .int .i64 (-(v1 : Int))] wx (WPost wx b2) := fun wx hx =>
                            bw_blend A B n c m d a b (u1 : Int) (-(v1 : Int)) b2 hmn (by omega) (by omega) (by omega) (by omega) (by omega) (by rw [eB]; simp; grind) wx (HAW.out.ext hx) (HBW.out.ext hx)
                          clear eA eB
                          go_wp2_with (first
                            | (go_at_call 154; (with_reducible refine (c4 _ (ext_refl _)).mono ?_); rintro e w7 ⟨A2, k2, d2, rfl, hR2, xb2⟩)
                            | (go_at_call 154; (with_reducible refine (c5 _ xb2).mono ?_); rintro e w8 ⟨B2, m2, e2, rfl, hS2, xb3⟩)
                           )
                          go_roundg (a2 + b2)
                          case measure => exact hgm.out
                          case rel => exact ⟨A2, k2, d2, B2, m2, e2, a2, b2, rfl, rfl, hR2.out.1.ext xb3, hS2.out.1, hgg, ext_trans HEW.out (ext_trans xb2 xb3), by have := HLA.out; rw [hR2.out.1.len] at this; omega, rfl⟩
              · by_cases hm0 : m = 0
                · have hb0 : b = 0 := lim_nil.1 (List.eq_nil_of_length_eq_zero (by rw [HB.out.len]; exact hm0))
                  have hga : Hid (g = a) := by
                    show _ = _
                    rw [← HG.out.2, hb0, Nat.gcd_zero_right]
                  clear hb0
                  subst hm0
                  go_wp2_with (first
                    | (go_at_call 78; (with_reducible refine (bw_copied A n c (lim a) (by omega) _ HA.out).mono ?_); rintro e w2 ⟨rfl, hR2, xb2⟩)
                   )
                  have hz := ext_size HE.out
                  refine bodyPost_ret (v := .slice (some ⟨wr.heap.size, 0, none⟩) n n) ?h rfl ⟨_, n, n, rfl, ⟨by rw [hga.out]; exact hR2.out, fun q hq => by cases hq; exact hz⟩, ext_trans HE.out xb2⟩
                  case h => simp [results, Tryz.results138, go_sem]
                · have hb0 : b ≠ 0 := fun h => hm0 (by rw [← HB.out.len, h, lim_zero]; rfl)
                  have hm1 : ((m : Int) == 0) = false := by rw [beq_eq_false_iff_ne]; omega
                  have hlb : (lim (a % b)).length ≤ 2 := by
                    have := lim_mono (Nat.le_of_lt (Nat.mod_lt a (Nat.pos_of_ne_zero hb0)))
                    rw [HB.out.len] at this; omega
                  go_wp2_with (first
                    | (go_at_call 153; (with_reducible refine (bw_div A B n c m d a b hb0 hn _ HA.out HB.out).mono ?_); rintro e w2 ⟨A2, k2, c2, B2, m2, d2, rfl, hR2, hS2, xb2⟩)
                    | (go_at_call 118; (with_reducible refine (bw_toUint B m d b (by rw [HB.out.len]; omega) _ (HB.out.ext xb2)).mono ?_); rintro e w3 ⟨rfl, rfl⟩)
                    | (go_at_call 118; (with_reducible refine (bw_toUint B2 m2 d2 (a % b) hlb _ hS2.out.1).mono ?_); rintro e w4 ⟨rfl, rfl⟩)
                   )
                  have hE2' := Lib.hid (ext_trans HE.out xb2)
                  have hB64 : b < 18446744073709551616 := by
                    have h1 := lim_lt b
                    rw [HB.out.len] at h1
                    exact Nat.lt_of_lt_of_le h1 (Nat.le_trans (Nat.pow_le_pow_right (by decide) (show m ≤ 2 by omega)) (by decide))
                  have hy64 : a % b < 18446744073709551616 := Nat.lt_trans (Nat.mod_lt a (Nat.pos_of_ne_zero hb0)) hB64
                  have hgg : Hid (Nat.gcd b (a % b) = g) := by
                    show _ = _
                    rw [← HG.out.2, Nat.gcd_comm b, ← Nat.gcd_rec, Nat.gcd_comm]
                  go_loopw [20, 21] (fun vx vy wr2 => ∃ x y : Nat, vx = .int .u64 (x : Int) ∧ vy = .int .u64 (y : Int) ∧ (x < 18446744073709551616 ∧ y < 18446744073709551616) ∧ Hid (Nat.gcd x y = g) ∧ Hid (Ext w wr2))
                    (fun _ vy _ => (intOf vy).toNat)
                  case atStart => exact ⟨b, a % b, rfl, by simp, ⟨hB64, hy64⟩, hgg.out, hE2'.out⟩
                  case round =>
                    obtain ⟨x, y, rfl, rfl, ⟨hx64, hy64⟩, hxy, hE5⟩ := hrel
                    by_cases hy0 : y = 0
                    · subst hy0
                      have hgx : g = x := by rw [← hxy.out, Nat.gcd_zero_right]
                      have HGX := Lib.hid hgx
                      clear hgx
                      go_wp2_with (first
                        | (go_at_call 82; (with_reducible refine (bw_fromUint x hx64 _).mono ?_); rintro e w7 ⟨A7, k7, c7, rfl, hR7, xb7⟩)
                       )
                      have hz := ext_size hE5.out
                      refine bodyPost_ret (v := .slice A7 k7 c7) ?h rfl ⟨A7, k7, c7, rfl, ⟨by rw [HGX.out]; exact hR7.out.1, fun q hq => Nat.le_trans hz (Fr.at hR7.out.2 hq)⟩, ext_trans hE5.out xb7⟩
                      case h => simp [results, Tryz.results138, go_sem]
                    · have hy1 : ((y : Int) == 0) = false := by rw [beq_eq_false_iff_ne]; omega
                      have hlt : x % y < y := Nat.mod_lt _ (by omega)
                      go_wp2
                      go_quiet (fail)
                      go_wp2
                      case roundEnd =>
                        have hmi : (x : Int) % (y : Int) = ((x % y : Nat) : Int) := by simp
                        refine ⟨⟨y, x % y, rfl, by rw [hmi], ⟨hy64, by omega⟩, ?_, ext_drewN hE5.out _⟩, ?_⟩
                        · show _ = _
                          rw [← hxy.out, Nat.gcd_comm y, ← Nat.gcd_rec, Nat.gcd_comm]
                        · rw [hmi]
                          show ((x % y : Nat) : Int).toNat < ((y : Nat) : Int).toNat
                          rw [Int.toNat_natCast, Int.toNat_natCast]
                          exact hlt
end Go.Proofs.YtchchnohmmncfaaGreatDoor.NB
end
section
/- (The document's library.) Whole numbers of the library's: objects in memory, set. -/

namespace Go.Proofs.YtchchnohmmncfaaGreatDoor.NB
open Go.RowKit
attribute [local go_sem] sz2 sz3 sz4 sz5 sz6 sz7 sz8
set_option maxHeartbeats 4000000
set_option maxRecDepth 100000
attribute [local irreducible] Calls
theorem bi_setx (b o : Nat) (neg : Bool) (A : Option Addr) (n c a : Nat) (w : World) (hr : Room w b o) (hA : Rd w A n c (lim a)) (ho : Off A n b) :
    Calls Tryz.prog 63 #[.pointer (some ⟨b, o, none⟩), .bool neg, .slice A n c] w fun e w' => e = .returned (.pointer (some ⟨b, o, none⟩)) ∧ Hid (IntIs w' b o (sgn neg a) A n c) ∧ Tch b w w' ∧ Hid (∀ p, p ≠ o → p ≠ o + 1 → w'.cell? ⟨b, p, none⟩ = w.cell? ⟨b, p, none⟩ ∧ w'.frozen? ⟨b, p, none⟩ = w.frozen? ⟨b, p, none⟩) := by
  have hlen := hA.len
  have HA := Lib.hid hA
  have HR := Lib.hid hr
  obtain ⟨hl, ⟨v0, h0⟩, ⟨v1, h1⟩, h2, h3⟩ := hr
  have HO := Lib.hid ho
  have hz : a = 0 ↔ n = 0 := by rw [← hlen]; exact ⟨fun h => by rw [h, lim_zero]; rfl, fun h => lim_nil.1 (List.eq_nil_of_length_eq_zero h)⟩
  have HZ := Lib.hid (show decide (0 < n) = decide (0 < a) by rw [decide_eq_decide]; omega)
  clear ho hA hz
  cases neg
  all_goals
   go_enter Tryz.func63, Tryz.ntmps63
   go_wp2_with (first
    | (go_at_call 105; (with_reducible refine (bw_trim A n c (lim a) _ HA.out).mono ?_); rintro e w1 ⟨k, rfl, hR1, rfl⟩; rw [trimZ_lim_lim] at hR1; obtain rfl : n = k := by rw [← hlen]; exact hR1.len)
    )
   refine bodyPost_ret (v := .pointer (some ⟨b, o, none⟩)) ?h rfl ⟨rfl, int_made HR.out (by rw [sgn_abs]; exact hR1) HO.out (by rw [sgn_lt]; first | rfl | (rw [← HZ.out]; rfl)), ((Tch.refl b w).set _ _).set _ _, fun p h1 h2 => ⟨by rw [World.cell?_setCell_other _ _ _ _ (by intro e; simp at e; try omega), World.cell?_setCell_other _ _ _ _ (by intro e; simp at e; try omega)], by simp⟩⟩
   case h => simp [results, Tryz.results63, go_sem]
theorem bi_set (b o : Nat) (neg : Bool) (A : Option Addr) (n c a : Nat) (w : World) (hr : Room w b o) (hA : Rd w A n c (lim a)) (ho : Off A n b) :
    Calls Tryz.prog 63 #[.pointer (some ⟨b, o, none⟩), .bool neg, .slice A n c] w fun e w' => e = .returned (.pointer (some ⟨b, o, none⟩)) ∧ Hid (IntIs w' b o (sgn neg a) A n c) ∧ Tch b w w' :=
  (bi_setx b o neg A n c a w hr hA ho).mono fun _ _ ⟨h1, h2, h3, _⟩ => ⟨h1, h2, h3⟩
end Go.Proofs.YtchchnohmmncfaaGreatDoor.NB
end
section
/- (The document's library.) Whole numbers of the library's: copied, with the sign turned. -/

namespace Go.Proofs.YtchchnohmmncfaaGreatDoor.NB
open Go.RowKit
attribute [local go_sem] sz2 sz3 sz4 sz5 sz6 sz7 sz8
set_option maxHeartbeats 4000000
set_option maxRecDepth 100000
attribute [local irreducible] Calls
attribute [local go_sem] Oper.detAt detUpon relUpon
theorem rel_copied (N : Nat) (A : Option Addr) (n c a : Nat) (hn : n ≤ 1000000) (vals : List Value) (w : World) (hN : N ≤ w.heap.size) (hA : Rd w A n c (lim a)) :
    Calls Tryz.prog 78 #[.slice A n c] w fun e w' => ∃ v, e = .returned v ∧ Ext w w' ∧ Fresh w v w' ∧ RWord N a vals v w' := by
  have HA := Lib.hid hA
  have hlen := Lib.hid hA.len
  clear hA
  go_enter Tryz.func78, Tryz.ntmps78
  go_wp2_with (first
    | (at_make; refine make_u32 rfl _ _ rfl _ _ _ _ n rfl rfl (by simp) (by simp) (by omega) ?_; intro w1 hx1 ho1; have hext1 := Lib.hid hx1; clear hx1)
    | (with_reducible refine copy_u32 rfl (.tmp 7) (.tmp 8) rfl ho1.out (HA.out.ext hext1.out) rfl rfl (Nat.le_refl _) hext1.out (Nat.le_refl _) ?_; intro w2 hx2 ho2; have hext2 := Lib.hid hx2; clear hx2)
    | go_in)
  refine bodyPost_ret (v := .slice (some ⟨w.heap.size, 0, none⟩) n n) ?h rfl ⟨_, rfl, hext2.out, ?_, ?_⟩
  case h => simp [results, Tryz.results78, go_sem]
  · intro b hb
    simp only [blk, Option.some.injEq] at hb
    subst hb
    exact ho2.out.lt _ rfl
  · have e : lim a ++ (List.replicate n 0).drop n = lim a := by simp
    rw [e] at ho2
    obtain ⟨A', c', he, hR⟩ := Rd.own ho2.out (lb_lim a)
    cases he
    exact ⟨_, _, _, rfl, hR, fun q hq => by cases hq; exact hN⟩
theorem bi_Set (b o bx ox : Nat) (A : Option Addr) (n c : Nat) (z : Int) (hn : n ≤ 1000000) (w : World) (hr : Room w b o) (hx : IntIs w bx ox z A n c) :
    Calls Tryz.prog 45 #[.pointer (some ⟨b, o, none⟩), .pointer (some ⟨bx, ox, none⟩)] w (IPost w b o z) := by
  have HX := Lib.hid hx
  have HR := Lib.hid hr
  have lx := hx.room.lt
  have x0 := hx.neg
  have x1 := hx.words
  clear hx hr
  go_enter Tryz.func45, Tryz.ntmps45
  go_wp2
  refine wp_drawn_tail 10 (tab [(9, RWord w.heap.size z.natAbs)]) (by kernel_rfl) (by kernel_rfl) (by kernel_rfl) (tab_stays (by simp [stays_word])) (fun hq hqf => ?_)
  simp only [List.take_succ_cons, List.take_zero, List.drop_succ_cons, List.drop_zero]
  have y0 := fun nq => (hq nq bx ox lx).trans x0
  have y1 := fun nq => (hq nq bx (ox + 1) lx).trans x1
  iterate 9
    (refine wpK_det rfl (fun K hK => ?_)
     go_simp
     first
       | (refine hK _ ?_; clear hK K)
       | (apply Exists.intro; refine ⟨fun x => ?_, hK _ ?_⟩; (first | exact y0 x | exact y1 x | (trace_state; simp [y0, y1]; rfl)); clear hK K))
  refine wpK_rel _ rfl rfl ?_ ?_
  · rintro _ ⟨nn, rfl⟩ _
    unfold Oper.relAt
    go_simp
    exact rel_copied _ _ _ _ _ hn _ _ (ext_size nn.use) (HX.out.rd.ext nn.use)
  rintro v ⟨_, ⟨nn, rfl⟩, hr⟩
  obtain ⟨A9, k9, c9, rfl, -, -⟩ := hr
  clear nn
  refine wpK_nil ?_
  intro nq2 hG
  have r9 : RWord w.heap.size z.natAbs [] (.slice A9 k9 c9) nq2.out := by have := hG.fact 9; simp [Facts.put] at this; exact this
  have hR9 := Lib.hid (rword_at r9)
  have hF9 : Fr w A9 := hR9.out.2
  have hO9 := hF9.off HR.out.lt k9
  clear r9 hG
  go_wp2_with (first
    | (go_at_call 63; (with_reducible refine (bi_set b o _ A9 k9 c9 z.natAbs _ (HR.out.ext nq2.use) hR9.out.1 hO9).mono ?_); rintro e w3 ⟨rfl, hI3, xt3⟩)
   )
  refine bodyPost_ret (v := .pointer (some ⟨b, o, none⟩)) ?h rfl ⟨rfl, A9, k9, c9, ⟨by have := hI3.out; rwa [sgn_self] at this, hF9⟩, (Tch.of nq2.use).trans xt3⟩
  case h => simp [results, Tryz.results45, go_sem]
end Go.Proofs.YtchchnohmmncfaaGreatDoor.NB
end
section
/- (The document's library.) Words of the library's: by a number that goes into them. -/

namespace Go.Proofs.YtchchnohmmncfaaGreatDoor.NB
open Go.RowKit
attribute [local go_sem] sz2 sz3 sz4 sz5 sz6 sz7 sz8
set_option maxHeartbeats 4000000
set_option maxRecDepth 100000
attribute [local irreducible] Calls
theorem bw_by_one (A G : Option Addr) (n c m d : Nat) (w : World) (hG : Rd w G m d (lim 1)) :
    Calls Tryz.prog 139 #[.slice A n c, .slice G m d] w fun e w' => e = .returned (.slice A n c) ∧ Ext w w' := by
  have HG := Lib.hid hG
  clear hG
  go_enter Tryz.func139, Tryz.ntmps139
  go_wp2_with (first
    | (go_at_call 155; (with_reducible refine (bw_one G m d 1 _ HG.out).mono ?_); rintro e w1 ⟨rfl, rfl⟩)
   )
  refine bodyPost_ret (v := .slice A n c) ?h rfl ⟨rfl, ext_refl _⟩
  case h => simp [results, Tryz.results139, go_sem]
theorem bw_by_div (A G : Option Addr) (n c m d a g : Nat) (h1 : g ≠ 1) (h0 : g ≠ 0) (hn : n ≤ 400000) (w : World) (hA : Rd w A n c (lim a)) (hG : Rd w G m d (lim g)) :
    Calls Tryz.prog 139 #[.slice A n c, .slice G m d] w (WPost w (a / g)) := by
  have HA := Lib.hid hA
  have HG := Lib.hid hG
  clear hA hG
  have hone : decide (g = 1) = false := decide_eq_false h1
  go_enter Tryz.func139, Tryz.ntmps139
  go_wp2_with (first
    | (go_at_call 155; (with_reducible refine (bw_one G m d g _ HG.out).mono ?_); rintro e w1 ⟨rfl, rfl⟩)
    | (go_at_call 153; (with_reducible refine (bw_div A G n c m d a g h0 hn _ HA.out HG.out).mono ?_); rintro e w2 ⟨A2, k2, d2, B2, m2, e2, rfl, hR2, hS2, xb2⟩)
   )
  refine bodyPost_ret (v := .slice A2 k2 d2) ?h rfl ⟨A2, k2, d2, rfl, hR2, xb2⟩
  case h => simp [results, Tryz.results139, go_sem]
theorem rel_by (N : Nat) (A G : Option Addr) (n c m d a g : Nat) (h1 : g ≠ 1) (h0 : g ≠ 0) (hga : a / g ≠ 0) (hn : n ≤ 400000) (vals : List Value) (w : World) (hN : N ≤ w.heap.size) (hA : Rd w A n c (lim a)) (hG : Rd w G m d (lim g)) :
    Calls Tryz.prog 139 #[.slice A n c, .slice G m d] w fun e w' => ∃ v, e = .returned v ∧ Ext w w' ∧ Fresh w v w' ∧ RWord N (a / g) vals v w' := by
  refine (bw_by_div A G n c m d a g h1 h0 hn w hA hG).mono ?_
  rintro e w' ⟨A', k, c', rfl, h2, h3⟩
  refine ⟨_, rfl, h3, fun b hb => ?_, A', k, c', rfl, h2.out.1, fun q hq => Nat.le_trans hN (h2.out.2 q hq)⟩
  cases A' with
  | none => simp [blk] at hb
  | some q =>
    simp only [blk, Option.some.injEq] at hb
    subst hb
    refine ⟨h2.out.2 q rfl, rd_lt h2.out.1 rfl (fun e => hga (lim_nil.1 e))⟩
end Go.Proofs.YtchchnohmmncfaaGreatDoor.NB
end
section
/- (The document's library.) Fractions of the library's: objects in memory, set. -/

namespace Go.Proofs.YtchchnohmmncfaaGreatDoor.NB
open Go.RowKit
attribute [local go_sem] sz2 sz3 sz4 sz5 sz6 sz7 sz8
set_option maxHeartbeats 4000000
set_option maxRecDepth 100000
attribute [local irreducible] Calls
attribute [local go_sem] Oper.detAt detUpon relUpon
theorem br_below_new (g : Nat) (z : Int) (A : Option Addr) (n c : Nat) (D : Option Addr) (m e : Nat) (w : World) (hx : RatIs w g z A n c 0 D m e) :
    Calls Tryz.prog 75 #[.pointer (some ⟨g, 0, none⟩)] w fun e w' => e = .returned (.slice (some ⟨w.heap.size, 0, none⟩) 1 1) ∧ Hid (Rd w' (some ⟨w.heap.size, 0, none⟩) 1 1 (lim 1)) ∧ Ext w w' := by
  have hm : m = 0 := by have := hx.rd.len; rw [lim_zero] at this; exact this.symm
  subst hm
  have x2 := hx.c2
  clear hx
  go_enter Tryz.func75, Tryz.ntmps75
  go_wp2
  refine bodyPost_ret (v := .slice (some ⟨w.heap.size, 0, none⟩) 1 1) ?h rfl ⟨rfl, one_row w, ext_alloc (ext_refl _) _⟩
  case h => simp [results, Tryz.results75, go_sem]
theorem br_below_old (g : Nat) (z : Int) (A : Option Addr) (n c d : Nat) (hd : d ≠ 0) (D : Option Addr) (m e : Nat) (w : World) (hx : RatIs w g z A n c d D m e) :
    Calls Tryz.prog 75 #[.pointer (some ⟨g, 0, none⟩)] w fun e' w' => e' = .returned (.slice D m e) ∧ Ext w w' := by
  have hm : m ≠ 0 := by have := hx.rd.len; intro h; rw [h] at this; exact hd (lim_nil.1 (List.eq_nil_of_length_eq_zero this))
  have hm1 : ((m : Int) == 0) = false := by rw [beq_eq_false_iff_ne]; omega
  have x2 := hx.c2
  clear hx
  go_enter Tryz.func75, Tryz.ntmps75
  go_wp2
  refine bodyPost_ret (v := .slice D m e) ?h rfl ⟨rfl, ext_refl _⟩
  case h => simp [results, Tryz.results75, go_sem]
theorem br_set_zero (g : Nat) (minus : Bool) (A : Option Addr) (n c : Nat) (D : Option Addr) (m k d : Nat) (w : World) (hr : RatRoom w g) (hA : Rd w A n c (lim 0)) (hD : Rd w D m k (lim d)) :
    Calls Tryz.prog 137 #[.pointer (some ⟨g, 0, none⟩), .bool minus, .slice A n c, .slice D m k] w (SPost w g 0 0 A D) := by
  obtain rfl : n = 0 := by have := hA.len; rw [lim_zero] at this; exact this.symm
  have HA := Lib.hid hA
  have HD := Lib.hid hD
  have HR := Lib.hid hr
  have hnil : Rd w none 0 0 (lim 0) := by rw [lim_zero]; exact Rd.nil _
  have hoff : Off none 0 g := fun x hx => by cases hx
  have HN := Lib.hid hnil
  have hfc := hr.c2
  have hff := hr.f2
  obtain ⟨v2, hv2⟩ := hfc
  clear hA hD hr hnil
  go_enter Tryz.func137, Tryz.ntmps137
  go_wp2_with (first
    | (go_at_call 105; (with_reducible refine (bw_trim A 0 c (lim 0) _ HA.out).mono ?_); rintro e w1 ⟨k1, rfl, hR1, rfl⟩; rw [trimZ_lim_lim] at hR1; obtain rfl : k1 = 0 := by have := hR1.len; rw [lim_zero] at this; exact this.symm)
    | (go_at_call 105; (with_reducible refine (bw_trim D m k (lim d) _ HD.out).mono ?_); rintro e w2 ⟨k2, rfl, hR2, rfl⟩)
    | (go_at_call 63; (with_reducible refine (bi_setx g 0 false none 0 0 0 _ HR.out.int HN.out hoff).mono ?_); rintro e w3 ⟨rfl, hI3, xt3, hq3⟩; have hv3 := (hq3.out 2 (by omega) (by omega)).1.trans hv2; have hf3 := (hq3.out 2 (by omega) (by omega)).2.trans hff)
   )
  refine bodyPost_ret (v := .pointer (some ⟨g, 0, none⟩)) ?h rfl ⟨rfl, none, 0, 0, none, 0, 0, ⟨rat_made hI3.out ⟨_, hv3⟩ hf3 (by rw [lim_zero]; exact Rd.nil _) hoff, fun W _ _ _ => ⟨Fr.none W, Fr.none W⟩⟩, xt3.set 2 _⟩
  case h => simp [results, Tryz.results137, go_sem]
theorem br_set_co (g : Nat) (minus : Bool) (A : Option Addr) (n c a : Nat) (ha : a ≠ 0) (D : Option Addr) (m k d : Nat) (hd : d ≠ 0) (hn : n ≤ 400000) (hm : m ≤ 400000) (hg : Nat.gcd a d = 1) (w : World) (hT : Tz w) (hr : RatRoom w g) (hA : Rd w A n c (lim a)) (hD : Rd w D m k (lim d)) (hoA : Off A n g) (hoD : Off D m g) :
    Calls Tryz.prog 137 #[.pointer (some ⟨g, 0, none⟩), .bool minus, .slice A n c, .slice D m k] w (SPost w g (sgn minus a) d A D) := by
  have hn0 : ((n : Int) == 0) = false := by
    rw [beq_eq_false_iff_ne]
    have := hA.len; intro h; exact ha (lim_nil.1 (List.eq_nil_of_length_eq_zero (by omega)))
  have hla := hA.len
  have hld := hD.len
  have HA := Lib.hid hA
  have HD := Lib.hid hD
  have HR := Lib.hid hr
  have HT := Lib.hid hT
  have hgl := hr.int.lt
  have hfc := hr.c2
  have hff := hr.f2
  obtain ⟨v2, hv2⟩ := hfc
  clear hA hD hr hT
  go_enter Tryz.func137, Tryz.ntmps137
  go_wp2_with (first
    | (go_at_call 105; (with_reducible refine (bw_trim A n c (lim a) _ HA.out).mono ?_); rintro e w1 ⟨k1, rfl, hR1, rfl⟩; rw [trimZ_lim_lim] at hR1; obtain rfl : n = k1 := by rw [← hla]; exact hR1.len)
    | (go_at_call 105; (with_reducible refine (bw_trim D m k (lim d) _ HD.out).mono ?_); rintro e w2 ⟨k2, rfl, hR2, rfl⟩; rw [trimZ_lim_lim] at hR2; obtain rfl : m = k2 := by rw [← hld]; exact hR2.len)
    | (go_at_call 138; (with_reducible refine (bw_common A D n c m k a d hn hm _ HT.out HA.out HD.out).mono ?_); rintro e w3 ⟨G, k3, c3, rfl, hG3, xb3⟩)
   )
  have hG3' := Lib.hid (show Rd w3 G k3 c3 (lim 1) by have := hG3.out.1; rwa [hg] at this)
  have hby : ∀ x : Aft w3, Calls Tryz.prog 139 #[.slice A n c, .slice G k3 c3] x.out fun e w'' => e = .returned (.slice A n c) ∧ Ext x.out w'' := fun x => bw_by_one A G n c k3 c3 _ (hG3'.out.ext x.use)
  refine wp_aft_tail 7 (by kernel_rfl) (by kernel_rfl) (by kernel_rfl) (fun hq hqf => ?_)
  simp only [List.take_succ_cons, List.take_zero, List.drop_succ_cons, List.drop_zero]
  repeat (go_big_quiet_step (first
    | (go_at_call 139; exact aft_of (hby _))
    ))
  refine wpQuiet_nil ?_
  rintro _ ⟨nq, rfl⟩
  have xl := ext_lt nq.use
  have xz := ext_size nq.use
  try simp at xz
  have hE4 := Lib.hid (ext_trans xb3 nq.use)
  have hq4 := Lib.hid nq.use
  have hv4 := (Below.cell (p := ⟨g, 2, none⟩) hE4.out hgl).trans hv2
  have hf4 := (Below.frozen (p := ⟨g, 2, none⟩) hE4.out hgl).trans hff
  go_wp2_with (first
    | (go_at_call 63; (with_reducible refine (bi_setx g 0 minus A n c a _ (HR.out.int.ext hE4.out) (HA.out.ext hE4.out) hoA).mono ?_); rintro e w5 ⟨rfl, hI5, xt5, hq5⟩; have hv5 := (hq5.out 2 (by omega) (by omega)).1.trans hv4; have hf5 := (hq5.out 2 (by omega) (by omega)).2.trans hf4; have hD5 := Lib.hid ((HD.out.ext hE4.out).tch xt5 hoD); have hG5 := Lib.hid ((hG3'.out.ext hq4.out).tch xt5 (hG3.out.2.off hgl k3)))
    | (go_at_call 139; (with_reducible refine (bw_by_one D G m k k3 c3 _ hG5.out).mono ?_); rintro e w6 ⟨rfl, xb6⟩; have hgl6 := ext_lt xb6 g hI5.out.room.lt; have hv6 := (Below.cell (p := ⟨g, 2, none⟩) xb6 hI5.out.room.lt).trans hv5; have hf6 := (Below.frozen (p := ⟨g, 2, none⟩) xb6 hI5.out.room.lt).trans hf5)
   )
  refine bodyPost_ret (v := .pointer (some ⟨g, 0, none⟩)) ?h rfl ⟨rfl, A, n, c, D, m, k, ⟨rat_made (hI5.out.ext xb6) ⟨_, hv6⟩ hf6 (hD5.out.ext xb6) hoD, fun W _ h1 h2 => ⟨h1, h2⟩⟩, (((Tch.of hE4.out).trans xt5).trans (Tch.of xb6)).set 2 _⟩
  case h => simp [results, Tryz.results137, go_sem]
theorem br_set_div (g : Nat) (minus : Bool) (A : Option Addr) (n c a : Nat) (ha : a ≠ 0) (D : Option Addr) (m k d : Nat) (hd : d ≠ 0) (hn : n ≤ 400000) (hm : m ≤ 400000) (hg : Nat.gcd a d ≠ 1) (w : World) (hT : Tz w) (hr : RatRoom w g) (hA : Rd w A n c (lim a)) (hD : Rd w D m k (lim d)) (hoA : Off A n g) (hoD : Off D m g) :
    Calls Tryz.prog 137 #[.pointer (some ⟨g, 0, none⟩), .bool minus, .slice A n c, .slice D m k] w (SPost w g (sgn minus (a / Nat.gcd a d : Nat)) (d / Nat.gcd a d) A D) := by
  have hn0 : ((n : Int) == 0) = false := by
    rw [beq_eq_false_iff_ne]
    have := hA.len; intro h; exact ha (lim_nil.1 (List.eq_nil_of_length_eq_zero (by omega)))
  have hla := hA.len
  have hld := hD.len
  have HA := Lib.hid hA
  have HD := Lib.hid hD
  have HR := Lib.hid hr
  have HT := Lib.hid hT
  have hgl := hr.int.lt
  have hfc := hr.c2
  have hff := hr.f2
  obtain ⟨v2, hv2⟩ := hfc
  clear hA hD hr hT
  obtain ⟨gd, hgd⟩ : ∃ gd, gd = Nat.gcd a d := ⟨_, rfl⟩
  rw [← hgd] at hg ⊢
  have hg0 : gd ≠ 0 := by rw [hgd]; intro h; exact ha (Nat.eq_zero_of_gcd_eq_zero_left h)
  have hga : a / gd ≠ 0 := by
    have h1 : gd ≤ a := by rw [hgd]; exact Nat.le_of_dvd (Nat.pos_of_ne_zero ha) (Nat.gcd_dvd_left a d)
    have := Nat.div_pos h1 (Nat.pos_of_ne_zero hg0); omega
  have HGD := Lib.hid hgd
  clear hgd
  go_enter Tryz.func137, Tryz.ntmps137
  go_wp2_with (first
    | (go_at_call 105; (with_reducible refine (bw_trim A n c (lim a) _ HA.out).mono ?_); rintro e w1 ⟨k1, rfl, hR1, rfl⟩; rw [trimZ_lim_lim] at hR1; obtain rfl : n = k1 := by rw [← hla]; exact hR1.len)
    | (go_at_call 105; (with_reducible refine (bw_trim D m k (lim d) _ HD.out).mono ?_); rintro e w2 ⟨k2, rfl, hR2, rfl⟩; rw [trimZ_lim_lim] at hR2; obtain rfl : m = k2 := by rw [← hld]; exact hR2.len)
    | (go_at_call 138; (with_reducible refine (bw_common A D n c m k a d hn hm _ HT.out HA.out HD.out).mono ?_); rintro e w3 ⟨G, k3, c3, rfl, hG3, xb3⟩)
   )
  have hG3' := Lib.hid (show Rd w3 G k3 c3 (lim gd) by have := hG3.out.1; rwa [← HGD.out] at this)
  refine wp_drawn_tail 7 (tab [(6, RWord w3.heap.size (a / gd))]) (by kernel_rfl) (by kernel_rfl) (by kernel_rfl) (tab_stays (by simp [stays_word])) (fun hq hqf => ?_)
  simp only [List.take_succ_cons, List.take_zero, List.drop_succ_cons, List.drop_zero]
  iterate 6
    (refine wpK_det rfl (fun K hK => ?_)
     go_simp
     (refine hK _ ?_; clear hK K))
  refine wpK_rel _ rfl rfl ?_ ?_
  · rintro _ ⟨nn, rfl⟩ _
    unfold Oper.relAt
    go_simp
    exact rel_by _ A G n c k3 c3 a gd hg hg0 hga hn _ _ (ext_size nn.use) (HA.out.ext (ext_trans xb3 nn.use)) (hG3'.out.ext nn.use)
  rintro v ⟨_, ⟨nn, rfl⟩, hr⟩
  obtain ⟨A9, k9, c9, rfl, -, -⟩ := hr
  clear nn
  refine wpK_nil ?_
  intro nq hGG
  have r9 : RWord w3.heap.size (a / gd) [] (.slice A9 k9 c9) nq.out := by have := hGG.fact 6; simp [Facts.put] at this; exact this
  have hR9 := Lib.hid (rword_at r9)
  have hF9 : Fr w3 A9 := hR9.out.2
  have hgl3 : g < w3.heap.size := ext_lt xb3 g hgl
  have hO9 := hF9.off hgl3 k9
  clear r9 hGG
  have hE4 := Lib.hid (ext_trans xb3 nq.use)
  have hq4 := Lib.hid nq.use
  have hv4 := (Below.cell (p := ⟨g, 2, none⟩) hE4.out hgl).trans hv2
  have hf4 := (Below.frozen (p := ⟨g, 2, none⟩) hE4.out hgl).trans hff
  go_wp2_with (first
    | (go_at_call 63; (with_reducible refine (bi_setx g 0 minus A9 k9 c9 (a / gd) _ (HR.out.int.ext hE4.out) hR9.out.1 hO9).mono ?_); rintro e w5 ⟨rfl, hI5, xt5, hq5⟩; have hv5 := (hq5.out 2 (by omega) (by omega)).1.trans hv4; have hf5 := (hq5.out 2 (by omega) (by omega)).2.trans hf4; have hD5 := Lib.hid ((HD.out.ext hE4.out).tch xt5 hoD); have hG5 := Lib.hid ((hG3'.out.ext hq4.out).tch xt5 (hG3.out.2.off hgl k3)))
    | (go_at_call 139; (with_reducible refine (bw_by_div D G m k k3 c3 d gd hg hg0 hm _ hD5.out hG5.out).mono ?_); rintro e w6 ⟨D6, k6, c6, rfl, hR6, xb6⟩; have hgl6 := ext_lt xb6 g hI5.out.room.lt; have hv6 := (Below.cell (p := ⟨g, 2, none⟩) xb6 hI5.out.room.lt).trans hv5; have hf6 := (Below.frozen (p := ⟨g, 2, none⟩) xb6 hI5.out.room.lt).trans hf5)
   )
  refine bodyPost_ret (v := .pointer (some ⟨g, 0, none⟩)) ?h rfl ⟨rfl, A9, k9, c9, D6, k6, c6, ⟨rat_made (hI5.out.ext xb6) ⟨_, hv6⟩ hf6 hR6.out.1 (hR6.out.2.off hI5.out.room.lt k6), fun W hW _ _ => ⟨Fr.mono hF9 (ext_trans hW xb3), Fr.szmono hR6.out.2 (Nat.le_trans (ext_size (ext_trans hW hE4.out)) xt5.size)⟩⟩, (((Tch.of hE4.out).trans xt5).trans (Tch.of xb6)).set 2 _⟩
  case h => simp [results, Tryz.results137, go_sem]
theorem br_set (g : Nat) (minus : Bool) (A : Option Addr) (n c a : Nat) (D : Option Addr) (m k d : Nat) (hd : d ≠ 0) (hn : n ≤ 400000) (hm : m ≤ 400000) (w : World) (hT : Tz w) (hr : RatRoom w g) (hA : Rd w A n c (lim a)) (hD : Rd w D m k (lim d)) (hoA : Off A n g) (hoD : Off D m g) :
    Calls Tryz.prog 137 #[.pointer (some ⟨g, 0, none⟩), .bool minus, .slice A n c, .slice D m k] w (SPost w g (sgn minus (a / Nat.gcd a d : Nat)) (lowD a d) A D) := by
  by_cases h0 : a = 0
  · subst h0
    have e1 : sgn minus (0 / Nat.gcd 0 d : Nat) = 0 := by rw [Nat.zero_div]; cases minus <;> rfl
    rw [e1]
    exact br_set_zero g minus A n c D m k d w hr hA hD
  · have e2 : lowD a d = d / Nat.gcd a d := if_neg h0
    rw [e2]
    by_cases h1 : Nat.gcd a d = 1
    · have := br_set_co g minus A n c a h0 D m k d hd hn hm h1 w hT hr hA hD hoA hoD
      rw [h1, Nat.div_one, Nat.div_one]; exact this
    · exact br_set_div g minus A n c a h0 D m k d hd hn hm h1 w hT hr hA hD hoA hoD
theorem br_SetFrac (g bx b2 : Nat) (x y : Int) (hy : y ≠ 0) (A : Option Addr) (n c : Nat) (D : Option Addr) (m k : Nat) (hn : n ≤ 400000) (hm : m ≤ 400000) (w : World) (hT : Tz w) (hr : RatRoom w g) (hx : IntIs w bx 0 x A n c) (hyy : IntIs w b2 0 y D m k) :
    Calls Tryz.prog 150 #[.pointer (some ⟨g, 0, none⟩), .pointer (some ⟨bx, 0, none⟩), .pointer (some ⟨b2, 0, none⟩)] w
      (FPost w g (sgn (qneg x y) (x.natAbs / Nat.gcd x.natAbs y.natAbs : Nat)) (lowD x.natAbs y.natAbs)) := by
  have HX := Lib.hid hx
  have HY := Lib.hid hyy
  have HR := Lib.hid hr
  have HT := Lib.hid hT
  have lx := hx.room.lt
  have x0 := hx.neg
  have x1 := hx.words
  have ly := hyy.room.lt
  have v0 := hyy.neg
  have v1 := hyy.words
  have hgl := hr.int.lt
  simp only [Nat.zero_add] at x1 v1
  clear hx hyy hr hT
  go_enter Tryz.func150, Tryz.ntmps150
  go_wp2
  refine wp_drawn_tail 20 (tab [(14, RWord w.heap.size x.natAbs), (19, RWord w.heap.size y.natAbs)]) (by kernel_rfl) (by kernel_rfl) (by kernel_rfl) (tab_stays (by simp [stays_word])) (fun hq hqf => ?_)
  simp only [List.take_succ_cons, List.take_zero, List.drop_succ_cons, List.drop_zero]
  have y0 := fun nq => (hq nq bx 0 lx).trans x0
  have y1 := fun nq => (hq nq bx 1 lx).trans x1
  have y2 := fun nq => (hq nq b2 0 ly).trans v0
  have y3 := fun nq => (hq nq b2 1 ly).trans v1
  iterate 14
    (refine wpK_det rfl (fun K hK => ?_)
     go_simp
     first
       | (refine hK _ ?_; clear hK K)
       | (apply Exists.intro; refine ⟨fun x => ?_, hK _ ?_⟩; (first | exact y0 x | exact y1 x | exact y2 x | exact y3 x | (simp [y0, y1, y2, y3]; rfl)); clear hK K))
  refine wpK_rel _ rfl rfl ?_ ?_
  · rintro _ ⟨nn, rfl⟩ _
    unfold Oper.relAt
    go_simp
    exact rel_copied _ _ _ _ _ (by omega) _ _ (ext_size nn.use) (HX.out.rd.ext nn.use)
  rintro v ⟨_, ⟨nn, rfl⟩, hr⟩
  obtain ⟨A9, k9, c9, rfl, -, -⟩ := hr
  clear nn
  iterate 4
    (refine wpK_det rfl (fun K hK => ?_)
     go_simp
     first
       | (refine hK _ ?_; clear hK K)
       | (apply Exists.intro; refine ⟨fun x => ?_, hK _ ?_⟩; (first | exact y0 x | exact y1 x | exact y2 x | exact y3 x | (simp [y0, y1, y2, y3]; rfl)); clear hK K))
  refine wpK_rel _ rfl rfl ?_ ?_
  · rintro _ ⟨nn, rfl⟩ _
    unfold Oper.relAt
    go_simp
    exact rel_copied _ _ _ _ _ (by omega) _ _ (ext_size nn.use) (HY.out.rd.ext nn.use)
  rintro v ⟨_, ⟨nn, rfl⟩, hr⟩
  obtain ⟨B9, m9, d9, rfl, -, -⟩ := hr
  clear nn
  refine wpK_nil ?_
  intro nq hG
  have r9 : RWord w.heap.size x.natAbs [] (.slice A9 k9 c9) nq.out := by have := hG.fact 14; simp [Facts.put] at this; exact this
  have s9 : RWord w.heap.size y.natAbs [] (.slice B9 m9 d9) nq.out := by have := hG.fact 19; simp [Facts.put] at this; exact this
  have hR9 := Lib.hid (rword_at r9)
  have hS9 := Lib.hid (rword_at s9)
  have hF9 : Fr w A9 := hR9.out.2
  have hF8 : Fr w B9 := hS9.out.2
  have hO9 := hF9.off hgl k9
  have hO8 := hF8.off hgl m9
  have l1 : k9 ≤ 400000 := by rw [← hR9.out.1.len, HX.out.rd.len]; exact hn
  have l2 : m9 ≤ 400000 := by rw [← hS9.out.1.len, HY.out.rd.len]; exact hm
  have hE := Lib.hid nq.use
  have hyn : y.natAbs ≠ 0 := by omega
  clear r9 s9 hG
  go_wp2_with (first
    | (go_at_call 137; (with_reducible refine (br_set g _ A9 k9 c9 x.natAbs B9 m9 d9 y.natAbs hyn l1 l2 _ (HT.out.ext hE.out) (HR.out.ext hE.out) hR9.out.1 hS9.out.1 hO9 hO8).mono ?_); rintro e w3 ⟨rfl, A3, n3, c3, D3, m3, k3, hI3, xt3⟩)
   )
  refine bodyPost_ret (v := .pointer (some ⟨g, 0, none⟩)) ?h rfl ⟨rfl, A3, n3, c3, D3, m3, k3, ⟨hI3.out.1, hI3.out.2 w hE.out hF9 hF8⟩, (Tch.of hE.out).trans xt3⟩
  case h => simp [results, Tryz.results150, go_sem]
end Go.Proofs.YtchchnohmmncfaaGreatDoor.NB
end
section
/- (The document's library.) Fractions of the library's: above and below the line; bytes, limbs. -/

namespace Go.Proofs.YtchchnohmmncfaaGreatDoor.NB
open Go.RowKit
attribute [local go_sem] sz2 sz3 sz4 sz5 sz6 sz7 sz8
set_option maxHeartbeats 4000000
set_option maxRecDepth 100000
attribute [local irreducible] Calls
theorem int_room (w : World) : Room (w.alloc (Obj.cells #[.bool false, .slice none 0 0] 52)) w.heap.size 0 :=
  ⟨by simp, ⟨_, by simp [go_sem]; rfl⟩, ⟨_, by simp [go_sem]; rfl⟩, by simp [go_sem], by simp [go_sem]⟩
theorem br_Num (g : Nat) (z : Int) (A : Option Addr) (n c d : Nat) (D : Option Addr) (m e : Nat) (hn : n ≤ 1000000) (w : World) (hx : RatIs w g z A n c d D m e) :
    Calls Tryz.prog 68 #[.pointer (some ⟨g, 0, none⟩)] w (NPost w z) := by
  have HX := Lib.hid hx
  clear hx
  have hrm := Lib.hid (int_room w)
  go_enter Tryz.func68, Tryz.ntmps68
  go_wp2_with (first
    | (go_at_call 45; (with_reducible refine (bi_Set w.heap.size 0 g 0 A n c z hn _ hrm.out (HX.out.int.ext (ext_alloc (ext_refl _) _))).mono ?_); rintro e w3 ⟨rfl, A3, n3, c3, hI3, xt3⟩)
   )
  have hEE := Lib.hid (xt3.ext (ext_alloc (ext_refl w) _) (Nat.le_refl _))
  refine bodyPost_ret (v := .pointer (some ⟨w.heap.size, 0, none⟩)) ?h rfl ⟨_, A3, n3, c3, rfl, ⟨hI3.out.1, Fr.mono hI3.out.2 (ext_alloc (ext_refl w) _)⟩, Nat.le_refl _, hEE.out⟩
  case h => simp [results, Tryz.results68, go_sem]
theorem br_below (g : Nat) (z : Int) (A : Option Addr) (n c d : Nat) (D : Option Addr) (m e : Nat) (w : World) (hx : RatIs w g z A n c d D m e) :
    Calls Tryz.prog 75 #[.pointer (some ⟨g, 0, none⟩)] w fun e' w' => ∃ (B : Option Addr) (k l : Nat), e' = .returned (.slice B k l) ∧ Hid (Rd w' B k l (lim (denOf d)) ∧ (B = D ∨ Fr w B)) ∧ Ext w w' := by
  by_cases hd : d = 0
  · subst hd
    refine (br_below_new g z A n c D m e w hx).mono ?_
    rintro e w' ⟨rfl, h1, h2⟩
    exact ⟨_, _, _, rfl, ⟨h1.out, .inr (fun q hq => by cases hq; exact Nat.le_refl _)⟩, h2⟩
  · refine (br_below_old g z A n c d hd D m e w hx).mono ?_
    rintro e w' ⟨rfl, h1⟩
    exact ⟨_, _, _, rfl, ⟨by unfold denOf; rw [if_neg hd]; exact hx.rd.ext h1, .inl rfl⟩, h1⟩
theorem br_Denom (g : Nat) (z : Int) (A : Option Addr) (n c d : Nat) (D : Option Addr) (m e : Nat) (hm : m ≤ 900000) (w : World) (hx : RatIs w g z A n c d D m e) :
    Calls Tryz.prog 70 #[.pointer (some ⟨g, 0, none⟩)] w (NPost w (denOf d : Nat)) := by
  have HX := Lib.hid hx
  have hld := denOf_len hx.rd.len
  clear hx
  have hrm := Lib.hid (int_room w)
  have hO : ∀ W' : World, w.heap.size < W'.heap.size → ∀ k, Off (some ⟨W'.heap.size, 0, none⟩) k w.heap.size := fun W' h k x hx _ e => by cases hx; simp at e; omega
  go_enter Tryz.func70, Tryz.ntmps70
  go_wp2_with (first
    | (go_at_call 75; (with_reducible refine (br_below g z A n c d D m e _ (HX.out.ext (ext_alloc (ext_refl _) _))).mono ?_); rintro e w3 ⟨B3, k3, l3, rfl, hB3, xb3⟩; have hl3 : w.heap.size < w3.heap.size := ext_lt xb3 _ (by simp); have hk3 : k3 ≤ 1000000 := by (have := hB3.out.1.len; omega))
    | (go_at_call 78; (with_reducible refine (bw_copied B3 k3 l3 _ hk3 _ hB3.out.1).mono ?_); rintro e w4 ⟨rfl, hR4, xb4⟩)
    | (go_at_call 63; (with_reducible refine (bi_set w.heap.size 0 false _ k3 k3 (denOf d) _ ((hrm.out.ext xb3).ext xb4) hR4.out (hO w3 hl3 _)).mono ?_); rintro e w5 ⟨rfl, hI5, xt5⟩)
   )
  have hE4 := ext_trans (ext_trans (ext_alloc (ext_refl w) _) xb3) xb4
  have hEE := Lib.hid (xt5.ext hE4 (Nat.le_refl _))
  refine bodyPost_ret (v := .pointer (some ⟨w.heap.size, 0, none⟩)) ?h rfl ⟨_, _, _, _, rfl, ⟨hI5.out, fun q hq => by cases hq; exact Nat.le_of_lt hl3⟩, Nat.le_refl _, hEE.out⟩
  case h => simp [results, Tryz.results70, go_sem]
theorem bi_BitLen (b o : Nat) (z : Int) (A : Option Addr) (n c : Nat) (hn : n ≤ 1000000) (w : World) (hx : IntIs w b o z A n c) :
    Calls Tryz.prog 69 #[.pointer (some ⟨b, o, none⟩)] w fun e w' => e = .returned (.int .i64 (bitsOf z.natAbs : Nat)) ∧ Ext w w' := by
  have HX := Lib.hid hx
  have x1 := hx.words
  clear hx
  go_enter Tryz.func69, Tryz.ntmps69
  go_wp2_with (first
    | (go_at_call 110; (with_reducible refine (bw_bitLen A n c z.natAbs hn _ HX.out.rd).mono ?_); rintro e w2 ⟨rfl, xb2⟩)
   )
  refine bodyPost_ret (v := .int .i64 ↑(bitsOf z.natAbs)) ?h rfl ⟨rfl, xb2⟩
  case h => simp [results, Tryz.results69, go_sem]
end Go.Proofs.YtchchnohmmncfaaGreatDoor.NB
end
section
/- (The document's library.) Fractions of the library's: the sign; told. -/

namespace Go.Proofs.YtchchnohmmncfaaGreatDoor.NB
open Go.RowKit
attribute [local go_sem] sz2 sz3 sz4 sz5 sz6 sz7 sz8
set_option maxHeartbeats 4000000
set_option maxRecDepth 100000
attribute [local irreducible] Calls
theorem bi_Sign (b o : Nat) (z : Int) (A : Option Addr) (n c : Nat) (w : World) (hx : IntIs w b o z A n c) :
    Calls Tryz.prog 66 #[.pointer (some ⟨b, o, none⟩)] w fun e w' => e = .returned (.int .i64 z.sign) ∧ Ext w w' := by
  have x0 := hx.neg
  have x1 := hx.words
  have hn := int_nil hx
  clear hx
  by_cases hz : z = 0
  · obtain rfl : n = 0 := hn.2 hz
    subst hz
    clear hn
    go_enter Tryz.func66, Tryz.ntmps66
    go_wp2
    refine bodyPost_ret (v := .int .i64 0) ?h rfl ⟨rfl, ext_refl _⟩
    case h => simp [results, Tryz.results66, go_sem]
  · have h1 : ((n : Int) == 0) = false := by rw [beq_eq_false_iff_ne]; omega
    clear hn
    by_cases hs : z < 0
    · have e1 : decide (z < 0) = true := decide_eq_true hs
      rw [e1] at x0
      have e2 : z.sign = -1 := Int.sign_eq_neg_one_of_neg hs
      clear hs e1 hz
      go_enter Tryz.func66, Tryz.ntmps66
      go_wp2
      refine bodyPost_ret (v := .int .i64 (-1)) ?h rfl ⟨by rw [e2], ext_refl _⟩
      case h => simp [results, Tryz.results66, go_sem]
    · have e1 : decide (z < 0) = false := decide_eq_false hs
      rw [e1] at x0
      have e2 : z.sign = 1 := Int.sign_eq_one_of_pos (by omega)
      clear hs e1 hz
      go_enter Tryz.func66, Tryz.ntmps66
      go_wp2
      refine bodyPost_ret (v := .int .i64 1) ?h rfl ⟨by rw [e2], ext_refl _⟩
      case h => simp [results, Tryz.results66, go_sem]
theorem br_Sign (g : Nat) (z : Int) (A : Option Addr) (n c : Nat) (w : World) (hx : IntIs w g 0 z A n c) :
    Calls Tryz.prog 34 #[.pointer (some ⟨g, 0, none⟩)] w fun e w' => e = .returned (.int .i64 z.sign) ∧ Ext w w' := by
  have HX := Lib.hid hx
  clear hx
  go_enter Tryz.func34, Tryz.ntmps34
  go_wp2_with (first
    | (go_at_call 66; (with_reducible refine (bi_Sign g 0 z A n c _ HX.out).mono ?_); rintro e w2 ⟨rfl, xb2⟩)
   )
  refine bodyPost_ret (v := .int .i64 z.sign) ?h rfl ⟨rfl, xb2⟩
  case h => simp [results, Tryz.results34, go_sem]
end Go.Proofs.YtchchnohmmncfaaGreatDoor.NB
end
section
/- (The document's library.) Whole numbers of the library's: order, sums. -/

namespace Go.Proofs.YtchchnohmmncfaaGreatDoor.NB
open Go.RowKit
attribute [local go_sem] sz2 sz3 sz4 sz5 sz6 sz7 sz8
set_option maxHeartbeats 4000000
set_option maxRecDepth 100000
attribute [local irreducible] Calls
theorem bi_Cmp (b o g p : Nat) (x y : Int) (A : Option Addr) (n c : Nat) (B : Option Addr) (m d : Nat) (w : World) (hx : IntIs w b o x A n c) (hy : IntIs w g p y B m d) :
    Calls Tryz.prog 49 #[.pointer (some ⟨b, o, none⟩), .pointer (some ⟨g, p, none⟩)] w fun e w' => e = .returned (.int .i64 (x - y).sign) ∧ Ext w w' := by
  have HX := Lib.hid hx
  have HY := Lib.hid hy
  have lx := hx.room.lt
  have x0 := hx.neg
  have x1 := hx.words
  have ly := hy.room.lt
  have y0 := hy.neg
  have y1 := hy.words
  have kc : ∀ w', Ext w w' → Calls Tryz.prog 74 #[.slice A n c, .slice B m d] w' fun e w'' => e = .returned (.int .i64 (cmpN x.natAbs y.natAbs)) ∧ Ext w' w'' := fun w' he => bw_cmp A B n c m d _ _ w' (HX.out.rd.ext he) (HY.out.rd.ext he)
  clear hx hy HX HY
  by_cases hs : x < 0
  · rw [decide_eq_true hs] at x0
    by_cases ht : y < 0
    · rw [decide_eq_true ht] at y0
      have e1 : -(cmpN x.natAbs y.natAbs) = (x - y).sign := by
        rw [cmpN_sign, ← Int.sign_neg]; congr 1; omega
      have e2 : IntKind.i64.wrap (-(cmpN x.natAbs y.natAbs)) = (x - y).sign := by
        rw [e1]
        have : (x - y).sign = -1 ∨ (x - y).sign = 0 ∨ (x - y).sign = 1 := by
          rcases Int.lt_trichotomy (x - y) 0 with h | h | h
          · exact .inl (Int.sign_eq_neg_one_of_neg h)
          · rw [h]; exact .inr (.inl rfl)
          · exact .inr (.inr (Int.sign_eq_one_of_pos h))
        rcases this with h | h | h <;> rw [h] <;> decide
      generalize cmpN x.natAbs y.natAbs = C at kc e1 e2
      generalize (x - y).sign = R at e1 e2 ⊢
      clear hs ht e1
      go_enter Tryz.func49, Tryz.ntmps49
      go_wp2
      refine wp_aft (by kernel_rfl) (by kernel_rfl) (fun hq hqf => ?_)
      repeat (go_big_quiet_step (first | fail
        ))
      refine wpQuiet_nil ?_
      rintro _ ⟨nq, rfl⟩
      have xl := ext_lt nq.use
      have xz := ext_size nq.use
      try simp at xz
      have hE1 := Lib.hid nq.use
      have z0 := (Below.cell (p := ⟨b, o, none⟩) nq.use lx).trans x0
      have z1 := (Below.cell (p := ⟨b, o + 1, none⟩) nq.use lx).trans x1
      have z2 := (Below.cell (p := ⟨g, p + 1, none⟩) nq.use ly).trans y1
      go_wp2
      have lx2 := xl b lx
      have ly2 := xl g ly
      refine wp_aft (by kernel_rfl) (by kernel_rfl) (fun hq hqf => ?_)
      repeat (go_big_quiet_step (first
        | (go_at_call 74; exact aft_of (kc _ (ext_trans hE1.out (Aft.use _))))
        ))
      refine wpQuiet_nil ?_
      rintro _ ⟨nq, rfl⟩
      have xl := ext_lt nq.use
      have xz := ext_size nq.use
      try simp at xz
      go_wp2
      refine bodyPost_ret (v := .int .i64 R) ?h rfl ⟨rfl, ext_trans hE1.out nq.use⟩
      case h => simp [results, Tryz.results49, go_sem]
    · rw [decide_eq_false ht] at y0
      have e1 : (x - y).sign = -1 := Int.sign_eq_neg_one_of_neg (by omega)
      rw [e1]
      clear hs ht e1 kc
      go_enter Tryz.func49, Tryz.ntmps49
      go_wp2
      refine wp_aft (by kernel_rfl) (by kernel_rfl) (fun hq hqf => ?_)
      repeat (go_big_quiet_step (first | fail
        ))
      refine wpQuiet_nil ?_
      rintro _ ⟨nq, rfl⟩
      have xl := ext_lt nq.use
      have xz := ext_size nq.use
      try simp at xz
      have hE1 := Lib.hid nq.use
      have z0 := (Below.cell (p := ⟨b, o, none⟩) nq.use lx).trans x0
      go_wp2
      refine bodyPost_ret (v := .int .i64 (-1)) ?h rfl ⟨rfl, hE1.out⟩
      case h => simp [results, Tryz.results49, go_sem]
  · rw [decide_eq_false hs] at x0
    by_cases ht : y < 0
    · rw [decide_eq_true ht] at y0
      have e1 : (x - y).sign = 1 := Int.sign_eq_one_of_pos (by omega)
      rw [e1]
      clear hs ht e1 kc
      go_enter Tryz.func49, Tryz.ntmps49
      go_wp2
      refine wp_aft (by kernel_rfl) (by kernel_rfl) (fun hq hqf => ?_)
      repeat (go_big_quiet_step (first | fail
        ))
      refine wpQuiet_nil ?_
      rintro _ ⟨nq, rfl⟩
      have xl := ext_lt nq.use
      have xz := ext_size nq.use
      try simp at xz
      have hE1 := Lib.hid nq.use
      have z0 := (Below.cell (p := ⟨b, o, none⟩) nq.use lx).trans x0
      go_wp2
      refine bodyPost_ret (v := .int .i64 1) ?h rfl ⟨rfl, hE1.out⟩
      case h => simp [results, Tryz.results49, go_sem]
    · rw [decide_eq_false ht] at y0
      have e1 : cmpN x.natAbs y.natAbs = (x - y).sign := by
        rw [cmpN_sign]; congr 1; omega
      generalize cmpN x.natAbs y.natAbs = C at kc e1
      generalize (x - y).sign = R at e1 ⊢
      subst e1
      clear hs ht
      go_enter Tryz.func49, Tryz.ntmps49
      go_wp2
      refine wp_aft (by kernel_rfl) (by kernel_rfl) (fun hq hqf => ?_)
      repeat (go_big_quiet_step (first | fail
        ))
      refine wpQuiet_nil ?_
      rintro _ ⟨nq, rfl⟩
      have xl := ext_lt nq.use
      have xz := ext_size nq.use
      try simp at xz
      have hE1 := Lib.hid nq.use
      have z0 := (Below.cell (p := ⟨b, o, none⟩) nq.use lx).trans x0
      have z1 := (Below.cell (p := ⟨b, o + 1, none⟩) nq.use lx).trans x1
      have z2 := (Below.cell (p := ⟨g, p + 1, none⟩) nq.use ly).trans y1
      go_wp2
      have lx2 := xl b lx
      have ly2 := xl g ly
      refine wp_aft (by kernel_rfl) (by kernel_rfl) (fun hq hqf => ?_)
      repeat (go_big_quiet_step (first
        | (go_at_call 74; exact aft_of (kc _ (ext_trans hE1.out (Aft.use _))))
        ))
      refine wpQuiet_nil ?_
      rintro _ ⟨nq, rfl⟩
      have xl := ext_lt nq.use
      have xz := ext_size nq.use
      try simp at xz
      go_wp2
      refine bodyPost_ret (v := .int .i64 C) ?h rfl ⟨rfl, ext_trans hE1.out nq.use⟩
      case h => simp [results, Tryz.results49, go_sem]
end Go.Proofs.YtchchnohmmncfaaGreatDoor.NB
end
section
/- (The document's library.) Whole numbers of the library's: sums. -/

namespace Go.Proofs.YtchchnohmmncfaaGreatDoor.NB
open Go.RowKit
attribute [local go_sem] sz2 sz3 sz4 sz5 sz6 sz7 sz8
set_option maxHeartbeats 4000000
set_option maxRecDepth 100000
attribute [local irreducible] Calls
theorem bi_added (b o : Nat) (A : Option Addr) (n c a : Nat) (s : Bool) (B : Option Addr) (m d x : Nat) (t : Bool) (hn : n ≤ 1000000) (hm : m ≤ 1000000) (w : World) (hr : Room w b o) (hA : Rd w A n c (lim a)) (hB : Rd w B m d (lim x)) :
    Calls Tryz.prog 65 #[.pointer (some ⟨b, o, none⟩), .slice A n c, .bool s, .slice B m d, .bool t] w (IPost w b o (sgn s a + sgn t x)) := by
  have HA := Lib.hid hA
  have HB := Lib.hid hB
  have HR := Lib.hid hr
  have hbl := hr.lt
  clear hA hB hr
  by_cases hst : s = t
  · subst hst
    have e := sgn_add_same s a x
    rw [← e]
    clear e
    go_enter Tryz.func65, Tryz.ntmps65
    go_wp2_with (first
      | (go_at_call 108; (with_reducible refine (bw_add A B n c m d a x hn hm _ HA.out HB.out).mono ?_); rintro e w2 ⟨A2, k2, c2, rfl, hR2, xb2⟩; have hF2 : Fr w A2 := hR2.out.2.1; have hO2 := hF2.off hbl k2)
      | (go_at_call 63; (with_reducible refine (bi_set b o s A2 k2 c2 (a + x) _ (HR.out.ext xb2) hR2.out.1 hO2).mono ?_); rintro e w3 ⟨rfl, hI3, xt3⟩)
     )
    refine bodyPost_ret (v := .pointer (some ⟨b, o, none⟩)) ?h rfl ⟨rfl, A2, k2, c2, ⟨hI3.out, hF2⟩, (Tch.of xb2).trans xt3⟩
    case h => simp [results, Tryz.results65, go_sem]
  · have hst' : (s == t) = false := by rw [beq_eq_false_iff_ne]; exact hst
    by_cases hax : x ≤ a
    · have e := sgn_add_ge s t a x hst hax
      rw [← e]
      have hc : (0 : Int) ≤ cmpN a x := by unfold cmpN; rw [if_neg (by omega)]; split <;> decide
      clear e hst
      go_enter Tryz.func65, Tryz.ntmps65
      go_wp2_with (first
        | (go_at_call 74; (with_reducible refine (bw_cmp A B n c m d a x _ HA.out HB.out).mono ?_); rintro e w1 ⟨rfl, xb1⟩)
        | (go_at_call 109; (with_reducible refine (bw_sub A B n c m d a x hax hn _ (HA.out.ext xb1) (HB.out.ext xb1)).mono ?_); rintro e w2 ⟨A2, k2, c2, rfl, hR2, xb2⟩; have hF2 : Fr w A2 := Fr.mono hR2.out.2 xb1; have hO2 := hF2.off hbl k2)
        | (go_at_call 63; (with_reducible refine (bi_set b o s A2 k2 c2 (a - x) _ ((HR.out.ext xb1).ext xb2) hR2.out.1 hO2).mono ?_); rintro e w3 ⟨rfl, hI3, xt3⟩)
       )
      refine bodyPost_ret (v := .pointer (some ⟨b, o, none⟩)) ?h rfl ⟨rfl, A2, k2, c2, ⟨hI3.out, hF2⟩, (Tch.of (ext_trans xb1 xb2)).trans xt3⟩
      case h => simp [results, Tryz.results65, go_sem]
    · have e := sgn_add_lt s t a x hst (by omega)
      rw [← e]
      have hc : ¬ (0 : Int) ≤ cmpN a x := by unfold cmpN; rw [if_pos (by omega)]; decide
      have hxa : a ≤ x := by omega
      clear e hst hax
      go_enter Tryz.func65, Tryz.ntmps65
      go_wp2_with (first
        | (go_at_call 74; (with_reducible refine (bw_cmp A B n c m d a x _ HA.out HB.out).mono ?_); rintro e w1 ⟨rfl, xb1⟩)
        | (go_at_call 109; (with_reducible refine (bw_sub B A m d n c x a hxa hm _ (HB.out.ext xb1) (HA.out.ext xb1)).mono ?_); rintro e w2 ⟨A2, k2, c2, rfl, hR2, xb2⟩; have hF2 : Fr w A2 := Fr.mono hR2.out.2 xb1; have hO2 := hF2.off hbl k2)
        | (go_at_call 63; (with_reducible refine (bi_set b o t A2 k2 c2 (x - a) _ ((HR.out.ext xb1).ext xb2) hR2.out.1 hO2).mono ?_); rintro e w3 ⟨rfl, hI3, xt3⟩)
       )
      refine bodyPost_ret (v := .pointer (some ⟨b, o, none⟩)) ?h rfl ⟨rfl, A2, k2, c2, ⟨hI3.out, hF2⟩, (Tch.of (ext_trans xb1 xb2)).trans xt3⟩
      case h => simp [results, Tryz.results65, go_sem]
theorem bi_Add (b o g p h q : Nat) (x y : Int) (A : Option Addr) (n c : Nat) (B : Option Addr) (m d : Nat) (hn : n ≤ 1000000) (hm : m ≤ 1000000) (w : World) (hr : Room w b o) (hx : IntIs w g p x A n c) (hy : IntIs w h q y B m d) :
    Calls Tryz.prog 33 #[.pointer (some ⟨b, o, none⟩), .pointer (some ⟨g, p, none⟩), .pointer (some ⟨h, q, none⟩)] w (IPost w b o (x + y)) := by
  have HX := Lib.hid hx
  have HY := Lib.hid hy
  have HR := Lib.hid hr
  have lx := hx.room.lt
  have x0 := hx.neg
  have x1 := hx.words
  have ly := hy.room.lt
  have y0 := hy.neg
  have y1 := hy.words
  have hbl := hr.lt
  clear hx hy hr
  go_enter Tryz.func33, Tryz.ntmps33
  go_wp2
  refine wp_aft_tail 17 (by kernel_rfl) (by kernel_rfl) (by kernel_rfl) (fun hq hqf => ?_)
  simp only [List.take_succ_cons, List.take_zero, List.drop_succ_cons, List.drop_zero]
  repeat (go_big_quiet_step (first | fail
    ))
  refine wpQuiet_nil ?_
  rintro _ ⟨nq, rfl⟩
  have xl := ext_lt nq.use
  have xz := ext_size nq.use
  try simp at xz
  have hE := Lib.hid nq.use
  go_wp2_with (first
    | (go_at_call 65; (with_reducible refine (bi_added b o A n c x.natAbs _ B m d y.natAbs _ hn hm _ (HR.out.ext hE.out) (HX.out.rd.ext hE.out) (HY.out.rd.ext hE.out)).mono ?_); rintro e w3 ⟨rfl, A3, n3, c3, hI3, xt3⟩)
   )
  refine bodyPost_ret (v := .pointer (some ⟨b, o, none⟩)) ?h rfl ⟨rfl, A3, n3, c3, ⟨by have := hI3.out.1; rwa [sgn_self, sgn_self] at this, hI3.out.2.mono hE.out⟩, (Tch.of hE.out).trans xt3⟩
  case h => simp [results, Tryz.results33, go_sem]
end Go.Proofs.YtchchnohmmncfaaGreatDoor.NB
end
section
/- (The document's library.) Fractions of the library's: products. -/

namespace Go.Proofs.YtchchnohmmncfaaGreatDoor.NB
open Go.RowKit
attribute [local go_sem] sz2 sz3 sz4 sz5 sz6 sz7 sz8
set_option maxHeartbeats 4000000
set_option maxRecDepth 100000
attribute [local irreducible] Calls
/-- By a number that goes into it; no longer than it was. -/
theorem bw_by (A G : Option Addr) (n c m d a g : Nat) (h0 : g ≠ 0) (hn : n ≤ 400000) (w : World) (hA : Rd w A n c (lim a)) (hG : Rd w G m d (lim g)) :
    Calls Tryz.prog 139 #[.slice A n c, .slice G m d] w fun e w' => ∃ (A' : Option Addr) (k c' : Nat), (e = .returned (.slice A' k c') ∧ k ≤ n) ∧ Hid (Rd w' A' k c' (lim (a / g))) ∧ Ext w w' := by
  have hle : (lim (a / g)).length ≤ n := by rw [← hA.len]; exact lim_mono (Nat.div_le_self _ _)
  by_cases h1 : g = 1
  · subst h1
    refine (bw_by_one A G n c m d w hG).mono ?_
    rintro e w' ⟨rfl, h2⟩
    exact ⟨A, n, c, ⟨rfl, Nat.le_refl _⟩, by rw [Nat.div_one]; exact hA.ext h2, h2⟩
  · refine (bw_by_div A G n c m d a g h1 h0 hn w hA hG).mono ?_
    rintro e w' ⟨A', k, c', rfl, h2, h3⟩
    exact ⟨A', k, c', ⟨rfl, by rw [← h2.out.1.len]; exact hle⟩, h2.out.1, h3⟩
theorem bw_mulA (A B : Option Addr) (n c m d a b : Nat) (hs : n + m ≤ 200000) (w : World) (hA : Rd w A n c (lim a)) (hB : Rd w B m d (lim b)) : Calls Tryz.prog 64 #[.slice A n c, .slice B m d] w (WPost w (a * b)) := bw_mul (n + m) A B n c m d a b rfl hs w hA hB
theorem bw_commonA (A B : Option Addr) (n c m d a b : Nat) (hn : n ≤ 400000) (hm : m ≤ 400000) (w : World) (hT : Tz w) (hA : Rd w A n c (lim a)) (hB : Rd w B m d (lim b)) : Calls Tryz.prog 138 #[.slice A n c, .slice B m d] w (WPost w (Nat.gcd a b)) := bw_common A B n c m d a b hn hm w hT hA hB
theorem br_times (g : Nat) (s : Bool) (A D B C : Option Addr) (n cn m cm p cp q cq a d b c : Nat) (ha : a ≠ 0) (hb : b ≠ 0) (hd : d ≠ 0) (hc : c ≠ 0) (hn : n ≤ 100000) (hm : m ≤ 100000) (hp : p ≤ 100000) (hq : q ≤ 100000) (w : World) (hT : Tz w) (hr : RatRoom w g)
    (hA : Rd w A n cn (lim a)) (hD : Rd w D m cm (lim d)) (hB : Rd w B p cp (lim b)) (hC : Rd w C q cq (lim c)) :
    Calls Tryz.prog 117 #[.pointer (some ⟨g, 0, none⟩), .bool s, .slice A n cn, .slice D m cm, .slice B p cp, .slice C q cq] w
      (FPost w g (sgn s ((a / Nat.gcd a c) * (b / Nat.gcd b d) : Nat)) ((d / Nat.gcd b d) * (c / Nat.gcd a c))) := by
  have HA := Lib.hid hA
  have HD := Lib.hid hD
  have HB := Lib.hid hB
  have HC := Lib.hid hC
  have HT := Lib.hid hT
  have HR := Lib.hid hr
  have hgl := hr.int.lt
  have hfc := hr.c2
  have hff := hr.f2
  obtain ⟨v2, hv2⟩ := hfc
  have hn0 : ((n : Int) == 0) = false := by
    rw [beq_eq_false_iff_ne]; have := hA.len; intro h; exact ha (lim_nil.1 (List.eq_nil_of_length_eq_zero (by omega)))
  have hp0 : ((p : Int) == 0) = false := by
    rw [beq_eq_false_iff_ne]; have := hB.len; intro h; exact hb (lim_nil.1 (List.eq_nil_of_length_eq_zero (by omega)))
  obtain ⟨G, hG⟩ : ∃ G, G = Nat.gcd a c := ⟨_, rfl⟩
  obtain ⟨H, hH⟩ : ∃ H, H = Nat.gcd b d := ⟨_, rfl⟩
  have hG0 : G ≠ 0 := by rw [hG]; intro h; exact ha (Nat.eq_zero_of_gcd_eq_zero_left h)
  have hH0 : H ≠ 0 := by rw [hH]; intro h; exact hb (Nat.eq_zero_of_gcd_eq_zero_left h)
  have kG : ∀ w', Ext w w' → Calls Tryz.prog 138 #[.slice A n cn, .slice C q cq] w' (WPost w' G) := fun w' he => by rw [hG]; exact bw_commonA A C n cn q cq a c (by omega) (by omega) w' (HT.out.ext he) (HA.out.ext he) (HC.out.ext he)
  have kH : ∀ w', Ext w w' → Calls Tryz.prog 138 #[.slice B p cp, .slice D m cm] w' (WPost w' H) := fun w' he => by rw [hH]; exact bw_commonA B D p cp m cm b d (by omega) (by omega) w' (HT.out.ext he) (HB.out.ext he) (HD.out.ext he)
  rw [← hG, ← hH]
  have HG1 := Lib.hid hG
  have HH1 := Lib.hid hH
  have hn4 : n ≤ 400000 := by omega
  have hm4 : m ≤ 400000 := by omega
  have hp4 : p ≤ 400000 := by omega
  have hq4 : q ≤ 400000 := by omega
  clear hA hB hC hD hT hr hG hH
  go_enter Tryz.func117, Tryz.ntmps117
  go_wp2_with (first
    | (go_at_call 138; (with_reducible refine (kG _ (ext_refl _)).mono ?_); rintro e w1 ⟨A1, k1, c1, rfl, hR1, xb1⟩)
    | (go_at_call 138; (with_reducible refine (kH _ xb1).mono ?_); rintro e w2 ⟨A2, k2, c2, rfl, hR2, xb2⟩; have hG2 := Lib.hid (hR1.out.1.ext xb2); have hE2 := Lib.hid (ext_trans xb1 xb2))
    | (go_at_call 139; (with_reducible refine (bw_by A A1 n cn k1 c1 a G hG0 hn4 _ (HA.out.ext hE2.out) hG2.out).mono ?_); rintro e w3 ⟨A3, k3, c3, ⟨rfl, hk3⟩, hR3, xb3⟩; have hE3 := Lib.hid (ext_trans hE2.out xb3))
    | (go_at_call 139; (with_reducible refine (bw_by B A2 p cp k2 c2 b H hH0 hp4 _ (HB.out.ext hE3.out) (hR2.out.1.ext xb3)).mono ?_); rintro e w4 ⟨A4, k4, c4, ⟨rfl, hk4⟩, hR4, xb4⟩; have hE4 := Lib.hid (ext_trans hE3.out xb4); have hs4 : k3 + k4 ≤ 200000 := Nat.le_trans (Nat.add_le_add (Nat.le_trans hk3 hn) (Nat.le_trans hk4 hp)) (Nat.le_refl _))
    | (go_at_call 64; (with_reducible refine (bw_mulA A3 A4 k3 c3 k4 c4 _ _ hs4 _ (hR3.out.ext xb4) hR4.out).mono ?_); rintro e w5 ⟨A5, k5, c5, rfl, hR5, xb5⟩; have hE5 := Lib.hid (ext_trans hE4.out xb5))
    | (go_at_call 139; (with_reducible refine (bw_by D A2 m cm k2 c2 d H hH0 hm4 _ (HD.out.ext hE5.out) (hR2.out.1.ext (ext_trans xb3 (ext_trans xb4 xb5)))).mono ?_); rintro e w6 ⟨A6, k6, c6, ⟨rfl, hk6⟩, hR6, xb6⟩; have hE6 := Lib.hid (ext_trans hE5.out xb6))
    | (go_at_call 139; (with_reducible refine (bw_by C A1 q cq k1 c1 c G hG0 hq4 _ (HC.out.ext hE6.out) (hG2.out.ext (ext_trans (ext_trans xb3 xb4) (ext_trans xb5 xb6)))).mono ?_); rintro e w7 ⟨A7, k7, c7, ⟨rfl, hk7⟩, hR7, xb7⟩; have hE7 := Lib.hid (ext_trans hE6.out xb7); have hs7 : k6 + k7 ≤ 200000 := Nat.le_trans (Nat.add_le_add (Nat.le_trans hk6 hm) (Nat.le_trans hk7 hq)) (Nat.le_refl _))
    | (go_at_call 64; (with_reducible refine (bw_mulA A6 A7 k6 c6 k7 c7 _ _ hs7 _ (hR6.out.ext xb7) hR7.out).mono ?_); rintro e w8 ⟨A8, k8, c8, rfl, hR8, xb8⟩; have hE8 := Lib.hid (ext_trans hE7.out xb8); have hF5 : Fr w A5 := hR5.out.2.mono hE4.out; have hF8 : Fr w A8 := hR8.out.2.mono hE7.out; have hO5 := hF5.off hgl k5; have hO8 := hF8.off hgl k8; have hv8 := (Below.cell (p := ⟨g, 2, none⟩) hE8.out hgl).trans hv2; have hf8 := (Below.frozen (p := ⟨g, 2, none⟩) hE8.out hgl).trans hff)
    | (go_at_call 63; (with_reducible refine (bi_setx g 0 s A5 k5 c5 _ _ (HR.out.int.ext hE8.out) (hR5.out.1.ext (ext_trans (ext_trans xb6 xb7) xb8)) hO5).mono ?_); rintro e w9 ⟨rfl, hI9, xt9, hq9⟩; have hv9 := (hq9.out 2 (by omega) (by omega)).1.trans hv8; have hf9 := (hq9.out 2 (by omega) (by omega)).2.trans hf8)
   )
  refine bodyPost_ret (v := .pointer (some ⟨g, 0, none⟩)) ?h rfl ⟨rfl, A5, k5, c5, A8, k8, c8, ⟨rat_made hI9.out ⟨_, hv9⟩ hf9 (hR8.out.1.tch xt9 hO8) hO8, hF5, hF8⟩, ((Tch.of hE8.out).trans xt9).set 2 _⟩
  case h => simp [results, Tryz.results117, go_sem]
theorem br_times_zero (g : Nat) (s : Bool) (A D B C : Option Addr) (n cn m cm p cp q cq : Nat) (h0 : n = 0 ∨ p = 0) (w : World) (hr : RatRoom w g) :
    Calls Tryz.prog 117 #[.pointer (some ⟨g, 0, none⟩), .bool s, .slice A n cn, .slice D m cm, .slice B p cp, .slice C q cq] w (FPost w g 0 0) := by
  have HR := Lib.hid hr
  have kz : Calls Tryz.prog 137 #[.pointer (some ⟨g, 0, none⟩), .bool false, .slice none 0 0, .slice (some ⟨w.heap.size, 0, none⟩) 1 1] (w.alloc (Obj.cells #[.int .u32 1] 38)) (SPost (w.alloc (Obj.cells #[.int .u32 1] 38)) g 0 0 none (some ⟨w.heap.size, 0, none⟩)) :=
    br_set_zero g false none 0 0 (some ⟨w.heap.size, 0, none⟩) 1 1 1 _ (hr.ext (ext_alloc (ext_refl _) _)) (by rw [lim_zero]; exact Rd.nil _) (one_row w)
  have KZ := kz.mono (R' := FPost w g 0 0) (by
    rintro e w' ⟨rfl, A', n', c', D', m', k', h1, h2⟩
    have h3 := h1.out.2 w (ext_alloc (ext_refl _) _) (Fr.none _) (fun x hx => by cases hx; exact Nat.le_refl _)
    exact ⟨rfl, A', n', c', D', m', k', ⟨h1.out.1, h3.1, h3.2⟩, (Tch.of (ext_alloc (ext_refl _) _)).trans h2⟩)
  clear kz hr
  by_cases hn : n = 0
  · subst hn
    clear h0
    go_enter Tryz.func117, Tryz.ntmps117
    go_wp2_with (first
      | (go_at_call 137; (with_reducible refine KZ.mono ?_); rintro e w3 ⟨rfl, A3, n3, c3, D3, m3, k3, hI3, xt3⟩)
     )
    refine bodyPost_ret (v := .pointer (some ⟨g, 0, none⟩)) ?h rfl ⟨rfl, A3, n3, c3, D3, m3, k3, hI3, xt3⟩
    case h => simp [results, Tryz.results117, go_sem]
  · have hp : p = 0 := by omega
    subst hp
    have hn0 : ((n : Int) == 0) = false := by rw [beq_eq_false_iff_ne]; omega
    clear h0
    go_enter Tryz.func117, Tryz.ntmps117
    go_wp2_with (first
      | (go_at_call 137; (with_reducible refine KZ.mono ?_); rintro e w3 ⟨rfl, A3, n3, c3, D3, m3, k3, hI3, xt3⟩)
     )
    refine bodyPost_ret (v := .pointer (some ⟨g, 0, none⟩)) ?h rfl ⟨rfl, A3, n3, c3, D3, m3, k3, hI3, xt3⟩
    case h => simp [results, Tryz.results117, go_sem]
end Go.Proofs.YtchchnohmmncfaaGreatDoor.NB
end
