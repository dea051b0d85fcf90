/- The program writes digits. -/
import Derived.Test.YtbgimjfeigeicaaGreatDoorNtF
namespace Go.Proofs.YtbgimjfeigeicaaGreatDoor
open Go.RowKit
attribute [local go_sem] bs_size bs_extract bs_get bs_append bs_toList const_get
attribute [local go_sem] sz2 sz3 sz4 sz5 sz6 sz7 sz8
set_option maxHeartbeats 4000000
set_option maxRecDepth 100000
theorem v_lt {v k : Nat} (h : (lim v).length ≤ k) : v < 10 ^ (32 * k) := by
  refine Nat.lt_of_lt_of_le (lim_lt v) ?_
  have h1 : Bs ^ (lim v).length ≤ Bs ^ k := Nat.pow_le_pow_right (by decide) h
  have h2 : Bs ^ k ≤ (10 ^ 32) ^ k := Nat.pow_le_pow_left (by decide) _
  rw [← Nat.pow_mul] at h2
  exact Nat.le_trans h1 h2
theorem back_len {v u K : Nat} {back : List UInt8} (hK : v < 10 ^ K) (hu : 0 < u) (h : v = u * 10 ^ back.length + dval back.reverse) : back.length ≤ K := by
  rcases Nat.lt_or_ge K back.length with h1 | h1
  · have h2 : 10 ^ K ≤ 10 ^ back.length := Nat.pow_le_pow_right (by decide) (by omega)
    have h3 : 1 * 10 ^ back.length ≤ u * 10 ^ back.length := Nat.mul_le_mul_right _ hu
    omega
  · exact h1
theorem dtext_back {v k : Nat} {back : List UInt8} (hk0 : 0 < k) (hk : k ≤ back.length) (hv : v = dval back.reverse) (hd : digsB back = true) (hz : ∀ p, k ≤ p → p < back.length → back.getD p 0 = 48) (hn : back.getD (k - 1) 0 ≠ 48) : dtext v = (back.take k).reverse := by
  have hd1 : digsB (back.take k).reverse = true := by
    have := digs_take hd k
    unfold digsB at *
    rw [List.all_reverse]; exact this
  have hl : lead (back.take k).reverse := by
    intro x hx e
    rw [List.head?_reverse, List.getLast?_eq_getElem?, List.length_take, Nat.min_eq_left hk, List.getElem?_take_of_lt (by omega)] at hx
    rw [List.getD_eq_getElem?_getD, hx] at hn
    exact hn e
  have hne : (back.take k).reverse ≠ [] := by
    intro e
    have := congrArg List.length e
    rw [List.length_reverse, List.length_take, Nat.min_eq_left hk] at this
    exact absurd this (by show k ≠ 0; omega)
  have hvv : v = dval (back.take k).reverse := hv.trans (strip_zeros hk hz)
  have hp := dval_pos hd1 hl hne
  have h0 : v ≠ 0 := by rw [hvv]; omega
  unfold dtext
  rw [if_neg h0, hvv, digs_dval hd1 hl]
theorem field_nat (A : Option Addr) (k c : Nat) (w : World) : (Instr.field 46 (natV A k c) 0).run Tryz.prog w = .ok (.slice A k c) w := by kernel_rfl
attribute [local irreducible] Calls
attribute [local go_sem] field_nat
theorem ptext_any (A : Option Addr) (n c v : Nat) (hs : (lim v).length ≤ 16384) (w : World) (hA : Rd w A n c (lim v)) :
    Calls Tryz.prog 47 #[natV A n c] w fun e w' => e = .returned (.tuple #[.string (bs (dtext v)), .int .i64 0]) ∧ Ext w w' := by
  have hn := hA.len
  have hcx := hA.cap
  have hmx := hA.mx
  obtain ⟨K, hK, hvK⟩ : ∃ K, K ≤ 524288 ∧ Hid (v < 10 ^ K) := ⟨32 * n, by omega, v_lt (by omega)⟩
  have hck : ∀ w', Hid (Ext w w') → Calls Tryz.prog 92 #[natV A n c] w' fun e w'' => e = .returned (.int .i64 0) ∧ Ext w' w'' := fun w' he => by
    have := ncheck_any A n c _ w' (hA.ext he.out)
    rwa [chk_lim hs] at this
  have hnn : n ≤ 16384 := by omega
  have HA := Lib.hid hA
  clear hA hs
  go_enter Tryz.func47, Tryz.ntmps47
  go_wp2_with (first
    | (go_at_call 92; (with_reducible refine (hck _ (Lib.hid (by (repeat (first | exact ext_refl _ | assumption | refine ext_setCell ?_ (by simp; try omega) _ | refine ext_alloc ?_ _ | refine ext_drew ?_ | refine ext_drewN ?_ _ | refine ext_trans ?_ (Aft.use _) | refine ext_trans ?_ (by assumption)))))).mono ?_); rintro e w' ⟨rfl, xb⟩; obtain ⟨xc, xf, xl, xz⟩ := ext_use xb; (try simp at xz))
   )
  have HE : Hid (Ext w w') := Lib.hid (by (repeat (first | exact ext_refl _ | assumption | refine ext_setCell ?_ (by simp; try omega) _ | refine ext_alloc ?_ _ | refine ext_drew ?_ | refine ext_drewN ?_ _ | refine ext_trans ?_ (Aft.use _) | refine ext_trans ?_ (by assumption))))
  have HA' := Lib.hid (HA.out.ext HE.out)
  clear xc xf xl xz hck HA xb
  go_loopw [5, 6] (fun vb vl wr => ∃ (A' : Option Addr) (k' c' u : Nat) (back : List UInt8), vl = .slice A' k' c' ∧ Hid (Rd wr A' k' c' (lim u)) ∧ k' ≤ 16384 ∧ back.length ≤ 600000 ∧ Hid (v = u * 10 ^ back.length + dval back.reverse ∧ digsB back = true) ∧ Hid (wr.ownsRow w'.heap.size 5 1 vb back.length (back.map bV)) ∧ Hid (Ext w' wr))
    (fun _ vl wr => svalAt wr vl)
  case atStart => exact ⟨A, n, c, v, [], rfl, HA'.out, hnn, by simp, Lib.hid ⟨by simp [dval], rfl⟩, World.ownsRow_nil _ _ _ _, ext_refl _⟩
  case round =>
    obtain ⟨A', k', c', u, back, rfl, hR, hk', hbl, hdig, hown, hext⟩ := hrel
    have hkc := hR.out.cap
    have hcm := hR.out.mx
    by_cases hk0 : 0 < k'
    · have hu0 : 0 < u := by
        rcases Nat.eq_zero_or_pos u with e | e
        · have := hR.out.len
          rw [e, lim_zero] at this
          simp at this; omega
        · exact e
      have hbl1 : back.length ≤ 524288 := Nat.le_trans (back_len hvK.out hu0 hdig.out.1) hK
      obtain ⟨q, hq⟩ : ∃ q, q = u / 1000000000 := ⟨_, rfl⟩
      have hsm : Calls Tryz.prog 93 #[.slice A' k' c', .int .u32 1000000000] wr fun e w'' => ∃ (A2 : Option Addr) (os : List Nat) (r : Nat), e = .returned (.tuple #[.slice A2 k' k', .int .u32 (r : Int)]) ∧ Hid (r = u % 1000000000 ∧ Rd w'' A2 k' k' os ∧ val os = q ∧ Fr wr A2) ∧ Ext wr w'' := by
        refine (small_any A' k' c' (lim u) 1000000000 (by decide) (by decide) (by omega) wr hR.out).mono ?_
        rintro e w'' ⟨A2, os, r, he, h1, h2⟩
        have h3 := h1.out
        rw [val_lim, ← hq] at h3
        exact ⟨A2, os, r, he, h3, h2⟩
      have HQ := Lib.hid hq
      clear hq
      go_wp2_with (first
        | (go_at_call 93; (with_reducible refine (hsm).mono ?_); rintro e w1 ⟨A2, os, r, rfl, hR2, xb1⟩; obtain ⟨xc1, xf1, xl1, xz1⟩ := ext_use xb1; (try simp at xz1))
        | (go_at_call 91; (with_reducible refine (trimmed_any A2 k' k' os _ hR2.out.2.1).mono ?_); rintro e w2 ⟨A3, k3, rfl, hT, xb2⟩; obtain ⟨xc2, xf2, xl2, xz2⟩ := ext_use xb2; (try simp at xz2))
       )
      have hR3 : Hid (Rd w2 A3 k3 k3 (lim q)) := by
        have := (hT.out.1 _ hR2.out.2.1).ext xb2
        rw [hR2.out.2.2.1] at this
        exact this
      have hk3 : k3 ≤ 16384 := by
        have h1 := hR3.out.len
        have h2 : (lim q).length ≤ (lim u).length := lim_mono (by rw [HQ.out]; exact Nat.div_le_self _ _)
        have h3 := hR.out.len
        omega
      have hkm3 := hR3.out.mx
      have hr9 : r < 1000000000 := by rw [hR2.out.1]; exact Nat.mod_lt _ (by decide)
      have HX2 : Hid (Ext wr w2) := Lib.hid (ext_trans xb1 xb2)
      have hapt : Hid (∀ a, A3 = some a → wr.heap.size ≤ a.block) := Lib.hid (fun a ha => hR2.out.2.2.2 a (hT.out.2 a ha))
      clear hsm xc1 xf1 xl1 xz1 xb1 xc2 xf2 xl2 xz2 xb2
      go_loopw [5, 8, 30] (fun vb vr vi wr2 => ∃ (j r' : Nat) (back2 : List UInt8), j ≤ 9 ∧ vi = .int .i64 (j : Int) ∧ vr = .int .u32 (r' : Int) ∧ r' < 1000000000 ∧ back2.length ≤ 524288 + j ∧ Hid (r' < 10 ^ (9 - j) ∧ v = (q * 10 ^ (9 - j) + r') * 10 ^ back2.length + dval back2.reverse ∧ digsB back2 = true) ∧
          Hid (wr2.ownsRow w'.heap.size 5 1 vb back2.length (back2.map bV)) ∧ Hid (Rd wr2 A3 k3 k3 (lim q) ∧ Apt vb A3 (lim q)) ∧ Hid (Ext w' wr2))
        (fun _ _ vi _ => 9 - (intOf vi).toNat)
      case atStart =>
        refine ⟨0, r, back, Nat.zero_le _, rfl, rfl, hr9, hbl1, ⟨hr9, ?_, hdig.out.2⟩, own_ext hown.out HX2.out, ⟨hR3.out, fun a ha _ e => ?_⟩, ext_trans hext.out HX2.out⟩
        · have e1 := hdig.out.1
          have e2 : q * 10 ^ (9 - 0) + r = u := by
            rw [HQ.out, hR2.out.1]
            have := Nat.div_add_mod u 1000000000
            simp; omega
          rw [e2]; exact e1
        · have h1 := (hown.out.lt _ e).2
          have h2 := hapt.out a ha
          omega
      case round =>
        clear hown
        obtain ⟨j, r', back2, hj, rfl, rfl, hr', hbl2, hd2, hown, hRA, hext2⟩ := hrel
        have hext2' := hext2.out.size
        obtain ⟨dg, hdg⟩ : ∃ dg : UInt8, Hid (dg = UInt8.ofNat (48 + r' % 10)) := ⟨_, rfl⟩
        by_cases hgo : j < 9
        · go_wp2_with (first
            | (at_builtin; refine push_u8 rfl _ _ rfl _ rfl hext2.out (Nat.le_refl _) (hext2.out.size) hown.out rfl dg ⟨wr.heap.size, 0, none⟩ 1 rfl (by rw [World.cell?_alloc_at _ _ _ _ rfl]; simp [bV, hdg.out]; omega) (by omega) ?_)
            | go_in)
          all_goals
            intro v' w3 hx3 ho3 hk3
            have HX3 := Lib.hid hx3
            clear hx3 hown
            go_wp2
            go_roundw
            case rel =>
              have e1 : 10 ^ (9 - j) = 10 * 10 ^ (9 - (j + 1)) := by
                rw [show 9 - j = 9 - (j + 1) + 1 by omega, Nat.pow_succ]; omega
              have hd3 := hd2.out
              rw [e1] at hd3
              refine ⟨j + 1, r' / 10, back2 ++ [dg], by omega, by go_num, by go_num, by omega, by simp; omega, ⟨by omega, by rw [hdg.out]; exact back_step hd3.2.1, ?_⟩, ?_, ?_, HX3.out⟩
              · have h1 := hd3.2.2
                have h2 := ofNat_isD (d := r' % 10) (Nat.mod_lt _ (by decide))
                rw [hdg.out]
                unfold digsB at *
                rw [List.all_append, h1, List.all_cons, h2]; rfl
              · show World.ownsRow _ _ _ _ _ _ _
                rw [List.length_append, List.map_append]
                exact ho3.out
              · exact hk3.out _ _ _ _ hRA.out.1 hRA.out.2
            case measure => simp [intOf]; omega
        · obtain rfl : j = 9 := by omega
          have h1 := hd2.out
          have hr0 : r' = 0 := by have := h1.1; simp at this; exact this
          have hvd : Hid (v = q * 10 ^ back2.length + dval back2.reverse ∧ digsB back2 = true) := Lib.hid ⟨by rw [hr0] at h1; simpa using h1.2.1, h1.2.2⟩
          clear h1 hr0
          go_wp2
          go_roundw
          case rel => exact ⟨A3, k3, k3, q, back2, rfl, hRA.out.1, hk3, by omega, hvd.out, hown.out, hext2.out⟩
          case measure =>
            show svalAt _ (.slice A3 k3 k3) < svalAt _ (.slice A' k' c')
            rw [sval_rd hRA.out.1, sval_rd hR.out, val_lim, val_lim, HQ.out]
            exact Nat.div_lt_self hu0 (by decide)
    · obtain rfl : k' = 0 := by omega
      have hu0 : u = 0 := lim_nil.1 (List.eq_nil_of_length_eq_zero hR.out.len)
      have hv : Hid (v = dval back.reverse) := by
        have := hdig.out.1
        rw [hu0] at this
        show v = _
        omega
      clear hk0 hu0
      obtain ⟨wo, rfl⟩ : ∃ wo, wo = wr := ⟨_, rfl⟩
      rcases Nat.eq_zero_or_pos back.length with hb0 | hb0
      · obtain rfl : back = [] := List.eq_nil_of_length_eq_zero hb0
        obtain rfl : v = 0 := hv.out
        have hext' := hext.out
        have HE' := HE.out
        rcases hown.out.2 with ⟨rfl, _⟩ | ⟨gb, cb, cur, rfl, _, _, _, hcb, _, _⟩
        · go_wp2
          go_loop [9] (fun vn => vn = .int .i64 0) (fun vn => (intOf vn).toNat)
          case atStart => rfl
          case round =>
            subst hrel
            go_wp2
            refine bodyPost_ret (v := .tuple #[.string ⟨#[48]⟩, .int .i64 0]) ?h rfl ⟨rfl, ext_trans HE' hext'⟩
            case h => simp [results, Tryz.results47, go_sem]
        · have hcb' : cb ≤ 9223372036854775807 := hcb
          go_wp2
          go_loop [9] (fun vn => vn = .int .i64 0) (fun vn => (intOf vn).toNat)
          case atStart => rfl
          case round =>
            subst hrel
            go_wp2
            refine bodyPost_ret (v := .tuple #[.string ⟨#[48]⟩, .int .i64 0]) ?h rfl ⟨rfl, ext_trans HE' hext'⟩
            case h => simp [results, Tryz.results47, go_sem]
      · have hlt := hown.out.lt
        rcases hown.out.2 with ⟨_, h0⟩ | ⟨gb, cb, cur, rfl, hgb, _, hbc, hcb, _, _⟩
        · omega
        have hgl := (hlt gb rfl).2
        have hcb' : cb ≤ 9223372036854775807 := hcb
        clear hlt
        go_wp2
        go_loop [9] (fun vn => ∃ k : Nat, k ≤ back.length ∧ vn = .int .i64 (k : Int) ∧ Hid (∀ p, k ≤ p → p < back.length → back.getD p 0 = 48)) (fun vn => (intOf vn).toNat)
        case atStart => exact ⟨back.length, Nat.le_refl _, rfl, fun p h1 h2 => absurd h2 (by omega)⟩
        case round =>
          obtain ⟨k, hk, rfl, hz⟩ := hrel
          by_cases hk0 : 0 < k
          · obtain ⟨y, hy⟩ : ∃ y : UInt8, Hid (back.getD (k - 1) 0 = y) := ⟨_, rfl⟩
            obtain ⟨hc1, hf1⟩ := ownb_at hown.out (k - 1) (by omega)
            rw [hy.out] at hc1
            by_cases hy48 : y = 48
            · have hyc := (byte_48 y).2 hy48
              have HY := Lib.hid hy48
              clear hy48
              go_wp2
              go_round
              case rel =>
                refine ⟨k - 1, by omega, by go_num, fun p h1 h2 => ?_⟩
                by_cases e : p = k - 1
                · rw [e, hy.out, HY.out]
                · exact hz.out p (by omega) h2
              case measure => simp [intOf]; omega
            · have hyc := (byte_48n y).2 hy48
              have hkne : ((k : Int) == 0) = false := by rw [beq_eq_false_iff_ne]; omega
              have hT : Hid (dtext v = (back.take k).reverse) := Lib.hid (dtext_back hk0 hk hv.out hdig.out.2 hz.out (by rw [hy.out]; exact hy48))
              clear hy48
              go_wp2_with (first
                | (at_make; refine make_u8 rfl _ _ rfl _ _ _ _ k rfl rfl rfl rfl (by omega) ?_; intro w1 hx1 ho1; have hext1 := Lib.hid hx1; clear hx1)
                | go_in)
              have hgl1 : wo.heap.size < w1.heap.size := (ho1.out.lt wo.heap.size rfl).2
              go_loopw [62] (fun vi wr2 => ∃ (i : Nat) (os : List UInt8), i ≤ k ∧ vi = .int .i64 (i : Int) ∧ Hid (os.length = k ∧ ∀ p, p < i → os.getD p 0 = back.getD (k - 1 - p) 0) ∧
                  Hid (wr2.ownsRow wo.heap.size 5 1 (.slice (some ⟨wo.heap.size, 0, none⟩) k k) k (os.map bV)) ∧
                  Hid (wr2.ownsRow w'.heap.size 5 1 (.slice (some ⟨gb, 0, none⟩) back.length cb) back.length (back.map bV)) ∧ Hid (Ext wo wr2))
                (fun vi _ => k - (intOf vi).toNat)
              case atStart => exact ⟨0, List.replicate k 0, Nat.zero_le _, rfl, ⟨by simp, fun p hp => absurd hp (Nat.not_lt_zero _)⟩, ho1.out, own_ext hown.out hext1.out, hext1.out⟩
              case round =>
                obtain ⟨i, os, hi, rfl, hos, ho, hb, hx⟩ := hrel
                by_cases hlt : i < k
                · obtain ⟨z, hzz⟩ : ∃ z : UInt8, Hid (back.getD (k - 1 - i) 0 = z) := ⟨_, rfl⟩
                  obtain ⟨hc3, hf3⟩ := ownb_at hb.out (k - 1 - i) (by omega)
                  rw [hzz.out] at hc3
                  obtain ⟨hc2, hf2⟩ := ownb_at ho.out i hlt
                  go_wp2
                  case roundEnd =>
                    refine ⟨⟨i + 1, os.set i z, by omega, by simp, ⟨by rw [List.length_set]; exact hos.out.1, fun p hp => ?_⟩, ownb_set ho.out i z, own_far hb.out _ _ (by simp [Value.ownBlock]; omega), ext_setCell hx.out (Nat.le_refl _) _⟩, ?_⟩
                    · by_cases e : p = i
                      · subst e
                        rw [List.getD_eq_getElem?_getD, List.getElem?_set_self (by rw [hos.out.1]; exact hlt), hzz.out]; rfl
                      · rw [List.getD_eq_getElem?_getD, List.getElem?_set_ne (by omega), ← List.getD_eq_getElem?_getD]
                        exact hos.out.2 p (by omega)
                    · simp [intOf]; omega
                · obtain rfl : i = k := by omega
                  have hfin : os = dtext v := by
                    rw [hT.out]
                    refine List.ext_getElem (by rw [List.length_reverse, List.length_take, Nat.min_eq_left hk]; exact hos.out.1) fun p h1 h2 => ?_
                    have h3 := hos.out.2 p (by rw [← hos.out.1]; exact h1)
                    have h4 : p < i := by rw [← hos.out.1]; exact h1
                    rw [List.getD_eq_getElem?_getD, List.getD_eq_getElem?_getD, List.getElem?_eq_getElem h1, List.getElem?_eq_getElem (by omega)] at h3
                    rw [List.getElem_reverse, List.getElem_take]
                    simp only [List.length_take, Nat.min_eq_left hk]
                    exact h3
                  have hcv := ownb_str ho.out 0 i i (by omega) (dtext v) (by rw [← hfin, List.drop_zero, ← hos.out.1, List.take_length])
                  have hext' := hext.out
                  have hx' := hx.out
                  have HE' := HE.out
                  clear hfin hlt
                  go_wp2
                  refine bodyPost_ret (v := .tuple #[.string (bs (dtext v)), .int .i64 0]) ?h rfl ⟨rfl, ext_trans HE' (ext_trans hext' hx')⟩
                  case h => simp [results, Tryz.results47, go_sem]
          · obtain rfl : k = 0 := by omega
            have hv0 : v = 0 := by
              rw [hv.out, strip_zeros (Nat.zero_le _) hz.out]; rfl
            subst hv0
            have hext' := hext.out
            have HE' := HE.out
            go_wp2
            refine bodyPost_ret (v := .tuple #[.string ⟨#[48]⟩, .int .i64 0]) ?h rfl ⟨rfl, ext_trans HE' hext'⟩
            case h => simp [results, Tryz.results47, go_sem]
end Go.Proofs.YtbgimjfeigeicaaGreatDoor
