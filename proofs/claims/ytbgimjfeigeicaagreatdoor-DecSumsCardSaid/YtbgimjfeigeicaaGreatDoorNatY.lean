/- The document writes digits. -/
import Derived.Test.YtbgimjfeigeicaaGreatDoorRows
import Derived.Test.YtbgimjfeigeicaaGreatDoorSl
import Derived.Test.YtbgimjfeigeicaaGreatDoorSlB
import Derived.Test.YtbgimjfeigeicaaGreatDoorStr
import Derived.Test.YtbgimjfeigeicaaGreatDoorNatX
import Derived.Test.YtbgimjfeigeicaaGreatDoorDigP
namespace Go.Proofs.YtbgimjfeigeicaaGreatDoor
open Go.RowKit
attribute [local go_sem] bs_size bs_extract bs_get bs_append bs_toList const_get
attribute [local go_sem] sz2 sz3 sz4 sz5 sz6 sz7 sz8
set_option maxHeartbeats 4000000
set_option maxRecDepth 100000
/-- The number that a slice bears. -/
def svalAt (w : World) : Value → Nat
  | .slice (some a) n _ => val ((List.range n).map fun i => match w.cell? ⟨a.block, a.off + i, none⟩ with | some (.int _ x) => x.toNat | _ => 0)
  | _ => 0
theorem sval_rd {w : World} {A : Option Addr} {n c : Nat} {xs : List Nat} (h : Rd w A n c xs) : svalAt w (.slice A n c) = val xs := by
  rcases h.shape with ⟨rfl, _, _, rfl⟩ | ⟨b, off, rfl⟩
  · rfl
  · unfold svalAt
    refine congrArg val (List.ext_getElem (by rw [List.length_map, List.length_range, h.len]) fun i h1 h2 => ?_)
    rw [List.getElem_map, List.getElem_range, (h.cells b off rfl i h2).2]
    simp
theorem digs_lim' {v k : Nat} (h : (lim v).length ≤ k) : (digs v).length ≤ 32 * k := by
  refine digs_len (Nat.lt_of_lt_of_le (lim_lt v) ?_)
  have h1 : Bs ^ (lim v).length ≤ Bs ^ k := Nat.pow_le_pow_right (by decide) h
  have h2 : Bs ^ k ≤ (10 ^ 32) ^ k := Nat.pow_le_pow_left (by decide) _
  rw [← Nat.pow_mul] at h2
  exact Nat.le_trans h1 h2
theorem digs_lim {v : Nat} (h : (lim v).length ≤ 16384) : (digs v).length ≤ 524288 := digs_lim' h
/-- One digit more is told. -/
theorem digs_step10 {v q P r : Nat} {back : List UInt8} (hP : digs v = digs (q * (10 * P) + r) ++ back.reverse) (hpos : 0 < q * (10 * P) + r) :
    digs v = digs (q * P + r / 10) ++ (back ++ [UInt8.ofNat (48 + r % 10)]).reverse := by
  rw [hP, digs_pos (by omega)]
  have e : q * (10 * P) = 10 * (q * P) := Nat.mul_left_comm _ _ _
  rw [e]
  have e1 : (10 * (q * P) + r) / 10 = q * P + r / 10 := by omega
  have e2 : (10 * (q * P) + r) % 10 = r % 10 := by omega
  rw [e1, e2]
  simp
attribute [local irreducible] Calls
theorem text_any (A : Option Addr) (n c v : Nat) (hs : (lim v).length ≤ 16384) (w : World) (hA : Rd w A n c (lim v)) :
    Calls Tryz.prog 54 #[natV A n c] w fun e w' => e = .returned (.tuple #[.string (bs (dtext v)), .int .i64 0]) ∧ Ext w w' := by
  have hn := hA.len
  have hcx := hA.cap
  have hmx := hA.mx
  have hL := Lib.hid (digs_lim hs)
  have hck : ∀ w', Hid (Ext w w') → Calls Tryz.prog 101 #[natV A n c] w' fun e w'' => e = .returned (.int .i64 0) ∧ Ext w' w'' := fun w' he => by
    have := check_any A n c _ w' (hA.ext he.out)
    rwa [chk_lim hs] at this
  by_cases h0 : v = 0
  · subst h0
    rw [lim_zero] at hn
    simp at hn
    subst hn
    rw [show dtext 0 = [48] from rfl]
    clear hA
    go_enter Tryz.func54, Tryz.ntmps54
    go_wp2_with (first
      | (go_at_call 101; (with_reducible refine (hck _ (Lib.hid (by (repeat (first | exact ext_refl _ | assumption | refine ext_setCell ?_ (by simp; try omega) _ | refine ext_alloc ?_ _ | refine ext_drew ?_ | refine ext_drewN ?_ _ | refine ext_trans ?_ (Aft.use _) | refine ext_trans ?_ (by assumption)))))).mono ?_); rintro e w' ⟨rfl, xb⟩; obtain ⟨xc, xf, xl, xz⟩ := ext_use xb; (try simp at xz))
     )
    refine bodyPost_ret (v := .tuple #[.string ⟨#[48]⟩, .int .i64 0]) ?h rfl ⟨rfl, ?_⟩
    case h => simp [results, Tryz.results54, go_sem]
    repeat (first | exact ext_refl _ | assumption | refine ext_setCell ?_ (by simp; try omega) _ | refine ext_alloc ?_ _ | refine ext_drew ?_ | refine ext_drewN ?_ _ | refine ext_trans ?_ (Aft.use _) | refine ext_trans ?_ (by assumption))
  · have hn0 : 0 < n := by
      rcases Nat.eq_zero_or_pos n with h | h
      · rw [h] at hn
        exact absurd (lim_nil.1 (List.eq_nil_of_length_eq_zero hn)) h0
      · exact h
    rw [show dtext v = digs v by unfold dtext; rw [if_neg h0]]
    have hnn : n ≤ 16384 := by omega
    have hne : ((n : Int) == 0) = false := by simp; omega
    have HA := Lib.hid hA
    have HV := Lib.hid h0
    clear hA h0
    go_enter Tryz.func54, Tryz.ntmps54
    go_wp2_with (first
      | (go_at_call 101; (with_reducible refine (hck _ (Lib.hid (by (repeat (first | exact ext_refl _ | assumption | refine ext_setCell ?_ (by simp; try omega) _ | refine ext_alloc ?_ _ | refine ext_drew ?_ | refine ext_drewN ?_ _ | refine ext_trans ?_ (Aft.use _) | refine ext_trans ?_ (by assumption)))))).mono ?_); rintro e w' ⟨rfl, xb⟩; obtain ⟨xc, xf, xl, xz⟩ := ext_use xb; (try simp at xz))
     )
    have HE : Hid (Ext w w') := Lib.hid (by (repeat (first | exact ext_refl _ | assumption | refine ext_setCell ?_ (by simp; try omega) _ | refine ext_alloc ?_ _ | refine ext_drew ?_ | refine ext_drewN ?_ _ | refine ext_trans ?_ (Aft.use _) | refine ext_trans ?_ (by assumption))))
    have HA' := Lib.hid (HA.out.ext HE.out)
    clear xc xf xl xz hck HA xb
    go_loopw [5, 6] (fun vb vl wr => ∃ (A' : Option Addr) (k' c' u : Nat) (back : List UInt8), vl = .slice A' k' c' ∧ Hid (Rd wr A' k' c' (lim u)) ∧ k' ≤ 16384 ∧ Hid (digs v = digs u ++ back.reverse) ∧ Hid (wr.ownsRow w'.heap.size 5 1 vb back.length (back.map bV)) ∧ Hid (Ext w' wr))
      (fun _ vl wr => svalAt wr vl)
    case atStart => exact ⟨A, n, c, v, [], rfl, HA'.out, hnn, Lib.hid (by simp), World.ownsRow_nil _ _ _ _, ext_refl _⟩
    case round =>
      obtain ⟨A', k', c', u, back, rfl, hR, hk', hdig, hown, hext⟩ := hrel
      have hbl : back.length ≤ 524288 := by
        have h1 := hL.out
        rw [hdig.out] at h1
        simp at h1; omega
      have hkc := hR.out.cap
      have hcm := hR.out.mx
      by_cases hk0 : 0 < k'
      · have hu0 : u ≠ 0 := by
          intro e
          have := hR.out.len
          rw [e, lim_zero] at this
          simp at this; omega
        obtain ⟨q, hq⟩ : ∃ q, q = u / 1000000000 := ⟨_, rfl⟩
        have hov : Calls Tryz.prog 102 #[.slice A' k' c', .int .u64 1000000000] wr fun e w'' => ∃ (A2 : Option Addr) (k2 c2 r : Nat), e = .returned (.tuple #[.slice A2 k2 c2, .int .u64 (r : Int)]) ∧ Hid (r = u % 1000000000 ∧ Rd w'' A2 k2 c2 (lim q) ∧ Fr wr A2) ∧ Ext wr w'' := by
          refine (over_any A' k' c' (lim u) 1000000000 (by decide) (by decide) (by omega) wr hR.out).mono ?_
          rintro e w'' ⟨A2, k2, c2, r, he, h1, h2, h3, h4⟩
          rw [val_lim] at h1 h2
          exact ⟨A2, k2, c2, r, he, ⟨h1, by rw [hq]; exact h2, h3⟩, h4⟩
        have HQ := Lib.hid hq
        have HU := Lib.hid hu0
        clear hq hu0
        go_wp2_with (first
          | (go_at_call 102; (with_reducible refine (hov).mono ?_); rintro e w1 ⟨A2, k2, c2, r, rfl, hR2, xb1⟩; obtain ⟨xc1, xf1, xl1, xz1⟩ := ext_use xb1; (try simp at xz1))
         )
        have hk2 : k2 ≤ 16384 := by
          have h1 := hR2.out.2.1.len
          have h2 : (lim q).length ≤ (lim u).length := lim_mono (by rw [HQ.out]; exact Nat.div_le_self _ _)
          have h3 := hR.out.len
          omega
        have hkc2 := hR2.out.2.1.cap
        have hcm2 := hR2.out.2.1.mx
        have hr9 : r < 1000000000 := by rw [hR2.out.1]; exact Nat.mod_lt _ (by decide)
        have HX1 := Lib.hid xb1
        clear hov xc1 xf1 xl1 xz1 xb1
        rcases Nat.eq_zero_or_pos k2 with hz | hz
        · subst hz
          have hq0 : q = 0 := by
            have := hR2.out.2.1.len
            exact lim_nil.1 (List.eq_nil_of_length_eq_zero this)
          go_loopw [5, 8, 9] (fun vb vr vi wr2 => ∃ (j r' : Nat) (back2 : List UInt8), j ≤ 9 ∧ vi = .int .i64 (j : Int) ∧ vr = .int .u64 (r' : Int) ∧ r' < 1000000000 ∧ Hid (r' < 10 ^ (9 - j) ∧ digs v = digs (q * 10 ^ (9 - j) + r') ++ back2.reverse) ∧
              Hid (wr2.ownsRow w'.heap.size 5 1 vb back2.length (back2.map bV)) ∧ Hid (Rd wr2 A2 0 c2 (lim q) ∧ Apt vb A2 (lim q)) ∧ Hid (Ext w' wr2))
            (fun _ _ vi _ => 9 - (intOf vi).toNat)
          case atStart =>
            refine ⟨0, r, back, Nat.zero_le _, rfl, rfl, hr9, ⟨hr9, ?_⟩, own_ext hown.out HX1.out, ⟨hR2.out.2.1, fun a ha _ e => ?_⟩, ext_trans hext.out HX1.out⟩
            · rw [hdig.out, hR2.out.1, HQ.out]
              have : u / 1000000000 * 10 ^ (9 - 0) + u % 1000000000 = u := by
                have := Nat.div_add_mod u 1000000000
                simp; omega
              rw [this]
            · have h1 := (hown.out.lt _ e).2
              have h2 := hR2.out.2.2 a ha
              omega
          case round =>
            clear hown
            obtain ⟨j, r', back2, hj, rfl, rfl, hr', hd2, hown, hR3, hext2⟩ := hrel
            have hbl2 : back2.length ≤ 524288 := by
              have h1 := hL.out
              rw [hd2.out.2] at h1
              simp at h1; omega
            have hext2' := hext2.out.size
            obtain ⟨dg, hdg⟩ : ∃ dg : UInt8, Hid (dg = UInt8.ofNat (48 + r' % 10)) := ⟨_, rfl⟩
            by_cases hgo : j < 9 ∧ 0 < r'
            · go_wp2_with (first
                | (at_builtin; refine push_u8 rfl _ _ rfl _ rfl hext2.out (Nat.le_refl _) (hext2.out.size) hown.out rfl dg ⟨wr.heap.size, 0, none⟩ 1 rfl (by rw [World.cell?_alloc_at _ _ _ _ rfl]; simp [bV, hdg.out]; omega) (by omega) ?_)
                | go_in)
              all_goals
                intro v' w3 hx3 ho3 hk3
                have HX3 := Lib.hid hx3
                clear hx3 hown
                go_wp2
                go_roundw
                case rel =>
                  have e1 : 10 ^ (9 - j) = 10 * 10 ^ (9 - (j + 1)) := by
                    rw [show 9 - j = 9 - (j + 1) + 1 by omega, Nat.pow_succ]; omega
                  have hd3 := hd2.out
                  rw [e1] at hd3
                  have hpos : 0 < q * (10 * 10 ^ (9 - (j + 1))) + r' := by
                    omega
                  refine ⟨j + 1, r' / 10, back2 ++ [dg], by omega, by go_num, by go_num, by omega, ⟨by omega, by rw [hdg.out]; exact digs_step10 hd3.2 hpos⟩, ?_, ?_, HX3.out⟩
                  · show World.ownsRow _ _ _ _ _ _ _
                    rw [List.length_append, List.map_append]
                    exact ho3.out
                  · exact hk3.out _ _ _ _ hR3.out.1 hR3.out.2
                case measure => simp [intOf]; omega
            · have hdq : digs v = digs q ++ back2.reverse := by
                have h1 := hd2.out
                by_cases hj9 : j = 9
                · subst hj9
                  have : r' = 0 := by have := h1.1; simp at this; exact this
                  rw [this] at h1
                  simpa using h1.2
                · have e2 : r' = 0 := by omega
                  rw [e2, hq0] at h1
                  rw [hq0]
                  simpa using h1.2
              have HDQ := Lib.hid hdq
              clear hdq
              by_cases hj9 : j = 9
              · subst hj9
                go_wp2
                go_roundw
                case rel => exact ⟨A2, 0, c2, q, back2, rfl, hR3.out.1, by omega, HDQ.out, hown.out, hext2.out⟩
                case measure =>
                  show svalAt _ (.slice A2 0 c2) < svalAt _ (.slice A' k' c')
                  rw [sval_rd hR3.out.1, sval_rd hR.out, val_lim, val_lim, HQ.out]
                  exact Nat.div_lt_self (Nat.pos_of_ne_zero HU.out) (by decide)
              · obtain rfl : r' = 0 := by omega
                go_wp2
                go_roundw
                case rel => exact ⟨A2, 0, c2, q, back2, rfl, hR3.out.1, by omega, HDQ.out, hown.out, hext2.out⟩
                case measure =>
                  show svalAt _ (.slice A2 0 c2) < svalAt _ (.slice A' k' c')
                  rw [sval_rd hR3.out.1, sval_rd hR.out, val_lim, val_lim, HQ.out]
                  exact Nat.div_lt_self (Nat.pos_of_ne_zero HU.out) (by decide)
        · have hq0 : 0 < q := by
            rcases Nat.eq_zero_or_pos q with e | e
            · have := hR2.out.2.1.len
              rw [e, lim_zero] at this
              simp at this; omega
            · exact e
          go_loopw [5, 8, 9] (fun vb vr vi wr2 => ∃ (j r' : Nat) (back2 : List UInt8), j ≤ 9 ∧ vi = .int .i64 (j : Int) ∧ vr = .int .u64 (r' : Int) ∧ r' < 1000000000 ∧ Hid (r' < 10 ^ (9 - j) ∧ digs v = digs (q * 10 ^ (9 - j) + r') ++ back2.reverse) ∧
              Hid (wr2.ownsRow w'.heap.size 5 1 vb back2.length (back2.map bV)) ∧ Hid (Rd wr2 A2 k2 c2 (lim q) ∧ Apt vb A2 (lim q)) ∧ Hid (Ext w' wr2))
            (fun _ _ vi _ => 9 - (intOf vi).toNat)
          case atStart =>
            refine ⟨0, r, back, Nat.zero_le _, rfl, rfl, hr9, ⟨hr9, ?_⟩, own_ext hown.out HX1.out, ⟨hR2.out.2.1, fun a ha _ e => ?_⟩, ext_trans hext.out HX1.out⟩
            · rw [hdig.out, hR2.out.1, HQ.out]
              have : u / 1000000000 * 10 ^ (9 - 0) + u % 1000000000 = u := by
                have := Nat.div_add_mod u 1000000000
                simp; omega
              rw [this]
            · have h1 := (hown.out.lt _ e).2
              have h2 := hR2.out.2.2 a ha
              omega
          case round =>
            clear hown
            obtain ⟨j, r', back2, hj, rfl, rfl, hr', hd2, hown, hR3, hext2⟩ := hrel
            have hbl2 : back2.length ≤ 524288 := by
              have h1 := hL.out
              rw [hd2.out.2] at h1
              simp at h1; omega
            have hext2' := hext2.out.size
            obtain ⟨dg, hdg⟩ : ∃ dg : UInt8, Hid (dg = UInt8.ofNat (48 + r' % 10)) := ⟨_, rfl⟩
            by_cases hgo : j < 9
            · go_wp2_with (first
                | (at_builtin; refine push_u8 rfl _ _ rfl _ rfl hext2.out (Nat.le_refl _) (hext2.out.size) hown.out rfl dg ⟨wr.heap.size, 0, none⟩ 1 rfl (by rw [World.cell?_alloc_at _ _ _ _ rfl]; simp [bV, hdg.out]; omega) (by omega) ?_)
                | go_in)
              all_goals
                intro v' w3 hx3 ho3 hk3
                have HX3 := Lib.hid hx3
                clear hx3 hown
                go_wp2
                go_roundw
                case rel =>
                  have e1 : 10 ^ (9 - j) = 10 * 10 ^ (9 - (j + 1)) := by
                    rw [show 9 - j = 9 - (j + 1) + 1 by omega, Nat.pow_succ]; omega
                  have hd3 := hd2.out
                  rw [e1] at hd3
                  have hpos : 0 < q * (10 * 10 ^ (9 - (j + 1))) + r' := by
                    have := Nat.mul_pos hq0 (show 0 < 10 * 10 ^ (9 - (j + 1)) by have := Nat.pow_pos (a := 10) (n := 9 - (j + 1)) (by decide); omega)
                    omega
                  refine ⟨j + 1, r' / 10, back2 ++ [dg], by omega, by go_num, by go_num, by omega, ⟨by omega, by rw [hdg.out]; exact digs_step10 hd3.2 hpos⟩, ?_, ?_, HX3.out⟩
                  · show World.ownsRow _ _ _ _ _ _ _
                    rw [List.length_append, List.map_append]
                    exact ho3.out
                  · exact hk3.out _ _ _ _ hR3.out.1 hR3.out.2
                case measure => simp [intOf]; omega
            · have hdq : digs v = digs q ++ back2.reverse := by
                have h1 := hd2.out
                obtain rfl : j = 9 := by omega
                have : r' = 0 := by have := h1.1; simp at this; exact this
                rw [this] at h1
                simpa using h1.2
              have HDQ := Lib.hid hdq
              clear hdq
              obtain rfl : j = 9 := by omega
              go_wp2
              go_roundw
              case rel => exact ⟨A2, k2, c2, q, back2, rfl, hR3.out.1, by omega, HDQ.out, hown.out, hext2.out⟩
              case measure =>
                show svalAt _ (.slice A2 k2 c2) < svalAt _ (.slice A' k' c')
                rw [sval_rd hR3.out.1, sval_rd hR.out, val_lim, val_lim, HQ.out]
                exact Nat.div_lt_self (Nat.pos_of_ne_zero HU.out) (by decide)
      · obtain rfl : k' = 0 := by omega
        have hu0 : u = 0 := lim_nil.1 (List.eq_nil_of_length_eq_zero hR.out.len)
        have hdb : digs v = back.reverse := by rw [hdig.out, hu0, digs_zero]; simp
        have hb0 : 0 < back.length := by
          rcases Nat.eq_zero_or_pos back.length with h | h
          · have : back = [] := List.eq_nil_of_length_eq_zero h
            rw [this, digs_pos HV.out] at hdb
            simp at hdb
          · exact h
        have HDB := Lib.hid hdb
        clear hdb hk0 hdig hu0
        obtain ⟨wo, rfl⟩ : ∃ wo, wo = wr := ⟨_, rfl⟩
        have hlt := hown.out.lt
        rcases hown.out.2 with ⟨_, h0⟩ | ⟨gb, cb, cur, rfl, hgb, _, hbc, hcb, _, _⟩
        · omega
        have hgl := (hlt gb rfl).2
        have hcb' : cb ≤ 9223372036854775807 := hcb
        clear hlt
        go_wp2_with (first
          | (at_make; refine make_u8 rfl _ _ rfl _ _ _ _ back.length rfl rfl rfl rfl (by omega) ?_; intro w1 hx1 ho1; have hext1 := Lib.hid hx1; clear hx1)
          | go_in)
        have hgl1 : wo.heap.size < w1.heap.size := (ho1.out.lt wo.heap.size rfl).2
        go_loopw [11] (fun vi wr2 => ∃ (i : Nat) (os : List UInt8), i ≤ back.length ∧ vi = .int .i64 (i : Int) ∧ Hid (os.length = back.length ∧ ∀ p, p < i → os.getD p 0 = back.getD (back.length - 1 - p) 0) ∧
            Hid (wr2.ownsRow wo.heap.size 5 1 (.slice (some ⟨wo.heap.size, 0, none⟩) back.length back.length) back.length (os.map bV)) ∧
            Hid (wr2.ownsRow w'.heap.size 5 1 (.slice (some ⟨gb, 0, none⟩) back.length cb) back.length (back.map bV)) ∧ Hid (Ext wo wr2))
          (fun vi _ => back.length - (intOf vi).toNat)
        case atStart => exact ⟨0, List.replicate back.length 0, Nat.zero_le _, rfl, ⟨by simp, fun p hp => absurd hp (Nat.not_lt_zero _)⟩, ho1.out, own_ext hown.out hext1.out, hext1.out⟩
        case round =>
          obtain ⟨i, os, hi, rfl, hos, ho, hb, hx⟩ := hrel
          by_cases hlt : i < back.length
          · obtain ⟨y, hy⟩ : ∃ y : UInt8, Hid (back.getD (back.length - 1 - i) 0 = y) := ⟨_, rfl⟩
            obtain ⟨hc1, hf1⟩ := ownb_at hb.out (back.length - 1 - i) (by omega)
            rw [hy.out] at hc1
            obtain ⟨hc2, hf2⟩ := ownb_at ho.out i hlt
            go_wp2
            case roundEnd =>
              refine ⟨⟨i + 1, os.set i y, by omega, by simp, ⟨by rw [List.length_set]; exact hos.out.1, fun p hp => ?_⟩, ownb_set ho.out i y, own_far hb.out _ _ (by simp [Value.ownBlock]; omega), ext_setCell hx.out (Nat.le_refl _) _⟩, ?_⟩
              · by_cases e : p = i
                · subst e
                  rw [List.getD_eq_getElem?_getD, List.getElem?_set_self (by rw [hos.out.1]; exact hlt), hy.out]; rfl
                · rw [List.getD_eq_getElem?_getD, List.getElem?_set_ne (by omega), ← List.getD_eq_getElem?_getD]
                  exact hos.out.2 p (by omega)
              · simp [intOf]; omega
          · obtain rfl : i = back.length := by omega
            have hfin : os = digs v := by
              rw [HDB.out]
              refine List.ext_getElem (by rw [List.length_reverse]; exact hos.out.1) fun p h1 h2 => ?_
              have h3 := hos.out.2 p (by rw [← hos.out.1]; exact h1)
              have h4 : p < back.length := by rw [← hos.out.1]; exact h1
              rw [List.getD_eq_getElem?_getD, List.getD_eq_getElem?_getD, List.getElem?_eq_getElem h1, List.getElem?_eq_getElem (by omega)] at h3
              rw [List.getElem_reverse]
              exact h3
            have hcv := ownb_str ho.out 0 back.length back.length (by omega) (digs v) (by rw [← hfin, List.drop_zero, ← hos.out.1, List.take_length])
            clear hfin hlt
            go_wp2
            have hext' := hext.out
            have hx' := hx.out
            have hE' := HE.out
            refine bodyPost_ret (v := .tuple #[.string (bs (digs v)), .int .i64 0]) ?h rfl ⟨rfl, ext_trans hE' (ext_trans hext' hx')⟩
            case h => simp [results, Tryz.results54, go_sem]
end Go.Proofs.YtbgimjfeigeicaaGreatDoor
