/- The program's quotient by a small number; its text. -/
import Derived.Test.YtbgimjfeigeicaaGreatDoorNtC
import Derived.Test.YtbgimjfeigeicaaGreatDoorNatY
import Derived.Test.YtbgimjfeigeicaaGreatDoorSlB
namespace Go.Proofs.YtbgimjfeigeicaaGreatDoor
open Go.RowKit
attribute [local go_sem] bs_size bs_extract bs_get bs_append bs_toList const_get
attribute [local go_sem] sz2 sz3 sz4 sz5 sz6 sz7 sz8
set_option maxHeartbeats 4000000
set_option maxRecDepth 100000
attribute [local irreducible] Calls
theorem div32_any (r x d : Nat) (hr : r < d) (hx : x < 4294967296) (hd2 : d < 4294967296) (w : World) : Calls Tryz.prog 136 #[.int .u32 (r : Int), .int .u32 (x : Int), .int .u32 (d : Int)] w fun e w' =>
    e = .returned (.tuple #[.int .u32 (((r * 4294967296 + x) / d : Nat) : Int), .int .u32 (((r * 4294967296 + x) % d : Nat) : Int)]) ∧ Ext w w' := by
  have hd : 0 < d := by omega
  have hs : r * 4294967296 + x < d * 4294967296 := by omega
  have hor := or_shift r x (by omega) hx
  obtain ⟨s, hse⟩ : ∃ s, s = r * 4294967296 + x := ⟨_, rfl⟩
  have hq : s / d < 4294967296 := (Nat.div_lt_iff_lt_mul hd).2 (by rw [hse]; omega)
  have hs64 : s < 18446744073709551616 := by
    have : d * 4294967296 ≤ 4294967296 * 4294967296 := Nat.mul_le_mul_right _ (by omega)
    omega
  have hm : s % d < d := Nat.mod_lt _ hd
  obtain ⟨u, hu⟩ : ∃ u, s / d = u := ⟨_, rfl⟩
  obtain ⟨v, hv⟩ : ∃ v, s % d = v := ⟨_, rfl⟩
  have hui : (s : Int) / (d : Int) = (u : Int) := by rw [← hu]; exact (Int.natCast_ediv s d).symm
  have hvi : (s : Int) % (d : Int) = (v : Int) := by rw [← hv]; exact (Int.natCast_emod s d).symm
  have hub : u < 4294967296 := by omega
  have hvb : v < 4294967296 := by omega
  have hne : ((d : Int) == 0) = false := by rw [beq_eq_false_iff_ne]; omega
  rw [← hse] at hor ⊢
  rw [hu, hv]
  clear hs hse hq hm hu hv
  go_enter Tryz.func136, Tryz.ntmps136
  go_wp2
  go_quiet (fail)
  go_wp2
  refine bodyPost_ret (v := .tuple #[.int .u32 (u : Int), .int .u32 (v : Int)]) ?h rfl ⟨rfl, ?_⟩
  case h => simp [results, Tryz.results136, go_sem]
  exact ext_drewN (ext_refl _) _
theorem small_any (A : Option Addr) (n c : Nat) (xs : List Nat) (d : Nat) (hd : 0 < d) (hd2 : d < 4294967296) (hn : n ≤ 1000000) (w : World) (hA : Rd w A n c xs) :
    Calls Tryz.prog 93 #[.slice A n c, .int .u32 (d : Int)] w fun e w' => ∃ (A' : Option Addr) (os : List Nat) (r : Nat), e = .returned (.tuple #[.slice A' n n, .int .u32 (r : Int)]) ∧ Hid (r = val xs % d ∧ Rd w' A' n n os ∧ val os = val xs / d ∧ Fr w A') ∧ Ext w w' := by
  have hmx := hA.mx
  have hcx := hA.cap
  have HA := Lib.hid hA
  have hlx := Lib.hid hA.len
  clear hA
  go_enter Tryz.func93, Tryz.ntmps93
  go_wp2_with (first
    | (at_make; refine make_u32 rfl _ _ rfl _ _ _ _ n rfl rfl rfl rfl (by omega) ?_; intro w1 hx1 ho1; have hext1 := Lib.hid hx1; clear hx1)
    | go_in)
  have hfr : w.heap.size < w1.heap.size := (ho1.out.lt w.heap.size rfl).2
  go_loopw [7, 8] (fun vr vi wr => ∃ j r : Nat, ∃ os : List Nat, j ≤ n ∧ r < d ∧ vi = .int .i64 ((j : Int) - 1) ∧ vr = .int .u32 (r : Int) ∧ Hid (os.length = n ∧ Lb os ∧ val (xs.drop j) = d * val (os.drop j) + r) ∧
      Hid (wr.ownsRow w.heap.size 85 1 (.slice (some ⟨w.heap.size, 0, none⟩) n n) n (os.map u32V)) ∧ Hid (Ext w wr))
    (fun _ vi _ => (intOf vi + 1).toNat)
  case atStart => exact ⟨n, 0, List.replicate n 0, Nat.le_refl _, hd, by go_num, rfl, ⟨by simp, lb_replicate n, by rw [List.drop_eq_nil_of_le (by rw [hlx.out]; exact Nat.le_refl _), List.drop_eq_nil_of_le (by simp)]; rfl⟩, ho1.out, hext1.out⟩
  case round =>
    obtain ⟨j, r, os, hj, hr, rfl, rfl, hos, hown, hext⟩ := hrel
    by_cases h0 : 0 < j
    · obtain ⟨b, off, hAe⟩ : ∃ b off, A = some ⟨b, off, none⟩ := by
        rcases HA.out.shape with ⟨_, h, _⟩ | h
        · omega
        · exact h
      subst hAe
      obtain ⟨x, hx, hxb, hcell⟩ := (HA.out.ext hext.out).get (j - 1) (by omega)
      obtain ⟨hc1, hf1⟩ := own_at hown.out (j - 1) (by omega)
      have hst := Lib.hid (over_step (d := d) hd h0 (by rw [hlx.out]; omega) (by rw [hos.out.1, hlx.out]) hos.out.2.2 hx.out)
      have hdv := div32_any r x d hr hxb hd2
      have hql : (r * 4294967296 + x) / d < 4294967296 := (Nat.div_lt_iff_lt_mul hd).2 (by omega)
      have hrl : (r * 4294967296 + x) % d < d := Nat.mod_lt _ hd
      generalize (r * 4294967296 + x) / d = u at hst hdv hql
      generalize (r * 4294967296 + x) % d = v at hst hdv hrl
      have hgl : w.heap.size < wr.heap.size := (hown.out.lt w.heap.size (by simp [Value.ownBlock])).2
      go_wp2_with (first
        | (go_at_call 136; (with_reducible refine (hdv _).mono ?_); rintro e w2 ⟨rfl, xb2⟩; obtain ⟨xc2, xf2, xl2, xz2⟩ := ext_use xb2; (try simp at xz2); have l2_0 := xl2 (w.heap.size) (by first | omega | (simp; try omega)); have r2_0 := xc2 (w.heap.size) 0 (by first | omega | (simp; try omega)); have f2_0 := xf2 (w.heap.size) 0 (by first | omega | (simp; try omega)))
       )
      case roundEnd =>
        refine ⟨⟨j - 1, v, os.set (j - 1) u, by omega, hrl, ?_, rfl, ⟨by rw [List.length_set]; exact hos.out.1, lb_set hos.out.2.1 _ hql, hst.out⟩, own_set (own_ext hown.out xb2) _ _, ext_setCell (ext_trans hext.out xb2) (Nat.le_refl _) _⟩, ?_⟩
        · simp; omega
        · simp [intOf]; omega
    · obtain rfl : j = 0 := by omega
      obtain ⟨A', c', he, hR⟩ := Rd.own hown.out hos.out.2.1
      cases he
      have hv := hos.out.2.2
      simp only [List.drop_zero] at hv
      have hdv : val os = val xs / d := by
        rw [hv, Nat.mul_add_div hd, Nat.div_eq_of_lt hr]; omega
      have hdm : r = val xs % d := by
        rw [hv, Nat.mul_add_mod, Nat.mod_eq_of_lt hr]
      have HX := Lib.hid (show r = val xs % d ∧ Rd wr (some ⟨w.heap.size, 0, none⟩) n n os ∧ val os = val xs / d ∧ Fr w (some ⟨w.heap.size, 0, none⟩) from ⟨hdm, hR, hdv, fun q hq => by cases hq; exact Nat.le_refl _⟩)
      clear hR hv hdv hdm h0 hj
      go_wp2
      refine bodyPost_ret (v := .tuple #[.slice (some ⟨w.heap.size, 0, none⟩) n n, .int .u32 (r : Int)]) ?h rfl ⟨_, os, r, rfl, HX, hext.out⟩
      case h => simp [results, Tryz.results93, go_sem]
theorem digit_of (d : Nat) (h : d < 10) : (UInt8.ofNat (48 + d)).toNat = 48 + d := by simp; omega
theorem dval_cons (b : UInt8) (l : List UInt8) : dval (b :: l) = (b.toNat - 48) * 10 ^ l.length + dval l := by
  have := dval_append [b] l
  rw [show [b] ++ l = b :: l from rfl] at this
  rw [this]
  simp [dval]
/-- One digit more. -/
theorem back_step {v q P r : Nat} {back : List UInt8} (h : v = (q * (10 * P) + r) * 10 ^ back.length + dval back.reverse) :
    v = (q * P + r / 10) * 10 ^ (back ++ [UInt8.ofNat (48 + r % 10)]).length + dval (back ++ [UInt8.ofNat (48 + r % 10)]).reverse := by
  rw [List.reverse_append]
  show v = _ + dval (UInt8.ofNat (48 + r % 10) :: back.reverse)
  rw [dval_cons, digit_of _ (Nat.mod_lt _ (by decide)), List.length_append, List.length_reverse, h]
  have e1 : q * (10 * P) + r = 10 * (q * P + r / 10) + r % 10 := by
    have := Nat.div_add_mod r 10
    have e : q * (10 * P) = 10 * (q * P) := Nat.mul_left_comm _ _ _
    omega
  rw [e1]
  simp only [List.length_cons, List.length_nil, Nat.zero_add]
  rw [Nat.pow_succ, Nat.add_mul, show 48 + r % 10 - 48 = r % 10 by omega, Nat.mul_comm (10 ^ back.length) 10, Nat.mul_comm 10 (q * P + r / 10), Nat.mul_assoc, Nat.add_assoc]
theorem strip_zeros {back : List UInt8} {k : Nat} (hk : k ≤ back.length) (h : ∀ p, k ≤ p → p < back.length → back.getD p 0 = 48) : dval back.reverse = dval (back.take k).reverse := by
  have e : back = back.take k ++ List.replicate (back.length - k) 48 := by
    refine List.ext_getElem (by simp; omega) fun p h1 h2 => ?_
    by_cases hp : p < k
    · rw [List.getElem_append_left (by simp; omega), List.getElem_take]
    · rw [List.getElem_append_right (by simp; omega), List.getElem_replicate]
      have := h p (by omega) h1
      rwa [List.getD_eq_getElem?_getD, List.getElem?_eq_getElem h1] at this
  conv => lhs; rw [e]
  rw [List.reverse_append, dval_append, List.reverse_replicate, dval_noughts]
  simp
end Go.Proofs.YtbgimjfeigeicaaGreatDoor
