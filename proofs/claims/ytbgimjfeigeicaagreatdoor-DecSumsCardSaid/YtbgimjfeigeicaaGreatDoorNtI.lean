/- The document's differences, order, product. -/
import Derived.Test.YtbgimjfeigeicaaGreatDoorNtH
namespace Go.Proofs.YtbgimjfeigeicaaGreatDoor
open Go.RowKit
attribute [local go_sem] sz2 sz3 sz4 sz5 sz6 sz7 sz8
set_option maxHeartbeats 4000000
set_option maxRecDepth 100000
theorem less_step {os xs ys : List Nat} {k lt x y : Nat} (hl : os.length = k) (hb : lt ≤ 1) (hxb : x < 4294967296) (hyb : y < 4294967296) (hv : val os + val (ys.take k) = val (xs.take k) + Bs ^ k * lt) (hx : xs.getD k 0 = x) (hy : ys.getD k 0 = y) :
    val (os ++ [(x + 4294967296 - y - lt) % 4294967296]) + val (ys.take (k + 1)) = val (xs.take (k + 1)) + Bs ^ (k + 1) * (1 - (x + 4294967296 - y - lt) / 4294967296) := by
  have h2 : (x + 4294967296 - y - lt) % 4294967296 + y + lt = x + Bs * (1 - (x + 4294967296 - y - lt) / 4294967296) := by
    unfold Bs
    omega
  have h3 : Bs ^ k * ((x + 4294967296 - y - lt) % 4294967296) + Bs ^ k * y + Bs ^ k * lt = Bs ^ k * x + Bs ^ (k + 1) * (1 - (x + 4294967296 - y - lt) / 4294967296) := by
    rw [← Nat.mul_add, ← Nat.mul_add, h2, Nat.mul_add, Nat.pow_succ, Nat.mul_assoc]
  rw [val_snoc, hl, val_take_succ, val_take_succ, hx, hy]
  omega
attribute [local irreducible] Calls
theorem rcmp_any (A B : Option Addr) (n c m d a b : Nat) (w : World) (hA : Rd w A n c (lim a)) (hB : Rd w B m d (lim b)) :
    Calls Tryz.prog 96 #[.slice A n c, .slice B m d] w fun e w' => e = .returned (.int .i64 (cmpN a b)) ∧ Ext w w' := by
  have hmx := hA.mx
  have hmy := hB.mx
  have hcx := hA.cap
  have hcy := hB.cap
  have HA := Lib.hid hA
  have HB := Lib.hid hB
  have hlx := Lib.hid hA.len
  have hly := Lib.hid hB.len
  clear hA hB
  by_cases h1 : n < m
  · have e : cmpN a b = -1 := by
      unfold cmpN
      rw [if_pos (val_lt_len (by rw [hlx.out, hly.out]; exact h1))]
    rw [e]
    clear e
    have hnm : ((n : Int) == (m : Int)) = false := by rw [beq_eq_false_iff_ne]; omega
    go_enter Tryz.func96, Tryz.ntmps96
    go_wp2
    go_ret
    exact ⟨rfl, ext_refl _⟩
  by_cases h2 : m < n
  · have e : cmpN a b = 1 := by
      have := val_lt_len (a := b) (b := a) (by rw [hlx.out, hly.out]; exact h2)
      unfold cmpN
      rw [if_neg (by omega), if_pos this]
    rw [e]
    clear e
    have hnm : ((n : Int) == (m : Int)) = false := by rw [beq_eq_false_iff_ne]; omega
    go_enter Tryz.func96, Tryz.ntmps96
    go_wp2
    go_ret
    exact ⟨rfl, ext_refl _⟩
  obtain rfl : m = n := by omega
  clear h1 h2
  go_enter Tryz.func96, Tryz.ntmps96
  go_wp2
  go_loopw [5] (fun vi wr => ∃ k : Nat, k ≤ m ∧ vi = .int .i64 ((k : Int) - 1) ∧ Hid ((lim a).drop k = (lim b).drop k) ∧ Hid (Ext w wr)) (fun vi _ => (intOf vi + 1).toNat)
  case atStart => exact ⟨m, Nat.le_refl _, by go_num, by show List.drop m (lim a) = List.drop m (lim b); rw [List.drop_eq_nil_of_le (by rw [hlx.out]; exact Nat.le_refl _), List.drop_eq_nil_of_le (by rw [hly.out]; exact Nat.le_refl _)], ext_refl _⟩
  case round =>
    obtain ⟨k, hk, rfl, hd, hext⟩ := hrel
    by_cases h0 : 0 < k
    · obtain ⟨ba, oa, hAe⟩ : ∃ b off, A = some ⟨b, off, none⟩ := by
        rcases HA.out.shape with ⟨_, h, _⟩ | h
        · omega
        · exact h
      obtain ⟨bb, ob, hBe⟩ : ∃ b off, B = some ⟨b, off, none⟩ := by
        rcases HB.out.shape with ⟨_, h, _⟩ | h
        · omega
        · exact h
      subst hAe hBe
      obtain ⟨x, hx, hxb, hcx1⟩ := (HA.out.ext hext.out).get (k - 1) (by omega)
      obtain ⟨y, hy, hyb, hcy1⟩ := (HB.out.ext hext.out).get (k - 1) (by omega)
      have hsp : Hid (∀ l : List Nat, l.length = m → l.drop (k - 1) = l.getD (k - 1) 0 :: l.drop k) := fun l hl => by
        rw [List.drop_eq_getElem_cons (by omega), show k - 1 + 1 = k by omega, List.getD_eq_getElem?_getD, List.getElem?_eq_getElem (by omega)]; rfl
      have hd' : Hid ((lim a).drop (k - 1 + 1) = (lim b).drop (k - 1 + 1)) := by
        show _ = _
        rw [show k - 1 + 1 = k by omega]; exact hd.out
      have hext' := hext.out
      rcases Nat.lt_trichotomy x y with hlt | heq | hgt
      · have e : cmpN a b = -1 := by
          have := val_cmp (lb_lim a) (lb_lim b) (k := k - 1) (by rw [hlx.out]; omega) (by rw [hlx.out, hly.out]) hx.out hy.out hd'.out hlt
          rw [val_lim, val_lim] at this
          unfold cmpN; rw [if_pos this]
        have E := Lib.hid e
        clear e
        go_wp2
        go_quiet (fail)
        go_wp2
        go_ret
        exact ⟨ret_int E.out.symm, (show Ext _ _ by (repeat (first | exact ext_refl _ | assumption | refine ext_setCell ?_ (by simp; try omega) _ | refine ext_alloc ?_ _ | refine ext_drew ?_ | refine ext_drewN ?_ _ | refine ext_trans ?_ (Aft.use _) | refine ext_trans ?_ (by assumption))))⟩
      · subst heq
        go_wp2
        go_quiet (fail)
        go_wp2
        go_quiet (fail)
        go_wp2
        go_roundw
        case rel => exact ⟨k - 1, by omega, by go_num, by show _ = _; rw [hsp.out _ hlx.out, hsp.out _ hly.out, hx.out, hy.out, hd.out], (show Ext _ _ by (repeat (first | exact ext_refl _ | assumption | refine ext_setCell ?_ (by simp; try omega) _ | refine ext_alloc ?_ _ | refine ext_drew ?_ | refine ext_drewN ?_ _ | refine ext_trans ?_ (Aft.use _) | refine ext_trans ?_ (by assumption))))⟩
        case measure => simp [intOf]; omega
      · have e : cmpN a b = 1 := by
          have := val_cmp (lb_lim b) (lb_lim a) (k := k - 1) (by rw [hly.out]; omega) (by rw [hlx.out, hly.out]) hy.out hx.out hd'.out.symm hgt
          rw [val_lim, val_lim] at this
          unfold cmpN; rw [if_neg (by omega), if_pos this]
        have E := Lib.hid e
        clear e
        go_wp2
        go_quiet (fail)
        go_wp2
        go_quiet (fail)
        go_wp2
        go_ret
        exact ⟨ret_int E.out.symm, (show Ext _ _ by (repeat (first | exact ext_refl _ | assumption | refine ext_setCell ?_ (by simp; try omega) _ | refine ext_alloc ?_ _ | refine ext_drew ?_ | refine ext_drewN ?_ _ | refine ext_trans ?_ (Aft.use _) | refine ext_trans ?_ (by assumption))))⟩
    · obtain rfl : k = 0 := by omega
      have e : cmpN a b = 0 := by
        have := hd.out
        rw [List.drop_zero, List.drop_zero] at this
        have h := congrArg val this
        rw [val_lim, val_lim] at h
        unfold cmpN; rw [if_neg (by omega), if_neg (by omega)]
      have E := Lib.hid e
      clear e
      have hext' := hext.out
      go_wp2
      go_ret
      exact ⟨ret_int E.out.symm, hext'⟩
theorem less_any (A B : Option Addr) (n c m d a b : Nat) (hab : b ≤ a) (hn : n ≤ 1000000) (w : World) (hA : Rd w A n c (lim a)) (hB : Rd w B m d (lim b)) :
    Calls Tryz.prog 100 #[.slice A n c, .slice B m d] w fun e w' => ∃ (A' : Option Addr) (k c' : Nat), e = .returned (.slice A' k c') ∧ Hid (Rd w' A' k c' (lim (a - b)) ∧ Fr w A') ∧ Ext w w' := by
  have hmx := hA.mx
  have hmy := hB.mx
  have hcx := hA.cap
  have hcy := hB.cap
  have HA := Lib.hid hA
  have HB := Lib.hid hB
  have hlx := Lib.hid hA.len
  have hly := Lib.hid hB.len
  have hm : m ≤ n := by
    have h1 := hA.len
    have h2 := hB.len
    have h3 : (lim b).length ≤ (lim a).length := lim_mono hab
    omega
  clear hA hB
  go_enter Tryz.func100, Tryz.ntmps100
  go_wp2
  go_loopw [5, 6, 7] (fun v vl vi wr => ∃ (i lt : Nat) (os : List Nat), i ≤ n ∧ lt ≤ 1 ∧ vi = .int .i64 (i : Int) ∧ vl = .int .u64 (lt : Int) ∧ Hid (os.length = i ∧ Lb os ∧ val os + val ((lim b).take i) = val ((lim a).take i) + Bs ^ i * lt) ∧
      Hid (wr.ownsRow w.heap.size 85 1 v i (os.map u32V)) ∧ Hid (Ext w wr))
    (fun _ _ vi _ => n - (intOf vi).toNat)
  case atStart => exact ⟨0, 0, [], Nat.zero_le _, by omega, rfl, rfl, ⟨rfl, (fun x hx => by cases hx), by simp [val]⟩, World.ownsRow_nil _ _ _ _, ext_refl _⟩
  case round =>
    obtain ⟨i, lt, os, hi, hlt1, rfl, rfl, hos, hown, hext⟩ := hrel
    by_cases h0 : i < n
    · obtain ⟨x, hx, hxb⟩ : ∃ x : Nat, Hid ((lim a).getD i 0 = x) ∧ x < 4294967296 := ⟨_, rfl, lb_getD (lb_lim a) i⟩
      obtain ⟨y, hy, hyb⟩ : ∃ y : Nat, Hid ((lim b).getD i 0 = y) ∧ y < 4294967296 := ⟨_, rfl, lb_getD (lb_lim b) i⟩
      have kx : ∀ w', Hid (Ext w w') → Calls Tryz.prog 138 #[.slice A n c, .int .i64 i] w' fun e w'' => e = .returned (.int .u64 (x : Int)) ∧ w' = w'' := fun w' he => by
        have := limb_any A n c _ i (by omega) w' (HA.out.ext he.out)
        rwa [hx.out] at this
      have ky : ∀ w', Hid (Ext w w') → Calls Tryz.prog 138 #[.slice B m d, .int .i64 i] w' fun e w'' => e = .returned (.int .u64 (y : Int)) ∧ w' = w'' := fun w' he => by
        have := limb_any B m d _ i (by omega) w' (HB.out.ext he.out)
        rwa [hy.out] at this
      go_wp2_with (first
        | (go_at_call 138; refine (kx _ hext).mono ?_; rintro e w' ⟨rfl, rfl⟩)
        | (go_at_call 138; refine (ky _ hext).mono ?_; rintro e w' ⟨rfl, rfl⟩)
        | (at_builtin; refine push_u32 rfl _ _ rfl _ rfl hext.out hown.out rfl ((x + 4294967296 - y - lt) % 4294967296) ⟨wr.heap.size, 0, none⟩ 1 rfl (by rw [World.cell?_alloc_at _ _ _ _ rfl]; simp [u32V]; omega) (by omega) ?_)
        | go_in)
      all_goals
        intro v' wr1 hx1 ho1
        have hext1 := Lib.hid hx1
        have hown1 := Lib.hid ho1
        clear kx ky hown hext hx1 ho1
        go_wp2
        go_roundw
        case rel =>
          refine ⟨i + 1, 1 - (x + 4294967296 - y - lt) / 4294967296, os ++ [(x + 4294967296 - y - lt) % 4294967296], by omega, by omega, by go_num, ?_, ⟨by simp [hos.out.1], lb_snoc.2 ⟨hos.out.2.1, Nat.mod_lt _ (by decide)⟩, less_step hos.out.1 hlt1 hxb hyb hos.out.2.2 hx.out hy.out⟩, ?_, hext1⟩
          · have e : (1 : Int) - ((x : Int) + 4294967296 - y - lt) / 4294967296 = ((1 - (x + 4294967296 - y - lt) / 4294967296 : Nat) : Int) := by omega
            rw [e]
          · show World.ownsRow _ _ _ _ _ _ _
            rw [List.map_append]; exact hown1
        case measure => simp [intOf]; omega
    · obtain rfl : i = n := by omega
      have hval : val os = a - b := by
        have h1 := hos.out.2.2
        rw [take_ge (by rw [hly.out]; exact hm), take_ge (by rw [hlx.out]; exact Nat.le_refl _), val_lim, val_lim] at h1
        have h2 := val_lt os hos.out.2.1
        rw [hos.out.1] at h2
        rcases (show lt = 0 ∨ lt = 1 by omega) with h3 | h3
        · rw [h3] at h1; omega
        · rw [h3] at h1; omega
      obtain ⟨A', c', rfl, hRR⟩ := Rd.own hown.out hos.out.2.1
      have hT : Calls Tryz.prog 137 #[.slice A' i c'] wr fun e w'' => (∃ k, e = .returned (.slice A' k c') ∧ Hid (Rd wr A' k c' (lim (a - b)))) ∧ wr = w'' := by
        refine (trim_any _ _ _ _ wr hRR).mono ?_
        rintro e w'' ⟨k, rfl, h2, rfl⟩
        rw [trimZ_lim _ hos.out.2.1, hval] at h2
        exact ⟨⟨k, rfl, h2⟩, rfl⟩
      have hfr := Lib.hid (own_fr hown.out)
      have hmxc := hRR.mx
      have hcapc := hRR.cap
      clear hRR hval h0 hi
      go_wp2_with (first
        | (go_at_call 137; (with_reducible refine hT.mono ?_); rintro e w' ⟨⟨k, rfl, hR⟩, rfl⟩)
       )
      refine bodyPost_ret (v := .slice A' k c') ?h rfl ⟨A', k, c', rfl, ⟨hR.out, hfr.out⟩, hext.out⟩
      case h => simp [results, Tryz.results100, go_sem]
end Go.Proofs.YtbgimjfeigeicaaGreatDoor
