/- The document's quotient by a small number. -/
import Derived.Test.YtbgimjfeigeicaaGreatDoorRows
import Derived.Test.YtbgimjfeigeicaaGreatDoorSl
import Derived.Test.YtbgimjfeigeicaaGreatDoorStr
import Derived.Test.YtbgimjfeigeicaaGreatDoorNatT
import Derived.Laws.Bits64b
import Derived.Laws.Bits64
namespace Go.Proofs.YtbgimjfeigeicaaGreatDoor
open Go.RowKit
attribute [local go_sem] sz2 sz3 sz4 sz5 sz6 sz7 sz8
set_option maxHeartbeats 4000000
set_option maxRecDepth 100000
attribute [local irreducible] Calls
theorem or_shift (r x : Nat) (hr : r < 4294967296) (hx : x < 4294967296) : bits BinOp.or IntKind.u64 ((r : Int) * 4294967296) (x : Int) = ((r * 4294967296 + x : Nat) : Int) := by
  have h := bits_or_u64_nat (r * 4294967296) x (by omega) (by omega)
  have h2 : r * 4294967296 ||| x = r * 4294967296 + x := by
    have := Nat.shiftLeft_add_eq_or_of_lt (i := 32) (b := x) (by omega) r
    rw [Nat.shiftLeft_eq] at this
    exact this.symm
  rw [h2] at h
  rw [← h]; rfl
theorem over_any (A : Option Addr) (n c : Nat) (xs : List Nat) (d : Nat) (hd : 0 < d) (hd2 : d < 4294967296) (hn : n ≤ 1000000) (w : World) (hA : Rd w A n c xs) :
    Calls Tryz.prog 102 #[.slice A n c, .int .u64 (d : Int)] w fun e w' => ∃ (A' : Option Addr) (k c' r : Nat), e = .returned (.tuple #[.slice A' k c', .int .u64 (r : Int)]) ∧ r = val xs % d ∧ Rd w' A' k c' (lim (val xs / d)) ∧ Fr w A' ∧ Ext w w' := by
  have hmx := hA.mx
  have hcx := hA.cap
  have HA := Lib.hid hA
  have hlx := Lib.hid hA.len
  have hbx := Lib.hid hA.lb
  clear hA
  go_enter Tryz.func102, Tryz.ntmps102
  go_wp2_with (first
    | (at_make; refine make_u32 rfl _ _ rfl _ _ _ _ n rfl rfl rfl rfl (by omega) ?_; intro w1 hx1 ho1; have hext1 := Lib.hid hx1; clear hx1)
    | go_in)
  have hfr : w.heap.size < w1.heap.size := (ho1.out.lt w.heap.size rfl).2
  go_loopw [7, 8] (fun vr vi wr => ∃ j r : Nat, ∃ os : List Nat, j ≤ n ∧ r < d ∧ vi = .int .i64 ((j : Int) - 1) ∧ vr = .int .u64 (r : Int) ∧ Hid (os.length = n ∧ Lb os ∧ val (xs.drop j) = d * val (os.drop j) + r) ∧
      Hid (wr.ownsRow w.heap.size 85 1 (.slice (some ⟨w.heap.size, 0, none⟩) n n) n (os.map u32V)) ∧ Hid (Ext w wr))
    (fun _ vi _ => (intOf vi + 1).toNat)
  case atStart => exact ⟨n, 0, List.replicate n 0, Nat.le_refl _, hd, by go_num, rfl, ⟨by simp, lb_replicate n, by rw [List.drop_eq_nil_of_le (by rw [hlx.out]; exact Nat.le_refl _), List.drop_eq_nil_of_le (by simp)]; rfl⟩, ho1.out, hext1.out⟩
  case round =>
    obtain ⟨j, r, os, hj, hr, rfl, rfl, hos, hown, hext⟩ := hrel
    by_cases h0 : 0 < j
    · obtain ⟨b, off, hAe⟩ : ∃ b off, A = some ⟨b, off, none⟩ := by
        rcases HA.out.shape with ⟨_, h, _⟩ | h
        · omega
        · exact h
      subst hAe
      obtain ⟨x, hx, hxb, hcell⟩ := (HA.out.ext hext.out).get (j - 1) (by omega)
      obtain ⟨hc1, hf1⟩ := own_at hown.out (j - 1) (by omega)
      have hs : r * 4294967296 + x < d * 4294967296 := by omega
      have hor := or_shift r x (by omega) hxb
      obtain ⟨s, hse⟩ : ∃ s, s = r * 4294967296 + x := ⟨_, rfl⟩
      have hq : s / d < 4294967296 := (Nat.div_lt_iff_lt_mul hd).2 (by rw [hse]; omega)
      have hs64 : s < 18446744073709551616 := by
        have : d * 4294967296 ≤ 4294967296 * 4294967296 := Nat.mul_le_mul_right _ (by omega)
        omega
      have hm : s % d < d := Nat.mod_lt _ hd
      have hq1 : IntKind.u64.wrap ((s : Int) / (d : Int)) % 4294967296 = ((s / d : Nat) : Int) := by
        rw [← Int.natCast_ediv, IntKind.wrap_u64]
        generalize s / d = u at hq
        omega
      have hne : ((d : Int) == 0) = false := by simp; omega
      rw [← hse] at hor hs
      have HQ := Lib.hid hq1
      have HM := Lib.hid hm
      have HSE := Lib.hid hse
      have HQL := Lib.hid hq
      clear hq1 hm hse hq hs
      go_wp2
      case roundEnd =>
        refine ⟨⟨j - 1, s % d, os.set (j - 1) (s / d), by omega, HM.out, ?_, ?_, ⟨?_, ?_, ?_⟩, ?_, ?_⟩, ?_⟩
        · simp; omega
        · simp
        · simp [hos.out.1]
        · exact lb_set hos.out.2.1 _ HQL.out
        · have h := over_step hd h0 (by rw [hlx.out]; omega) (by rw [hos.out.1, hlx.out]) hos.out.2.2 hx.out
          rwa [← HSE.out] at h
        · show World.ownsRow _ _ _ _ _ _ _
          rw [HQ.out]
          exact own_set hown.out _ _
        · exact ext_setCell hext.out (Nat.le_refl _) _
        · simp [intOf]; omega
    · obtain rfl : j = 0 := by omega
      obtain ⟨A', c', he, hR⟩ := Rd.own hown.out hos.out.2.1
      cases he
      have hv := hos.out.2.2
      simp only [List.drop_zero] at hv
      have hdv : val os = val xs / d := by
        rw [hv, Nat.mul_add_div hd, Nat.div_eq_of_lt hr]; omega
      have hdm : r = val xs % d := by
        rw [hv, Nat.mul_add_mod, Nat.mod_eq_of_lt hr]
      have HDM := Lib.hid hdm
      have hT : Calls Tryz.prog 137 #[.slice (some ⟨w.heap.size, 0, none⟩) n n] wr fun e w'' => (∃ k, e = .returned (.slice (some ⟨w.heap.size, 0, none⟩) k n) ∧ Hid (Rd wr (some ⟨w.heap.size, 0, none⟩) k n (lim (val xs / d)))) ∧ wr = w'' := by
        refine (trim_any _ _ _ _ wr hR).mono ?_
        rintro e w'' ⟨k, rfl, h2, rfl⟩
        rw [trimZ_lim _ hos.out.2.1, hdv] at h2
        exact ⟨⟨k, rfl, h2⟩, rfl⟩
      clear hR hv hdv hdm h0 hj
      go_wp2_with (first
        | (go_at_call 137; (with_reducible refine hT.mono ?_); rintro e w' ⟨⟨k, rfl, hR⟩, rfl⟩)
       )
      refine bodyPost_ret (v := .tuple #[.slice (some ⟨w.heap.size, 0, none⟩) k n, .int .u64 (r : Int)]) ?h rfl ⟨_, k, n, r, rfl, HDM.out, hR.out, ?_, hext.out⟩
      case h => simp [results, Tryz.results102, go_sem]
      intro a ha; cases ha; exact Nat.le_refl _
end Go.Proofs.YtbgimjfeigeicaaGreatDoor
