/- Lemmas of this proof, laid together: BigP, BigQ, BigR, BigT, BigS, BigU, IntL, IntM, IntN, IntQ. -/
import Derived.Test.YtkhkoeibpkglkaaGreatDoorMg16
import Derived.Test.YtkhkoeibpkglkaaGreatDoorMg23
import Derived.Deep.DeepCutAuto
import Derived.Deep.RegionWith
import Derived.Deep.LoopGhost
import Derived.Maps.AppendAt
import Derived.Test.YtkhkoeibpkglkaaGreatDoorMg19
import Derived.Test.YtkhkoeibpkglkaaGreatDoorMg09
import Derived.Test.YtkhkoeibpkglkaaGreatDoorMg18
set_option linter.unusedSimpArgs false
set_option linter.unusedVariables false
section
/- Words of the library's: times a word and a word more, in place; powers. -/
namespace Go.Proofs.YtkhkoeibpkglkaaGreatDoor
open Go.RowKit
attribute [local go_sem] sz2 sz3 sz4 sz5 sz6 sz7 sz8
set_option maxHeartbeats 4000000
set_option maxRecDepth 100000
/-- A row whose last limb is not nought stays so. -/
theorem small_len {x m cc : Nat} (hm : 0 < m) {os : List Nat} {k cy : Nat} (hk : os.length = k) (hb : Lb os) (hkx : (lim x).length = k) (hv : val os + Bs ^ k * cy = x * m + cc) (hcy : cy < Bs) :
    (cy = 0 → os = lim (x * m + cc)) ∧ (0 < cy → os ++ [cy] = lim (x * m + cc)) := by
  constructor
  · intro h
    subst h
    rw [Nat.mul_zero, Nat.add_zero] at hv
    rw [← hv]
    refine lim_of os hb ?_
    intro hne
    have h0 : x ≠ 0 := by
      intro e
      subst e
      rw [lim_zero] at hkx
      have h1 := List.length_pos_iff.2 hne
      simp at hkx
      omega
    have h1 := (lim_len h0).1
    have h2 : x * 1 ≤ x * m := Nat.mul_le_mul_left _ hm
    rw [hkx, ← hk] at h1
    omega
  · intro h
    have h1 : val (os ++ [cy]) = x * m + cc := by rw [val_snoc, hk]; exact hv
    rw [← h1]
    refine lim_of _ (lb_snoc.2 ⟨hb, hcy⟩) ?_
    intro _
    rw [List.length_append, val_snoc]
    simp only [List.length_singleton, Nat.add_sub_cancel]
    have : Bs ^ os.length * 1 ≤ Bs ^ os.length * cy := Nat.mul_le_mul_left _ h
    omega
attribute [local irreducible] Calls
theorem bw_mulSmall (W : World) (v : Value) (n x m cc : Nat) (hm : 0 < m) (hm2 : m < 4294967296) (hcc : cc < 4294967296) (hn : n ≤ 100000) (w : World) (hE : Ext W w) (hown : w.ownsRow W.heap.size 60 1 v n ((lim x).map u32V)) :
    Calls Tryz.prog 179 #[v, .int .u32 (m : Int), .int .u32 (cc : Int)] w fun e w' => ∃ (v' : Value) (n' : Nat), e = .returned v' ∧ Hid (w'.ownsRow W.heap.size 60 1 v' n' ((lim (x * m + cc)).map u32V)) ∧ n' ≤ n + 1 ∧ Ext W w' := by
  have hkx : (lim x).length = n := by have := hown.1; simpa using this
  obtain ⟨AO, cO, rfl, hRd⟩ := Rd.own hown (lb_lim x)
  have hcO := hRd.cap
  have hcOm := hRd.mx
  have HO := Lib.hid hown
  have HW := Lib.hid hE
  have HK := Lib.hid hkx
  clear hRd hown hE hkx
  go_enter Tryz.func179, Tryz.ntmps179
  go_wp2
  go_loopw [7, 8] (fun vc vi wr => ∃ (p cy : Nat) (os : List Nat), p ≤ n ∧ cy < 4294967296 ∧ vi = .int .i64 (p : Int) ∧ vc = .int .u64 (cy : Int) ∧ Hid (os.length = n ∧ Lb os ∧ os.drop p = (lim x).drop p ∧ val (os.take p) + Bs ^ p * cy = val ((lim x).take p) * m + cc) ∧
      Hid (wr.ownsRow W.heap.size 60 1 (.slice AO n cO) n (os.map u32V)) ∧ Hid (Ext W wr)) (fun _ vi _ => n - (intOf vi).toNat)
  case atStart => exact ⟨0, cc, lim x, Nat.zero_le _, hcc, rfl, rfl, ⟨HK.out, lb_lim x, rfl, by simp [val]⟩, HO.out, HW.out⟩
  case round =>
    clear HO HW
    obtain ⟨p, cy, os, hp, hcy, rfl, rfl, hos, hown, hext⟩ := hrel
    by_cases hpk : p < n
    · obtain ⟨g, hg⟩ : ∃ g, AO = some ⟨g, 0, none⟩ := by
        rcases hown.out.2 with ⟨_, h⟩ | ⟨g, cap', cur, h, _⟩
        · omega
        · simp only [Value.slice.injEq] at h
          exact ⟨g, h.1⟩
      subst hg
      have hlt := hown.out.lt g rfl
      obtain ⟨o, ho, hob⟩ : ∃ o : Nat, Hid ((lim x).getD p 0 = o) ∧ o < 4294967296 := ⟨_, rfl, lb_getD (lb_lim x) _⟩
      have ho2 : os.getD p 0 = o := by
        have h1 := congrArg (fun z : List Nat => z.getD 0 0) hos.out.2.2.1
        simp only [List.getD_eq_getElem?_getD, List.getElem?_drop, Nat.add_zero] at h1
        rw [List.getD_eq_getElem?_getD, h1, ← List.getD_eq_getElem?_getD]
        exact ho.out
      obtain ⟨hc1, hf1⟩ := own_at hown.out p hpk
      rw [ho2] at hc1
      obtain ⟨pr, hpr⟩ : ∃ pr, pr = o * m := ⟨_, rfl⟩
      have hprb : pr ≤ 18446744065119617025 := by
        rw [hpr]
        exact Nat.mul_le_mul (show o ≤ 4294967295 by omega) (show m ≤ 4294967295 by omega)
      have hpri : (o : Int) * (m : Int) = (pr : Int) := by rw [hpr]; exact (Int.natCast_mul _ _).symm
      have HPR := Lib.hid hpr
      have hlg := hlt.2
      clear hpr ho2 hlt
      go_wp2
      case roundEnd =>
        have hst := inpl_step (T := m) hos.out.1 HK.out hpk hos.out.2.2.1 hos.out.2.2.2 ho.out
        rw [← HPR.out] at hst
        refine ⟨⟨p + 1, (cy + pr) / 4294967296, os.set p ((cy + pr) % 4294967296), by omega, by omega, by simp, by go_num, ⟨by rw [List.length_set]; exact hos.out.1, lb_set hos.out.2.1 _ (Nat.mod_lt _ (by decide)), hst.1, hst.2⟩, ?_, ?_⟩, ?_⟩
        · have e : ((pr : Int) + (cy : Int)) % 4294967296 = (((cy + pr) % 4294967296 : Nat) : Int) := by omega
          show World.ownsRow _ _ _ _ _ _ _
          rw [e]
          exact own_set hown.out p _
        · exact ext_setCell hext.out ((hown.out.lt g rfl).1) _
        · simp [intOf]; omega
    · obtain rfl : p = n := by omega
      have hfin : Hid (val os + Bs ^ p * cy = x * m + cc) := Lib.hid (by
        have h1 := hos.out.2.2.2
        rw [take_ge (by rw [hos.out.1]; exact Nat.le_refl _), take_ge (by rw [HK.out]; exact Nat.le_refl _), val_lim] at h1
        exact h1)
      have hS := Lib.hid (small_len hm hos.out.1 hos.out.2.1 HK.out hfin.out hcy)
      clear hpk
      by_cases hc0 : 0 < cy
      · go_wp2_with (first
          | (at_builtin; refine push_u32 rfl _ _ rfl _ rfl hext.out hown.out rfl cy ⟨wr.heap.size, 0, none⟩ 1 rfl (by rw [World.cell?_alloc_at _ _ _ _ rfl]; simp [u32V]; try omega) (by omega) ?_)
          | go_in)
        all_goals
          intro v' w3 hx3 ho3
          have HX3 := Lib.hid hx3
          have HO3 := Lib.hid ho3
          clear hx3 ho3 hown hext
          go_wp2
          refine bodyPost_ret (v := v') ?h rfl ⟨_, p + 1, rfl, ?_, Nat.le_refl _, HX3.out⟩
          case h => simp [results, Tryz.results179, go_sem]
          rw [← hS.out.2 hc0, List.map_append]
          exact HO3
      · obtain rfl : cy = 0 := by omega
        go_wp2
        refine bodyPost_ret (v := .slice AO p cO) ?h rfl ⟨_, rfl, p, ?_, by omega, hext.out⟩
        case h => simp [results, Tryz.results179, go_sem]
        rw [← hS.out.1 (by simp)]
        exact hown
end Go.Proofs.YtkhkoeibpkglkaaGreatDoor
end
section
/- Words of the library's: powers. -/
namespace Go.Proofs.YtkhkoeibpkglkaaGreatDoor
open Go.RowKit
attribute [local go_sem] sz2 sz3 sz4 sz5 sz6 sz7 sz8
set_option maxHeartbeats 4000000
set_option maxRecDepth 100000
theorem pow_halves (b n i : Nat) : b ^ (n / 2 ^ i) = b ^ (n / 2 ^ (i + 1)) * b ^ (n / 2 ^ (i + 1)) * b ^ (n / 2 ^ i % 2) := by
  rw [← Nat.pow_add, ← Nat.pow_add]
  congr 1
  have e : n / 2 ^ (i + 1) = n / 2 ^ i / 2 := by rw [Nat.pow_succ, ← Nat.div_div_eq_div_mul]
  omega
theorem pow_part {b n i : Nat} (hb : 2 ≤ b) : b ^ (n / 2 ^ i) ≤ b ^ n := Nat.pow_le_pow_right (by omega) (Nat.div_le_self _ _)
theorem word_row (w : World) (x : Nat) (h0 : 0 < x) (hx : x < 4294967296) : Rd (w.alloc (Obj.cells #[.int .u32 (x : Int)] 60)) (some ⟨w.heap.size, 0, none⟩) 1 1 (lim x) := by
  have e : lim x = [x] := by rw [lim_pos (by omega), Nat.mod_eq_of_lt hx, Nat.div_eq_of_lt hx, lim_zero]
  rw [e]
  exact Rd.made w #[.int .u32 (x : Int)] 60 [x] (by intro y hy; simp at hy; rw [hy]; exact hx) (by simp [u32V]) (by simp) rfl (by simp)
theorem bit_i64 (n i : Nat) (h : n / 2 ^ i < 9223372036854775808) {d : Nat} (hd : n / 2 ^ i % 2 = d) : (bits BinOp.and IntKind.i64 ((n : Int) / 2 ^ i) 1 == 1) = decide (d = 1) := by
  have e : (n : Int) / 2 ^ i = ((n / 2 ^ i : Nat) : Int) := by rw [Int.natCast_ediv, Int.natCast_pow]; rfl
  rw [e, and_one _ h, hd]
  rcases (show d = 0 ∨ d = 1 by omega) with rfl | rfl <;> rfl
attribute [local irreducible] Calls
theorem bw_power (b n : Nat) (hb : 2 ≤ b) (hb2 : b < 4294967296) (hn : n < 9223372036854775808) (hl : (lim (b ^ n)).length ≤ 90000) (w : World) :
    Calls Tryz.prog 177 #[.int .i64 (b : Int), .int .i64 (n : Int)] w (WPost w (b ^ n)) := by
  have HL := Lib.hid hl
  clear hl
  go_enter Tryz.func177, Tryz.ntmps177
  go_wp2
  go_loopg [5, 6] 63 (fun j vo vi wr => ∃ (x : Nat) (A : Option Addr) (k c : Nat), j ≤ 63 ∧ vi = .int .i64 ((j : Int) - 1) ∧ vo = .slice A k c ∧ Hid (x = b ^ (n / 2 ^ j)) ∧ Hid (Rd wr A k c (lim x) ∧ Fr w A) ∧ Hid (Ext w wr))
  case atStart =>
    refine ⟨1, _, 1, 1, Nat.le_refl _, rfl, rfl, ?_, ⟨one_row w, fun a ha => by cases ha; exact Nat.le_refl _⟩, ext_alloc (ext_refl _) _⟩
    show 1 = b ^ (n / 2 ^ 63)
    rw [Nat.div_eq_of_lt (show n < 2 ^ 63 by omega)]; rfl
  case round =>
    obtain ⟨x, A, k, c, hj, rfl, rfl, hx, hR, hext⟩ := hrel
    by_cases h0 : 0 < gk
    · obtain ⟨i, rfl⟩ : ∃ i, gk = i + 1 := ⟨gk - 1, by omega⟩
      have e1 : ((i + 1 : Nat) : Int) - 1 = (i : Int) := by omega
      rw [e1]
      have hxp : 0 < x := by rw [hx.out]; exact Nat.pow_pos (by omega)
      have hkx : (lim x).length = k := hR.out.1.len
      have hk1 : 1 ≤ k := by
        rcases Nat.eq_zero_or_pos k with e | e
        · rw [e] at hkx; have := lim_nil.1 (List.eq_nil_of_length_eq_zero hkx); omega
        · exact e
      have hkb : k ≤ 90000 := by
        have h1 := lim_mono (pow_part (n := n) (i := i + 1) hb)
        rw [← hx.out, hkx] at h1
        exact Nat.le_trans h1 HL.out
      have hcap := hR.out.1.cap
      have hmx := hR.out.1.mx
      have hsq : ∀ w', Ext wr w' → Calls Tryz.prog 138 #[.slice A k c, .slice A k c] w' (WPost w' (x * x)) := fun w' he => bw_mul (k + k) A A k c k c x x rfl (by omega) w' (hR.out.1.ext he) (hR.out.1.ext he)
      have hbm : ∀ (A1 : Option Addr) (k1 c1 : Nat) (w1 : World), Ext wr w1 → Hid (Rd w1 A1 k1 c1 (lim (x * x))) → Calls Tryz.prog 138 #[.slice A1 k1 c1, .slice (some ⟨w1.heap.size, 0, none⟩) 1 1] (w1.alloc (Obj.cells #[.int .u32 (b : Int)] 60)) (WPost (w1.alloc (Obj.cells #[.int .u32 (b : Int)] 60)) (x * x * b)) := fun A1 k1 c1 w1 he h1 => by
        have hk1' : k1 ≤ 90000 := by
          have h2 := lim_mono (pow_part (n := n) (i := i) hb)
          have h3 : (lim (x * x)).length ≤ (lim (b ^ (n / 2 ^ i))).length := lim_mono (by
            rw [pow_halves, ← hx.out]
            exact Nat.le_mul_of_pos_right _ (Nat.pow_pos (by omega)))
          rw [h1.out.len] at h3
          have := HL.out
          omega
        exact bw_mul (k1 + 1) A1 _ k1 c1 1 1 (x * x) b rfl (by omega) _ (h1.out.ext (ext_alloc (ext_refl _) _)) (word_row w1 b (by omega) hb2)
      have hst : x * x * b ^ (n / 2 ^ i % 2) = b ^ (n / 2 ^ i) := by rw [hx.out]; exact (pow_halves b n i).symm
      have HST := Lib.hid hst
      have HSQ := Lib.hid hsq
      have hbit : n / 2 ^ i % 2 = 0 ∨ n / 2 ^ i % 2 = 1 := by omega
      have hsh : n / 2 ^ i < 9223372036854775808 := Nat.lt_of_le_of_lt (Nat.div_le_self _ _) hn
      clear hst hsq hxp
      by_cases hk2 : 1 < k
      · skip
        rcases hbit with hbit | hbit
        · have hb1 := bit_i64 n i hsh hbit
          simp at hb1
          go_wp2_with (first
            | (go_at_call 138; (with_reducible refine (HSQ.out _ (ext_refl _)).mono ?_); rintro e w1 ⟨A1, k1, c1, rfl, hR1, xb1⟩; obtain ⟨xc1, xf1, xl1, xz1⟩ := ext_use xb1; (try simp at xz1))
           )
          go_roundg i
          case rel => exact ⟨x * x, A1, k1, c1, by omega, rfl, rfl, by rw [← HST.out, hbit, Nat.pow_zero, Nat.mul_one]; exact rfl, ⟨hR1.out.1, hR1.out.2.mono hext.out⟩, ext_trans hext.out xb1⟩
          case measure => omega
        · have hb1 := bit_i64 n i hsh hbit
          simp at hb1
          go_wp2_with (first
            | (go_at_call 138; (with_reducible refine (HSQ.out _ (ext_refl _)).mono ?_); rintro e w1 ⟨A1, k1, c1, rfl, hR1, xb1⟩; obtain ⟨xc1, xf1, xl1, xz1⟩ := ext_use xb1; (try simp at xz1))
            | (go_at_call 138; (with_reducible refine (hbm A1 k1 c1 w1 xb1 (Lib.hid hR1.out.1)).mono ?_); rintro e w2 ⟨A2, k2, c2, rfl, hR2, xb2⟩; obtain ⟨xc2, xf2, xl2, xz2⟩ := ext_use xb2; (try simp at xz2))
           )
          go_roundg i
          case rel => exact ⟨x * x * b, A2, k2, c2, by omega, rfl, rfl, by rw [← HST.out, hbit, Nat.pow_one]; exact rfl, ⟨hR2.out.1, hR2.out.2.mono (ext_trans hext.out (ext_trans xb1 (ext_alloc (ext_refl _) _)))⟩, ext_trans hext.out (ext_trans xb1 (ext_trans (ext_alloc (ext_refl _) _) xb2))⟩
          case measure => omega
      · obtain rfl : k = 1 := by omega
        obtain ⟨bb, off, rfl⟩ : ∃ bb off, A = some ⟨bb, off, none⟩ := by
          rcases hR.out.1.shape with ⟨_, h, _⟩ | h
          · omega
          · exact h
        obtain ⟨y, hy, hyb, hc⟩ := hR.out.1.get 0 (by omega)
        have hxy : x = y := by
          have h1 := hy.out
          have h2 : x < Bs := by have := lim_lt x; rw [hkx, Nat.pow_one] at this; exact this
          have h3 : x ≠ 0 := by intro e; rw [e, lim_zero] at hkx; simp at hkx
          rw [lim_pos h3] at h1
          rw [← h1]
          exact (Nat.mod_eq_of_lt h2).symm
        subst hxy
        rw [Nat.add_zero] at hc
        have hx0 : 1 ≤ x := by
          rcases Nat.eq_zero_or_pos x with e | e
          · rw [e, lim_zero] at hkx; simp at hkx
          · exact e
        by_cases hx1 : 1 < x
        · skip
          rcases hbit with hbit | hbit
          · have hb1 := bit_i64 n i hsh hbit
            simp at hb1
            go_wp2_with (first
              | (go_at_call 138; (with_reducible refine (HSQ.out _ (ext_refl _)).mono ?_); rintro e w1 ⟨A1, k1, c1, rfl, hR1, xb1⟩; obtain ⟨xc1, xf1, xl1, xz1⟩ := ext_use xb1; (try simp at xz1))
             )
            go_roundg i
            case rel => exact ⟨x * x, A1, k1, c1, by omega, rfl, rfl, by rw [← HST.out, hbit, Nat.pow_zero, Nat.mul_one]; exact rfl, ⟨hR1.out.1, hR1.out.2.mono hext.out⟩, ext_trans hext.out xb1⟩
            case measure => omega
          · have hb1 := bit_i64 n i hsh hbit
            simp at hb1
            go_wp2_with (first
              | (go_at_call 138; (with_reducible refine (HSQ.out _ (ext_refl _)).mono ?_); rintro e w1 ⟨A1, k1, c1, rfl, hR1, xb1⟩; obtain ⟨xc1, xf1, xl1, xz1⟩ := ext_use xb1; (try simp at xz1))
              | (go_at_call 138; (with_reducible refine (hbm A1 k1 c1 w1 xb1 (Lib.hid hR1.out.1)).mono ?_); rintro e w2 ⟨A2, k2, c2, rfl, hR2, xb2⟩; obtain ⟨xc2, xf2, xl2, xz2⟩ := ext_use xb2; (try simp at xz2))
             )
            go_roundg i
            case rel => exact ⟨x * x * b, A2, k2, c2, by omega, rfl, rfl, by rw [← HST.out, hbit, Nat.pow_one]; exact rfl, ⟨hR2.out.1, hR2.out.2.mono (ext_trans hext.out (ext_trans xb1 (ext_alloc (ext_refl _) _)))⟩, ext_trans hext.out (ext_trans xb1 (ext_trans (ext_alloc (ext_refl _) _) xb2))⟩
            case measure => omega
        · obtain rfl : x = 1 := by omega
          have H1x : Hid (Rd wr (some ⟨bb, off, none⟩) 1 c (lim (1 * 1))) := Lib.hid hR.out.1
          rcases hbit with hbit | hbit
          · have hb1 := bit_i64 n i hsh hbit
            simp at hb1
            go_wp2
            go_roundg i
            case rel => exact ⟨1, _, 1, c, by omega, rfl, rfl, by rw [← HST.out, hbit, Nat.pow_zero]; exact rfl, hR, hext⟩
            case measure => omega
          · have hb1 := bit_i64 n i hsh hbit
            simp at hb1
            go_wp2_with (first
              | (go_at_call 138; (with_reducible refine (hbm _ 1 c wr (ext_refl _) H1x).mono ?_); rintro e w2 ⟨A2, k2, c2, rfl, hR2, xb2⟩; obtain ⟨xc2, xf2, xl2, xz2⟩ := ext_use xb2; (try simp at xz2))
             )
            go_roundg i
            case rel => exact ⟨1 * 1 * b, A2, k2, c2, by omega, rfl, rfl, by rw [← HST.out, hbit, Nat.pow_one]; exact rfl, ⟨hR2.out.1, hR2.out.2.mono (ext_trans hext.out (ext_trans (ext_refl _) (ext_alloc (ext_refl _) _)))⟩, ext_trans hext.out (ext_trans (ext_refl _) (ext_trans (ext_alloc (ext_refl _) _) xb2))⟩
            case measure => omega
    · obtain rfl : gk = 0 := by omega
      have hfin : x = b ^ n := by rw [hx.out, Nat.pow_zero, Nat.div_one]
      clear h0
      go_wp2
      refine bodyPost_ret (v := .slice A k c) ?h rfl ⟨A, k, c, rfl, ⟨by rw [← hfin]; exact hR.out.1, hR.out.2⟩, hext.out⟩
      case h => simp [results, Tryz.results177, go_sem]
end Go.Proofs.YtkhkoeibpkglkaaGreatDoor
end
section
/- Words of the library's: texts of digits are read. -/
namespace Go.Proofs.YtkhkoeibpkglkaaGreatDoor
open Go.RowKit
attribute [local go_sem] bs_size bs_extract bs_get bs_append bs_toList const_get
attribute [local go_sem] sz2 sz3 sz4 sz5 sz6 sz7 sz8
set_option maxHeartbeats 4000000
set_option maxRecDepth 100000
attribute [local irreducible] Calls
theorem bw_worth (c : Nat) (h1 : 48 ≤ c) (h2 : c ≤ 57) (w : World) : Calls Tryz.prog 178 #[.int .u8 (c : Int)] w fun e w' => e = .returned (.int .u32 ((c - 48 : Nat) : Int)) ∧ Ext w w' := by
  go_enter Tryz.func178, Tryz.ntmps178
  go_wp2
  have e : (c : Int) - 48 = ((c - 48 : Nat) : Int) := by omega
  refine bodyPost_ret (v := .int .u32 ↑(c - 48)) ?h rfl ⟨rfl, ext_refl _⟩
  case h => simp [results, Tryz.results178, go_sem, e]
abbrev ReadPost (w : World) (v : Nat) : Ending → World → Prop := fun e w' => ∃ (A : Option Addr) (k c : Nat), e = .returned (.tuple #[.slice A k c, .bool true]) ∧ Hid (Rd w' A k c (lim v) ∧ Fr w A) ∧ Ext w w'
theorem read_small (l : List UInt8) (hd : digsB l = true) (hl : l.length ≤ 300) (w : World) : Calls Tryz.prog 116 #[.string (bs l), .int .i64 10] w (ReadPost w (dval l)) := by
  have HD := Lib.hid hd
  clear hd
  go_enter Tryz.func116, Tryz.ntmps116
  go_wp2
  go_loopg [11, 12, 13, 14] l.length (fun g vw vt vs vi wr => ∃ (n x T N i : Nat), g = l.length - i ∧ i ≤ l.length ∧ vt = .int .u32 (T : Int) ∧ vs = .int .u32 (N : Int) ∧ vi = .int .i64 (i : Int) ∧ (T ≤ 100000000 ∧ 0 < T ∧ N < T) ∧ (i = l.length → T = 1 ∧ N = 0) ∧
      Hid (∃ q, q ≤ 8 ∧ T = 10 ^ q) ∧ Hid (x * T + N = dval (l.take i)) ∧ Hid (wr.ownsRow w.heap.size 60 1 vw n ((lim x).map u32V)) ∧ Hid (Ext w wr))
  case atStart =>
    exact ⟨0, 0, 1, 0, 0, rfl, Nat.zero_le _, rfl, rfl, rfl, by omega, fun _ => ⟨rfl, rfl⟩, ⟨0, by omega, rfl⟩, Lib.hid (show 0 * 1 + 0 = dval (l.take 0) by simp [dval]), Lib.hid (by rw [lim_zero]; exact World.ownsRow_nil _ _ _ _), ext_refl _⟩
  case round =>
    obtain ⟨n, x, T, N, i, rfl, hi, rfl, rfl, rfl, ⟨hT1, hT2, hNT⟩, hend, hq, hx, hown, hext⟩ := hrel
    by_cases hgo : i < l.length
    · obtain ⟨hb1, hb2⟩ := digs_at HD.out i hgo
      have hkn : (lim x).length = n := by have := hown.out.1; simpa using this
      have hnb : n ≤ 100 := by
        have h1 := dval_lt _ (digs_take HD.out i)
        rw [List.length_take, Nat.min_eq_left hi] at h1
        have h2 : x * 1 ≤ x * T := Nat.mul_le_mul_left _ hT2
        have h3 := hx.out
        rw [← hkn]
        exact lim_fits (n := i) (by omega) (by omega) (by decide)
      obtain ⟨d, hdd⟩ : ∃ d, d = l[i].toNat - 48 := ⟨_, rfl⟩
      have hd9 : d ≤ 9 := by omega
      have hwt := fun w' => bw_worth l[i].toNat hb1 hb2 w'
      rw [← hdd] at hwt
      have hstep : Hid (dval (l.take (i + 1)) = x * (T * 10) + (N * 10 + d)) := Lib.hid (by
        have e1 : l.take (i + 1) = l.take i ++ [l[i]] := List.take_succ_eq_append_getElem hgo
        rw [e1, dval_snoc, ← hx.out, ← hdd, ← Nat.mul_assoc]; omega)
      have hms : ∀ w', Ext wr w' → Calls Tryz.prog 179 #[u11, .int .u32 ((T : Int) * 10), .int .u32 ((N : Int) * 10 + (d : Int))] w' fun e w'' => ∃ (v' : Value) (n' : Nat), e = .returned v' ∧ Hid (w''.ownsRow w.heap.size 60 1 v' n' ((lim (dval (l.take (i + 1)))).map u32V)) ∧ n' ≤ n + 1 ∧ Ext w w'' := fun w' he => by
        have e1 : (T : Int) * 10 = ((T * 10 : Nat) : Int) := by omega
        have e2 : (N : Int) * 10 + (d : Int) = ((N * 10 + d : Nat) : Int) := by omega
        rw [e1, e2]
        have := bw_mulSmall w u11 n x (T * 10) (N * 10 + d) (by omega) (by omega) (by omega) (by omega) w' (ext_trans hext.out he) (own_ext hown.out he)
        rw [← hstep.out] at this
        exact this
      have hq8 : T = 100000000 ∨ T ≤ 10000000 := by
        obtain ⟨q, hq1, hq2⟩ := hq.out
        rcases Nat.lt_or_ge q 8 with h | h
        · right
          rw [hq2]
          exact Nat.le_trans (Nat.pow_le_pow_right (by decide) (show q ≤ 7 by omega)) (by decide)
        · left
          obtain rfl : q = 8 := by omega
          exact hq2
      have HH := Lib.hid (And.intro hms hwt)
      have HQ8 := Lib.hid hq8
      have HI := Lib.hid (And.intro hb1 hb2)
      clear hms hwt hdd hq8 hend hb1 hb2 hT2
      by_cases hfl : (429496729 : Int) < (T : Int) * 10
      · have hfd : decide ((429496729 : Int) < (T : Int) * 10) = true := decide_eq_true hfl
        go_wp2_with (first
          | (go_at_call 178; (with_reducible refine (HH.out.2 _).mono ?_); rintro e w1 ⟨rfl, xb1⟩; obtain ⟨xc1, xf1, xl1, xz1⟩ := ext_use xb1; (try simp at xz1))
          | (go_at_call 179; (with_reducible refine (HH.out.1 _ xb1).mono ?_); rintro e w2 ⟨v2, n2, rfl, hR2, hn2, xb2⟩; obtain ⟨xc2, xf2, xl2, xz2⟩ := ext_use xb2; (try simp at xz2))
         )
        go_roundg (l.length - (i + 1))
        case rel => exact ⟨n2, dval (l.take (i + 1)), 1, 0, i + 1, rfl, by omega, rfl, rfl, by simp, by omega, fun _ => ⟨rfl, rfl⟩, ⟨0, by omega, rfl⟩, Lib.hid (by omega), hR2, Lib.hid xb2⟩
        case measure => omega
      · have hfd : decide ((429496729 : Int) < (T : Int) * 10) = false := decide_eq_false hfl
        by_cases hie : i = l.length - 1
        · have hed : ((i : Int) == (l.length : Int) - 1) = true := by rw [beq_iff_eq]; omega
          have HIE := Lib.hid hie
          clear hie
          go_wp2_with (first
            | (go_at_call 178; (with_reducible refine (HH.out.2 _).mono ?_); rintro e w1 ⟨rfl, xb1⟩; obtain ⟨xc1, xf1, xl1, xz1⟩ := ext_use xb1; (try simp at xz1))
            | (go_at_call 179; (with_reducible refine (HH.out.1 _ xb1).mono ?_); rintro e w2 ⟨v2, n2, rfl, hR2, hn2, xb2⟩; obtain ⟨xc2, xf2, xl2, xz2⟩ := ext_use xb2; (try simp at xz2))
           )
          go_roundg (l.length - (i + 1))
          case rel => exact ⟨n2, dval (l.take (i + 1)), 1, 0, i + 1, rfl, by omega, rfl, rfl, by simp, by omega, fun _ => ⟨rfl, rfl⟩, ⟨0, by omega, rfl⟩, Lib.hid (by omega), hR2, Lib.hid xb2⟩
          case measure => omega
        · have hed : ((i : Int) == (l.length : Int) - 1) = false := by rw [beq_eq_false_iff_ne]; omega
          have hed' : ¬ (i : Int) = (l.length : Int) - 1 := by omega
          have hT7 : Hid (T ≤ 10000000) := Lib.hid (by rcases HQ8.out with h | h <;> omega)
          go_wp2_with (first
            | (go_at_call 178; (with_reducible refine (HH.out.2 _).mono ?_); rintro e w1 ⟨rfl, xb1⟩; obtain ⟨xc1, xf1, xl1, xz1⟩ := ext_use xb1; (try simp at xz1))
           )
          go_roundg (l.length - (i + 1))
          case rel =>
            have h7 := hT7.out
            refine ⟨n, x, T * 10, N * 10 + d, i + 1, rfl, by omega, by simp, by simp, by simp, by omega, fun h => by omega, ?_, Lib.hid hstep.out.symm, Lib.hid (own_ext hown.out xb1), Lib.hid (ext_trans hext.out xb1)⟩
            obtain ⟨q, hq1, hq2⟩ := hq.out
            refine ⟨q + 1, ?_, by rw [hq2, Nat.pow_succ]⟩
            rcases Nat.lt_or_ge q 8 with h | h
            · exact h
            · obtain rfl : q = 8 := by omega
              omega
          case measure => omega
    · obtain rfl : i = l.length := by omega
      obtain ⟨rfl, rfl⟩ := hend rfl
      obtain ⟨A, c, rfl, hR⟩ := Rd.own hown.out (lb_lim x)
      have hv : x = dval l := by have := hx.out; rw [List.take_length] at this; omega
      have HR : Hid (Rd wr A n c (lim (dval l)) ∧ Fr w A) := ⟨by rw [← hv]; exact hR, own_fr hown.out⟩
      have hcap := hR.cap
      have hmx := hR.mx
      clear hgo hv hR hend
      go_wp2
      refine bodyPost_ret (v := .tuple #[.slice A n c, .bool true]) ?h rfl ⟨A, n, c, rfl, HR, hext.out⟩
      case h => simp [results, Tryz.results116, go_sem]
end Go.Proofs.YtkhkoeibpkglkaaGreatDoor
end
section
/- Words of the library's: long texts of digits are read by halves. -/
namespace Go.Proofs.YtkhkoeibpkglkaaGreatDoor
open Go.RowKit
attribute [local go_sem] bs_size bs_extract bs_get bs_append bs_toList const_get
attribute [local go_sem] sz2 sz3 sz4 sz5 sz6 sz7 sz8
set_option maxHeartbeats 4000000
set_option maxRecDepth 100000
theorem read_halves {l : List UInt8} {k h : Nat} (hk : k + h = l.length) : dval (l.take k) * 10 ^ h + dval (l.drop k) = dval l := by
  conv => rhs; rw [← List.take_append_drop k l]
  rw [dval_append, List.length_drop]
  congr 3; omega
theorem dval_words {l : List UInt8} (hd : digsB l = true) (hl : l.length ≤ 70000) : (lim (dval l)).length ≤ 17500 := lim_fits (n := l.length) (Nat.le_of_lt (dval_lt l hd)) (by omega) (by decide)
theorem ten_words {h : Nat} (hl : h ≤ 70000) : (lim (10 ^ h)).length ≤ 17500 := lim_fits (n := h) (Nat.le_refl _) (by omega) (by decide)
attribute [local irreducible] Calls
theorem bw_read : ∀ (N : Nat) (l : List UInt8), l.length = N → N ≤ 70000 → digsB l = true → ∀ w, Calls Tryz.prog 116 #[.string (bs l), .int .i64 10] w (ReadPost w (dval l)) := by
  intro N
  induction N using Nat.strongRecOn with
  | _ N ih =>
    intro l hl hN hd w
    by_cases hs : l.length ≤ 300
    · exact read_small l hd hs w
    · obtain ⟨h, hh⟩ : ∃ h, h = l.length / 2 := ⟨_, rfl⟩
      obtain ⟨k, hk⟩ : ∃ k, k = l.length - h := ⟨_, rfl⟩
      have k1 : ∀ w', Calls Tryz.prog 116 #[.string (bs (l.take k)), .int .i64 10] w' (ReadPost w' (dval (l.take k))) := fun w' => ih k (by omega) _ (by rw [List.length_take]; omega) (by omega) (digs_take hd k) w'
      have k2 : ∀ w', Calls Tryz.prog 116 #[.string (bs (l.drop k)), .int .i64 10] w' (ReadPost w' (dval (l.drop k))) := fun w' => ih h (by omega) _ (by rw [List.length_drop]; omega) (by omega) (digs_drop hd k) w'
      have k3 : ∀ w', Calls Tryz.prog 177 #[.int .i64 10, .int .i64 (h : Int)] w' (WPost w' (10 ^ h)) := fun w' => bw_power 10 h (by decide) (by decide) (by omega) (Nat.le_trans (ten_words (by omega)) (by decide)) w'
      have b1 := dval_words (digs_take hd k) (by rw [List.length_take]; omega)
      have b2 := dval_words (digs_drop hd k) (by rw [List.length_drop]; omega)
      have b3 := ten_words (h := h) (by omega)
      have hv := read_halves (l := l) (k := k) (h := h) (by omega)
      have k4 : ∀ (A : Option Addr) (n c : Nat) (B : Option Addr) (m d : Nat) (w' : World), Rd w' A n c (lim (dval (l.take k))) → Rd w' B m d (lim (10 ^ h)) → Calls Tryz.prog 138 #[.slice A n c, .slice B m d] w' (WPost w' (dval (l.take k) * 10 ^ h)) := fun A n c B m d w' g1 g2 =>
        bw_mulA A B n c m d _ _ (by rw [← g1.len, ← g2.len]; omega) w' g1 g2
      have k5 : ∀ (A : Option Addr) (n c : Nat) (B : Option Addr) (m d : Nat) (w' : World), Rd w' A n c (lim (dval (l.take k) * 10 ^ h)) → Rd w' B m d (lim (dval (l.drop k))) → Calls Tryz.prog 176 #[.slice A n c, .slice B m d] w' (WPost w' (dval l)) := fun A n c B m d w' g1 g2 => by
        have g3 := lim_mul_len (dval (l.take k)) (10 ^ h)
        have := bw_add A B n c m d _ _ (by rw [← g1.len]; omega) (by rw [← g2.len]; omega) w' g1 g2
        rw [hv] at this
        exact this.mono fun e w'' ⟨A', k', c', q1, q2, q3⟩ => ⟨A', k', c', q1, ⟨q2.out.1, q2.out.2.1⟩, q3⟩
      have hkh : (l.length : Int) - (h : Int) = (k : Int) := by omega
      have hl2 : (l.length : Int) / 2 = (h : Int) := by omega
      have hbig : (300 : Int) < (l.length : Int) := by omega
      have hkl : k ≤ l.length := by omega
      have hlb : l.length ≤ 70000 := by omega
      have HK := Lib.hid (And.intro k1 (And.intro k2 (And.intro k3 (And.intro k4 k5))))
      have HHH := Lib.hid (And.intro hh hk)
      clear k1 k2 k3 k4 k5 b1 b2 b3 hv hh hk ih hl hN hd hs
      generalize dval (l.take k) = x at *
      generalize dval (l.drop k) = y at *
      generalize dval l = z at *
      generalize 10 ^ h = p at *
      go_enter Tryz.func116, Tryz.ntmps116
      go_wp2_with (first
        | (go_at_call 116; (with_reducible refine (HK.out.1 _).mono ?_); rintro e w1 ⟨A1, n1, c1, rfl, hR1, xb1⟩; obtain ⟨xc1, xf1, xl1, xz1⟩ := ext_use xb1; (try simp at xz1))
        | (go_at_call 116; (with_reducible refine (HK.out.2.1 _).mono ?_); rintro e w2 ⟨A2, n2, c2, rfl, hR2, xb2⟩; obtain ⟨xc2, xf2, xl2, xz2⟩ := ext_use xb2; (try simp at xz2))
        | (go_at_call 177; (with_reducible refine (HK.out.2.2.1 _).mono ?_); rintro e w3 ⟨A3, n3, c3, rfl, hR3, xb3⟩; obtain ⟨xc3, xf3, xl3, xz3⟩ := ext_use xb3; (try simp at xz3))
        | (go_at_call 138; (with_reducible refine (HK.out.2.2.2.1 _ _ _ _ _ _ _ (hR1.out.1.ext (ext_trans xb2 xb3)) hR3.out.1).mono ?_); rintro e w4 ⟨A4, n4, c4, rfl, hR4, xb4⟩; obtain ⟨xc4, xf4, xl4, xz4⟩ := ext_use xb4; (try simp at xz4))
        | (go_at_call 176; (with_reducible refine (HK.out.2.2.2.2 _ _ _ _ _ _ _ hR4.out.1 (hR2.out.1.ext (ext_trans xb3 xb4))).mono ?_); rintro e w5 ⟨A5, n5, c5, rfl, hR5, xb5⟩; obtain ⟨xc5, xf5, xl5, xz5⟩ := ext_use xb5; (try simp at xz5))
       )
      refine bodyPost_ret (v := .tuple #[.slice A5 n5 c5, .bool true]) ?h rfl ⟨A5, n5, c5, rfl, ⟨hR5.out.1, hR5.out.2.mono (ext_trans xb1 (ext_trans xb2 (ext_trans xb3 xb4)))⟩, ext_trans xb1 (ext_trans xb2 (ext_trans xb3 (ext_trans xb4 xb5)))⟩
      case h => simp [results, Tryz.results116, go_sem]
end Go.Proofs.YtkhkoeibpkglkaaGreatDoor
end
section
/- Whole numbers of the library's: out of texts. -/
namespace Go.Proofs.YtkhkoeibpkglkaaGreatDoor
open Go.RowKit
attribute [local go_sem] bs_size bs_extract bs_get bs_append bs_toList const_get
attribute [local go_sem] sz2 sz3 sz4 sz5 sz6 sz7 sz8
set_option maxHeartbeats 4000000
set_option maxRecDepth 100000
attribute [local irreducible] Calls
abbrev StrPost (w : World) (b : Nat) (z : Int) : Ending → World → Prop := fun e w' => e = .returned (.tuple #[.pointer (some ⟨b, 0, none⟩), .bool true]) ∧ ∃ (A : Option Addr) (n c : Nat), Hid (IntIs w' b 0 z A n c ∧ Fr w A) ∧ Tch b w w'
theorem bi_SetString_pos (b : Nat) (l : List UInt8) (hd : digsB l = true) (h0 : 0 < l.length) (hl : l.length ≤ 70000) (w : World) (hr : Room w b 0) :
    Calls Tryz.prog 61 #[.pointer (some ⟨b, 0, none⟩), .string (bs l), .int .i64 10] w (StrPost w b (dval l)) := by
  have HR := Lib.hid hr
  have hlt := hr.lt
  obtain ⟨hb1, hb2⟩ := digs_at hd 0 h0
  have kR : ∀ w', Calls Tryz.prog 116 #[.string (bs l), .int .i64 10] w' (ReadPost w' (dval l)) := fun w' => bw_read l.length l rfl hl hd w'
  have hsg : Hid (sgn false (dval l) = (dval l : Int)) := Lib.hid rfl
  have hne : l.length ≠ 0 := by omega
  have c1 : ((l[0].toNat : Int) == 45) = false := by rw [beq_eq_false_iff_ne]; omega
  have c2 : ((l[0].toNat : Int) == 43) = false := by rw [beq_eq_false_iff_ne]; omega
  have c3 : ¬ (l[0].toNat : Int) = 45 := by omega
  have c4 : ¬ (l[0].toNat : Int) = 43 := by omega
  clear hr hd
  generalize dval l = v at *
  go_enter Tryz.func61, Tryz.ntmps61
  go_wp2_with (first
    | (go_at_call 116; (with_reducible refine (kR _).mono ?_); rintro e w1 ⟨A1, k1, c1, rfl, hR1, xb1⟩; obtain ⟨xc1, xf1, xl1, xz1⟩ := ext_use xb1; (try simp at xz1))
    | (go_at_call 117; (with_reducible refine (bi_set b 0 false A1 k1 c1 v _ (HR.out.ext xb1) hR1.out.1 (hR1.out.2.off hlt k1)).mono ?_); rintro e w3 ⟨rfl, hI3, xt3⟩)
   )
  refine bodyPost_ret (v := .tuple #[.pointer (some ⟨b, 0, none⟩), .bool true]) ?h rfl ⟨rfl, A1, k1, c1, ⟨by have := hI3.out; rwa [hsg.out] at this, hR1.out.2⟩, (Tch.of xb1).trans xt3⟩
  case h => simp [results, Tryz.results61, go_sem]
theorem bi_SetString_neg (b : Nat) (l : List UInt8) (hd : digsB l = true) (h0 : 0 < l.length) (hl : l.length ≤ 70000) (w : World) (hr : Room w b 0) :
    Calls Tryz.prog 61 #[.pointer (some ⟨b, 0, none⟩), .string (bs (45 :: l)), .int .i64 10] w (StrPost w b (sgn true (dval l))) := by
  have HR := Lib.hid hr
  have hlt := hr.lt
  have kR : ∀ w', Calls Tryz.prog 116 #[.string (bs l), .int .i64 10] w' (ReadPost w' (dval l)) := fun w' => bw_read l.length l rfl hl hd w'
  have hne : l.length ≠ 0 := by omega
  clear hr hd
  generalize dval l = v at *
  go_enter Tryz.func61, Tryz.ntmps61
  go_wp2_with (first
    | (go_at_call 116; (with_reducible refine (kR _).mono ?_); rintro e w1 ⟨A1, k1, c1, rfl, hR1, xb1⟩; obtain ⟨xc1, xf1, xl1, xz1⟩ := ext_use xb1; (try simp at xz1))
    | (go_at_call 117; (with_reducible refine (bi_set b 0 true A1 k1 c1 v _ (HR.out.ext xb1) hR1.out.1 (hR1.out.2.off hlt k1)).mono ?_); rintro e w3 ⟨rfl, hI3, xt3⟩)
   )
  refine bodyPost_ret (v := .tuple #[.pointer (some ⟨b, 0, none⟩), .bool true]) ?h rfl ⟨rfl, A1, k1, c1, ⟨hI3.out, hR1.out.2⟩, (Tch.of xb1).trans xt3⟩
  case h => simp [results, Tryz.results61, go_sem]
end Go.Proofs.YtkhkoeibpkglkaaGreatDoor
end
section
/- Whole numbers of the library's: to the power of nought. -/
namespace Go.Proofs.YtkhkoeibpkglkaaGreatDoor
open Go.RowKit
attribute [local go_sem] sz2 sz3 sz4 sz5 sz6 sz7 sz8
set_option maxHeartbeats 4000000
set_option maxRecDepth 100000
attribute [local irreducible] Calls
theorem bi_Exp0 (b bx b2 : Nat) (B : Nat) (A : Option Addr) (n c : Nat) (D : Option Addr) (m d : Nat) (hn : n ≤ 1000000) (w : World) (hr : Room w b 0) (hx : IntIs w bx 0 (B : Int) A n c) (hy : IntIs w b2 0 ((0 : Nat) : Int) D m d) :
    Calls Tryz.prog 77 #[.pointer (some ⟨b, 0, none⟩), .pointer (some ⟨bx, 0, none⟩), .pointer (some ⟨b2, 0, none⟩), .pointer none] w (IPost w b 0 1) := by
  have HX := Lib.hid hx
  have HY := Lib.hid hy
  have HR := Lib.hid hr
  have ly := hy.room.lt
  have kS : Hid (∀ w', Ext w w' → Calls Tryz.prog 63 #[.pointer (some ⟨b2, 0, none⟩)] w' fun e w'' => e = .returned (.int .i64 0) ∧ Ext w' w'') := Lib.hid fun w' he => bi_Sign b2 0 ((0 : Nat) : Int) D m d w' (HY.out.ext he)
  clear hx hy hr
  go_enter Tryz.func77, Tryz.ntmps77
  go_upto_region 7 with (first
    | (go_at_call 78; (with_reducible refine (bi_NewInt 1 (by decide) (by decide) _).mono ?_); rintro e w1 ⟨p1, P1, k1, l1, rfl, hI1, hp1, xb1⟩)
    | (go_at_call 118; (with_reducible refine (bi_Set w1.heap.size 0 bx 0 A n c (B : Int) hn _ (int_room w1) ((HX.out.ext (ext_trans (ext_alloc (ext_refl _) _) xb1)).ext (ext_alloc (ext_refl _) _))).mono ?_); rintro e w2 ⟨rfl, A2, n2, c2, hI2, xt2⟩)
   )
  have hE1 : Ext w w1 := ext_trans (ext_alloc (ext_refl _) _) xb1
  have hE2 : Hid (Ext w w2) := Lib.hid (xt2.ext (ext_alloc hE1 _) hE1.size)
  have hz1 : w.heap.size < w1.heap.size := by have := xb1.size; simp at this; omega
  have hp1' : w.heap.size + 1 ≤ p1 := by simpa using hp1
  have hlp1 : p1 < w1.heap.size := hI1.out.1.room.lt
  have hz2 : w1.heap.size + 1 ≤ w2.heap.size := by have := xt2.size; simpa using this
  have HI1 : Hid (IntIs w2 p1 0 1 P1 k1 l1) := Lib.hid ((hI1.out.1.ext (ext_alloc (ext_refl _) _)).tch xt2 (by omega) (hI1.out.1.rd.off (Nat.le_refl _)))
  have hby : w2.cell? ⟨w.heap.size, 1, none⟩ = some (.slice none 0 0) := by
    rw [xt2.cell (by simp; omega) (by simp; omega)]
    rw [(Below.cell (p := ⟨w.heap.size, 1, none⟩) (ext_alloc (ext_refl w1) _) (by simp; omega))]
    rw [(Below.cell (p := ⟨w.heap.size, 1, none⟩) xb1 (by simp))]
    rw [World.cell?_alloc_at _ _ _ _ rfl]; rfl
  have hk1 : k1 ≤ 1000000 := by
    have := HI1.out.rd.len
    have e : (lim (1 : Int).natAbs).length = 1 := by kernel_rfl
    omega
  have lw2 : w.heap.size < w2.heap.size := by omega
  clear hI1 hI2 xt2 xb1 hp1 hE1
  go_wp2_with (first
    | (go_at_call 63; (with_reducible refine (kS.out _ hE2.out).mono ?_); rintro e w3 ⟨rfl, xb3⟩; have hby := (Below.cell (p := ⟨w.heap.size, 1, none⟩) xb3 lw2).trans hby; have lw3 := ext_lt xb3 _ lw2)
    | (go_at_call 118; (with_reducible refine (bi_Set b 0 p1 0 P1 k1 l1 1 hk1 _ (HR.out.ext (ext_trans hE2.out xb3)) (HI1.out.ext xb3)).mono ?_); rintro e w4 ⟨rfl, A4, n4, c4, hI4, xt4⟩))
  refine bodyPost_ret (v := .pointer (some ⟨b, 0, none⟩)) ?h rfl ⟨rfl, A4, n4, c4, ⟨hI4.out.1, hI4.out.2.mono (ext_trans hE2.out xb3)⟩, (Tch.of (ext_trans hE2.out xb3)).trans xt4⟩
  case h => simp [results, Tryz.results77, go_sem]
end Go.Proofs.YtkhkoeibpkglkaaGreatDoor
end
