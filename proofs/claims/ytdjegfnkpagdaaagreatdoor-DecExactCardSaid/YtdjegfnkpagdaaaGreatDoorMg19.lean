/- Lemmas of this proof, laid together: BigJ. -/
import Derived.Test.YtdjegfnkpagdaaaGreatDoorMg12
import Derived.Test.YtdjegfnkpagdaaaGreatDoorMg01
import Derived.Deep.DeepCutAuto
import Derived.Deep.RegionWith
import Derived.Deep.LoopGhost
set_option linter.unusedSimpArgs false
set_option linter.unusedVariables false
section
/- Words of the library's: one figure of a quotient. -/
namespace Go.Proofs.YtdjegfnkpagdaaaGreatDoor
open Go.RowKit
attribute [local go_sem] sz2 sz3 sz4 sz5 sz6 sz7 sz8
set_option maxHeartbeats 4000000
set_option maxRecDepth 100000
attribute [local irreducible] Calls
/-- A part of a row of the call's own, read. -/
theorem own_seg {w : World} {base g N : Nat} {os : List Nat} (h : Hid (w.ownsRow base 60 1 (.slice (some ⟨g, 0, none⟩) N N) N (os.map u32V))) (j p : Nat) (hp : j + p < N) : w.cell? ⟨g, j + p, none⟩ = some (.int .u32 ((os.getD (j + p) 0 : Nat) : Int)) ∧ w.frozen? ⟨g, j + p, none⟩ = false :=
  own_at h.out (j + p) hp
theorem ext_only {w w' : World} (h : Ext w w') (r : Option Nat) : w.grownBy w' r := ⟨h.os, h.tape, h.output, Below.size h, fun k hk _ => Below.block h k hk⟩
theorem and_low (a : Nat) (ha : a < 18446744073709551616) : bits BinOp.and IntKind.u64 (a : Int) 4294967295 = ((a % 4294967296 : Nat) : Int) := by
  have h1 : (BitVec.ofInt 64 (a : Int)).toNat = a := by
    rw [BitVec.ofInt_natCast, BitVec.toNat_ofNat]; exact Nat.mod_eq_of_lt (by omega)
  have h2 : (BitVec.ofInt 64 (4294967295 : Int)).toNat = 2 ^ 32 - 1 := by decide
  show IntKind.u64.wrap ((BitVec.ofInt 64 (a : Int) &&& BitVec.ofInt 64 (4294967295 : Int)).toNat : Int) = _
  rw [BitVec.toNat_and, h1, h2, Nat.and_two_pow_sub_one_eq_mod, IntKind.wrap_u64]
  omega
theorem borrow_u64 {x l bo : Nat} (hx : x < 4294967296) (hl : l < 4294967296) (hb : bo ≤ 1) :
    IntKind.u64.wrap (IntKind.u64.wrap ((x : Int) - (l : Int)) - (bo : Int)) % 4294967296 = (((x + 8589934592 - l - bo) % 4294967296 : Nat) : Int) ∧
    IntKind.u64.wrap (IntKind.u64.wrap ((x : Int) - (l : Int)) - (bo : Int)) / 9223372036854775808 = ((if x < l + bo then 1 else 0 : Nat) : Int) := by
  simp only [IntKind.wrap_u64]
  refine ⟨by omega, ?_⟩
  split <;> omega
theorem bw_figure (base g N j n cu : Nat) (os0 : List Nat) (B : Option Addr) (d V : Nat) (w : World) (hown : Hid (w.ownsRow base 60 1 (.slice (some ⟨g, 0, none⟩) N N) N (os0.map u32V))) (hlb : Lb os0) (hB : Rd w B n d (lim V)) (hap : ∀ a, B = some a → a.block ≠ g)
    (hn2 : 2 ≤ n) (hjn : j + n + 1 ≤ N) (hN : N ≤ 1000000) (hcu : n + 1 ≤ cu) (hcu2 : cu ≤ 9223372036854775807) (htop : 2147483648 ≤ (lim V).getD (n - 1) 0) (hW : seg os0 j (n + 1) < Bs * V) :
    Calls Tryz.prog 152 #[.slice (some ⟨g, j, none⟩) (n + 1) cu, .slice B n d] w fun e w' => ∃ os' : List Nat, e = .returned (.int .u32 ((seg os0 j (n + 1) / V : Nat) : Int)) ∧ Hid (w'.ownsRow base 60 1 (.slice (some ⟨g, 0, none⟩) N N) N (os'.map u32V)) ∧
      Hid (Lb os' ∧ seg os' j (n + 1) = seg os0 j (n + 1) % V ∧ ∀ p, p < j ∨ j + n + 1 ≤ p → os'.getD p 0 = os0.getD p 0) ∧ Hid (w.grownBy w' (some g)) := by
  have hmy := hB.mx
  have hcy := hB.cap
  have hgl : g < w.heap.size := (hown.out.lt g rfl).2
  have hol : os0.length = N := by have := hown.out.1; simpa using this
  obtain ⟨bv, ov, hBe⟩ : ∃ b off, B = some ⟨b, off, none⟩ := by
    rcases hB.shape with ⟨_, h, _⟩ | h
    · omega
    · exact h
  subst hBe
  have hbg : bv ≠ g := hap _ rfl
  have HB := Lib.hid hB
  have hly := Lib.hid hB.len
  have hap' : Hid (∀ a, some (⟨bv, ov, none⟩ : Addr) = some a → a.block ≠ g) := hap
  have HOL := Lib.hid (show os0.length = N ∧ Lb os0 from ⟨hol, hlb⟩)
  -- the highest words
  obtain ⟨top, ht, htb, hct⟩ := HB.out.get (n - 1) (by omega)
  obtain ⟨x2, hx2, hx2b, hcx2⟩ := HB.out.get (n - 2) (by omega)
  obtain ⟨un, hun⟩ : ∃ un, un = os0.getD (j + n) 0 := ⟨_, rfl⟩
  obtain ⟨u1, hu1⟩ : ∃ u1, u1 = os0.getD (j + (n - 1)) 0 := ⟨_, rfl⟩
  obtain ⟨u2, hu2⟩ : ∃ u2, u2 = os0.getD (j + (n - 2)) 0 := ⟨_, rfl⟩
  have hunb : un < 4294967296 := by rw [hun]; exact lb_getD hlb _
  have hu1b : u1 < 4294967296 := by rw [hu1]; exact lb_getD hlb _
  have hu2b : u2 < 4294967296 := by rw [hu2]; exact lb_getD hlb _
  obtain ⟨cn, fn⟩ := own_seg hown j n (by omega)
  obtain ⟨c1, f1⟩ := own_seg hown j (n - 1) (by omega)
  obtain ⟨c2, f2⟩ := own_seg hown j (n - 2) (by omega)
  rw [← hun] at cn
  rw [← hu1] at c1
  rw [← hu2] at c2
  rw [ht.out] at htop
  obtain ⟨W, hWW⟩ : ∃ W, W = seg os0 j (n + 1) := ⟨_, rfl⟩
  rw [← hWW] at hW ⊢
  -- the three highest of the one, the two highest of the other
  obtain ⟨Bn, hBn⟩ : ∃ Bn, Bn = Bs ^ (n - 2) := ⟨_, rfl⟩
  have hBp : 0 < Bn := by rw [hBn]; exact Nat.pow_pos (by decide)
  obtain ⟨Wr, hWr, hWe⟩ : ∃ Wr, Wr < Bn ∧ W = Wr + Bn * (u2 + 4294967296 * (u1 + 4294967296 * un)) := by
    refine ⟨seg os0 j (n - 2), by rw [hBn]; exact seg_lt hlb _ _, ?_⟩
    have e1 : seg os0 j (n + 1) = seg os0 j (n - 2) + Bs ^ (n - 2) * seg os0 (j + (n - 2)) 3 := by rw [← seg_split]; congr 1; omega
    have e2 : seg os0 (j + (n - 2)) 3 = u2 + 4294967296 * (u1 + 4294967296 * un) := by
      rw [show 3 = 0 + 1 + 1 + 1 by rfl, seg_succ, seg_succ, seg_succ, seg_zero, hu2, hu1, hun, show j + (n - 2) + 0 = j + (n - 2) by omega, show j + (n - 2) + (0 + 1) = j + (n - 1) by omega, show j + (n - 2) + (0 + 1 + 1) = j + n by omega]
      simp [Bs]; omega
    rw [hWW, e1, e2, hBn]
  obtain ⟨Vr, hVr, hVe⟩ : ∃ Vr, Vr < Bn ∧ V = Vr + Bn * (x2 + 4294967296 * top) := by
    have hl : (lim V).length = n := hB.len
    refine ⟨seg (lim V) 0 (n - 2), by rw [hBn]; exact seg_lt (lb_lim V) _ _, ?_⟩
    have e0 : V = seg (lim V) 0 n := by rw [seg_val _ hl, val_lim]
    have e1 : seg (lim V) 0 n = seg (lim V) 0 (n - 2) + Bs ^ (n - 2) * seg (lim V) (0 + (n - 2)) 2 := by rw [← seg_split]; congr 1; omega
    have e2 : seg (lim V) (0 + (n - 2)) 2 = x2 + 4294967296 * top := by
      rw [show 2 = 0 + 1 + 1 by rfl, seg_succ, seg_succ, seg_zero, show 0 + (n - 2) + 0 = n - 2 by omega, show 0 + (n - 2) + (0 + 1) = n - 1 by omega, hx2.out, ht.out]
      simp [Bs]
    rw [hBn, ← e2, ← e1, ← e0]
  have hV0 : 0 < V := by
    have : Bn * 1 ≤ Bn * (x2 + 4294967296 * top) := Nat.mul_le_mul_left _ (by omega)
    omega
  -- the quotient is a word
  obtain ⟨q, hq⟩ : ∃ q, q = W / V := ⟨_, rfl⟩
  have hqB : q < 4294967296 := by rw [hq, Nat.div_lt_iff_lt_mul hV0]; exact hW
  have hunt : un ≤ top := by
    rcases Nat.lt_or_ge top un with h | h
    · exfalso
      have h1 : Bn * (4294967296 * (4294967296 * un)) ≤ W := by rw [hWe]; have := Nat.mul_le_mul_left Bn (show 4294967296 * (4294967296 * un) ≤ u2 + 4294967296 * (u1 + 4294967296 * un) by omega); omega
      have h2 : V < Bn * (4294967296 * (top + 1)) := by
        have h3 := Nat.mul_le_mul_left Bn (show x2 + 4294967296 * top + 1 ≤ 4294967296 * (top + 1) by omega)
        rw [Nat.mul_succ] at h3; omega
      have h4 : Bn * (4294967296 * (top + 1)) ≤ Bn * (4294967296 * un) := Nat.mul_le_mul_left _ (by omega)
      have h5 : Bn * (4294967296 * (4294967296 * un)) = 4294967296 * (Bn * (4294967296 * un)) := by rw [← Nat.mul_assoc, Nat.mul_comm Bn, Nat.mul_assoc]
      have h6 : Bs * V = 4294967296 * V := rfl
      omega
    · exact h
  obtain ⟨num, hnum⟩ : ∃ num, num = un * 4294967296 + u1 := ⟨_, rfl⟩
  have hor : Hid (bits BinOp.or IntKind.u64 ((un : Int) * 4294967296) (u1 : Int) = (num : Int)) := by rw [hnum]; exact or_shift un u1 hunb hu1b
  have hnb : num < 18446744073709551616 := by omega
  have htop0 : ((top : Int) == 0) = false := by rw [beq_eq_false_iff_ne]; omega
  -- what a guess means
  have hlow : ∀ gu rest, num = gu * top + rest → rest * 4294967296 + u2 < gu * x2 → q < gu := fun gu rest h1 h2 => by
    rw [hq]
    refine knuth_lt (V' := top * 4294967296 + x2) (W' := num * 4294967296 + u2) (B := Bn) ?_ ?_ ((guess_iff h1).2 h2) hV0
    · rw [hVe, Nat.mul_comm _ Bn, show top * 4294967296 + x2 = x2 + 4294967296 * top by omega]; omega
    · rw [hWe, Nat.mul_comm _ Bn, hnum, Nat.mul_add Bn (_ + u2) 1, show (un * 4294967296 + u1) * 4294967296 + u2 = u2 + 4294967296 * (u1 + 4294967296 * un) by omega]; omega
  have hhigh : ∀ gu rest, num = gu * top + rest → gu < 4294967296 → gu * x2 ≤ rest * 4294967296 + u2 → gu ≤ q + 1 := fun gu rest h1 h2 h3 => by
    rw [hq]
    refine knuth_ge (V' := top * 4294967296 + x2) (W' := num * 4294967296 + u2) (B := Bn) ?_ ?_ (Nat.le_of_not_lt fun h4 => ?_) (by omega) hV0
    · rw [hVe, Nat.add_mul, Nat.one_mul, Nat.mul_comm _ Bn, show top * 4294967296 + x2 = x2 + 4294967296 * top by omega]; omega
    · rw [hWe, Nat.mul_comm _ Bn, hnum, show (un * 4294967296 + u1) * 4294967296 + u2 = u2 + 4294967296 * (u1 + 4294967296 * un) by omega]; omega
    · have := (guess_iff h1).1 h4; omega
  have HLOW := Lib.hid hlow
  have HHIGH := Lib.hid hhigh
  have HQ := Lib.hid (show q = W / V ∧ q < 4294967296 from ⟨hq, hqB⟩)
  have HWW := Lib.hid hWW
  have HUN := Lib.hid hun
  have HNB := Lib.hid (show num < 18446744073709551616 ∧ num < top * 4294967296 + 4294967296 from ⟨hnb, by omega⟩)
  have HV0 := Lib.hid hV0
  have HVT := Lib.hid (show V < Bs ^ n from by have := lim_lt V; rwa [hly.out] at this)
  have hgd : Hid (num = num / top * top + num % top) := by show _ = _; have := Nat.div_add_mod num top; rw [Nat.mul_comm] at this; exact this.symm
  have hgq : Hid (q ≤ num / top) := by
    show _ ≤ _
    refine Nat.le_of_lt_add_one ?_
    rw [hq, Nat.div_lt_iff_lt_mul hV0, hWe, hVe]
    have h1 : Bn * (u2 + 4294967296 * (u1 + 4294967296 * un)) + Bn ≤ (num / top + 1) * (Bn * (4294967296 * top)) := by
      have h2 : num < (num / top + 1) * top := by have := Nat.lt_div_mul_add (a := num) (b := top) (by omega); rw [Nat.add_mul, Nat.one_mul]; exact this
      have h3 : u2 + 4294967296 * (u1 + 4294967296 * un) + 1 ≤ 4294967296 * ((num / top + 1) * top) := by omega
      have h4 := Nat.mul_le_mul_left Bn h3
      rw [Nat.mul_succ] at h4
      have h5 : Bn * (4294967296 * ((num / top + 1) * top)) = (num / top + 1) * (Bn * (4294967296 * top)) := by
        rw [Nat.mul_left_comm (num / top + 1), Nat.mul_left_comm (num / top + 1)]
      omega
    have h6 : (num / top + 1) * (Bn * (4294967296 * top)) ≤ (num / top + 1) * (Vr + Bn * (x2 + 4294967296 * top)) := Nat.mul_le_mul_left _ (by rw [Nat.mul_add]; omega)
    omega
  have hdi : ((num : Int) / (top : Int)) = ((num / top : Nat) : Int) := by simp
  have hmi : ((num : Int) % (top : Int)) = ((num % top : Nat) : Int) := by simp
  have hd64 : num / top < 18446744073709551616 := Nat.lt_of_le_of_lt (Nat.div_le_self _ _) hnb
  have hm64 : num % top < 4294967296 := Nat.lt_of_lt_of_le (Nat.mod_lt _ (by omega)) (by omega)
  obtain ⟨G0, hG0⟩ : ∃ G0, G0 = num / top := ⟨_, rfl⟩
  obtain ⟨R0, hR0⟩ : ∃ R0, R0 = num % top := ⟨_, rfl⟩
  rw [← hG0] at hdi hd64 hgd hgq
  rw [← hR0] at hmi hm64 hgd
  have hor' := hor.out
  clear hlow hhigh hq hqB hWW hun hu1 hu2 hnb hV0 hWe hVe hWr hVr hBn hBp hnum hG0 hR0 hW hor hB hap hol hlb
  have HU2 := Lib.hid hu2b
  go_enter Tryz.func152, Tryz.ntmps152
  have hbvl : bv < w.heap.size := (HB.out.cells bv ov rfl 0 (by rw [hly.out]; omega)).1
  go_wp2
  go_quiet (fail)
  have hNQ := Lib.hid (show Ext w (w.drewN nq) from ext_drewN (ext_refl _) _)
  go_upto_region 5 with (fail)
  go_cut [8, 9] (fun vg vr wx => vg = .int .u64 (G0 : Int) ∧ vr = .int .u64 (R0 : Int) ∧ Hid (Ext w wx))
  case first =>
    go_wp2
    go_meet
    case rel => exact ⟨by first | rfl | rw [hdi], by first | rfl | rw [hmi], hNQ⟩
  case rest =>
    obtain ⟨rfl, rfl, hNQ⟩ := hcut
    rename ∀ (a : Act) (w : World), Code.wp _ _ _ a w → _ => hK5
    refine hK5 _ _ ?_
    clear hK5 hdi hmi hor' htop0
    refine wp_seq_k (fun K10 hK10 => ?_)
    go_cut [8] (fun vg wx => ∃ gu : Nat, vg = .int .u64 (gu : Int) ∧ gu < 4294967296 ∧ Hid (gu = q ∨ gu = q + 1) ∧ Hid (Ext w wx))
    case first =>
      go_wp2
      go_loopg [8, 9] G0 (fun gk vg vr wr => ∃ gu rest : Nat, gk = gu ∧ vg = .int .u64 (gu : Int) ∧ vr = .int .u64 (rest : Int) ∧ Hid (rest < 4294967296 ∧ gu < 18446744073709551616) ∧ Hid (num = gu * top + rest) ∧ Hid (q ≤ gu) ∧ Hid (Ext w wr))
      case atStart => exact ⟨G0, R0, rfl, rfl, rfl, ⟨hm64, hd64⟩, hgd, hgq, hNQ⟩
      case round =>
        obtain ⟨gu, rest, hgk, rfl, rfl, hbd, hnum, hqg, hext⟩ := hrel
        have HGK := Lib.hid hgk
        clear hgk
        obtain ⟨hr, hg64⟩ := hbd.out
        obtain ⟨xc, xf, -, -⟩ := ext_use hext.out
        have k2 := (xc g (j + (n - 2)) hgl).trans c2
        have kx := (xc bv (ov + (n - 2)) hbvl).trans hcx2
        clear xc xf
        have hdec : q < gu → Hid (num = (gu - 1) * top + (rest + top)) ∧ Hid (q ≤ gu - 1) := fun h => by
          refine ⟨?_, ?_⟩
          · show _ = _
            obtain ⟨g', rfl⟩ : ∃ g', gu = g' + 1 := ⟨gu - 1, by omega⟩
            have := hnum.out
            rw [Nat.add_mul, Nat.one_mul] at this
            simp; omega
          · show _ ≤ _; omega
        have hbrk : ∀ gu' rest', num = gu' * top + rest' → q ≤ gu' → 4294967296 ≤ rest' → gu' < 4294967296 ∧ Hid (gu' = q ∨ gu' = q + 1) := fun gu' rest' e1 e2 e3 => by
          have e4 : gu' < 4294967296 := by
            refine Nat.lt_of_not_le fun h => ?_
            have e5 : 4294967296 * top ≤ gu' * top := Nat.mul_le_mul_right _ h
            have := HNB.out.2
            omega
          refine ⟨e4, ?_⟩
          have e6 : gu' * x2 ≤ 4294967295 * 4294967295 := Nat.mul_le_mul (by omega) (by omega)
          have := HHIGH.out gu' rest' e1 e4 (by omega)
          show _ ∨ _
          omega
        have HBRK := Lib.hid hbrk
        have HDEC := Lib.hid hdec
        clear hbrk hdec
        by_cases h1 : 4294967296 ≤ gu
        · have hgt : q < gu := by have := HQ.out.2; omega
          obtain ⟨hd1, hd2⟩ := HDEC.out hgt
          have hg1 : 1 ≤ gu := by omega
          have h1' : (4294967296 : Int) ≤ gu := by omega
          clear hgt h1
          go_wp2
          go_quiet (fail)
          have hE := hext.out
          go_upto_region 9 with (fail)
          obtain ⟨gu2, hgu2⟩ : ∃ gu2, gu2 = gu - 1 := ⟨_, rfl⟩
          obtain ⟨r2, hr2⟩ : ∃ r2, r2 = rest + top := ⟨_, rfl⟩
          have e9 : (gu : Int) - 1 = (gu2 : Int) := by omega
          have e10 : (rest : Int) + top = (r2 : Int) := by omega
          rw [← hgu2, ← hr2] at hd1
          rw [← hgu2] at hd2
          have hg2 : gu2 < 18446744073709551616 ∧ gu2 < gu := by omega
          have hr2b : r2 < 8589934592 := by omega
          simp only [e9, e10]
          have HG2 := Lib.hid hg2
          clear e9 e10 hgu2 hr2 hg2 hg1 h1'
          by_cases h3 : 4294967296 ≤ r2
          · have h3' : (4294967296 : Int) ≤ (r2 : Int) := by omega
            obtain ⟨b1, b2⟩ := HBRK.out gu2 r2 hd1.out hd2.out h3
            clear h3
            go_wp2
            go_meet
            case rel => exact ⟨gu2, rfl, b1, b2, ext_drewN hE _⟩
          · have h3' : decide ((4294967296 : Int) ≤ (r2 : Int)) = false := decide_eq_false (by omega)
            have H4 := Lib.hid (show r2 < 4294967296 by omega)
            clear h3 hr2b HBRK HDEC
            go_wp2
            go_roundg gu2
            case measure => rw [HGK.out]; exact HG2.out.2
            case rel => exact ⟨gu2, r2, rfl, rfl, rfl, ⟨H4.out, HG2.out.1⟩, hd1, hd2, ext_drewN hE _⟩
        · obtain ⟨p, hp⟩ : ∃ p, p = gu * x2 := ⟨_, rfl⟩
          have hpb : p ≤ 18446744065119617025 := by rw [hp]; exact Nat.mul_le_mul (show gu ≤ 4294967295 by omega) (show x2 ≤ 4294967295 by omega)
          have hpi : (gu : Int) * (x2 : Int) = (p : Int) := by rw [hp]; exact (Int.natCast_mul _ _).symm
          have h1b : decide ((4294967296 : Int) ≤ (gu : Int)) = false := decide_eq_false (by omega)
          have H1 := Lib.hid (show gu < 4294967296 by omega)
          have hor2 := or_shift rest u2 hr hu2b
          obtain ⟨y, hy⟩ : ∃ y, y = rest * 4294967296 + u2 := ⟨_, rfl⟩
          rw [← hy] at hor2
          have HP := Lib.hid hp
          have HY := Lib.hid hy
          have HR := Lib.hid hr
          clear h1 hp hy
          by_cases h2 : y < p
          · have h2' : (y : Int) < (p : Int) := by omega
            have hgt : q < gu := HLOW.out gu rest hnum.out (by rw [← HY.out, ← HP.out]; exact h2)
            obtain ⟨hd1, hd2⟩ := HDEC.out hgt
            have hg1 : 1 ≤ gu := by omega
            have HG1 := Lib.hid hgt
            clear hgt h2
            go_wp2
            go_quiet (fail)
            have hE := hext.out
            go_upto_region 9 with (fail)
            obtain ⟨gu2, hgu2⟩ : ∃ gu2, gu2 = gu - 1 := ⟨_, rfl⟩
            obtain ⟨r2, hr2⟩ : ∃ r2, r2 = rest + top := ⟨_, rfl⟩
            have e9 : (gu : Int) - 1 = (gu2 : Int) := by omega
            have e10 : (rest : Int) + top = (r2 : Int) := by omega
            rw [← hgu2, ← hr2] at hd1
            rw [← hgu2] at hd2
            have hg2 : gu2 < 18446744073709551616 ∧ gu2 < gu := by omega
            have hr2b : r2 < 8589934592 := by omega
            simp only [e9, e10]
            have HG2 := Lib.hid hg2
            clear e9 e10 hgu2 hr2 hg2 hg1
            by_cases h3 : 4294967296 ≤ r2
            · have h3' : (4294967296 : Int) ≤ (r2 : Int) := by omega
              obtain ⟨b1, b2⟩ := HBRK.out gu2 r2 hd1.out hd2.out h3
              clear h3
              go_wp2
              go_meet
              case rel => exact ⟨gu2, rfl, b1, b2, ext_drewN hE _⟩
            · have h3' : decide ((4294967296 : Int) ≤ (r2 : Int)) = false := decide_eq_false (by omega)
              have H4 := Lib.hid (show r2 < 4294967296 by omega)
              clear h3 hr2b HBRK HDEC
              go_wp2
              go_roundg gu2
              case measure => rw [HGK.out]; exact HG2.out.2
              case rel => exact ⟨gu2, r2, rfl, rfl, rfl, ⟨H4.out, HG2.out.1⟩, hd1, hd2, ext_drewN hE _⟩
          · have h2' : (p : Int) ≤ (y : Int) := by omega
            have hle := HHIGH.out gu rest hnum.out H1.out (by rw [← HY.out, ← HP.out]; omega)
            have hfin : Hid (gu = q ∨ gu = q + 1) := by show _ ∨ _; have := hqg.out; omega
            have hE := hext.out
            clear h2 hle
            go_wp2
            go_quiet (fail)
            go_wp2
            go_meet
            case rel => exact ⟨gu, rfl, H1.out, hfin, ext_drewN hE _⟩
    case rest =>
      obtain ⟨gu, rfl, hgb, hgu, hext0⟩ := hcut
      have HGB := Lib.hid hgb
      have hown0 := Lib.hid (own_ext hown.out hext0.out)
      have hcE := hext0.out
      clear c1 f1 c2 f2 hct hcx2
      go_wp2
      go_loopw [10, 11, 12] (fun vc vb vi wr => ∃ (i cy bo : Nat) (os : List Nat), i ≤ n ∧ Hid (cy < 4294967296 ∧ bo ≤ 1) ∧ vi = .int .i64 (i : Int) ∧ vc = .int .u64 (cy : Int) ∧ vb = .int .u64 (bo : Int) ∧
          Hid (os.length = N ∧ Lb os ∧ seg os j i + gu * val ((lim V).take i) = seg os0 j i + Bs ^ i * (cy + bo) ∧ ∀ p, p < j ∨ j + i ≤ p → os.getD p 0 = os0.getD p 0) ∧
          Hid (wr.ownsRow base 60 1 (.slice (some ⟨g, 0, none⟩) N N) N (os.map u32V)) ∧ Hid (wc.grownBy wr (some g)))
        (fun _ _ vi _ => n - (intOf vi).toNat)
      case atStart => exact ⟨0, 0, 0, os0, Nat.zero_le _, ⟨by omega, by omega⟩, rfl, rfl, rfl, ⟨HOL.out.1, HOL.out.2, by simp [seg_zero, val], fun _ _ => rfl⟩, hown0.out, only_refl _ _⟩
      case round =>
        obtain ⟨i, cy, bo, os, hi, hcb, rfl, rfl, rfl, hos, hown1, hgr⟩ := hrel
        have hRB := rd_only (HB.out.ext hext0.out) hgr hap'.out
        by_cases h0 : i < n
        · obtain ⟨v, hv, hvb, hcv⟩ := hRB.get i h0
          obtain ⟨hcx, hfx⟩ := own_seg hown1 j i (by omega)
          obtain ⟨x, hx⟩ : ∃ x, x = os.getD (j + i) 0 := ⟨_, rfl⟩
          rw [← hx] at hcx
          have hxb : x < 4294967296 := by rw [hx]; exact lb_getD hos.out.2.1 _
          obtain ⟨hcb1, hcb2⟩ := hcb.out
          obtain ⟨pr, hpr⟩ : ∃ pr, pr = gu * v := ⟨_, rfl⟩
          have hprb : pr ≤ 18446744065119617025 := by rw [hpr]; exact Nat.mul_le_mul (show gu ≤ 4294967295 by omega) (show v ≤ 4294967295 by omega)
          have hpri : (gu : Int) * (v : Int) = (pr : Int) := by rw [hpr]; exact (Int.natCast_mul _ _).symm
          have HPR := Lib.hid hpr
          have HX := Lib.hid hx
          have hlow := and_low (pr + cy) (by omega)
          have hbu := borrow_u64 (l := (pr + cy) % 4294967296) hxb (Nat.mod_lt _ (by decide)) hcb2
          have hst := mulsub_step (os := os) (os0 := os0) (vs := lim V) (j := j) (g := gu) (by rw [hos.out.1]; omega) hgb hvb hcb1 hcb2 hxb hos.out.2.2.1 (by rw [hx]; exact (hos.out.2.2.2 _ (by omega)).symm) hv.out
          rw [← hpr] at hst
          have hc' : (pr + cy) / 4294967296 < 4294967296 := by omega
          have HLOW2 := Lib.hid hlow
          have HBU := Lib.hid hbu
          have HST := Lib.hid hst
          have HC' := Lib.hid hc'
          clear hpr hx hRB hlow hbu hst hc'
          go_wp2
          case roundEnd =>
            have e0 : (pr : Int) + cy = ((pr + cy : Nat) : Int) := by omega
            rw [e0, HLOW2.out, HBU.out.1, HBU.out.2]
            refine ⟨⟨i + 1, (pr + cy) / 4294967296, if x < (pr + cy) % 4294967296 + bo then 1 else 0, os.set (j + i) ((x + 8589934592 - (pr + cy) % 4294967296 - bo) % 4294967296), by omega, ⟨HC'.out, by split <;> omega⟩, by simp, by simp, rfl, ⟨by simp [hos.out.1], lb_set hos.out.2.1 _ (Nat.mod_lt _ (by decide)), HST.out, fun p hp => ?_⟩, own_set hown1.out _ _, hgr.out.trans (only_set _ _ _ _)⟩, ?_⟩
            · rw [getD_set_ne (by omega)]; exact hos.out.2.2.2 p (by omega)
            · simp [intOf]; omega
        · obtain rfl : i = n := by omega
          have hP : Hid ((gu = q → cy + bo = un ∧ seg os j i = W % V) ∧ (gu = q + 1 → cy + bo = un + 1 ∧ seg os j i + V = Bs ^ i + W % V)) := by
            have hT : W = seg os0 j i + Bs ^ i * un := by rw [HWW.out, HUN.out, seg_succ]
            have h3 := hos.out.2.2.1
            rw [take_ge (l := lim V) (by rw [hly.out]; exact Nat.le_refl _), val_lim] at h3
            exact figure_end HQ.out.1 HV0.out HVT.out hgu.out (seg_lt hos.out.2.1 _ _) hT h3
          obtain ⟨hcx, hfx⟩ := own_seg hown1 j i (by omega)
          have hun' : os.getD (j + i) 0 = un := by rw [HUN.out]; exact hos.out.2.2.2 _ (by omega)
          rw [hun'] at hcx
          obtain ⟨hcb1, hcb2⟩ := hcb.out
          have hE := hext0.out
          have HUN' := Lib.hid hun'
          clear hun' hRB h0
          rcases hgu.out with hg | hg
          · obtain ⟨k1, k2⟩ := hP.out.1 hg
            have e1 : IntKind.u64.wrap (IntKind.u64.wrap ((un : Int) - cy) - bo) = 0 := by simp only [IntKind.wrap_u64]; omega
            have K2 := Lib.hid k2
            have HG := Lib.hid hg
            clear k1 k2 hg
            go_wp2
            refine bodyPost_ret (v := .int .u32 ↑gu) ?h rfl ⟨os.set (j + i) 0, by rw [HG.out, HQ.out.1], own_set hown1.out _ _, ⟨lb_set hos.out.2.1 _ (by decide), ?_, fun p hp => ?_⟩, ((ext_only hE _).trans hgr.out).trans (only_set _ _ _ _)⟩
            case h => simp [results, Tryz.results152, go_sem]
            · rw [seg_set (by rw [hos.out.1]; omega), K2.out, Nat.mul_zero, Nat.add_zero]
            · rw [getD_set_ne (by omega)]; exact hos.out.2.2.2 p (by omega)
          · obtain ⟨k1, k2⟩ := hP.out.2 hg
            have e1 : IntKind.u64.wrap (IntKind.u64.wrap ((un : Int) - cy) - bo) = 18446744073709551615 := by simp only [IntKind.wrap_u64]; omega
            have K2 := Lib.hid k2
            have HG := Lib.hid hg
            clear k1 k2 hg
            go_wp2
            have hown2 := Lib.hid (own_set hown1.out (j + i) 4294967295)
            have hos1 := Lib.hid (show (os.set (j + i) 4294967295).length = N ∧ Lb (os.set (j + i) 4294967295) ∧ seg (os.set (j + i) 4294967295) j i + V = Bs ^ i + W % V ∧ (os.set (j + i) 4294967295).getD (j + i) 0 = 4294967295 ∧ ∀ p, p < j ∨ j + i + 1 ≤ p → (os.set (j + i) 4294967295).getD p 0 = os0.getD p 0 from
              ⟨by simp [hos.out.1], lb_set hos.out.2.1 _ (by decide), by rw [seg_congr (r := os) i (fun p hp => getD_set_ne (by omega))]; exact K2.out, by rw [List.getD_eq_getElem?_getD, List.getElem?_set_self (by rw [hos.out.1]; omega)]; rfl, fun p hp => by rw [getD_set_ne (by omega)]; exact hos.out.2.2.2 p (by omega)⟩)
            have hgr2 := Lib.hid (hgr.out.trans (only_set wr g (j + i) (.int .u32 4294967295)))
            generalize os.set (j + i) 4294967295 = os1 at hown2 hos1
            clear hos hown1 hcx hfx HUN' K2
            go_loopw [16, 17] (fun vc vi wr2 => ∃ (i2 c : Nat) (os2 : List Nat), i2 ≤ i ∧ Hid (c ≤ 1) ∧ vi = .int .i64 (i2 : Int) ∧ vc = .int .u64 (c : Int) ∧
                Hid (os2.length = N ∧ Lb os2 ∧ seg os2 j i2 + Bs ^ i2 * c = seg os1 j i2 + val ((lim V).take i2) ∧ ∀ p, p < j ∨ j + i2 ≤ p → os2.getD p 0 = os1.getD p 0) ∧
                Hid (wr2.ownsRow base 60 1 (.slice (some ⟨g, 0, none⟩) N N) N (os2.map u32V)) ∧ Hid (wc.grownBy wr2 (some g)))
              (fun _ vi _ => i - (intOf vi).toNat)
            case atStart => exact ⟨0, 0, os1, Nat.zero_le _, by show (0 : Nat) ≤ 1; omega, rfl, rfl, ⟨hos1.out.1, hos1.out.2.1, by simp [seg_zero, val], fun _ _ => rfl⟩, hown2.out, hgr2.out⟩
            case round =>
              clear hown2 hgr2
              obtain ⟨i2, c, os2, hi2, hc1, rfl, rfl, hos2, hown3, hgr3⟩ := hrel
              have hRB := rd_only (HB.out.ext hext0.out) hgr3 hap'.out
              have hc1' := hc1.out
              by_cases h0 : i2 < i
              · obtain ⟨v, hv, hvb, hcv⟩ := hRB.get i2 h0
                obtain ⟨hcx, hfx⟩ := own_seg hown3 j i2 (by omega)
                obtain ⟨x, hx⟩ : ∃ x, x = os2.getD (j + i2) 0 := ⟨_, rfl⟩
                rw [← hx] at hcx
                have hxb : x < 4294967296 := by rw [hx]; exact lb_getD hos2.out.2.1 _
                have hst := addback_step (os := os2) (os1 := os1) (vs := lim V) (j := j) (x := x) (v := v) (by rw [hos2.out.1]; omega) hos2.out.2.2.1 (by rw [hx]; exact (hos2.out.2.2.2 _ (by omega)).symm) hv.out
                have HST := Lib.hid hst
                clear hx hRB hst
                go_wp2
                go_quiet (fail)
                go_wp2
                case roundEnd =>
                  have e0 : (x : Int) + v + c = ((x + v + c : Nat) : Int) := by omega
                  rw [e0]
                  refine ⟨⟨i2 + 1, (x + v + c) / 4294967296, os2.set (j + i2) ((x + v + c) % 4294967296), by omega, (by show _ ≤ 1; omega), by simp, by simp, ⟨by simp [hos2.out.1], lb_set hos2.out.2.1 _ (Nat.mod_lt _ (by decide)), HST.out, fun p hp => by rw [getD_set_ne (by omega)]; exact hos2.out.2.2.2 p (by omega)⟩, ?_, (hgr3.out.trans (ext_only (ext_drewN (ext_refl _) _) _)).trans (only_set _ _ _ _)⟩, ?_⟩
                  · have := own_set (own_ext hown3.out (ext_drewN (ext_refl _) nq)) (j + i2) ((x + v + c) % 4294967296)
                    show World.ownsRow _ _ _ _ _ _ _
                    simpa using this
                  · simp [intOf]; omega
              · obtain rfl : i2 = i := by omega
                have h3 := hos2.out.2.2.1
                rw [take_ge (l := lim V) (by rw [hly.out]; exact Nat.le_refl _), val_lim, hos1.out.2.2.1] at h3
                have hsl := seg_lt hos2.out.2.1 j i2
                have hc1 : c = 1 := by
                  rcases Nat.eq_zero_or_pos c with h | h
                  · subst h; omega
                  · omega
                subst hc1
                have K3 := Lib.hid (show seg os2 j i2 = W % V by omega)
                obtain ⟨hcx, hfx⟩ := own_seg hown3 j i2 (by omega)
                have htp : os2.getD (j + i2) 0 = 4294967295 := (hos2.out.2.2.2 _ (by omega)).trans hos1.out.2.2.2.1
                rw [htp] at hcx
                have e2 : IntKind.u64.wrap ((gu : Int) - 1) % 4294967296 = ((W / V : Nat) : Int) := by
                  have a1 := HG.out
                  have a2 := HQ.out
                  rw [← a2.1]
                  simp only [IntKind.wrap_u64]
                  omega
                have E2 := Lib.hid e2
                clear h3 hsl htp hRB h0 e2
                go_wp2
                rw [E2.out]
                refine bodyPost_ret (v := .int .u32 ↑(W / V)) ?h rfl ⟨os2.set (j + i2) 0, rfl, own_set hown3.out _ _, ⟨lb_set hos2.out.2.1 _ (by decide), ?_, fun p hp => ?_⟩, ((ext_only hE _).trans hgr3.out).trans (only_set _ _ _ _)⟩
                case h => simp [results, Tryz.results152, go_sem]
                · rw [seg_set (by rw [hos2.out.1]; omega), K3.out, Nat.mul_zero, Nat.add_zero]
                · rw [getD_set_ne (by omega), hos2.out.2.2.2 p (by omega)]; exact hos1.out.2.2.2.2 p (by omega)
end Go.Proofs.YtdjegfnkpagdaaaGreatDoor
end
