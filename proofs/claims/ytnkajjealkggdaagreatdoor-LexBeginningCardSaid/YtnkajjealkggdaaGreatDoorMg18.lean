/- Lemmas of this proof, laid together: BigK. -/
import Derived.Test.YtnkajjealkggdaaGreatDoorMg17
import Derived.Test.YtnkajjealkggdaaGreatDoorShelf
import Derived.Deep.DeepCutAuto
import Derived.Deep.RegionWith
set_option linter.unusedSimpArgs false
set_option linter.unusedVariables false
section
/- Division of words. -/
namespace Go.Proofs.YtnkajjealkggdaaGreatDoor
open Go.RowKit
attribute [local go_sem] sz2 sz3 sz4 sz5 sz6 sz7 sz8
attribute [local go_sem] Oper.detAt detUpon relUpon
set_option maxHeartbeats 4000000
set_option maxRecDepth 100000
attribute [local irreducible] Calls
/-- A quotient and what is left, in memory of their own. -/
abbrev QPost (w : World) (Q R : Nat) : Ending → World → Prop := fun e w' => ∃ (A : Option Addr) (k c : Nat) (B : Option Addr) (m d : Nat), e = .returned (.tuple #[.slice A k c, .slice B m d]) ∧ Hid (Rd w' A k c (lim Q) ∧ Fr w A) ∧ Hid (Rd w' B m d (lim R) ∧ Fr w B) ∧ Ext w w'
theorem rel_down (N : Nat) (A : Option Addr) (n c a z v : Nat) (hn : n ≤ 500000) (hz : z ≤ 16000000) (hv : a / 2 ^ z = v) (vals : List Value) (w : World) (hN : N ≤ w.heap.size) (hA : Rd w A n c (lim a)) :
    Calls Tryz.prog 135 #[.slice A n c, .int .i64 (z : Int)] w fun e w' => ∃ u, e = .returned u ∧ Ext w w' ∧ Fresh w u w' ∧ RWord N v vals u w' := by
  refine (bw_down_core A n c a z hn hz w hA).mono ?_
  rintro e w' ⟨A', k, c', he, h1, h2⟩
  rw [hv] at h1
  refine ⟨_, he, h2, ?_, A', k, c', rfl, h1.out.1, fun a ha => Nat.le_trans hN (h1.out.2.1 a ha)⟩
  intro q hq
  cases A' with
  | none => simp [blk] at hq
  | some z =>
    simp only [blk, Option.some.injEq] at hq
    subst hq
    exact ⟨h1.out.2.1 z rfl, h1.out.2.2 z rfl⟩
theorem bw_div_long (A B : Option Addr) (n c m d a b : Nat) (hm : 2 ≤ m) (hab : b ≤ a) (hn : n ≤ 400000) (w : World) (hA : Rd w A n c (lim a)) (hB : Rd w B m d (lim b)) :
    Calls Tryz.prog 149 #[.slice A n c, .slice B m d] w (QPost w (a / b) (a % b)) := by
  have hmx := hA.mx
  have hcx := hA.cap
  have hmy := hB.mx
  have hcy := hB.cap
  have HA := Lib.hid hA
  have HB := Lib.hid hB
  have hlx := Lib.hid hA.len
  have hly := Lib.hid hB.len
  have hmn : m ≤ n := by have := lim_mono hab; rwa [hlx.out, hly.out] at this
  obtain ⟨bv, ov, hBe⟩ : ∃ b off, B = some ⟨b, off, none⟩ := by
    rcases HB.out.shape with ⟨_, h, _⟩ | h
    · omega
    · exact h
  subst hBe
  have hcmp : Hid (0 ≤ cmpN a b) := by show _ ≤ _; unfold cmpN; rw [if_neg (by omega)]; split <;> omega
  have hcmp' := hcmp.out
  obtain ⟨top, ht, htb, hct⟩ := HB.out.get (m - 1) (Nat.sub_lt (by omega) (by omega))
  obtain ⟨ht0, -, hsl, hst⟩ := shifted hly.out (by omega) ht.out
  obtain ⟨hbl, hs32, -, -⟩ := lz_spec ht0 htb
  have hlt : ¬ a < b := by omega
  clear hA hB
  go_enter Tryz.func149, Tryz.ntmps149
  have hbvl : bv < w.heap.size := (HB.out.cells bv ov rfl 0 (by rw [hly.out]; omega)).1
  have hm1 : ((m : Int) == 1) = false := by rw [beq_eq_false_iff_ne]; omega
  obtain ⟨s, hs⟩ : ∃ s, s = lz top := ⟨_, rfl⟩
  have hsi : (32 : Int) - (Lib.bitLen top : Int) = (s : Int) := by rw [hs]; unfold lz; omega
  rw [← hs] at hsl hst hs32
  have HSL := Lib.hid hsl
  have HST := Lib.hid hst
  obtain ⟨M, hM⟩ : ∃ M, n + 1 = M + m := ⟨n + 1 - m, by omega⟩
  have HAL : Hid ((lim (a * 2 ^ s)).length ≤ n + 1) := by
    refine lim_le ?_
    have h1 : a < Bs ^ n := by have := lim_lt a; rwa [hlx.out] at this
    have h2 : 2 ^ s ≤ Bs := Nat.pow_le_pow_right (by decide) (show s ≤ 32 by omega)
    rw [Nat.pow_succ]
    exact Nat.lt_of_lt_of_le (Nat.mul_lt_mul_of_pos_right h1 (Nat.two_pow_pos s)) (Nat.mul_le_mul_left _ h2)
  have hMi : (n : Int) - m + 1 = (M : Int) := by omega
  have hMw : wrap64 (wrap64 ((n : Int) - m) + 1) = (M : Int) := by unfold wrap64; omega
  have HM := Lib.hid hM
  have hM5 : M ≤ 400001 := by omega
  clear hs hsl hst hcmp hlt hM
  go_wp2_with (first
    | (go_at_call 184; (with_reducible refine (bw_cmp A _ n c m d a b _ HA.out HB.out).mono ?_); rintro e w1 ⟨rfl, xb1⟩; obtain ⟨xc1, xf1, xl1, xz1⟩ := ext_use xb1; have hct1 := (xc1 bv (ov + (m - 1)) hbvl).trans hct)
    | (go_at_call 186; (with_reducible refine (Tryz.bits_LeadingZeros32 (top : Int) _ (by omega) (by omega)).mono ?_); rintro e w2 ⟨rfl, rfl⟩; simp only [Int.toNat_natCast, hsi])
    | (go_at_call 110; (with_reducible refine (bw_up _ m d b s (by omega) (by omega) _ (HB.out.ext xb1)).mono ?_); rintro e w3 ⟨A3, k3, c3, rfl, hR3, xb3⟩; obtain rfl : m = k3 := by rw [← hR3.out.1.len, HSL.out])
    | (at_make; (fail_if_success have := ho4); refine make_u32 rfl _ _ rfl _ _ _ _ (n + 1) rfl rfl (by simp) (by simp) (by omega) ?_; intro w4 hx4 ho4; have hext4 := Lib.hid hx4; clear hx4)
    | (go_at_call 110; (with_reducible refine (bw_up _ n c a s (by omega) (by omega) _ (HA.out.ext (ext_trans (ext_trans xb1 xb3) hext4.out))).mono ?_); rintro e w5 ⟨A5, k5, c5, rfl, hR5, xb5⟩; obtain ⟨xc5, xf5, xl5, xz5⟩ := ext_use xb5; (try simp at xz5))
    | (with_reducible refine copy_u32 rfl (.tmp 49) (.tmp 52) rfl (own_ext ho4.out xb5) hR5.out.1 rfl rfl (by have h1 := hR5.out.1.len; have h2 := HAL.out; omega) (ext_trans hext4.out xb5) (Nat.le_refl _) ?_; intro w6 hx6 ho6; have hext6 := Lib.hid hx6; clear hx6)
    | (at_make; refine make_u32 rfl _ _ rfl _ _ _ _ M rfl rfl rfl rfl (by omega) ?_; intro w7 hx7 ho7; have hext7 := Lib.hid hx7; clear hx7)
   )
  have hE7 := Lib.hid (ext_trans hext6.out hext7.out)
  have hW3 := Lib.hid (ext_trans xb1 xb3)
  have hu7 := Lib.hid (own_ext ho6.out hext7.out)
  have hz36 : w3.heap.size < w6.heap.size := (ho6.out.lt w3.heap.size rfl).2
  have hf3 : Hid (Rd w3 A3 m c3 (lim (b * 2 ^ s))) := hR3.out.1
  have hap3 : Hid (∀ q, A3 = some q → q.block < w3.heap.size) := fun q hq => by
    obtain ⟨bb, oo, e⟩ : ∃ bb oo, A3 = some ⟨bb, oo, none⟩ := by
      rcases hR3.out.1.shape with ⟨_, h, _⟩ | h
      · omega
      · exact h
    subst e; cases hq
    exact (hR3.out.1.cells bb oo rfl 0 (by rw [HSL.out]; omega)).1
  have hI : Hid (DivInv (a * 2 ^ s) (b * 2 ^ s) m (n + 1) M (lim (a * 2 ^ s) ++ List.drop k5 (List.replicate (n + 1) 0)) (List.replicate M 0)) := by
    have hk5 : (lim (a * 2 ^ s)).length = k5 := hR5.out.1.len
    have h := div_start (U := a * 2 ^ s) (V := b * 2 ^ s) (a := a) (b := b) (s := s) (n := n) (m := m) (os := lim (a * 2 ^ s) ++ List.drop k5 (List.replicate (n + 1) 0)) rfl rfl hlx.out hly.out (by omega) hmn (by have := HAL.out; simp; omega)
      (fun x hx => by
        rcases List.mem_append.1 hx with h | h
        · exact lb_lim _ x h
        · rw [(List.mem_replicate.1 (List.mem_of_mem_drop h)).2]; decide)
      (by rw [val_append, val_lim, List.drop_replicate, val_replicate, Nat.mul_zero, Nat.add_zero])
    rwa [show n + 1 - m = M by have := HM.out; omega] at h
  clear ho4 hext4 hR5 xb5 xl5 xz5 xc5 xf5 ho6 hext6 hext7 hct1 xc1 xf1 xl1 xz1 xb1 xb3 hct
  generalize lim (a * 2 ^ s) ++ List.drop k5 (List.replicate (n + 1) 0) = os0 at hI hu7
  go_loopw [13] (fun vi wr => ∃ (t : Nat) (os qs : List Nat), t ≤ M ∧ vi = .int .i64 ((t : Int) - 1) ∧ Hid (DivInv (a * 2 ^ s) (b * 2 ^ s) m (n + 1) t os qs) ∧
      Hid (wr.ownsRow w3.heap.size 48 1 (.slice (some ⟨w3.heap.size, 0, none⟩) (n + 1) (n + 1)) (n + 1) (os.map u32V)) ∧
      Hid (wr.ownsRow w6.heap.size 48 1 (.slice (some ⟨w6.heap.size, 0, none⟩) M M) M (qs.map u32V)) ∧ Hid (Ext w3 wr))
    (fun vi _ => (intOf vi + 1).toNat)
  case atStart => exact ⟨M, os0, List.replicate M 0, Nat.le_refl _, by have := HM.out; go_num, hI.out, hu7.out, ho7.out, hE7.out⟩
  case round =>
    clear hI hu7 ho7 hE7
    obtain ⟨t, os, qs, htM, rfl, hI, hu, hq, hE⟩ := hrel
    by_cases h0 : 0 < t
    · obtain ⟨j, rfl⟩ : ∃ j, t = j + 1 := ⟨t - 1, by omega⟩
      have hpre := div_pre hI.out
      have hVb : 0 < b * 2 ^ s ∧ b * 2 ^ s < Bs ^ m := by
        have h1 := lim_lt (b * 2 ^ s)
        rw [HSL.out] at h1
        have h2 := hI.out.2.2.2.2.1
        exact ⟨by omega, h1⟩
      have hql : qs.length = M := by have := hq.out.1; simpa using this
      have hst : ∀ os' : List Nat, os'.length = n + 1 → Lb os' ∧ seg os' j (m + 1) = seg os j (m + 1) % (b * 2 ^ s) ∧ (∀ p, p < j ∨ j + m + 1 ≤ p → os'.getD p 0 = os.getD p 0) → Hid (DivInv (a * 2 ^ s) (b * 2 ^ s) m (n + 1) j os' (qs.set j (seg os j (m + 1) / (b * 2 ^ s)))) := fun os' h1 h2 =>
        div_step hI.out hVb.2 hVb.1 h1 h2.1 h2.2.1 h2.2.2 (by omega)
      obtain ⟨q, hqe⟩ : ∃ q, q = seg os j (m + 1) / (b * 2 ^ s) := ⟨_, rfl⟩
      have hqb : q < 4294967296 := by rw [hqe, Nat.div_lt_iff_lt_mul hVb.1]; exact hpre
      have hfig : ∀ L cu wx, L = m + 1 → m + 1 ≤ cu → cu ≤ 9223372036854775807 → wr = wx → Calls Tryz.prog 187 #[.slice (some ⟨w3.heap.size, j, none⟩) L cu, .slice A3 m c3] wx _ := fun L cu wx e1 e2 e3 e4 => by
        subst e1; subst e4
        exact bw_figure w3.heap.size w3.heap.size (n + 1) j m cu os A3 c3 (b * 2 ^ s) wr hu.out hI.out.1 (hf3.out.ext hE.out) (fun q hq => Nat.ne_of_lt (hap3.out q hq)) hm (by have := HM.out; omega) (by omega) e2 e3 HST.out hpre
      rw [← hqe] at hst hfig
      have hjM : j < M := by omega
      have HST2 := Lib.hid hst
      have hM2 : M + m ≤ n + 1 := Nat.le_of_eq HM.out.symm
      clear hpre hVb hst hqe
      go_wp2_with (first
        | (go_at_call 187; (with_reducible refine (hfig _ _ _ (by omega) (by omega) (by omega) rfl).mono ?_); rintro e w8 ⟨os', rfl, hown8, hos8, hg8⟩; have hq8 := Lib.hid (hq.out.kept (row := some w3.heap.size) hg8.out (.inr (fun e => by simp [Value.ownBlock] at e; omega))); obtain ⟨hcq, hfq⟩ := own_at hq8.out j hjM)
       )
      case roundEnd =>
        refine ⟨⟨j, os', qs.set j q, by omega, rfl, HST2.out os' (by have := hown8.out.1; simpa using this) hos8.out, own_far hown8.out _ _ (by simp [Value.ownBlock]; omega), own_set hq8.out j q, ext_setCell (only_ext hE.out hg8.out (Nat.le_refl _)) (Nat.le_of_lt hz36) _⟩, ?_⟩
        simp [intOf]
    · obtain rfl : t = 0 := by omega
      obtain ⟨hv1, hv2⟩ := div_end hI.out
      rw [scale_div.1] at hv1
      rw [scale_div.2] at hv2
      obtain ⟨AQ, cQ, he, hRQ⟩ := Rd.own hq.out hI.out.2.2.1
      cases he
      obtain ⟨AU, cU, he, hRU⟩ := Rd.own hu.out hI.out.1
      cases he
      have hRU := hRU.take (k := m) (by omega)
      have hTQ : ∀ x : Aft wr, Calls Tryz.prog 111 #[.slice (some ⟨w6.heap.size, 0, none⟩) M M] x.out fun e w'' => e = .returned (.slice (some ⟨w6.heap.size, 0, none⟩) (lim (a / b)).length M) ∧ Ext x.out w'' := fun x => by
        have := bw_trim_det _ _ _ _ _ (hRQ.ext x.use); rwa [hv1] at this
      have hTU : ∀ x : Aft wr, Calls Tryz.prog 111 #[.slice (some ⟨w3.heap.size, 0, none⟩) m (n + 1)] x.out fun e w'' => e = .returned (.slice (some ⟨w3.heap.size, 0, none⟩) (lim (a % b * 2 ^ s)).length (n + 1)) ∧ Ext x.out w'' := fun x => by
        have := bw_trim_det _ _ _ _ _ (hRU.ext x.use); rwa [hv2] at this
      have hQ := rd_trimmed hRQ
      rw [hv1] at hQ
      have hR := rd_trimmed hRU
      rw [hv2] at hR
      have hRl : (lim (a % b * 2 ^ s)).length ≤ m := by
        have h1 := lim_le (val_lt _ hRU.lb); rw [hv2, hRU.len] at h1; exact h1
      have HQ := Lib.hid hQ
      have HR := Lib.hid hR
      have hmn1 : (m : Int) ≤ (n : Int) + 1 := by omega
      clear hv1 hv2 hRQ hRU hQ hR
      go_wp2
      refine wp_drawn_tail 8 (tab [(7, RWord wr.heap.size (a % b))]) (by kernel_rfl) (by kernel_rfl) (by kernel_rfl) (tab_stays (by simp [stays_word])) (fun hq hqf => ?_)
      simp only [List.take_succ_cons, List.take_zero, List.drop_succ_cons, List.drop_zero]
      iterate 7
        (refine wpK_det rfl (fun K hK => ?_)
         go_simp
         first
           | (refine hK _ ?_; clear hK K)
           | (apply Exists.intro; refine ⟨fun x => ?_, hK _ ?_⟩; (first | exact hTQ x | exact hTU x | (rw [if_pos hmn1]; first | rfl | (simp; rfl))); clear hK K))
      refine wpK_rel _ rfl rfl ?_ ?_
      · rintro _ ⟨nn, rfl⟩ _
        unfold Oper.relAt
        go_simp
        exact rel_down _ _ _ _ (a % b * 2 ^ s) s (a % b) (by omega) (by omega) (Nat.mul_div_cancel _ (Nat.two_pow_pos s)) _ _ (ext_size nn.use) (HR.out.ext nn.use)
      rintro v ⟨_, ⟨nn, rfl⟩, hr⟩
      obtain ⟨A9, k9, c9, rfl, -, -⟩ := hr
      clear nn
      refine wpK_nil ?_
      intro nq2 hG
      have r9 : RWord wr.heap.size (a % b) [] (.slice A9 k9 c9) nq2.out := by have := hG.fact 7; simp [Facts.put] at this; exact this
      have hR9 := Lib.hid (rword_at r9)
      clear r9 hG
      have hQ9 := Lib.hid (HQ.out.ext nq2.use)
      have hEE := Lib.hid (ext_trans hW3.out (ext_trans hE.out nq2.use))
      have hzz : w.heap.size ≤ w6.heap.size := by have := ext_size hW3.out; omega
      have hzr : w.heap.size ≤ wr.heap.size := by have := ext_size hW3.out; have := ext_size hE.out; omega
      go_wp2
      refine bodyPost_ret (v := .tuple #[.slice (some ⟨w6.heap.size, 0, none⟩) (lim (a / b)).length M, .slice A9 k9 c9]) ?h rfl ⟨_, _, _, _, _, _, rfl, ⟨hQ9.out, fun q hq => by cases hq; exact hzz⟩, ⟨hR9.out.1, fun q hq => Nat.le_trans hzr (hR9.out.2 q hq)⟩, hEE.out⟩
      case h => simp [results, Tryz.results149, go_sem]
theorem bw_div_less (A B : Option Addr) (n c m d a b : Nat) (hab : a < b) (hn : n ≤ 400000) (w : World) (hA : Rd w A n c (lim a)) (hB : Rd w B m d (lim b)) :
    Calls Tryz.prog 149 #[.slice A n c, .slice B m d] w (QPost w (a / b) (a % b)) := by
  have hmx := hA.mx
  have hcx := hA.cap
  have HA := Lib.hid hA
  have HB := Lib.hid hB
  rw [Nat.div_eq_of_lt hab, Nat.mod_eq_of_lt hab]
  have hcmp : cmpN a b = -1 := by unfold cmpN; rw [if_pos hab]
  have HC := Lib.hid hcmp
  clear hA hB hcmp hab
  go_enter Tryz.func149, Tryz.ntmps149
  go_wp2_with (first
    | (go_at_call 184; (with_reducible refine (bw_cmp A _ n c m d a b _ HA.out HB.out).mono ?_); rintro e w1 ⟨rfl, xb1⟩; rw [HC.out])
    | (go_at_call 151; (with_reducible refine (bw_copied A n c (lim a) (by omega) _ (HA.out.ext xb1)).mono ?_); rintro e w2 ⟨rfl, hR2, xb2⟩)
   )
  refine bodyPost_ret (v := .tuple #[.slice none 0 0, .slice (some ⟨w1.heap.size, 0, none⟩) n n]) ?h rfl ⟨_, _, _, _, _, _, rfl, ⟨by rw [lim_zero]; exact Rd.nil _, fun q hq => by cases hq⟩, ⟨hR2.out, fun q hq => by cases hq; exact ext_size xb1⟩, ext_trans xb1 xb2⟩
  case h => simp [results, Tryz.results149, go_sem]
theorem bw_trim_one (w : World) (r : Nat) (hr : r < 4294967296) :
    Calls Tryz.prog 111 #[.slice (some ⟨w.heap.size, 0, none⟩) 1 1] (w.alloc (Obj.cells #[.int .u32 (r : Int)] 48)) fun e w' => e = .returned (.slice (some ⟨w.heap.size, 0, none⟩) (lim r).length 1) ∧ Hid (Rd w' (some ⟨w.heap.size, 0, none⟩) (lim r).length 1 (lim r)) ∧ Ext w w' := by
  have hR : Rd (w.alloc (Obj.cells #[.int .u32 (r : Int)] 48)) (some ⟨w.heap.size, 0, none⟩) 1 1 [r] := Rd.made _ _ _ _ (fun x hx => by simp at hx; subst hx; exact hr) (by simp [u32V]) (by simp) rfl rfl
  have hv : val [r] = r := by simp [val]
  have h2 := rd_trimmed hR
  rw [hv] at h2
  refine (bw_trim_det _ _ _ _ _ hR).mono ?_
  rintro e w' ⟨h, hx⟩
  rw [hv] at h
  exact ⟨h, h2.ext hx, ext_trans (ext_alloc (ext_refl _) _) hx⟩
theorem bw_div_small (A B : Option Addr) (n c d a b : Nat) (hab : b ≤ a) (hn : n ≤ 400000) (w : World) (hA : Rd w A n c (lim a)) (hB : Rd w B 1 d (lim b)) :
    Calls Tryz.prog 149 #[.slice A n c, .slice B 1 d] w (QPost w (a / b) (a % b)) := by
  have hmx := hA.mx
  have hcx := hA.cap
  have hcy := hB.cap
  have HA := Lib.hid hA
  have HB := Lib.hid hB
  have hcmp : Hid (0 ≤ cmpN a b) := by show _ ≤ _; unfold cmpN; rw [if_neg (by omega)]; split <;> omega
  have hcmp' := hcmp.out
  obtain ⟨bv, ov, hBe⟩ : ∃ b off, B = some ⟨b, off, none⟩ := by
    rcases HB.out.shape with ⟨_, h, _⟩ | h
    · omega
    · exact h
  subst hBe
  obtain ⟨x, hx, hxb, hcx0⟩ := HB.out.get 0 (by omega)
  rw [Nat.add_zero] at hcx0
  have hl := HB.out.len
  have hbx : b = x ∧ 0 < b := by
    have hv := val_lim b
    match hq : lim b, hl with
    | [z], _ =>
      have h1 := hx.out
      rw [hq] at h1 hv
      simp [val] at hv h1
      refine ⟨by omega, Nat.pos_of_ne_zero ?_⟩
      rintro rfl
      rw [lim_zero] at hq; cases hq
  obtain ⟨rfl, hb0⟩ := hbx
  have hbvl : bv < w.heap.size := (HB.out.cells bv ov rfl 0 (by rw [hl]; omega)).1
  clear hA hB hcmp hab hx hl
  go_enter Tryz.func149, Tryz.ntmps149
  go_wp2_with (first
    | (go_at_call 184; (with_reducible refine (bw_cmp A _ n c _ d a b _ HA.out HB.out).mono ?_); rintro e w1 ⟨rfl, xb1⟩; obtain ⟨xc1, xf1, xl1, xz1⟩ := ext_use xb1; have hct1 := (xc1 bv ov hbvl).trans hcx0)
    | (go_at_call 185; (with_reducible refine (bw_divSmall A n c (lim a) b hb0 hxb (by omega) _ (HA.out.ext xb1)).mono ?_); rintro e w2 ⟨A2, k2, c2, r, rfl, ⟨hr, hrb⟩, hR2, xb2⟩; rw [val_lim] at hr hR2; have HR := Lib.hid hr; clear hr)
    | (go_at_call 111; (with_reducible refine (bw_trim_one _ r hrb).mono ?_); rintro e w3 ⟨rfl, hR3, xb3⟩)
   )
  have e1 := HR.out
  refine bodyPost_ret (v := .tuple #[.slice A2 k2 c2, .slice (some ⟨w2.heap.size, 0, none⟩) (lim r).length 1]) ?h rfl ⟨_, _, _, _, _, _, rfl, ⟨hR2.out.1.ext xb3, fun q hq => Nat.le_trans (ext_size xb1) (hR2.out.2 q hq)⟩, ⟨by rw [← e1]; exact hR3.out, fun q hq => by cases hq; exact Nat.le_trans (ext_size xb1) (ext_size xb2)⟩, ext_trans (ext_trans xb1 xb2) xb3⟩
  case h => simp [results, Tryz.results149, go_sem]
theorem bw_div (A B : Option Addr) (n c m d a b : Nat) (hb : b ≠ 0) (hn : n ≤ 400000) (w : World) (hA : Rd w A n c (lim a)) (hB : Rd w B m d (lim b)) :
    Calls Tryz.prog 149 #[.slice A n c, .slice B m d] w (QPost w (a / b) (a % b)) := by
  rcases Nat.lt_or_ge a b with h | h
  · exact bw_div_less A B n c m d a b h hn w hA hB
  · have hm := (lim_len hb).2
    rw [hB.len] at hm
    by_cases h1 : m = 1
    · subst h1; exact bw_div_small A B n c d a b h hn w hA hB
    · exact bw_div_long A B n c m d a b (by omega) h hn w hA hB
end Go.Proofs.YtnkajjealkggdaaGreatDoor
end
