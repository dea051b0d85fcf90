/- Lemmas of this proof, laid together: RatioNamesW. -/
import Derived.Test.YtfdmhefjmnlllaaGreatDoorMg29
import Derived.Test.YtfdmhefjmnlllaaGreatDoorMg12
import Derived.Test.YtfdmhefjmnlllaaGreatDoorMg31
import Derived.Test.YtfdmhefjmnlllaaGreatDoorMg28
import Derived.Deep.DeepCutAuto
import Derived.Deep.RegionWith
import Derived.Deep.LoopGhost
set_option linter.unusedSimpArgs false
set_option linter.unusedVariables false
section
/- RatioNames: the walk. -/
namespace Go.Proofs.YtfdmhefjmnlllaaGreatDoor
open Go.RowKit
attribute [local go_sem] bs_size bs_extract bs_get bs_append bs_toList const_get
attribute [local go_sem] sz2 sz3 sz4 sz5 sz6 sz7 sz8
set_option maxHeartbeats 16000000
set_option maxRecDepth 100000
attribute [local irreducible] Calls
theorem row_cut {w : World} {g N n c : Nat} {vs ys : List Nat} {b : Nat} (h0 : w.ownsRow b 47 1 (.slice (some ⟨g, 0, none⟩) N c) N (vs.map u32V)) (hn : n ≤ N) (ht : vs.take n = ys) (hb : Lb ys) : Rd w (some ⟨g, 0, none⟩) n c ys := by
 have h := own_zero h0
 have hl : vs.length = N := by have := h.1; simpa using this
 have hm := own_mod h
 have hlt := own_lt h rfl
 subst ht
 refine ⟨by rw [List.length_take]; omega, by omega, by have := hm.2; unfold maxLen at this; omega, hb, (fun e => by cases e), (fun a ha => by cases ha; rfl), fun b off hA i hi => ?_⟩
 cases hA
 rw [List.length_take] at hi
 refine ⟨hlt, ?_⟩
 have := h.cellAt i (by omega)
 rw [Nat.zero_add, this, List.getElem?_map, List.getElem?_eq_getElem (by omega), List.getElem_take]
 rfl
theorem names_core (a : Nat) (ys : List Nat) (L1 L2 : List UInt8) (zA : List Nat) (w : World)
  (hys : ∀ vs : List Nat, vs.length = 16385 → (∀ p, p < 16385 → vs.getD p 0 = 1) → vs = ys) (hy1 : ys.take 16384 = lim a) (hy2 : Lb ys)
  (hLs : ∀ vs : List UInt8, vs.length = 65537 → (∀ p, p < 65537 → vs.getD p 0 = 48) → L1 = (vs.drop 0).take 65536 ∧ L2 = (vs.drop 0).take 65537)
  (kL : ∀ w', Ext w w' → Calls Tryz.prog 5 #[] w' fun e w'' => e = .returned (.bool true) ∧ Ext w' w'')
  (kM : ∀ A c D k w', Ext w w' → Rd w' A 16384 c (lim a) → Rd w' D 1 k (lim 1) → Calls Tryz.prog 23 #[.bool false, natV A 16384 c, natV D 1 k] w' (OfPst w' false (lim a) (lim 1) 0))
  (kM2 : ∀ A c D k w', Ext w w' → Rd w' A 16385 c ys → Calls Tryz.prog 23 #[.bool false, natV A 16385 c, natV D 1 k] w' (NoE w' 4))
  (kAdd : ∀ F w', Ext w w' → FrIn w' F (lim a) (lim 1) → Calls Tryz.prog 24 #[fV false F, fV false F] w' (OfPst w' false zA (lim 1) 0))
  (kScale : ∀ F w', Ext w w' → FrIn w' F (lim a) (lim 1) → Calls Tryz.prog 25 #[fV false F, .int .u32 2, .int .i64 32] w' (OfPst w' false [] [] 4))
  (kMul : ∀ F w', Ext w w' → FrIn w' F (lim a) (lim 1) → Calls Tryz.prog 26 #[fV false F, fV false F] w' (OfPst w' false [] [] 4))
  (kSub : ∀ F w', Ext w w' → FrIn w' F (lim a) (lim 1) → Calls Tryz.prog 27 #[fV false F, fV false F] w' (OfPst w' false [] (lim 1) 0))
  (kP : ∀ w', Ext w w' → Calls Tryz.prog 28 #[.string (bs L1)] w' fun e w'' => ∃ F : FH, e = .returned (.tuple #[fV false F, .int .i64 0, .int .i64 0]) ∧ Hid (Rd w'' F.A F.n F.c []) ∧ Ext w' w'')
  (kP2 : ∀ w', Calls Tryz.prog 28 #[.string (bs L2)] w' (NoPost w' 0 3))
  (kW : ∀ w', Calls Tryz.prog 29 #[.int .i64 0] w' fun e w'' => ∃ F : FH, e = .returned (fV false F) ∧ Hid (RaF w'' 0 1 F) ∧ Ext w' w'')
  (kZ : ∀ F w', Ext w w' → RaF w' 0 1 F → Calls Tryz.prog 25 #[fV false F, .int .u32 0, .int .i64 (-1)] w' (NoE w' 11))
  (kP3 : ∀ w', Calls Tryz.prog 28 #[.string ⟨#[43, 49]⟩] w' (NoPost w' 0 12))
  (kP4 : ∀ w', Ext w w' → Calls Tryz.prog 28 #[.string ⟨#[49, 47]⟩] w' (NoPost w' 2 12)) :
  Calls Tryz.prog 4 #[] w fun e w' => e = .returned (.bool true) ∧ Ext w w' := by
 have l1 : lim 1 = [1] := by kernel_rfl
 go_enter Tryz.func4, Tryz.ntmps4
 go_wp2_with (first
  | (go_at_call 5; (with_reducible refine (kL _ xcl).mono ?_); rintro e w1 ⟨rfl, xb1⟩; obtain ⟨xc1, xf1, xl1, xz1⟩ := jU xb1; (try simp at xz1))
  | (at_make; refine make_u32 rfl _ _ rfl _ _ _ _ 16385 rfl rfl rfl rfl (by omega) ?_; intro w2 hx1 ho1; have hext1 := Lib.hid (jT xb1 hx1); clear hx1)
  | go_in)
 go_loopw [3] (fun vi wr => ∃ (i : Nat) (os : List Nat), i ≤ 16385 ∧ vi = .int .i64 (i : Int) ∧ Hid (os.length = 16385 ∧ ∀ p, p < i → os.getD p 0 = 1) ∧
   Hid (wr.ownsRow w1.heap.size 47 1 (.slice (some ⟨w1.heap.size, 0, none⟩) 16385 16385) 16385 (os.map u32V)) ∧ Hid (Ext w wr))
  (fun vi _ => 16385 - (intOf vi).toNat)
 case atStart => exact ⟨0, List.replicate 16385 0, Nat.zero_le _, rfl, ⟨List.length_replicate, fun p hp => absurd hp (Nat.not_lt_zero _)⟩, ho1.out, hext1.out⟩
 case round =>
  obtain ⟨i, os, hi, rfl, hos, ho, hx⟩ := hrel
  have hw1 : w.heap.size ≤ w1.heap.size := ext_size xb1
  by_cases hlt : i < 16385
  ·obtain ⟨hc2, hf2⟩ := own_at ho.out i hlt
   go_wp2
   case roundEnd =>
    refine ⟨⟨i + 1, os.set i 1, by omega, by simp, ⟨by rw [List.length_set]; exact hos.out.1, fun p hp => ?_⟩, own_set ho.out i 1, jS hx.out hw1 _⟩, ?_⟩
    ·by_cases e : p = i
     ·subst e
      rw [List.getD_eq_getElem?_getD, List.getElem?_set_self (by rw [hos.out.1]; exact hlt)]; rfl
     ·rw [List.getD_eq_getElem?_getD, List.getElem?_set_ne (by omega), ← List.getD_eq_getElem?_getD]
      exact hos.out.2 p (by omega)
    ·simp [intOf]; omega
  ·obtain rfl : i = 16385 := by omega
   obtain rfl := hys os hos.out.1 hos.out.2
   obtain ⟨v0, rfl⟩ : ∃ u, u = wr := ⟨wr, rfl⟩
   have hR1 := Lib.hid (row_cut ho.out (n := 16384) (by decide) hy1 (lb_lim a))
   have hR2 := Lib.hid (row_cut ho.out (n := 16385) (by decide) (List.take_of_length_le (by rw [hos.out.1]; decide)) hy2)
   have xE0 : Ext w v0 := hx.out
   have hO1 : Hid (Rd (v0.alloc (Obj.cells #[.int .u32 1] 47)) (some ⟨v0.heap.size, 0, none⟩) 1 1 (lim 1)) := by
    rw [l1]
    exact Lib.hid (Rd.made _ _ _ [1] (fun x hx => by simp at hx; subst hx; decide) (by simp [u32V]) (by simp) (by simp) rfl)
   clear hys hy1 hy2 hlt ho1 hext1 ho hos xb1 kL hi hx
   go_upto_region 8 with (first
    | (go_at_call 23; (with_reducible refine (kM _ _ _ _ _ xcl (hR1.out.ext xcl) hO1.out).mono ?_); rintro e w3 ⟨F3, rfl, hF3, xb3⟩; obtain ⟨xc3, xf3, xl3, xz3⟩ := jU xb3; (try simp at xz3))
    )
   have xE3 : Ext w w3 := xcl
   have xE2 : Ext v0 w3 := jT (jA (jR _) _) xb3
   have hFr : Hid (∀ u, Ext w3 u → FrIn u F3 (lim a) (lim 1)) := Lib.hid fun u he => ⟨hF3.out.1.toRd.ext he, hF3.out.2.2.1.toRd.ext he⟩
   clear hF3 hO1 hR1
   go_upto_region 13 with (first
    | (go_at_call 23; (with_reducible refine (kM2 _ _ _ _ _ xcl (hR2.out.ext xcl)).mono ?_); rintro e w4 ⟨rfl, xb4⟩; obtain ⟨xc4, xf4, xl4, xz4⟩ := jU xb4; (try simp at xz4); obtain ⟨l4_0, r4_0, f4_0, r4_0_1, f4_0_1, r4_0_2, f4_0_2⟩ := kq3 xb4 (w3.heap.size))
    | (go_at_call 24; (with_reducible refine (kAdd _ _ xcl (hFr.out _ xcl)).mono ?_); rintro e w5 ⟨F5, rfl, hR5, xb5⟩; obtain ⟨xc5, xf5, xl5, xz5⟩ := jU xb5; (try simp at xz5); obtain ⟨l5_0, r5_0, f5_0, r5_0_1, f5_0_1, r5_0_2, f5_0_2⟩ := kq3 xb5 (w3.heap.size))
    | (go_at_call 25; (with_reducible refine (kScale _ _ xcl (hFr.out _ xcl)).mono ?_); rintro e w6 ⟨F6, rfl, hR6, xb6⟩; obtain ⟨xc6, xf6, xl6, xz6⟩ := jU xb6; (try simp at xz6); obtain ⟨l6_0, r6_0, f6_0, r6_0_1, f6_0_1, r6_0_2, f6_0_2⟩ := kq3 xb6 (w3.heap.size))
    | (go_at_call 26; (with_reducible refine (kMul _ _ xcl (hFr.out _ xcl)).mono ?_); rintro e w7 ⟨F7, rfl, hR7, xb7⟩; obtain ⟨xc7, xf7, xl7, xz7⟩ := jU xb7; (try simp at xz7); obtain ⟨l7_0, r7_0, f7_0, r7_0_1, f7_0_1, r7_0_2, f7_0_2⟩ := kq3 xb7 (w3.heap.size))
    | (go_at_call 27; (with_reducible refine (kSub _ _ xcl (hFr.out _ xcl)).mono ?_); rintro e w8 ⟨F8, rfl, hR8, xb8⟩; obtain ⟨xc8, xf8, xl8, xz8⟩ := jU xb8; (try simp at xz8))
    )
   have xE8 : Ext w w8 := xcl
   obtain ⟨v1, hv1⟩ : ∃ z, z = w8.alloc (Obj.cells #[.bool false, .slice F8.A F8.n F8.c, .slice F8.D F8.m F8.k] 26) := ⟨_, rfl⟩
   have n8 : F8.n = 0 := by have := hR8.out.1.toRd.len; simpa using this.symm
   have s1 : v1.cell? ⟨w8.heap.size, 1, none⟩ = some (.slice F8.A 0 F8.c) := by rw [hv1]; simp [go_sem, n8]
   have sl : w8.heap.size < v1.heap.size := by rw [hv1]; simp
   have xE9 : Ext w v1 := by rw [hv1]; exact jA xE8 _
   rw [← hv1]
   have hKs : Hid (∀ u, Ext v1 u → u.cell? ⟨w8.heap.size, 1, none⟩ = some (.slice F8.A 0 F8.c)) := Lib.hid fun u he => (Below.cell (p := ⟨w8.heap.size, 1, none⟩) he sl).trans s1
   have HKs := Lib.hid sl
   clear hv1 n8 s1 sl hR8 hR7 hR6 hR5 hFr hR2 xE8 xE3 xE2 xb3 xb4 xb5 xb6 xb7 xb8 kM kM2 kAdd kScale kMul kSub
   obtain ⟨N, hN⟩ : ∃ N : Nat, N = 65537 := ⟨_, rfl⟩
   have hN1 : Hid ((65537 : Int) = (N : Int)) := by show (65537 : Int) = (N : Int); omega
   have HN := Lib.hid hN
   have HLs := Lib.hid hLs
   clear hN hLs
   go_wp2_with (first
    | (at_make; refine make_u8 rfl _ _ rfl _ _ _ _ N rfl rfl hN1.out hN1.out (by have := HN.out; omega) ?_; intro w9 hx1 ho1; have hext1 := Lib.hid hx1; clear hx1)
    | go_in)
   have xV9 : Ext v1 w9 := hext1.out
   have hNb : N ≤ 1000000 := by have := HN.out; omega
   clear hN1
   go_loopw [17] (fun vi wr => ∃ (j : Nat) (qs : List UInt8), j ≤ N ∧ vi = .int .i64 (j : Int) ∧ Hid (qs.length = N ∧ ∀ p, p < j → qs.getD p 0 = 48) ∧
     Hid (wr.ownsRow v1.heap.size 5 1 (.slice (some ⟨v1.heap.size, 0, none⟩) N N) N (qs.map bV)) ∧ Hid (Ext v1 wr))
    (fun vi _ => N - (intOf vi).toNat)
   case atStart => exact ⟨0, List.replicate N 0, Nat.zero_le _, rfl, ⟨List.length_replicate, fun p hp => absurd hp (Nat.not_lt_zero _)⟩, ho1.out, hext1.out⟩
   case round =>
    obtain ⟨j, qs, hj, rfl, hqs, ho, hx⟩ := hrel
    by_cases hlt : j < N
    ·obtain ⟨hc2, hf2⟩ := ownb_at ho.out j hlt
     go_wp2
     case roundEnd =>
      refine ⟨⟨j + 1, qs.set j 48, by omega, by go_num, ⟨by rw [List.length_set]; exact hqs.out.1, fun p hp => ?_⟩, ownb_set ho.out j 48, jS hx.out (Nat.le_refl _) _⟩, ?_⟩
      ·by_cases e : p = j
       ·subst e
        rw [List.getD_eq_getElem?_getD, List.getElem?_set_self (by rw [hqs.out.1]; exact hlt)]; rfl
       ·rw [List.getD_eq_getElem?_getD, List.getElem?_set_ne (by omega), ← List.getD_eq_getElem?_getD]
        exact hqs.out.2 p (by omega)
      ·simp [intOf]; omega
    ·obtain rfl : j = N := by omega
     have hN := HN.out
     obtain ⟨hL1, hL2⟩ := HLs.out qs (hqs.out.1.trans hN) (fun p hp => hqs.out.2 p (by omega))
     obtain ⟨v2, rfl⟩ : ∃ u, u = wr := ⟨wr, rfl⟩
     have xV2 : Ext v1 v2 := hx.out
     have xE10 : Ext w v2 := jT xE9 xV2
     have hcv := ownb_str ho.out 0 65536 j (by omega) L1 hL1
     have hrow2 : Hid (∀ u, Ext v2 u → (convert 51 9 (.slice (some ⟨v1.heap.size, 0, none⟩) j j)).run Tryz.prog u = .ok (.string (bs L2)) u) := Lib.hid fun u he => ownb_str (own_ext ho.out he) 0 j j (by omega) L2 (by rw [hL2, ← hN])
     have hN3 : (65536 : Int) ≤ (j : Int) := by omega
     clear hN HN
     clear HLs hL1 hL2 hlt hj hqs ho1 hext1 hx ho xE9 xV9
     go_upto_region 19 with (first
      | (go_at_call 28; (with_reducible refine (kP _ xE10).mono ?_); rintro e w11 ⟨F11, rfl, hF11, xb11⟩; obtain ⟨xc11, xf11, xl11, xz11⟩ := jU xb11; (try simp at xz11))
      )
     clear hcv
     obtain ⟨v3, hv3⟩ : ∃ z, z = w11.alloc (Obj.cells #[.bool false, .slice F11.A F11.n F11.c, .slice F11.D F11.m F11.k] 26) := ⟨_, rfl⟩
     have n11 : F11.n = 0 := by have := hF11.out.len; simpa using this.symm
     have t1 : v3.cell? ⟨w11.heap.size, 1, none⟩ = some (.slice F11.A 0 F11.c) := by rw [hv3]; simp [go_sem, n11]
     have tl : w11.heap.size < v3.heap.size := by rw [hv3]; simp
     have xV3 : Ext v2 v3 := by rw [hv3]; exact jA xb11 _
     rw [← hv3]
     have hKt : Hid (∀ u, Ext v3 u → u.cell? ⟨w11.heap.size, 1, none⟩ = some (.slice F11.A 0 F11.c)) := Lib.hid fun u he => (Below.cell (p := ⟨w11.heap.size, 1, none⟩) he tl).trans t1
     have HKt := Lib.hid tl
     have hcv := hrow2.out v3 xV3
     have xE13 : Ext w v3 := jT xE10 xV3
     have xS13 : Ext v1 v3 := jT xV2 xV3
     clear hv3 n11 t1 tl hF11 hrow2 xb11 xE10 xV2 xV3 kP
     go_upto_region 27 with (first
      | (go_at_call 28; (with_reducible refine (kP2 _).mono ?_); rintro e w12 ⟨rfl, xb12⟩; obtain ⟨xc12, xf12, xl12, xz12⟩ := jU xb12; (try simp at xz12))
      | (go_at_call 29; (with_reducible refine (kW _).mono ?_); rintro e w13 ⟨F13, rfl, hW13, xb13⟩; obtain ⟨xc13, xf13, xl13, xz13⟩ := jU xb13; (try simp at xz13))
      | (go_at_call 25; (with_reducible refine (kZ _ _ xcl hW13.out).mono ?_); rintro e w14 ⟨rfl, xb14⟩; obtain ⟨xc14, xf14, xl14, xz14⟩ := jU xb14; (try simp at xz14))
      | (go_at_call 28; (with_reducible refine (kP3 _).mono ?_); rintro e w15 ⟨rfl, xb15⟩; obtain ⟨xc15, xf15, xl15, xz15⟩ := jU xb15; (try simp at xz15))
      | (go_at_call 28; (with_reducible refine (kP4 _ xcl).mono ?_); rintro e w16 ⟨rfl, xb16⟩; obtain ⟨xc16, xf16, xl16, xz16⟩ := jU xb16; (try simp at xz16))
      )
     have c1 := hKs.out (w16.alloc (Obj.cells #[.bool false, .slice none 0 0, .slice none 0 0] 26)) (show Ext v1 _ by exact xcl)
     have c2 := hKt.out (w16.alloc (Obj.cells #[.bool false, .slice none 0 0, .slice none 0 0] 26)) (show Ext v3 _ from jA (jT (jA xb12 _) (jT xb13 (jT xb14 (jT (jA (jR _) _) (jT xb15 (jT (jA (jR _) _) xb16)))))) _)
     go_wp2
     refine bodyPost_ret (v := .bool true) ?h rfl ⟨rfl, ?_⟩
     case h => simp [results, Tryz.results4, go_sem]
     exact xcl
theorem rep_of {vs : List Nat} {N x : Nat} (hl : vs.length = N) (h : ∀ p, p < N → vs.getD p 0 = x) : vs = List.replicate N x := by
 refine List.ext_getElem (by rw [hl, List.length_replicate]) fun p h1 h2 => ?_
 have h3 := h p (by omega)
 rw [List.getD_eq_getElem?_getD, List.getElem?_eq_getElem h1] at h3
 rw [List.getElem_replicate]
 exact h3
theorem rep_of8 {vs : List UInt8} {N : Nat} {x : UInt8} (hl : vs.length = N) (h : ∀ p, p < N → vs.getD p 0 = x) : vs = List.replicate N x := by
 refine List.ext_getElem (by rw [hl, List.length_replicate]) fun p h1 h2 => ?_
 have h3 := h p (by omega)
 rw [List.getD_eq_getElem?_getD, List.getElem?_eq_getElem h1] at h3
 rw [List.getElem_replicate]
 exact h3
theorem unm_zeros (n : Nat) : unm (zerosL (n + 1)) = zerosL (n + 1) := by
 unfold unm zerosL
 rw [List.replicate_succ]
 rfl
theorem digs_zeros (n : Nat) : (zerosL n).takeWhile isD = zerosL n := by
 unfold zerosL
 rw [List.takeWhile_replicate]
 rfl
theorem dval_zeros (n : Nat) : dval (zerosL n) = 0 := by
 unfold zerosL
 induction n with
 | zero => rfl
 | succ n ih => rw [List.replicate_succ', dval_snoc, ih]; rfl
theorem names_of (K M : Nat) (hK : K = 16383) (hM : M = 65535) (w : World) (hT : Tz w) : Calls Tryz.prog 4 #[] w fun e w' => e = .returned (.bool true) ∧ Ext w w' := by
 have la : (lim (ones (K + 1))).length = K + 1 := by rw [lim_ones, List.length_replicate]
 have l1 : (lim (ones (K + 1))).length ≤ 16384 := by omega
 have l2 : (lim (ones (K + 1) + ones (K + 1))).length ≤ 16384 := by rw [dbl_len]; omega
 have hge := ones_ge K
 have l3 : 16384 < (lim (ones (K + 1) * 4294967296)).length := by have := shift_long (V := 4294967296) (Nat.le_refl Bs) hge; omega
 have l4 : 16384 < (lim (ones (K + 1) * ones (K + 1))).length := by have := mul_long (by omega) hge; omega
 have hne : ones (K + 1) ≠ 0 := by have : 0 < Bs ^ K := Nat.pow_pos (by decide); omega
 have hb : Lb (List.replicate (K + 2) 1) := fun x hx => by obtain ⟨_, rfl⟩ := List.mem_replicate.1 hx; decide
 have hc : chk (List.replicate (K + 2) 1) = 4 := by unfold chk; rw [if_pos (by rw [List.length_replicate]; omega)]
 have ht : (List.replicate (K + 2) 1).take 16384 = lim (ones (K + 1)) := by rw [lim_ones, List.take_replicate]; congr 1; omega
 have e0 : lim (0 : Int).natAbs = [] := lim_zero
 have one1 : (lim 1).length = 1 := lim_one1
 refine names_core (ones (K + 1)) (List.replicate (K + 2) 1) (zerosL (M + 1)) (zerosL (M + 2)) (lim (ones (K + 1) + ones (K + 1))) w (fun vs h1 h2 => (rep_of h1 h2).trans (by congr 1; omega)) ht hb (fun vs h1 h2 => ?_)
  (fun w' he => alive2_any w' (hT.ext he)) (fun A c D k w' he hA hD => ?_) (fun A c D k w' he hA => ?_) (fun F w' he hF => ?_) (fun F w' he hF => ?_) (fun F w' he hF => ?_) (fun F w' he hF => ?_) (fun w' he => ?_) (fun w' => ?_) (fun w' => ?_) (fun F w' he hF => ?_) (fun w' => ?_) (fun w' he => ?_)
 ·rw [rep_of8 h1 h2, List.drop_zero]
  unfold zerosL
  rw [List.take_replicate, List.take_replicate]
  exact ⟨by congr 1; omega, by congr 1; omega⟩
 ·have h := ra_make false A 16384 c (ones (K + 1)) D 1 k 1 (by decide) (by decide) (by decide) w' (hT.ext he) hA hD
  rw [one_low, Nat.gcd_one_right, Nat.div_one] at h
  have := of_t h
  rwa [show sgn false (ones (K + 1)) = ((ones (K + 1) : Nat) : Int) from rfl, Int.natAbs_natCast, decide_eq_false (show ¬ ((ones (K + 1) : Nat) : Int) < 0 by omega)] at this
 ·exact ra_make_no1 false A 16385 c D 1 k w' 4 rfl (fun w'' h => by have := ncheck_any A 16385 c _ w'' (hA.ext h); rwa [hc] at this)
 ·have h := nn_Add F w' (hT.ext he) hF l1 l2
  rwa [Int.natAbs_natCast, decide_eq_false (show ¬ ((ones (K + 1) + ones (K + 1) : Nat) : Int) < 0 by omega)] at h
 ·exact nn_Scale F w' (hT.ext he) hF l1 hne l3
 ·exact nn_Mul F w' (hT.ext he) hF l1 l4
 ·have h := nn_Sub F w' (hT.ext he) hF l1
  rwa [e0] at h
 ·have hl : (zerosL (M + 1)).length = M + 1 := by unfold zerosL; exact List.length_replicate
  have h := ra_Parse_whole false (zerosL (M + 1)) (zerosL (M + 1)) (zerosL (M + 1)) 0 (M + 1) (by omega) (unm_zeros M) rfl List.drop_zero (digs_zeros _) (by omega) (by omega) (List.take_of_length_le (by omega)) (by omega) w' (hT.ext he)
  rw [dval_zeros] at h
  refine h.mono ?_
  rintro e w'' ⟨A, n, c, D, m, k, rfl, h1, h2⟩
  have h3 := h1.out.1.toRd
  rw [show (sgn false 0).natAbs = 0 from rfl, lim_zero] at h3
  exact ⟨⟨A, n, c, D, m, k⟩, rfl, Lib.hid h3, h2⟩
 ·have hl : (zerosL (M + 2)).length = M + 2 := by unfold zerosL; exact List.length_replicate
  exact ra_Parse_long _ (by omega) (by omega) w'
 ·exact op_Whole (z := 0) (u := false) (by decide) (by decide) rfl w'
 ·exact sc_nought false F.A F.n F.c F.D F.m F.k w' (e := -1) (by decide) (tk_nought (hT.ext he) hF)
 ·exact ra_Parse_none [43, 49] [43, 49] 0 (by decide) rfl rfl rfl rfl w'
 ·exact ra_Parse_bare false [49, 47] [49, 47] [49] 0 1 (by decide) rfl rfl rfl rfl (by decide) rfl rfl [] 2 2 0 (by decide) rfl rfl rfl rfl rfl rfl w' (hT.ext he)
theorem walk_RatioNames (w : World) (hL : laidMetH Tryz.prog Rows.ratioNamesRow.laid w) :
  Calls Tryz.prog 4 #[] w fun e w' => e = .returned (.bool true) ∧ Ext w w' := by
 have hT : Tz w := tz_row w hL (fun w => MakeChecks.laidMetH_plain _ _ _ (by kernel_rfl)) (rest := [("unicode/utf8.acceptRanges", Rows.laid_unicode_utf8_acceptRanges), ("unicode/utf8.first", Rows.laid_unicode_utf8_first)]) (by kernel_rfl)
 exact names_of 16383 65535 rfl rfl w hT
end Go.Proofs.YtfdmhefjmnlllaaGreatDoor
end
