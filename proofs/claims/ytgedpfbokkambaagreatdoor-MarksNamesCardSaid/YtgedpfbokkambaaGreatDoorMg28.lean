/- Lemmas of this proof, laid together: NmM, MarksNamesW. -/
import Derived.Test.YtgedpfbokkambaaGreatDoorMg20
import Derived.Test.YtgedpfbokkambaaGreatDoorMg18
import Derived.Test.YtgedpfbokkambaaGreatDoorMg27
import Derived.Deep.DeepCutAuto
import Derived.Deep.RegionWith
import Derived.Deep.LoopGhost
set_option linter.unusedSimpArgs false
set_option linter.unusedVariables false
section
/- Marks: the longest texts: the plain facts. -/
namespace Go.Proofs.YtgedpfbokkambaaGreatDoor
open Go.RowKit
set_option maxRecDepth 100000
theorem isD_sev : isD 55 = true := by decide
theorem shp_sev (n : Nat) (hn : 0 < n) : shpB (List.replicate n 55) = (-1, 0, n) := by
  have hr : rowN (List.replicate n 55) 0 = n := by
    unfold rowN
    have := takeWhile_app (List.replicate n 55) [] (fun b hb => by rw [List.eq_of_mem_replicate hb]; exact isD_sev) (fun b E h => by cases h)
    rw [List.append_nil] at this
    rw [List.drop_zero, this, List.length_replicate]
  have h0 : ¬ (List.replicate n (55 : UInt8))[0]? = some 45 := by
    rw [List.getElem?_replicate, if_pos hn]; simp
  have h1 : (List.replicate n (55 : UInt8))[n]? = none := by rw [List.getElem?_replicate, if_neg (by omega)]
  unfold shpB
  simp only [if_neg h0, hr, Nat.zero_add]
  rw [if_neg (by omega)]
  have hp : ptS (List.replicate n 55) n = (n, false) := by unfold ptS; rw [h1, if_neg (by simp)]
  have hx : exS (List.replicate n 55) n = (n, false) := by unfold exS; rw [h1, if_neg (by simp)]
  simp only [hp, hx]
  simp
theorem put_sev (n : Nat) (hn : 0 < n) (h : n ≤ 65536) : putV 46 0 45 48 [] (List.replicate n 55) = (List.replicate n 55, 0, 0) := by
  have hs := shp_sev n hn
  have hl : (List.replicate n (55 : UInt8)).length = n := List.length_replicate
  have := put_of (P := 46) (G := 0) (M := 45) (N := 48) (xs := []) ckv_plain (by omega) hs (by rw [putL_plain hs]; omega)
  rwa [putL_plain hs] at this
theorem long_sev {P G M N : Int} {xs : List Int} (hc : ckv P G M N xs = 0) {l : List UInt8} (h : 65536 < l.length) : rdy P G M N xs l.length = 3 := by
  unfold rdy
  rw [if_neg (fun q => q hc), if_pos h]
theorem put_long {P G M N : Int} {xs : List Int} (hc : ckv P G M N xs = 0) {l : List UInt8} (h : 65536 < l.length) : putV P G M N xs l = ([], 3, 0) := by
  unfold putV
  rw [long_sev hc h, if_pos (by decide)]
theorem take_long {P G M N : Int} {xs : List Int} (hc : ckv P G M N xs = 0) {l : List UInt8} (h : 65536 < l.length) : takeV P G M N xs l = ([], 3, 0) := by
  unfold takeV
  rw [long_sev hc h, if_pos (by decide)]
theorem ckv_wide : ckv 44 0 45 120782 [] = 0 := by kernel_rfl
theorem putL_sev (n : Nat) (hn : 0 < n) : (putL 44 0 45 120782 [] (List.replicate n 55) 0 n).flatMap encL = (List.replicate n (120789 : Int)).flatMap encL := by
  unfold putL
  have h1 : ((List.replicate n (55 : UInt8)).take n).drop 0 = List.replicate n 55 := by
    rw [List.drop_zero, List.take_of_length_le (by rw [List.length_replicate]; exact Nat.le_refl _)]
  have h2 : (List.replicate n (55 : UInt8)).drop n = [] := List.drop_of_length_le (by rw [List.length_replicate]; exact Nat.le_refl _)
  rw [h1, h2, whole_bare 120782 _ _ (Nat.le_refl _), List.take_of_length_le (Nat.le_refl _), List.map_replicate]
  simp
theorem flat_len : ∀ n : Nat, ((List.replicate n (120789 : Int)).flatMap encL).length = n * 4
  | 0 => by simp
  | n + 1 => by
    have : (encL 120789).length = 4 := by decide
    rw [List.replicate_succ, List.flatMap_cons, List.length_append, flat_len n, this]
    omega
theorem put_wide (n : Nat) (hn : 0 < n) (h : n ≤ 16384) : ∃ T, putV 44 0 45 120782 [] (List.replicate n 55) = (T, 0, 0) ∧ T.length = n * 4 := by
  have hs := shp_sev n hn
  have hl : (List.replicate n (55 : UInt8)).length = n := List.length_replicate
  refine ⟨_, put_of (P := 44) (G := 0) (M := 45) (N := 120782) (xs := []) ckv_wide (by omega) hs (by rw [putL_sev n hn, flat_len]; omega), ?_⟩
  rw [putL_sev n hn, flat_len]
theorem put_many (n : Nat) (h0 : 16384 < n) (h : n ≤ 65536) : putV 44 0 45 120782 [] (List.replicate n 55) = ([], 4, 0) := by
  have hs := shp_sev n (by omega)
  have hl : (List.replicate n (55 : UInt8)).length = n := List.length_replicate
  have hr : ¬ rdy 44 0 45 120782 [] (List.replicate n (55 : UInt8)).length ≠ 0 := by
    unfold rdy
    rw [if_neg (fun q => q ckv_wide), if_neg (by omega)]; simp
  unfold putV
  rw [if_neg hr, hs, if_neg (by show ¬ (0 : Int) ≤ -1; decide)]
  dsimp only
  rw [rb_flat, putL_sev n (by omega), flat_len, if_pos (by omega)]
theorem pad_long {l : List UInt8} (h : 65536 < l.length) : padV l 257 = ([], 3) := by
  unfold padV
  rw [if_pos h]
theorem put_p1 : putV 46 0 45 48 [] [43, 49] = ([], 12, 0) := by kernel_rfl
theorem put_p2 : putV 46 0 45 48 [] [49, 101, 43, 50] = ([], 12, 2) := by kernel_rfl
theorem ck_a : ckv 44 46 45 48 [256, 1, 1, 1, 1, 1, 1, 1, 1, 1, 1, 1, 1, 1, 1, 1] = 0 := by kernel_rfl
theorem ck_b : ckv 44 46 45 48 [256, 1, 1, 1, 1, 1, 1, 1, 1, 1, 1, 1, 1, 1, 1, 1, 1] = 231 := by kernel_rfl
theorem ck_c : ckv 44 46 45 48 [257] = 231 := by kernel_rfl
theorem ck_d : ckv 0 0 45 48 [] = 230 := by kernel_rfl
theorem ck_i : ckv 46 0 55296 48 [] = 230 := by kernel_rfl
theorem ck_j : ckv 46 0 45 48 [3] = 231 := by kernel_rfl
theorem sev_of {n : Nat} {vs : List UInt8} (hl : n ≤ vs.length) (h : ∀ p, p < n → vs.getD p 0 = 55) : (vs.drop 0).take n = List.replicate n 55 := by
  rw [List.drop_zero]
  refine List.ext_getElem (by rw [List.length_take, List.length_replicate]; omega) (fun i h1 h2 => ?_)
  rw [List.length_take] at h1
  rw [List.getElem_take, List.getElem_replicate]
  have := h i (by omega)
  rwa [List.getD_eq_getElem?_getD, List.getElem?_eq_getElem (by omega)] at this
/-- Marks lie in a block whose sizes may be set. -/
structure MkZ (W : World) (b : Nat) (P G M N : Int) (A : Option Addr) (k c : Nat) : Prop where
  at_ : MkAt W b P G M N A k c
  f4 : W.frozen? ⟨b, 4, none⟩ = false
theorem MkZ.ext {w w' : World} {b : Nat} {P G M N : Int} {A : Option Addr} {k c : Nat} (h : MkZ w b P G M N A k c) (he : Ext w w') : MkZ w' b P G M N A k c :=
  ⟨h.at_.ext he, (Below.frozen (p := ⟨b, 4, none⟩) he h.at_.lt).trans h.f4⟩
theorem MkZ.made (w : World) (P G M N : Int) (A : Option Addr) (k c : Nat) : MkZ (w.alloc (BoxM P G M N A k c)) w.heap.size P G M N A k c := ⟨MkAt.made w P G M N A k c, by simp [go_sem]⟩
theorem MkZ.set {w : World} {b : Nat} {P G M N : Int} {A : Option Addr} {k c : Nat} (h : MkZ w b P G M N A k c) (A' : Option Addr) (k' c' : Nat) : MkZ (w.setCell ⟨b, 4, none⟩ (.slice A' k' c')) b P G M N A' k' c' := by
  refine ⟨⟨?_, ?_, ?_, ?_, ?_, ?_⟩, ?_⟩
  · exact (World.cell?_setCell_other _ _ _ _ (by simp)).trans h.at_.c0
  · exact (World.cell?_setCell_other _ _ _ _ (by simp)).trans h.at_.c1
  · exact (World.cell?_setCell_other _ _ _ _ (by simp)).trans h.at_.c2
  · exact (World.cell?_setCell_other _ _ _ _ (by simp)).trans h.at_.c3
  · exact World.cell?_setCell_same _ _ _ h.at_.c4
  · have := h.at_.lt
    simpa [World.setCell] using this
  · have := h.f4
    simpa [go_sem] using this
theorem rdI_set {w : World} {g n c b o : Nat} {xs : List Int} (h : RdI w (some ⟨g, 0, none⟩) n c xs) (hb : b ≠ g) (v : Value) : RdI (w.setCell ⟨b, o, none⟩ v) (some ⟨g, 0, none⟩) n c xs := by
  refine ⟨h.len, h.cap, h.mx, h.lb, (fun e => by cases e), (fun a e => by cases e; rfl), fun b' off e i hi => ?_⟩
  cases e
  obtain ⟨h1, h2⟩ := h.cells g 0 rfl i hi
  refine ⟨by simpa [World.setCell] using h1, ?_⟩
  exact (World.cell?_setCell_other _ _ _ _ (by simp [hb])).trans h2
theorem rdI_take {w : World} {A : Option Addr} {n c : Nat} {xs : List Int} (h : RdI w A n c xs) (k : Nat) (hk : k ≤ n) : RdI w A k c (xs.take k) := by
  have hl := h.len
  refine ⟨by rw [List.length_take]; omega, by have := h.cap; omega, h.mx, fun x hx => h.lb x (List.mem_of_mem_take hx), h.none_, h.at_, fun b off e i hi => ?_⟩
  obtain ⟨h1, h2⟩ := h.cells b off e i (by rw [List.length_take] at hi; omega)
  refine ⟨h1, ?_⟩
  rw [h2, List.getElem_take]
end Go.Proofs.YtgedpfbokkambaaGreatDoor
end
section
/- Marks: MarksNames: the walk. -/
namespace Go.Proofs.YtgedpfbokkambaaGreatDoor
open Go.RowKit
attribute [local go_sem] bs_size bs_extract bs_get bs_append bs_toList const_get
attribute [local go_sem] sz2 sz3 sz4 sz5 sz6 sz7 sz8
set_option maxHeartbeats 16000000
set_option maxRecDepth 100000
attribute [local irreducible] Calls
theorem nm_plain (w : World) : Calls Tryz.prog 17 #[] w fun e w' => e = .returned (mkV 46 0 45 48 none 0 0) ∧ Ext w w' := by
  go_enter Tryz.func17, Tryz.ntmps17
  go_wp2
  refine bodyPost_ret (v := mkV 46 0 45 48 none 0 0) ?h rfl ⟨rfl, ?_⟩
  case h => simp [results, Tryz.results17, go_sem]
  · skip
    repeat (first | exact ext_refl _ | assumption | refine ext_setCell ?_ (by simp; try omega) _ | refine ext_alloc ?_ _ | refine ext_drew ?_ | refine ext_drewN ?_ _ | refine ext_trans ?_ (Aft.use _) | refine ext_trans ?_ (by assumption))
theorem nm_core (L1 L2 L3 L4 T : List UInt8) (w : World)
    (hLs : ∀ vs : List UInt8, vs.length = 65537 → (∀ p, p < 65537 → vs.getD p 0 = 55) → L1 = (vs.drop 0).take 65536 ∧ L2 = (vs.drop 0).take 65537 ∧ L3 = (vs.drop 0).take 16384 ∧ L4 = (vs.drop 0).take 16385)
    (hT : T.length = 65536)
    (kL : ∀ w', Ext w w' → Calls Tryz.prog 6 #[] w' fun e w'' => e = .returned (.bool true) ∧ Ext w' w'')
    (kP1 : ∀ w', Ext w w' → Calls Tryz.prog 18 #[mkV 46 0 45 48 none 0 0, .string (bs L1)] w' fun e w'' => e = .returned (.tuple #[.string (bs L1), .nilIface]) ∧ Ext w' w'')
    (kP2 : ∀ w', Ext w w' → Calls Tryz.prog 18 #[mkV 46 0 45 48 none 0 0, .string (bs L2)] w' fun e w'' => ∃ v, e = .returned (.tuple #[.string (bs []), v]) ∧ Ext w' w'' ∧ Hid (ErrIs w'' v 3 0))
    (kT2 : ∀ w', Ext w w' → Calls Tryz.prog 9 #[mkV 46 0 45 48 none 0 0, .string (bs L2)] w' fun e w'' => ∃ v, e = .returned (.tuple #[.string (bs []), v]) ∧ Ext w' w'' ∧ Hid (ErrIs w'' v 3 0))
    (kW1 : ∀ w', Ext w w' → Calls Tryz.prog 18 #[mkV 44 0 45 120782 none 0 0, .string (bs L3)] w' fun e w'' => e = .returned (.tuple #[.string (bs T), .nilIface]) ∧ Ext w' w'')
    (kW2 : ∀ w', Ext w w' → Calls Tryz.prog 18 #[mkV 44 0 45 120782 none 0 0, .string (bs L4)] w' fun e w'' => ∃ v, e = .returned (.tuple #[.string (bs []), v]) ∧ Ext w' w'' ∧ Hid (ErrIs w'' v 4 0))
    (kF : ∀ v c z w', Ext w w' → ErrIs w' v c z → c ≠ 0 → Calls Tryz.prog 10 #[v] w' fun e w'' => e = .returned (.tuple #[.agg #[.int .i64 c, .int .i64 z], .bool true]) ∧ Ext w' w'')
    (kCa : ∀ A c w', RdI w' A 16 c [256, 1, 1, 1, 1, 1, 1, 1, 1, 1, 1, 1, 1, 1, 1, 1] → Calls Tryz.prog 19 #[mkV 44 46 45 48 A 16 c] w' fun e w'' => e = .returned (.int .i64 0) ∧ Ext w' w'')
    (kCb : ∀ A c w', RdI w' A 17 c [256, 1, 1, 1, 1, 1, 1, 1, 1, 1, 1, 1, 1, 1, 1, 1, 1] → Calls Tryz.prog 19 #[mkV 44 46 45 48 A 17 c] w' fun e w'' => e = .returned (.int .i64 231) ∧ Ext w' w'')
    (kCc : ∀ A c w', RdI w' A 1 c [257] → Calls Tryz.prog 19 #[mkV 44 46 45 48 A 1 c] w' fun e w'' => e = .returned (.int .i64 231) ∧ Ext w' w'')
    (kCd : ∀ w', Calls Tryz.prog 19 #[mkV 0 0 45 48 none 0 0] w' fun e w'' => e = .returned (.int .i64 230) ∧ Ext w' w'')
    (kCi : ∀ w', Calls Tryz.prog 19 #[mkV 46 0 55296 48 none 0 0] w' fun e w'' => e = .returned (.int .i64 230) ∧ Ext w' w'')
    (kCj : ∀ A c w', RdI w' A 1 c [3] → Calls Tryz.prog 19 #[mkV 46 0 45 48 A 1 c] w' fun e w'' => e = .returned (.int .i64 231) ∧ Ext w' w'')
    (kP6 : ∀ w', Calls Tryz.prog 18 #[mkV 46 0 45 48 none 0 0, .string ⟨#[43, 49]⟩] w' fun e w'' => ∃ v, e = .returned (.tuple #[.string (bs []), v]) ∧ Ext w' w'' ∧ Hid (ErrIs w'' v 12 0))
    (kP7 : ∀ w', Calls Tryz.prog 18 #[mkV 46 0 45 48 none 0 0, .string ⟨#[49, 101, 43, 50]⟩] w' fun e w'' => ∃ v, e = .returned (.tuple #[.string (bs []), v]) ∧ Ext w' w'' ∧ Hid (ErrIs w'' v 12 2))
    (kD : ∀ w', Calls Tryz.prog 13 #[.string (bs L2), .int .i64 257] w' fun e w'' => e = .returned (.tuple #[.string (bs []), .int .i64 3]) ∧ Ext w' w'') :
    Calls Tryz.prog 5 #[] w fun e w' => e = .returned (.bool true) ∧ Ext w w' := by
  have KZ := Lib.hid nm_plain
  obtain ⟨N, hN⟩ : ∃ N : Nat, N = 65537 := ⟨_, rfl⟩
  have hN1 : Hid ((65537 : Int) = (N : Int)) := by show (65537 : Int) = (N : Int); omega
  have HN := Lib.hid hN
  have HLs := Lib.hid hLs
  have KL := Lib.hid kL
  have KP1 := Lib.hid kP1
  have KP2 := Lib.hid kP2
  have KT2 := Lib.hid kT2
  have KW1 := Lib.hid kW1
  have KW2 := Lib.hid kW2
  have KF := Lib.hid kF
  have KCa := Lib.hid kCa
  have KCb := Lib.hid kCb
  have KCc := Lib.hid kCc
  have KCd := Lib.hid kCd
  have KCi := Lib.hid kCi
  have KCj := Lib.hid kCj
  have KP6 := Lib.hid kP6
  have KP7 := Lib.hid kP7
  have KD := Lib.hid kD
  have HT := Lib.hid hT
  clear hN hLs kL kP1 kP2 kT2 kW1 kW2 kF kCa kCb kCc kCd kCi kCj kP6 kP7 kD hT
  go_enter Tryz.func5, Tryz.ntmps5
  go_upto_region 3 with (first
    | (go_at_call 6; (with_reducible refine (KL.out _ (by (repeat (first | exact ext_refl _ | assumption | refine ext_setCell ?_ (by simp; try omega) _ | refine ext_alloc ?_ _ | refine ext_drew ?_ | refine ext_drewN ?_ _ | refine ext_trans ?_ (Aft.use _) | refine ext_trans ?_ (by assumption))))).mono ?_); rintro e w1 ⟨rfl, hE1⟩; have hX1 := hE1)
    | (go_at_call 17; (with_reducible refine (KZ.out _).mono ?_); rintro e w2 ⟨rfl, hE2⟩; have hX2 := ext_trans hX1 hE2))
  obtain ⟨v1, hv1⟩ : ∃ z, z = w2.alloc (BoxM 46 0 45 48 none 0 0) := ⟨_, rfl⟩
  obtain ⟨B, hB⟩ : ∃ z, w2.heap.size = z := ⟨_, rfl⟩
  have b1 := Lib.hid (MkAt.made w2 46 0 45 48 none 0 0)
  have xV1 := Lib.hid (ext_alloc hX2 (BoxM 46 0 45 48 none 0 0))
  rw [← hv1, hB] at b1
  rw [← hv1] at xV1
  rw [← hv1, hB]
  obtain ⟨p0, p1, p2, p3, p4, pl⟩ := b1.out
  clear hv1 hB hE1 hX1 hE2 hX2 KL KZ
  go_wp2_with (first
    | (at_make; refine make_u8 rfl _ _ rfl _ _ _ _ N rfl rfl hN1.out hN1.out (by have := HN.out; omega) ?_; intro w3 hx1 ho1; have hX3 := Lib.hid hx1; clear hx1)
    | go_in)
  have hNb : N ≤ 1000000 := by have := HN.out; omega
  clear hN1
  go_loopw [4] (fun vi wr => ∃ (j : Nat) (qs : List UInt8), j ≤ N ∧ vi = .int .i64 (j : Int) ∧ Hid (qs.length = N ∧ ∀ p, p < j → qs.getD p 0 = 55) ∧
      Hid (wr.ownsRow v1.heap.size 5 1 (.slice (some ⟨v1.heap.size, 0, none⟩) N N) N (qs.map bV)) ∧ Hid (Ext v1 wr))
    (fun vi _ => N - (intOf vi).toNat)
  case atStart => exact ⟨0, List.replicate N 0, Nat.zero_le _, rfl, ⟨List.length_replicate, fun p hp => absurd hp (Nat.not_lt_zero _)⟩, ho1.out, hX3.out⟩
  case round =>
    obtain ⟨j, qs, hj, rfl, hqs, ho, hx⟩ := hrel
    by_cases hlt : j < N
    · obtain ⟨hc2, hf2⟩ := ownb_at ho.out j hlt
      go_wp2
      case roundEnd =>
        refine ⟨⟨j + 1, qs.set j 55, by omega, by go_num, ⟨by rw [List.length_set]; exact hqs.out.1, fun p hp => ?_⟩, ownb_set ho.out j 55, ext_setCell hx.out (Nat.le_refl _) _⟩, ?_⟩
        · by_cases e : p = j
          · subst e
            rw [List.getD_eq_getElem?_getD, List.getElem?_set_self (by rw [hqs.out.1]; exact hlt)]; rfl
          · rw [List.getD_eq_getElem?_getD, List.getElem?_set_ne (by omega), ← List.getD_eq_getElem?_getD]
            exact hqs.out.2 p (by omega)
        · simp [intOf]; omega
    · obtain rfl : j = N := by omega
      have hN := HN.out
      obtain ⟨hL1, hL2, hL3, hL4⟩ := HLs.out qs (hqs.out.1.trans hN) (fun p hp => hqs.out.2 p (by omega))
      obtain ⟨v2, rfl⟩ : ∃ u, u = wr := ⟨wr, rfl⟩
      have xV2 : Ext v1 v2 := hx.out
      have HC1 : Hid (∀ u, Ext v2 u → (convert 46 9 (.slice (some ⟨v1.heap.size, 0, none⟩) 65536 j)).run Tryz.prog u = .ok (.string (bs L1)) u) := Lib.hid fun u he => ownb_str (own_ext ho.out he) 0 65536 j (by omega) L1 hL1
      have HC2 : Hid (∀ u, Ext v2 u → (convert 46 9 (.slice (some ⟨v1.heap.size, 0, none⟩) j j)).run Tryz.prog u = .ok (.string (bs L2)) u) := Lib.hid fun u he => ownb_str (own_ext ho.out he) 0 j j (by omega) L2 (by rw [hL2, ← hN])
      have HC3 : Hid (∀ u, Ext v2 u → (convert 46 9 (.slice (some ⟨v1.heap.size, 0, none⟩) 16384 j)).run Tryz.prog u = .ok (.string (bs L3)) u) := Lib.hid fun u he => ownb_str (own_ext ho.out he) 0 16384 j (by omega) L3 hL3
      have HC4 : Hid (∀ u, Ext v2 u → (convert 46 9 (.slice (some ⟨v1.heap.size, 0, none⟩) 16385 j)).run Tryz.prog u = .ok (.string (bs L4)) u) := Lib.hid fun u he => ownb_str (own_ext ho.out he) 0 16385 j (by omega) L4 hL4
      have hN3 : (65536 : Int) ≤ (j : Int) := by omega
      have hN4 : (16384 : Int) ≤ (j : Int) := by omega
      have hN5 : (16385 : Int) ≤ (j : Int) := by omega
      have b2 := Lib.hid (b1.out.ext xV2)
      have xW2 := Lib.hid (ext_trans xV1.out xV2)
      obtain ⟨p0, p1, p2, p3, p4, pl⟩ := b2.out
      have hcv := HC1.out _ (ext_refl _)
      have hcv1 := HC1.out _ (ext_drew (ext_refl _))
      have hcv2 := HC1.out _ (ext_drew (ext_drew (ext_refl _)))
      have hcv3 := HC1.out _ (ext_drew (ext_drew (ext_drew (ext_refl _))))
      have hcv4 := HC1.out _ (ext_drew (ext_drew (ext_drew (ext_drew (ext_refl _)))))
      have hcvN := fun m => HC1.out (v2.drewN m) (ext_drewN (ext_refl _) m)
      clear HLs hL1 hL2 hL3 hL4 hlt hj hqs ho1 hX3 hx ho xV2 b1 xV1 HN hN
      go_upto_region 10 with fail
      go_cut [5, 6] (fun va vb wx => va = .string (bs L1) ∧ vb = .nilIface ∧ Hid (Ext v2 wx))
      case first =>
        as_aux_lemma =>
          go_region_with (first
            | (go_at_call 18; (with_reducible refine (KP1.out _ (by have q := xW2.out; (repeat (first | exact ext_refl _ | assumption | refine ext_setCell ?_ (by simp; try omega) _ | refine ext_alloc ?_ _ | refine ext_drew ?_ | refine ext_drewN ?_ _ | refine ext_trans ?_ (Aft.use _) | refine ext_trans ?_ (by assumption))))).mono ?_); rintro e w4 ⟨rfl, hE4⟩; have hX4 : Ext v2 w4 := (by have q := hE4; (repeat (first | exact ext_refl _ | assumption | refine ext_setCell ?_ (by simp; try omega) _ | refine ext_alloc ?_ _ | refine ext_drew ?_ | refine ext_drewN ?_ _ | refine ext_trans ?_ (Aft.use _) | refine ext_trans ?_ (by assumption))))))
          all_goals
            go_wp2_with fail
            go_meet
            case rel => exact ⟨rfl, rfl, hX4⟩
      case rest =>
        obtain ⟨rfl, rfl, hX4⟩ := hcut
        obtain ⟨w4, rfl⟩ : ∃ u, u = wc := ⟨wc, rfl⟩
        obtain ⟨p0, p1, p2, p3, p4, pl⟩ := b2.out.ext hX4.out
        have hcw := HC2.out _ hX4.out
        clear hcv hcv1 hcv2 hcv3 hcv4 hcvN
        go_upto_region 13 with (first
          | (go_at_call 18; (with_reducible refine (KP2.out _ (by have q := xW2.out; have q2 := hX4.out; (repeat (first | exact ext_refl _ | assumption | refine ext_setCell ?_ (by simp; try omega) _ | refine ext_alloc ?_ _ | refine ext_drew ?_ | refine ext_drewN ?_ _ | refine ext_trans ?_ (Aft.use _) | refine ext_trans ?_ (by assumption))))).mono ?_); rintro e w5 ⟨e2, rfl, hE5, hV5⟩; have hX5 := ext_trans hX4.out hE5; obtain ⟨p0, p1, p2, p3, p4, pl⟩ := b2.out.ext hX5; have hcw := HC2.out _ hX5)
          | (go_at_call 9; (with_reducible refine (KT2.out _ (by have q := xW2.out; (repeat (first | exact ext_refl _ | assumption | refine ext_setCell ?_ (by simp; try omega) _ | refine ext_alloc ?_ _ | refine ext_drew ?_ | refine ext_drewN ?_ _ | refine ext_trans ?_ (Aft.use _) | refine ext_trans ?_ (by assumption))))).mono ?_); rintro e w6 ⟨e3, rfl, hE6, hV6⟩; have hX6 := ext_trans hX5 hE6))
        go_upto_region 14 with fail
        obtain ⟨v3, hv3⟩ : ∃ z, z = w6.alloc (BoxM 44 0 45 120782 none 0 0) := ⟨_, rfl⟩
        obtain ⟨B2, hB2⟩ : ∃ z, w6.heap.size = z := ⟨_, rfl⟩
        have b3 := Lib.hid (MkAt.made w6 44 0 45 120782 none 0 0)
        have xV3 := Lib.hid (ext_alloc (ext_trans xW2.out hX6) (BoxM 44 0 45 120782 none 0 0))
        have xU3 := Lib.hid (ext_alloc hX6 (BoxM 44 0 45 120782 none 0 0))
        have hV5' := Lib.hid (hV5.out.ext (ext_alloc hE6 (BoxM 44 0 45 120782 none 0 0)))
        have hV6' := Lib.hid (hV6.out.ext (ext_alloc (ext_refl w6) (BoxM 44 0 45 120782 none 0 0)))
        rw [← hv3, hB2] at b3
        rw [← hv3] at xV3 xU3 hV5' hV6'
        rw [← hv3, hB2]
        obtain ⟨p0, p1, p2, p3, p4, pl⟩ := b3.out
        have hcv := HC3.out _ xU3.out
        have hcv1 := HC3.out _ (ext_drew xU3.out)
        have hcv2 := HC3.out _ (ext_drew (ext_drew xU3.out))
        have hcv3 := HC3.out _ (ext_drew (ext_drew (ext_drew xU3.out)))
        have hcv4 := HC3.out _ (ext_drew (ext_drew (ext_drew (ext_drew xU3.out))))
        have hcvN := fun m => HC3.out (v3.drewN m) (ext_drewN xU3.out m)
        clear hv3 hB2 hE5 hX5 hE6 hX6 hV5 hV6 hcw hX4 KP1 KP2 KT2
        go_cut [12, 13] (fun va vb wx => va = .string (bs T) ∧ vb = .nilIface ∧ Hid (Ext v3 wx))
        case first =>
          as_aux_lemma =>
            go_region_with (first
              | (go_at_call 18; (with_reducible refine (KW1.out _ (by have q := xV3.out; (repeat (first | exact ext_refl _ | assumption | refine ext_setCell ?_ (by simp; try omega) _ | refine ext_alloc ?_ _ | refine ext_drew ?_ | refine ext_drewN ?_ _ | refine ext_trans ?_ (Aft.use _) | refine ext_trans ?_ (by assumption))))).mono ?_); rintro e w7 ⟨rfl, hE7⟩; have hX7 : Ext v3 w7 := (by have q := hE7; (repeat (first | exact ext_refl _ | assumption | refine ext_setCell ?_ (by simp; try omega) _ | refine ext_alloc ?_ _ | refine ext_drew ?_ | refine ext_drewN ?_ _ | refine ext_trans ?_ (Aft.use _) | refine ext_trans ?_ (by assumption))))))
            all_goals
              go_wp2_with fail
              go_meet
              case rel => exact ⟨rfl, rfl, hX7⟩
        case rest =>
          obtain ⟨rfl, rfl, hX7⟩ := hcut
          obtain ⟨w7, rfl⟩ : ∃ u, u = wc := ⟨wc, rfl⟩
          obtain ⟨p0, p1, p2, p3, p4, pl⟩ := b3.out.ext hX7.out
          have xU7 := ext_trans xU3.out hX7.out
          have hcv := HC4.out _ xU7
          have hcv1 := HC4.out _ (ext_drew xU7)
          have hcv2 := HC4.out _ (ext_drew (ext_drew xU7))
          have hcv3 := HC4.out _ (ext_drew (ext_drew (ext_drew xU7)))
          have hcv4 := HC4.out _ (ext_drew (ext_drew (ext_drew (ext_drew xU7))))
          have hcvN := fun m => HC4.out (w7.drewN m) (ext_drewN xU7 m)
          clear xU7
          go_upto_region 15 with fail
          go_cut [14, 15] (fun va vb wx => va = .string (bs []) ∧ Hid (ErrIs wx vb 4 0) ∧ Hid (Ext v3 wx))
          case first =>
            as_aux_lemma =>
              go_region_with (first
                | (go_at_call 18; (with_reducible refine (KW2.out _ (by have q := xV3.out; have q2 := hX7.out; (repeat (first | exact ext_refl _ | assumption | refine ext_setCell ?_ (by simp; try omega) _ | refine ext_alloc ?_ _ | refine ext_drew ?_ | refine ext_drewN ?_ _ | refine ext_trans ?_ (Aft.use _) | refine ext_trans ?_ (by assumption))))).mono ?_); rintro e w8 ⟨e5, rfl, hE8, hV8⟩; have hX8 : Ext v3 w8 := (by have q2 := hX7.out; have q := hE8; (repeat (first | exact ext_refl _ | assumption | refine ext_setCell ?_ (by simp; try omega) _ | refine ext_alloc ?_ _ | refine ext_drew ?_ | refine ext_drewN ?_ _ | refine ext_trans ?_ (Aft.use _) | refine ext_trans ?_ (by assumption))))))
              all_goals
                go_wp2_with fail
                go_meet
                case rel => exact ⟨rfl, hV8, hX8⟩
          case rest =>
            obtain ⟨rfl, hV8, hX8⟩ := hcut
            obtain ⟨w8, rfl⟩ : ∃ u, u = wc := ⟨wc, rfl⟩
            have hV3 := Lib.hid (hV5'.out.ext hX8.out)
            have hV4 := Lib.hid (hV6'.out.ext hX8.out)
            have xW8 := Lib.hid (ext_trans xV3.out hX8.out)
            have xU8 := Lib.hid (ext_trans xU3.out hX8.out)
            have KF3 := Lib.hid (fun v w' (h1 : Ext w w') (h2 : ErrIs w' v 3 0) => KF.out v 3 0 w' h1 h2 (by decide))
            have KF4 := Lib.hid (fun v w' (h1 : Ext w w') (h2 : ErrIs w' v 4 0) => KF.out v 4 0 w' h1 h2 (by decide))
            clear hcv hcv1 hcv2 hcv3 hcv4 hcvN p0 p1 p2 p3 p4 pl KW1 KW2 hX7 hX8 HC3 HC4 b3 hV5' hV6' xV3 xU3
            go_upto_region 19 with (first
              | (go_at_call 10; (with_reducible refine (KF3.out _ _ xW8.out hV3.out).mono ?_); rintro e w9 ⟨rfl, hE9⟩; have hX9 := ext_alloc hE9 (.cells #[.int .i64 3, .int .i64 0] 34); have hY9 := ext_trans xW8.out hX9; have hV9 := hV4.out.ext hX9)
              | (go_at_call 10; (with_reducible refine (KF3.out _ _ hY9 hV9).mono ?_); rintro e w10 ⟨rfl, hE10⟩; have hX10 := ext_trans hX9 (ext_alloc hE10 (.cells #[.int .i64 3, .int .i64 0] 34)); have hY10 := ext_trans xW8.out hX10; have hV10 := hV8.out.ext hX10)
              | (go_at_call 10; (with_reducible refine (KF4.out _ _ hY10 hV10).mono ?_); rintro e w11 ⟨rfl, hE11⟩; have hX11 := ext_trans hX10 (ext_alloc hE11 (.cells #[.int .i64 4, .int .i64 0] 34))))
            have k9 := ext_alloc hE10 (.cells #[.int .i64 3, .int .i64 0] 34)
            have k10 := ext_alloc hE11 (.cells #[.int .i64 4, .int .i64 0] 34)
            have d0 := (Below.cell (p := ⟨w9.heap.size, 0, none⟩) (ext_trans k9 k10) (by simp)).trans (fa_new0 w9 (.int .i64 3) (.int .i64 0) 34)
            have d1 := (Below.cell (p := ⟨w9.heap.size, 1, none⟩) (ext_trans k9 k10) (by simp)).trans (fa_new1 w9 (.int .i64 3) (.int .i64 0) 34)
            have d2 := (Below.cell (p := ⟨w10.heap.size, 0, none⟩) k10 (by simp)).trans (fa_new0 w10 (.int .i64 3) (.int .i64 0) 34)
            have d3 := (Below.cell (p := ⟨w10.heap.size, 1, none⟩) k10 (by simp)).trans (fa_new1 w10 (.int .i64 3) (.int .i64 0) 34)
            have l9 := fa_lt (ext_trans k9 k10)
            have l10 := fa_lt k10
            have hcv := HC1.out _ (ext_trans xU8.out hX11)
            have hT := HT.out
            have hYX := Lib.hid hX11
            clear k9 k10 hV9 hV10 hY9 hY10 hX9 hX10 hX11 hE9 hE10 hE11 KF3 KF4 hV3 hV4 hV8
            go_upto_region 21 with fail
            obtain ⟨s0, hs0⟩ : ∃ z, z = w11.alloc (.cells #[.int .i64 4, .int .i64 0] 34) := ⟨_, rfl⟩
            rw [← hs0] at hYX
            rw [← hs0]
            have xS0 := Lib.hid (ext_trans xW8.out hYX.out)
            have xT0 := Lib.hid (ext_trans xU8.out hYX.out)
            clear hs0 hYX d0 d1 d2 d3 l9 l10 hcv hT xW8 xU8 HT
            go_upto_region 22 with fail
            obtain ⟨s1, hs1⟩ : ∃ z, z = s0.alloc (.cells #[.int .i64 256, .int .i64 1, .int .i64 1, .int .i64 1, .int .i64 1, .int .i64 1, .int .i64 1, .int .i64 1, .int .i64 1, .int .i64 1, .int .i64 1, .int .i64 1, .int .i64 1, .int .i64 1, .int .i64 1, .int .i64 1, .int .i64 1] 3) := ⟨_, rfl⟩
            have r17 : Hid (RdI s1 (some ⟨s0.heap.size, 0, none⟩) 17 17 [256, 1, 1, 1, 1, 1, 1, 1, 1, 1, 1, 1, 1, 1, 1, 1, 1]) := Lib.hid (by
              rw [hs1]
              exact rdI_lit [256, 1, 1, 1, 1, 1, 1, 1, 1, 1, 1, 1, 1, 1, 1, 1, 1] rfl (by decide) rfl (by intro x hx; simp at hx; omega) rfl)
            have r16 : Hid (RdI s1 (some ⟨s0.heap.size, 0, none⟩) 16 17 [256, 1, 1, 1, 1, 1, 1, 1, 1, 1, 1, 1, 1, 1, 1, 1]) := Lib.hid (rdI_take r17.out 16 (by decide))
            have xS1 : Ext s0 s1 := by rw [hs1]; exact ext_alloc (ext_refl _) _
            obtain ⟨g, hg⟩ : ∃ g, s0.heap.size = g := ⟨_, rfl⟩
            have hgs : g < s1.heap.size := by rw [hs1, ← hg]; simp
            rw [← hs1, hg]
            rw [hg] at r16 r17
            have xS1w := Lib.hid (ext_trans xS0.out xS1)
            have xT1 := Lib.hid (ext_trans xT0.out xS1)
            clear hs1 xS1 hg xS0 xT0
            go_upto_region 23 with fail
            obtain ⟨B3, hB3⟩ : ∃ z, s1.heap.size = z := ⟨_, rfl⟩
            have m2 := Lib.hid (MkZ.made s1 44 46 45 48 (some ⟨g, 0, none⟩) 16 17)
            obtain ⟨s2, hs2⟩ : ∃ z, z = s1.alloc (BoxM 44 46 45 48 (some ⟨g, 0, none⟩) 16 17) := ⟨_, rfl⟩
            have xA2 : Ext s1 s2 := by rw [hs2]; exact ext_alloc (ext_refl _) _
            rw [← hs2, hB3]
            rw [← hs2, hB3] at m2
            obtain ⟨p0, p1, p2, p3, p4, pl⟩ := m2.out.at_
            clear hs2
            go_upto_region 24 with (first
              | (go_at_call 19; (with_reducible refine (KCa.out _ _ _ (r16.out.ext xA2)).mono ?_); rintro e s3 ⟨rfl, hE3⟩))
            have m3 := m2.out.ext hE3
            have xA3 := ext_trans xA2 hE3
            obtain ⟨p0, p1, p2, p3, p4, pl⟩ := m3.at_
            have f4 := m3.f4
            have m4 := m3.set (some ⟨g, 0, none⟩) 17 17
            have xA4 : Ext s1 (s3.setCell ⟨B3, 4, none⟩ (.slice (some ⟨g, 0, none⟩) 17 17)) := ext_setCell xA3 (Nat.le_of_eq hB3) _
            go_upto_region 25 with fail
            obtain ⟨p0, p1, p2, p3, p4, pl⟩ := m4.at_
            obtain ⟨s4, hs4⟩ : ∃ z, z = s3.setCell ⟨B3, 4, none⟩ (.slice (some ⟨g, 0, none⟩) 17 17) := ⟨_, rfl⟩
            rw [← hs4] at m4 xA4 p0 p1 p2 p3 p4 pl
            rw [← hs4]
            clear hs4 m3 xA3 f4 m2 xA2 hE3
            go_upto_region 26 with (first
              | (go_at_call 19; (with_reducible refine (KCb.out _ _ _ (r17.out.ext xA4)).mono ?_); rintro e s5 ⟨rfl, hE5⟩))
            have m5 := (m4.ext hE5).ext (ext_alloc (ext_refl s5) (.cells #[.int .i64 257] 3))
            have xA5 := ext_alloc (ext_trans xA4 hE5) (.cells #[.int .i64 257] 3)
            have rr := rdI_lit (w := s5) [257] rfl (by decide) (arr := #[.int .i64 257]) rfl (by intro x hx; simp at hx; omega) rfl
            have hB5 : B3 ≠ s5.heap.size := by have := (m4.ext hE5).at_.lt; omega
            obtain ⟨p0, p1, p2, p3, p4, pl⟩ := m5.at_
            have f4 := m5.f4
            have m6 := m5.set (some ⟨s5.heap.size, 0, none⟩) 1 1
            have rr6 := rdI_set (o := 4) rr hB5 (.slice (some ⟨s5.heap.size, 0, none⟩) 1 1)
            have xA6 : Ext s1 _ := ext_setCell (p := ⟨B3, 4, none⟩) xA5 (Nat.le_of_eq hB3) (.slice (some ⟨s5.heap.size, 0, none⟩) 1 1)
            go_upto_region 27 with fail
            obtain ⟨s6, hs6⟩ : ∃ z, z = (s5.alloc (.cells #[.int .i64 257] 3)).setCell ⟨B3, 4, none⟩ (.slice (some ⟨s5.heap.size, 0, none⟩) 1 1) := ⟨_, rfl⟩
            obtain ⟨p0, p1, p2, p3, p4, pl⟩ := m6.at_
            rw [← hs6] at rr6 xA6 p0 p1 p2 p3 p4 pl
            rw [← hs6]
            clear hs6 rr m6 m5 xA5 m4 xA4 hE5 f4
            go_upto_region 28 with (first
              | (go_at_call 19; (with_reducible refine (KCc.out _ _ _ rr6).mono ?_); rintro e s7 ⟨rfl, hE7⟩; have xA7 := ext_trans xA6 hE7))
            clear p0 p1 p2 p3 p4 pl rr6 hB5
            go_upto_region 31 with (first
              | (go_at_call 19; (with_reducible refine (KCd.out _).mono ?_); rintro e s8 ⟨rfl, hE8⟩; have xA8 := ext_trans xA7 hE8)
              | (go_at_call 19; (with_reducible refine (KCi.out _).mono ?_); rintro e s9 ⟨rfl, hE9⟩; have xA9 := ext_trans xA8 hE9; have rj := rdI_lit (w := s9) [3] rfl (by decide) (arr := #[.int .i64 3]) rfl (by intro x hx; simp at hx; omega) rfl)
              | (go_at_call 19; (with_reducible refine (KCj.out _ _ _ rj).mono ?_); rintro e s10 ⟨rfl, hE10⟩; have xA10 := ext_trans (ext_alloc xA9 (.cells #[.int .i64 3] 3)) hE10))
            obtain ⟨p0, p1, p2, p3, p4, pl⟩ := b2.out.ext (ext_trans xT1.out xA10)
            have xB10 := Lib.hid (ext_trans xT1.out xA10)
            have xC10 := Lib.hid (ext_trans xS1w.out xA10)
            clear xA6 xA7 hE7 xA8 hE8 xA9 hE9 rj xA10 hE10
            go_upto_region 33 with (first
              | (go_at_call 18; (with_reducible refine (KP6.out _).mono ?_); rintro e s11 ⟨e6, rfl, hE11, hV11⟩; obtain ⟨p0, p1, p2, p3, p4, pl⟩ := b2.out.ext (ext_trans xB10.out hE11))
              | (go_at_call 18; (with_reducible refine (KP7.out _).mono ?_); rintro e s12 ⟨e7, rfl, hE12, hV12⟩))
            have xB12 := Lib.hid (ext_trans xB10.out (ext_trans hE11 hE12))
            have xC12 := Lib.hid (ext_trans xC10.out (ext_trans hE11 hE12))
            have hV6 := Lib.hid (hV11.out.ext hE12)
            have hcv := HC2.out _ xB12.out
            clear p0 p1 p2 p3 p4 pl hE11 hE12 hV11 xB10 xC10
            have KF12 := Lib.hid (fun v z w' (h1 : Ext w w') (h2 : ErrIs w' v 12 z) => KF.out v 12 z w' h1 h2 (by decide))
            go_upto_region 36 with (first
              | (go_at_call 13; (with_reducible refine (KD.out _).mono ?_); rintro e s13 ⟨rfl, hE13⟩; have xC13 := ext_trans xC12.out hE13; have hV13 := hV6.out.ext hE13; have hW13 := hV12.out.ext hE13)
              | (go_at_call 10; (with_reducible refine (KF12.out _ _ _ xC13 hV13).mono ?_); rintro e s14 ⟨rfl, hE14⟩; have xX14 := ext_alloc hE14 (.cells #[.int .i64 12, .int .i64 0] 34); have xC14 := ext_trans xC13 xX14; have hW14 := hW13.ext xX14)
              | (go_at_call 10; (with_reducible refine (KF12.out _ _ _ xC14 hW14).mono ?_); rintro e s15 ⟨rfl, hE15⟩; have xX15 := ext_alloc hE15 (.cells #[.int .i64 12, .int .i64 2] 34); have xC15 := ext_trans xC14 xX15))
            have d0 := (Below.cell (p := ⟨s14.heap.size, 0, none⟩) xX15 (by simp)).trans (fa_new0 s14 (.int .i64 12) (.int .i64 0) 34)
            have d1 := (Below.cell (p := ⟨s14.heap.size, 1, none⟩) xX15 (by simp)).trans (fa_new1 s14 (.int .i64 12) (.int .i64 0) 34)
            have l14 := fa_lt xX15
            have HX := Lib.hid xC15
            clear xC13 xC14 xC15 xX14 xX15 hV13 hW13 hW14 hE13 hE14 hE15 hV6 hV12 hcv xB12 xC12
            go_wp2
            refine bodyPost_ret (v := .bool true) ?h rfl ⟨rfl, ?_⟩
            case h => simp [results, Tryz.results5, go_sem]
            exact HX.out
theorem nm_of (n1 n2 n3 n4 : Nat) (h1 : n1 = 65536) (h2 : n2 = 65537) (h3 : n3 = 16384) (h4 : n4 = 16385) (w : World) (hL : LwT w) : Calls Tryz.prog 5 #[] w fun e w' => e = .returned (.bool true) ∧ Ext w w' := by
  obtain ⟨T, hT, hTl⟩ := put_wide n3 (by omega) (by omega)
  have l2 : 65536 < (List.replicate n2 (55 : UInt8)).length := by rw [List.length_replicate]; omega
  have hn : ∀ u : World, RdI u none 0 0 [] := fun u => ⟨rfl, Nat.le_refl _, by omega, (fun x hx => by cases hx), fun _ => rfl, (fun a e => by cases e), (fun b off e => by cases e)⟩
  refine nm_core (List.replicate n1 55) (List.replicate n2 55) (List.replicate n3 55) (List.replicate n4 55) T w (fun vs hl hv => ⟨?_, ?_, ?_, ?_⟩) (by omega) (fun w' h => av_alive w' (hL.ext h)) (fun w' _ => ?_) (fun w' _ => ?_) (fun w' h => ?_) (fun w' _ => ?_) (fun w' _ => ?_) (fun v c z w' h he hc => fa_fault v c z w' (hL.ext h) he (fun q => absurd q hc))
    (fun A c w' h => ?_) (fun A c w' h => ?_) (fun A c w' h => ?_) (fun w' => ?_) (fun w' => ?_) (fun A c w' h => ?_) (fun w' => ?_) (fun w' => ?_) (fun w' => ?_)
  · rw [← h1]; exact (sev_of (by omega) (fun p hp => hv p (by omega))).symm
  · rw [← h2]; exact (sev_of (by omega) (fun p hp => hv p (by omega))).symm
  · rw [← h3]; exact (sev_of (by omega) (fun p hp => hv p (by omega))).symm
  · rw [← h4]; exact (sev_of (by omega) (fun p hp => hv p (by omega))).symm
  · have := mk_Put 46 0 45 48 none 0 0 [] (List.replicate n1 55) w' (hn w')
    rw [put_sev n1 (by omega) (by omega)] at this
    refine this.mono ?_
    rintro e w'' ⟨v, he, hE, hV⟩
    have hv := errV_no hV.out
    subst hv
    exact ⟨he, hE⟩
  · have := mk_Put 46 0 45 48 none 0 0 [] (List.replicate n2 55) w' (hn w')
    rw [put_long ckv_plain l2] at this
    exact this
  · have := lw_Take 46 0 45 48 none 0 0 [] (List.replicate n2 55) w' (hL.ext h) (hn w')
    rw [take_long ckv_plain l2] at this
    exact this
  · have := mk_Put 44 0 45 120782 none 0 0 [] (List.replicate n3 55) w' (hn w')
    rw [hT] at this
    refine this.mono ?_
    rintro e w'' ⟨v, he, hE, hV⟩
    have hv := errV_no hV.out
    subst hv
    exact ⟨he, hE⟩
  · have := mk_Put 44 0 45 120782 none 0 0 [] (List.replicate n4 55) w' (hn w')
    rw [put_many n4 (by omega) (by omega)] at this
    exact this
  · have := mk_Check 44 46 45 48 A 16 c _ w' h
    rw [ck_a] at this; exact this
  · have := mk_Check 44 46 45 48 A 17 c _ w' h
    rw [ck_b] at this; exact this
  · have := mk_Check 44 46 45 48 A 1 c _ w' h
    rw [ck_c] at this; exact this
  · have := mk_Check 0 0 45 48 none 0 0 _ w' (hn w')
    rw [ck_d] at this; exact this
  · have := mk_Check 46 0 55296 48 none 0 0 _ w' (hn w')
    rw [ck_i] at this; exact this
  · have := mk_Check 46 0 45 48 A 1 c _ w' h
    rw [ck_j] at this; exact this
  · have := mk_Put 46 0 45 48 none 0 0 [] [43, 49] w' (hn w')
    rw [put_p1] at this
    exact this
  · have := mk_Put 46 0 45 48 none 0 0 [] [49, 101, 43, 50] w' (hn w')
    rw [put_p2] at this
    exact this
  · have := mk_Pad (List.replicate n2 55) 257 (by rw [List.length_replicate]; omega) w'
    rw [pad_long l2] at this
    exact this
theorem walk_MarksNames (w : World) (hL : LwT w) :
    Calls Tryz.prog 5 #[] w fun e w' => e = .returned (.bool true) ∧ Ext w w' := nm_of _ _ _ _ rfl rfl rfl rfl w hL
end Go.Proofs.YtgedpfbokkambaaGreatDoor
end
