/- Lemmas of this proof, laid together: LxM, HxT, HxU. -/
import Derived.Test.YtnkajjealkggdaaGreatDoorMg26
import Derived.Test.YtnkajjealkggdaaGreatDoorMg19
import Derived.Deep.DeepCutAuto
import Derived.Deep.RegionWith
import Derived.Deep.LoopGhost
set_option linter.unusedSimpArgs false
set_option linter.unusedVariables false
section
/- Lex, the program: numbers in sixteens. -/
namespace Go.Proofs.YtnkajjealkggdaaGreatDoor
open Go.RowKit
attribute [local go_sem] bs_size bs_extract bs_get bs_append bs_toList const_get
attribute [local go_sem] sz2 sz3 sz4 sz5 sz6 sz7 sz8 sz9 sz10
set_option maxHeartbeats 4000000
set_option maxRecDepth 100000
attribute [local irreducible] Calls
theorem lx_rdo_nil (w : World) (Z : Option Addr) : RdO w none 0 0 [] Z := ⟨Rd.nil w, World.ownsRow_nil _ _ _ _, (fun a z h => by cases h), rfl⟩
theorem zz_tzN {a : Nat} (h : a ≠ 0) : zz a = tzN a := by
  obtain ⟨m, hm⟩ := tzN_spec h
  exact zz_eq hm
theorem Tch.other {b g : Nat} {u w w' : World} (h : Tch b u w) (k : Tch g w w') (hg : u.heap.size ≤ g) : Tch b u w' :=
  ⟨k.os.trans h.os, k.tape.trans h.tape, k.output.trans h.output, Nat.le_trans h.size k.size, fun i hi hb => (k.block i (Nat.lt_of_lt_of_le hi h.size) (by omega)).trans (h.block i hi hb)⟩
theorem bi_SetString_empty (b : Nat) (w : World) : Calls Tryz.prog 96 #[.pointer (some ⟨b, 0, none⟩), .string (bs []), .int .i64 16] w fun e w' => e = .returned (.tuple #[.pointer none, .bool false]) ∧ w = w' := by
  go_enter Tryz.func96, Tryz.ntmps96
  go_wp2
  refine bodyPost_ret (v := .tuple #[.pointer none, .bool false]) ?h rfl ⟨rfl, rfl⟩
  case h => simp [results, Tryz.results96, go_sem]
theorem fig16 (y : UInt8) (hy : y.toNat < 16) (h : y.toNat < ([48, 49, 50, 51, 52, 53, 54, 55, 56, 57, 97, 98, 99, 100, 101, 102] : List UInt8).length) : Value.int IntKind.u8 (([48, 49, 50, 51, 52, 53, 54, 55, 56, 57, 97, 98, 99, 100, 101, 102] : List UInt8)[y.toNat]'h).toNat = bV (hxc y) := by
  have k : ∀ n (h : n < 16), ([48, 49, 50, 51, 52, 53, 54, 55, 56, 57, 97, 98, 99, 100, 101, 102] : List UInt8)[n]'h = hxc (UInt8.ofNat n) := by decide
  rw [k y.toNat hy, UInt8.ofNat_toNat]
def hxTo (ds : List UInt8) (k : Nat) : List UInt8 := hxL (ds.take k) ++ ds.drop k
theorem hxTo_at {ds : List UInt8} {k : Nat} (h : k < ds.length) : (hxTo ds k).getD k 0 = ds[k] := by
  unfold hxTo hxL
  rw [List.getD_eq_getElem?_getD, List.getElem?_append_right (by simp; omega)]
  simp only [List.length_map, List.length_take, List.getElem?_drop]
  rw [List.getElem?_eq_getElem (by omega)]
  have : k + (k - min k ds.length) = k := by omega
  simp [this]
theorem hxTo_step {ds : List UInt8} {k : Nat} (h : k < ds.length) : (hxTo ds k).set k (hxc ds[k]) = hxTo ds (k + 1) := by
  unfold hxTo hxL
  rw [List.set_append_right _ _ (by simp; omega), List.take_succ_eq_append_getElem h, List.map_append, List.append_assoc]
  congr 1
  have : k - (List.map hxc (List.take k ds)).length = 0 := by simp; omega
  rw [this, List.drop_eq_getElem_cons h]
  rfl
theorem lx_hex (neg : Bool) (b N : Nat) (l : List UInt8) (c : Nat) (W w : World) (h : Sc W w b N l c) (hT : LxT W) :
    Calls Tryz.prog 53 #[.pointer (some ⟨b, 0, none⟩), .bool neg] w fun e w' => ∃ A n k, e = .returned (numV (hexS false neg l c).1 A n k) ∧ Hid (RdO w' A n k (hexS false neg l c).1.mant none ∧ Fr w A) ∧ Hid (Sc W w' b N (hexS false neg l c).2.1 (hexS false neg l c).2.2) ∧ Tch b w w' := by
  have HT := Lib.hid hT
  have hN := h.big
  have hlN := h.le
  have hb0 := h.lt
  have hlow := h.low
  have hWl := ext_size h.base
  have j1 := Lib.hid (fun w' h => lx_mant_six b N l c W w' h HT.out)
  obtain ⟨q1, q2, q3⟩ := mant_dig six_ok sixB_lt (by decide) l c
  unfold hexS hexT
  rw [bind_eq, bind_eq]
  obtain ⟨⟨⟨ds, k⟩, l1, c1⟩, e1⟩ : ∃ X, mantS sixB l c = X := ⟨_, rfl⟩
  rw [e1] at j1 q1 q2 q3
  rw [e1]
  dsimp only at q1 q2 q3 ⊢
  have kE : Hid (∀ w' l c, Sc W w' b N l c → Calls Tryz.prog 95 #[.pointer (some ⟨b, 0, none⟩), .string ⟨#[112]⟩] w' (ScQ W w' b N (.int .i64 (expS false 112 l c).1) (expS false 112 l c).2.1 (expS false 112 l c).2.2)) := fun w' l c h => by
    cases hf : (foldS [112] l c).1
    · exact lx_exp_none 112 b N l c W w' h hf
    · exact lx_exp_some 112 b N l c W w' h HT.out hf
  have j2 := Lib.hid (fun w' h => kE.out w' l1 c1 h)
  have q4 := expS_bound 112 l1 c1
  obtain ⟨⟨E, l2, c2⟩, e2⟩ : ∃ X, expS false 112 l1 c1 = X := ⟨_, rfl⟩
  rw [e2] at j2 q4
  rw [e2]
  dsimp only at q4 ⊢
  have hds : ds.length ≤ 70000 := by omega
  have h0 := Lib.hid (h.ext (ext_alloc (ext_refl w) num0O))
  have Q3 := Lib.hid q3
  clear h hT e1 e2 kE q3
  have hz16 := Q3.out
  have hL0 : Hid (hxL ds = [] → hexN neg ds (E - 4 * k) = { num0 with kind := 2, neg := neg }) := fun h => by
    have : ds = [] := by
      cases ds with
      | nil => rfl
      | cons x t => cases h
    subst this
    rfl
  have hVz : Hid (hval ds = 0 → hexN neg ds (E - 4 * k) = { num0 with kind := 2, neg := neg }) := fun h => by show _ = _; unfold hexN; rw [if_pos h]
  have hVn : Hid (hval ds ≠ 0 → hexN neg ds (E - 4 * k) = { num0 with kind := 2, neg := neg, hneg := neg, mant := lim (hval ds / 2 ^ zz (hval ds)), hexp := clipE (E - 4 * k + (zz (hval ds) : Nat)) }) := fun h => by show _ = _; rw [zz_tzN h]; unfold hexN; rw [if_neg h]
  have kSt : Hid (hxL ds ≠ [] → ∀ B w', Room w' B 0 → Calls Tryz.prog 96 #[.pointer (some ⟨B, 0, none⟩), .string (bs (hxL ds)), .int .i64 16] w' (StrPost w' B (hval ds))) := fun h B w' hr =>
    bi_SetString16 B ds hz16 (by
      rcases Nat.eq_zero_or_pos ds.length with q | q
      · exact absurd (by rw [List.eq_nil_of_length_eq_zero q]; rfl) h
      · exact q) (by omega) w' hr
  have hvl : Hid ((lim (hval ds)).length ≤ 9000) := lim_six (n := ds.length) (hval_lt16 hz16) (by omega)
  have hvz : Hid (hval ds ≠ 0 → zz (hval ds) ≤ 280000) := fun h => by
    show _ ≤ _
    rw [zz_tzN h]
    have := tzN_le (hval_lt ds hz16)
    omega
  obtain ⟨R, hRR⟩ : ∃ R, hexN neg ds (E - 4 * k) = R := ⟨_, rfl⟩
  rw [hRR] at hL0 hVz hVn
  simp only [PS.pure, hRR]
  clear hRR hz16
  go_enter Tryz.func53, Tryz.ntmps53
  go_wp2_with (first
    | (go_at_call 93; (with_reducible refine (j1.out _ h0.out).mono ?_); rintro e w1 ⟨v1, rfl, hS1, hT1, hO1⟩; obtain ⟨A1, p1, rfl⟩ := lx_shape hO1.out)
    | (go_at_call 95; (with_reducible refine (j2.out _ hS1.out).mono ?_); rintro e w2 ⟨rfl, hS2, hT2⟩; have hT12 := hT1.trans hT2; (have hO2 := own_tch hO1.out hT2 (by simp; omega))))
  have hb1 := hS2.out.lt
  have hz1 := hT12.size
  have hbase : b < (w.alloc num0O).heap.size := by simp; omega
  obtain ⟨w0, hw0⟩ : ∃ w0, w.alloc num0O = w0 := ⟨_, rfl⟩
  rw [hw0] at h0 hT12 hz1 hbase hO2 hT1 hO1
  have hs0 : w0.heap.size = w.heap.size + 1 := by rw [← hw0]; simp
  have HNC : Hid (Nc w0 w.heap.size) := by rw [← hw0]; exact nc_new w
  have hTw : Hid (Tch b w w0) := by rw [← hw0]; exact Tch.of (ext_alloc (ext_refl _) _)
  have hgl : Hid (∀ g, A1 = some ⟨g, 0, none⟩ → g < w2.heap.size) := fun g hg => (hO2.lt g (by rw [hg]; rfl)).2
  have hE3 : Hid (Ext w2 (w2.alloc (Obj.cells #[Value.bool false, Value.slice none 0 0] 112))) := ext_alloc (ext_refl _) _
  have hR3 := Lib.hid (int_room w2)
  have c30 := Lib.hid (show (w2.alloc (Obj.cells #[Value.bool false, Value.slice none 0 0] 112)).cell? ⟨w2.heap.size, 0, none⟩ = some (.bool false) by simp [go_sem])
  have hz3 : (w2.alloc (Obj.cells #[Value.bool false, Value.slice none 0 0] 112)).heap.size = w2.heap.size + 1 := by simp
  obtain ⟨w3, hw3⟩ : ∃ w3, w2.alloc (Obj.cells #[Value.bool false, Value.slice none 0 0] 112) = w3 := ⟨_, rfl⟩
  simp only [hw3]
  rw [hw3] at hE3 hR3 hz3
  have hO3 := Lib.hid (own_ext hO2 hE3.out)
  have hS3 := Lib.hid (hS2.out.ext hE3.out)
  have hT3 := Lib.hid (hT12.trans (Tch.of hE3.out))
  clear hw0 hw3 j1 j2 hO1 hO2 hT1 hT12 hT2 hS1 hS2 h0 c30
  go_loopw [9, 27] (fun v9 v27 wr => ∃ i : Nat, v27 = .int .i64 i ∧ i ≤ ds.length ∧ Hid (OwB wr w0.heap.size (.slice A1 ds.length p1) ds.length (hxTo ds i)) ∧ Hid (Sc W wr b N l2 c2) ∧ Hid (Tch b w0 wr) ∧ Hid (Room wr w2.heap.size 0) ∧ w3.heap.size ≤ wr.heap.size) (fun _ v27 _ => ds.length - (intOf v27).toNat)
  case atStart => exact ⟨0, rfl, Nat.zero_le _, hO3, hS3, hT3, hR3, Nat.le_refl _⟩
  case round =>
    obtain ⟨i, rfl, hi, hO, hS, hT, hR, hzr⟩ := hrel
    by_cases hlt : i < ds.length
    · rcases own_form hO.out with ⟨_, h00⟩ | ⟨g, cp, hv3, -, -, hg1, hg2⟩
      · omega
      · simp only [Value.slice.injEq] at hv3
        obtain ⟨rfl, -, rfl⟩ := hv3
        have hgg := hgl.out g rfl
        obtain ⟨hcell, hfr⟩ := ownb_at hO.out i hlt
        rw [hxTo_at hlt] at hcell
        obtain ⟨y, hy⟩ : ∃ y, ds[i] = y := ⟨_, rfl⟩
        have hy16 : y.toNat < 16 := Q3.out y (by rw [← hy]; exact List.getElem_mem hlt)
        have hstep := hxTo_step hlt
        rw [hy] at hcell hstep
        have HST := Lib.hid hstep
        clear hstep hy
        go_wp2
        rw [fig16 y hy16]
        exact ⟨⟨i + 1, by go_num, by omega, by show OwB _ _ _ _ _; rw [← HST.out]; exact ownb_set hO.out _ _, hS.out.far (by omega) (by omega) _ _, hT.out.far hg1 _ _, hR.out.tch ((Tch.refl g wr).set i _) (by omega), by simpa using hzr⟩, by simp [intOf]; omega⟩
    · obtain rfl : i = ds.length := by omega
      have hct : hxTo ds ds.length = hxL ds := by unfold hxTo; rw [List.take_length, List.drop_length, List.append_nil]
      have hOc := hO.out
      rw [hct] at hOc
      have hconv : ∀ u : World, Ext wr u → (convert 23 9 (.slice A1 ds.length p1)).run Tryz.prog u = .ok (.string (bs (hxL ds))) u := fun u he => by
        have hOu := own_ext hOc he
        rcases own_form hOu with ⟨e0, h00⟩ | ⟨g, cp, hv3, -, -, hg1, hg2⟩
        · simp only [Value.slice.injEq] at e0
          obtain ⟨rfl, -, -⟩ := e0
          have : ds = [] := List.eq_nil_of_length_eq_zero h00
          subst this
          exact nil_str u _ _
        · cases hv3
          exact ownb_str hOu 0 ds.length p1 (by omega) (hxL ds) (by rw [List.drop_zero, List.take_of_length_le (by rw [hxL_len]; exact Nat.le_refl _)])
      have hTw' : Hid (Tch b w wr) := hTw.out.trans hT.out
      have hncr : Hid (Nc wr w.heap.size) := HNC.out.tch hT.out (by omega)
      obtain ⟨n0, n1, n2, n3, n4, n5, n6, n7, n8, g0, g1, g2, g3, g4, g5, g6, g7, g8, hBr⟩ := hncr.out
      have en : Hid (Ext wr (wr.alloc (Obj.cells #[Value.int IntKind.u8 2, Value.bool neg, Value.bool false, Value.string ⟨#[]⟩, Value.int IntKind.i64 0, Value.bool false, Value.slice none 0 0, Value.int IntKind.i64 0, Value.int IntKind.u64 0] 33))) := ext_alloc (ext_refl _) _
      have hnv : Hid (Nv (wr.alloc (Obj.cells #[Value.int IntKind.u8 2, Value.bool neg, Value.bool false, Value.string ⟨#[]⟩, Value.int IntKind.i64 0, Value.bool false, Value.slice none 0 0, Value.int IntKind.i64 0, Value.int IntKind.u64 0] 33)) wr.heap.size (.int .u8 2) (.bool neg) (.bool false) (.string ⟨#[]⟩) (.int .i64 0) (.bool false) (.slice none 0 0) (.int .i64 0) (.int .u64 0)) := Nv.new _ _ _ _ _ _ _ _ _ _ _
      have hcv := hconv _ en.out
      clear hct hO hOc hTw hT HNC
      obtain ⟨L, hL⟩ : ∃ L, hxL ds = L := ⟨_, rfl⟩
      obtain ⟨V, hV⟩ : ∃ V, hval ds = V := ⟨_, rfl⟩
      rw [hL] at hcv hL0 kSt
      rw [hV] at hVz hVn kSt hvl hvz
      clear hconv hL hV
      by_cases hnil : L = []
      · subst hnil
        have kS : Hid (∀ w', Calls Tryz.prog 96 #[.pointer (some ⟨w2.heap.size, 0, none⟩), .string (bs []), .int .i64 16] w' fun e w'' => e = .returned (.tuple #[.pointer none, .bool false]) ∧ w' = w'') := fun w' => bi_SetString_empty _ w'
        have hR0 := hL0.out rfl
        have HR0 := Lib.hid hR0
        clear hR0 kSt hL0 hVz hVn
        go_wp2_with (first
          | (go_at_call 96; (with_reducible refine (kS.out _).mono ?_); rintro e w4 ⟨rfl, rfl⟩))
        have hX : Ext (set9 wr w.heap.size (.int .u8 2) (.bool neg) (.bool false) (.string ⟨#[]⟩) (.int .i64 0) (.bool false) (.slice none 0 0) (.int .i64 0) (.int .u64 0)) _ := ext_alloc (ext_refl _) (Obj.cells #[Value.int IntKind.u8 2, Value.bool neg, Value.bool false, Value.string ⟨#[]⟩, Value.int IntKind.i64 0, Value.bool false, Value.slice none 0 0, Value.int IntKind.i64 0, Value.int IntKind.u64 0] 33)
        obtain ⟨m0, m1, m2, m3, m4, m5, m6, m7, m8⟩ := set9_at hncr.out _ _ _ _ _ _ _ _ _ hX
        refine bodyPost_ret (v := numV R none 0 0) ?h rfl ⟨none, 0, 0, rfl, ⟨by rw [HR0.out]; exact lx_rdo_nil _ _, fun a h => by cases h⟩, hS.out.set9 (by omega) (by omega) _ _ _ _ _ _ _ _ _ hX, hTw'.out.set9 (Nat.le_refl _) _ _ _ _ _ _ _ _ _ hX⟩
        case h => rw [HR0.out]; simp [results, Tryz.results53, go_sem, m0, m1, m2, m3, m4, m5, m6, m7, m8, num0]; rfl
      · have kS := Lib.hid (fun w' hr => kSt.out hnil w2.heap.size w' hr)
        have hemp : L.isEmpty = false := by
          cases L with
          | nil => exact absurd rfl hnil
          | cons x t => rfl
        have hR1 := Lib.hid (hR.out.ext en.out)
        have hSn := Lib.hid (hS.out.ext en.out)
        have hTn := Lib.hid (hTw'.out.trans (Tch.of (b := b) en.out))
        have hncn := Lib.hid (hncr.out.ext en.out)
        clear kSt hL0 hnil
        by_cases hV0 : V = 0
        · have HR0 := Lib.hid (hVz.out hV0)
          subst hV0
          clear hVz hVn
          go_wp2_with (first
            | (go_at_call 96; (with_reducible refine (kS.out _ hR1.out).mono ?_); rintro e w4 ⟨rfl, A4, k4, p4, hI4, hT4⟩; (have kg := Lib.hid (bi_Sign w2.heap.size 0 _ A4 k4 p4 w4 hI4.out.1)))
            | (go_at_call 97; (with_reducible refine (kg.out).mono ?_); rintro e w5 ⟨rfl, xb5⟩; (have hTt := Lib.hid (hT4.trans (Tch.of (b := w2.heap.size) xb5))); (have hn5 := Lib.hid (hncn.out.tch hTt.out (by omega))); obtain ⟨i0, i1, i2, i3, i4, i5, i6, i7, i8, t0, t1, t2, t3, t4, t5, t6, t7, t8, hB5⟩ := hn5.out; (have hv5 := Lib.hid (hnv.out.tch hTt.out (by omega))); obtain ⟨d0, d1, d2, d3, d4, d5, d6, d7, d8, -, -, -, -, -, -, -, -, -, hB6⟩ := hv5.out))
          have hX := ext_refl (set9 w5 w.heap.size (.int .u8 2) (.bool neg) (.bool false) (.string ⟨#[]⟩) (.int .i64 0) (.bool false) (.slice none 0 0) (.int .i64 0) (.int .u64 0))
          obtain ⟨m0, m1, m2, m3, m4, m5, m6, m7, m8⟩ := set9_at hn5.out _ _ _ _ _ _ _ _ _ hX
          refine bodyPost_ret (v := numV R none 0 0) ?h rfl ⟨none, 0, 0, rfl, ⟨by rw [HR0.out]; exact lx_rdo_nil _ _, fun a h => by cases h⟩, (hSn.out.tch hTt.out (by omega) (by omega)).set9 (by omega) (by omega) _ _ _ _ _ _ _ _ _ hX, (hTn.out.other hTt.out (by omega)).set9 (Nat.le_refl _) _ _ _ _ _ _ _ _ _ hX⟩
          case h => rw [HR0.out]; simp [results, Tryz.results53, go_sem, m0, m1, m2, m3, m4, m5, m6, m7, m8, num0]; rfl
        · have HR0 := Lib.hid (hVn.out hV0)
          have hzb := hvz.out hV0
          have hsg : Hid ((V : Int).sign = 1) := Int.sign_eq_one_of_pos (by omega)
          obtain ⟨z, hz⟩ : ∃ z, zz V = z := ⟨_, rfl⟩
          rw [hz] at hzb
          have HZ := Lib.hid hz
          have hVV := hvl.out
          have kC := Lib.hid (fun w' => lx_clip (E - 4 * k + z) w')
          have hz64 : (z : Int) ≤ 280000 := by omega
          clear hVz hVn hvz hz
          have HTT := HT
          go_wp2_with (first
            | (go_at_call 96; (with_reducible refine (kS.out _ hR1.out).mono ?_); rintro e w4 ⟨rfl, A4, k4, p4, hI4, hT4⟩; (have kg := Lib.hid (bi_Sign w2.heap.size 0 _ A4 k4 p4 w4 hI4.out.1)); rw [hsg.out] at kg; (have hk4 := IntIs.lenNat hI4.out.1))
            | (go_at_call 97; (with_reducible refine (kg.out).mono ?_); rintro e w5 ⟨rfl, xb5⟩; (have hTt := Lib.hid (hT4.trans (Tch.of (b := w2.heap.size) xb5))); (have hS5 := Lib.hid (hSn.out.tch hTt.out (by omega) (by omega))); (have hI5 := Lib.hid (hI4.out.1.ext xb5)); (have kz := Lib.hid (bi_Tzb w2.heap.size 0 V A4 k4 p4 (by omega) (by rw [HZ.out]; omega) w5 (HTT.out.ext hS5.out.base).tz hI5.out)); rw [HZ.out] at kz)
            | (go_at_call 98; (with_reducible refine (kz.out).mono ?_); rintro e w6 ⟨rfl, xb6⟩; (have hI6 := Lib.hid (hI5.out.ext xb6)); (have kr := Lib.hid (bi_Rsh w2.heap.size 0 w2.heap.size 0 V z A4 k4 p4 (by omega) (by omega) w6 hI6.out.room hI6.out)); (have hS6 := Lib.hid (hS5.out.ext xb6)))
            | (go_at_call 99; (with_reducible refine (kr.out).mono ?_); rintro e w7 ⟨rfl, A7, k7, p7, hI7, hT7⟩)
            | (go_at_call 100; (with_reducible refine (lx_limbs w2.heap.size 0 _ A7 k7 p7 (by have := IntIs.lenNat hI7.out.1; have := lim_mono (Nat.div_le_self V (2 ^ z)); omega) w7 hI7.out.1).mono ?_); rintro e w8 ⟨A8, k8, p8, rfl, hR8, xb8⟩; (have hTt8 := Lib.hid (((hTt.out.trans (Tch.of xb6)).trans hT7).trans (Tch.of xb8))); (have hn8 := Lib.hid (hncn.out.tch hTt8.out (by omega))); obtain ⟨i0, i1, i2, i3, i4, i5, i6, i7, i8, t0, t1, t2, t3, t4, t5, t6, t7, t8, hB5⟩ := hn8.out; (have hv8 := Lib.hid (hnv.out.tch hTt8.out (by omega))); obtain ⟨d0, d1, d2, d3, d4, d5, d6, d7, d8, -, -, -, -, -, y5, y6, y7, -, hB6⟩ := hv8.out)
            | (go_at_call 101; (with_reducible refine (kC.out _).mono ?_); rintro e w9 ⟨rfl, rfl⟩))
          have hnsz : (wr.alloc (Obj.cells #[Value.int IntKind.u8 2, Value.bool neg, Value.bool false, Value.string ⟨#[]⟩, Value.int IntKind.i64 0, Value.bool false, Value.slice none 0 0, Value.int IntKind.i64 0, Value.int IntKind.u64 0] 33)).heap.size = wr.heap.size + 1 := by simp
          have hs5 := hTt.out.size
          have hs6 := ext_size xb6
          have hs7 := hT7.size
          have hsz7 : wr.heap.size < w7.heap.size := by omega
          have hTn9 : Hid (Tch wr.heap.size w8 (((w8.setCell ⟨wr.heap.size, 5, none⟩ (.bool neg)).setCell ⟨wr.heap.size, 6, none⟩ (.slice A8 k8 p8)).setCell ⟨wr.heap.size, 7, none⟩ (.int .i64 (clipE (E - 4 * k + z))))) := (((Tch.refl wr.heap.size w8).set _ _).set _ _).set _ _
          obtain ⟨w9, hw9⟩ : ∃ w9, (((w8.setCell ⟨wr.heap.size, 5, none⟩ (.bool neg)).setCell ⟨wr.heap.size, 6, none⟩ (.slice A8 k8 p8)).setCell ⟨wr.heap.size, 7, none⟩ (.int .i64 (clipE (E - 4 * k + z)))) = w9 := ⟨_, rfl⟩
          have hfr8 : ∀ a, A8 = some a → wr.heap.size < a.block := fun a ha => Nat.lt_of_lt_of_le hsz7 (hR8.out.2 a ha)
          have hR9 : Hid (RdO w9 A8 k8 p8 (lim (V / 2 ^ z)) none) := by
            rw [← hw9]
            have := hR8.out.1
            rw [Int.natAbs_natCast] at this
            exact ((this.set _ hfr8).set _ hfr8).set _ hfr8
          simp only [hw9]
          rw [hw9] at hTn9
          have hn9 := Lib.hid (hn8.out.tch hTn9.out (by omega))
          have hX := ext_refl (set9 w9 w.heap.size (.int .u8 2) (.bool neg) (.bool false) (.string ⟨#[]⟩) (.int .i64 0) (.bool neg) (.slice A8 k8 p8) (.int .i64 (clipE (E - 4 * k + z))) (.int .u64 0))
          obtain ⟨m0, m1, m2, m3, m4, m5, m6, m7, m8⟩ := set9_at hn9.out _ _ _ _ _ _ _ _ _ hX
          have hfw : ∀ a, A8 = some a → w.heap.size < a.block := fun a ha => Nat.lt_trans hBr (hfr8 a ha)
          have hS9 := Lib.hid (((hSn.out.tch hTt8.out (by omega) (by omega))).tch hTn9.out (by omega) (by omega))
          have hTw9 := Lib.hid ((hTn.out.other hTt8.out (by omega)).other hTn9.out (by omega))
          rw [HZ.out] at HR0
          refine bodyPost_ret (v := numV R A8 k8 p8) ?h rfl ⟨A8, k8, p8, rfl, ⟨?_, fun a ha => Nat.le_of_lt (hfw a ha)⟩, hS9.out.set9 (by omega) (by omega) _ _ _ _ _ _ _ _ _ hX, hTw9.out.set9 (Nat.le_refl _) _ _ _ _ _ _ _ _ _ hX⟩
          case h => rw [HR0.out]; simp [results, Tryz.results53, go_sem, m0, m1, m2, m3, m4, m5, m6, m7, m8, num0]; rfl
          · rw [HR0.out]
            exact ((((((((hR9.out.set _ hfw).set _ hfw).set _ hfw).set _ hfw).set _ hfw).set _ hfw).set _ hfw).set _ hfw).set _ hfw
end Go.Proofs.YtnkajjealkggdaaGreatDoor
end
section
/- Words of the library's: figures of sixteens are told. -/
namespace Go.Proofs.YtnkajjealkggdaaGreatDoor
open Go.RowKit
attribute [local go_sem] bs_size bs_extract bs_get bs_append bs_toList const_get
attribute [local go_sem] sz2 sz3 sz4 sz5 sz6 sz7 sz8
set_option maxHeartbeats 4000000
set_option maxRecDepth 100000
/-- The figures of a number in sixteens; none of nought. -/
def hxs (n : Nat) : List UInt8 := if _h : n = 0 then [] else hxs (n / 16) ++ [hxc (UInt8.ofNat (n % 16))]
theorem hxs_zero : hxs 0 = [] := by unfold hxs; simp
theorem hxs_pos {n : Nat} (h : n ≠ 0) : hxs n = hxs (n / 16) ++ [hxc (UInt8.ofNat (n % 16))] := by rw [hxs]; simp [h]
theorem hxs_len {n k : Nat} (h : n < 16 ^ k) : (hxs n).length ≤ k := by
  induction k generalizing n with
  | zero =>
    obtain rfl : n = 0 := by simpa using h
    rw [hxs_zero]; simp
  | succ k ih =>
    by_cases h0 : n = 0
    · subst h0; rw [hxs_zero]; simp
    · rw [hxs_pos h0, List.length_append]
      have := ih (n := n / 16) (by rw [Nat.pow_succ] at h; omega)
      simp only [List.length_singleton]; omega
theorem hxs_lim' {v k : Nat} (h : (lim v).length ≤ k) : (hxs v).length ≤ 8 * k := by
  refine hxs_len (Nat.lt_of_lt_of_le (lim_lt v) ?_)
  have h1 : Bs ^ (lim v).length ≤ Bs ^ k := Nat.pow_le_pow_right (by decide) h
  have e : Bs ^ k = 16 ^ (8 * k) := by rw [Nat.pow_mul]
  rw [← e]; exact h1
theorem hxs_step16 {v q P r : Nat} {back : List UInt8} (hP : hxs v = hxs (q * (16 * P) + r) ++ back.reverse) (hpos : 0 < q * (16 * P) + r) :
    hxs v = hxs (q * P + r / 16) ++ (back ++ [hxc (UInt8.ofNat (r % 16))]).reverse := by
  rw [hP, hxs_pos (by omega)]
  have e : q * (16 * P) = 16 * (q * P) := Nat.mul_left_comm _ _ _
  rw [e]
  have e1 : (16 * (q * P) + r) / 16 = q * P + r / 16 := by omega
  have e2 : (16 * (q * P) + r) % 16 = r % 16 := by omega
  rw [e1, e2]
  simp
theorem hxs_split {q r k : Nat} (hq : 0 < q) (hr : r < 16 ^ k) : hxs (q * 16 ^ k + r) = hxs q ++ (List.replicate (k - (hxs r).length) 48 ++ hxs r) := by
  induction k generalizing r with
  | zero =>
    obtain rfl : r = 0 := by simpa using hr
    simp [hxs_zero]
  | succ k ih =>
    have hp : q * 16 ^ (k + 1) = 16 * (q * 16 ^ k) := by rw [Nat.pow_succ, Nat.mul_comm (16 ^ k), Nat.mul_left_comm]
    have hne : q * 16 ^ (k + 1) + r ≠ 0 := by
      have : 0 < q * 16 ^ (k + 1) := Nat.mul_pos hq (Nat.pow_pos (by decide))
      omega
    have e1 : (q * 16 ^ (k + 1) + r) / 16 = q * 16 ^ k + r / 16 := by rw [hp]; omega
    have e2 : (q * 16 ^ (k + 1) + r) % 16 = r % 16 := by rw [hp]; omega
    rw [hxs_pos hne, e1, e2, ih (r := r / 16) (by rw [Nat.pow_succ] at hr; omega)]
    by_cases h0 : r = 0
    · subst h0
      have e3 : hxc (UInt8.ofNat (0 % 16)) = 48 := by decide
      rw [e3, show 0 / 16 = 0 from rfl, hxs_zero]
      simp only [List.length_nil, List.append_nil, Nat.sub_zero]
      rw [List.replicate_succ', List.append_assoc]
    · rw [hxs_pos h0]
      have hl := hxs_len (n := r / 16) (k := k) (by rw [Nat.pow_succ] at hr; omega)
      have e4 : k + 1 - (hxs (r / 16) ++ [hxc (UInt8.ofNat (r % 16))]).length = k - (hxs (r / 16)).length := by rw [List.length_append]; simp only [List.length_singleton]; omega
      rw [e4]
      simp only [List.append_assoc]
def tellX (v : Nat) (least : Int) : List UInt8 := List.replicate (least - (hxs v).length).toNat 48 ++ hxs v
theorem words_split16 {v n k : Nat} (hv : (lim v).length = n) (hn : 40 < n) (hk : k = n / 2 * 32 / 5) : 0 < v / 16 ^ k ∧ (lim (v / 16 ^ k)).length ≤ n - 1 ∧ (lim (v % 16 ^ k)).length ≤ n - 1 ∧ (lim (16 ^ k)).length ≤ n := by
  have h0 : v ≠ 0 := by intro e; subst e; rw [lim_zero] at hv; simp at hv; omega
  have h1 := (lim_len h0).1
  rw [hv] at h1
  have eB : ∀ m, Bs ^ m = 16 ^ (8 * m) := fun m => by rw [Nat.pow_mul]
  have h2 : 16 ^ k ≤ Bs ^ (n / 2) := by
    rw [eB]
    exact Nat.pow_le_pow_right (by decide) (by omega)
  have h3 : Bs ^ (n / 2) ≤ Bs ^ (n - 1) := Nat.pow_le_pow_right (by decide) (by omega)
  have h4 : 0 < 16 ^ k := Nat.pow_pos (by decide)
  refine ⟨Nat.div_pos (by omega) h4, ?_, ?_, ?_⟩
  · have h5 : v / 16 ^ k ≤ v / Bs ^ 1 := by
      refine Nat.div_le_div_left ?_ (by decide)
      rw [eB]
      exact Nat.pow_le_pow_right (by decide) (by omega)
    have h6 := lim_mono h5
    rw [len_div hv] at h6
    exact h6
  · exact lim_le (Nat.lt_of_lt_of_le (Nat.mod_lt _ h4) (Nat.le_trans h2 h3))
  · exact Nat.le_trans (lim_mono h2) (lim_le (Nat.pow_lt_pow_right (by decide) (by omega)))
theorem fig_x (r : Nat) (h : r % 16 < ([48, 49, 50, 51, 52, 53, 54, 55, 56, 57, 97, 98, 99, 100, 101, 102, 103, 104, 105, 106, 107, 108, 109, 110, 111, 112, 113, 114, 115, 116, 117, 118, 119, 120, 121, 122] : List UInt8).length) : ([48, 49, 50, 51, 52, 53, 54, 55, 56, 57, 97, 98, 99, 100, 101, 102, 103, 104, 105, 106, 107, 108, 109, 110, 111, 112, 113, 114, 115, 116, 117, 118, 119, 120, 121, 122] : List UInt8)[r % 16]'h = hxc (UInt8.ofNat (r % 16)) := by
  have h16 : r % 16 < 16 := Nat.mod_lt _ (by decide)
  generalize r % 16 = y at *
  have : ∀ (y : Nat) (h : y < ([48, 49, 50, 51, 52, 53, 54, 55, 56, 57, 97, 98, 99, 100, 101, 102, 103, 104, 105, 106, 107, 108, 109, 110, 111, 112, 113, 114, 115, 116, 117, 118, 119, 120, 121, 122] : List UInt8).length), y < 16 → ([48, 49, 50, 51, 52, 53, 54, 55, 56, 57, 97, 98, 99, 100, 101, 102, 103, 104, 105, 106, 107, 108, 109, 110, 111, 112, 113, 114, 115, 116, 117, 118, 119, 120, 121, 122] : List UInt8)[y]'h = hxc (UInt8.ofNat y) := by decide
  exact this y h h16
theorem tell_split16 {v k : Nat} {least : Int} (hq : 0 < v / 16 ^ k) : tellX v least = tellX (v / 16 ^ k) (least - k) ++ tellX (v % 16 ^ k) k := by
  have hr : v % 16 ^ k < 16 ^ k := Nat.mod_lt _ (Nat.pow_pos (by decide))
  have h1 := hxs_split hq hr
  have e : v / 16 ^ k * 16 ^ k + v % 16 ^ k = v := by rw [Nat.mul_comm]; exact Nat.div_add_mod v (16 ^ k)
  rw [e] at h1
  have hl := hxs_len hr
  unfold tellX
  have h2 : ((k : Int) - (hxs (v % 16 ^ k)).length).toNat = k - (hxs (v % 16 ^ k)).length := by omega
  rw [h2, List.append_assoc, ← h1]
  congr 2
  rw [h1, List.length_append, List.length_append, List.length_replicate]
  omega
attribute [local irreducible] Calls
theorem tell_small16 (v : Nat) (least : Int) (A : Option Addr) (n c : Nat) (hn : n ≤ 40) (hl : -9000000000 ≤ least ∧ least ≤ 10000000) (w : World) (hA : Rd w A n c (lim v)) :
    Calls Tryz.prog 114 #[.slice A n c, .int .i64 16, .int .i64 least] w fun e w' => ∃ vv, e = .returned vv ∧ Hid (w'.ownsRow w.heap.size 5 1 vv (tellX v least).length ((tellX v least).map bV)) ∧ Ext w w' := by
  have HA := Lib.hid hA
  have hkn := hA.len
  have hcap := hA.cap
  have hmx := hA.mx
  obtain ⟨hl1, hl2⟩ := hl
  have HD : Hid ((hxs v).length ≤ 1300) := Lib.hid (Nat.le_trans (hxs_lim' (k := 40) (by omega)) (by decide))
  clear hA
  go_enter Tryz.func114, Tryz.ntmps114
  go_wp2
  go_loopg [10, 11] 6 (fun g vb vp wr => ∃ (p B : Nat), g = 7 - p ∧ (1 ≤ p ∧ p ≤ 7) ∧ vb = .int .u32 (B : Int) ∧ vp = .int .i64 (p : Int) ∧ (B ≤ 16777216 ∧ p ≤ 6 ∨ B = 268435456 ∧ p = 7) ∧ Hid (B = 16 ^ p) ∧ Hid (Ext w wr))
  case atStart => exact ⟨1, 16, rfl, by omega, rfl, rfl, by omega, Lib.hid rfl, ext_refl _⟩
  case round =>
    obtain ⟨p, B, rfl, ⟨hp1, hp2⟩, rfl, rfl, hB, hBp, hext⟩ := hrel
    by_cases h8 : p ≤ 6
    · have hB8 : B ≤ 16777216 := by omega
      have hB9 : (B : Int) ≤ 268435455 := by omega
      have hBB : Hid (B * 16 ≤ 16777216 ∧ p + 1 ≤ 6 ∨ B * 16 = 268435456 ∧ p + 1 = 7) := Lib.hid (by
        rcases Nat.lt_or_ge p 6 with h | h
        · left
          rw [hBp.out, ← Nat.pow_succ]
          exact ⟨Nat.le_trans (Nat.pow_le_pow_right (by decide) (show p + 1 ≤ 6 by omega)) (by decide), by omega⟩
        · right
          obtain rfl : p = 6 := by omega
          rw [hBp.out]; exact ⟨rfl, rfl⟩)
      clear hB
      go_wp2
      go_roundg (7 - (p + 1))
      case rel => exact ⟨p + 1, B * 16, rfl, by omega, by simp, by simp, hBB.out, Lib.hid (by rw [hBp.out, Nat.pow_succ]), hext⟩
      case measure => omega
    · obtain rfl : p = 7 := by omega
      obtain rfl : B = 268435456 := by omega
      clear hB h8 hBp
      obtain ⟨W1, rfl⟩ : ∃ W1, W1 = wr := ⟨wr, rfl⟩
      have hcp : ∀ w', Ext W1 w' → Calls Tryz.prog 151 #[.slice A n c] w' fun e w'' => e = .returned (.slice (some ⟨w'.heap.size, 0, none⟩) n n) ∧ Hid (w''.ownsRow w'.heap.size 48 1 (.slice (some ⟨w'.heap.size, 0, none⟩) n n) n ((lim v).map u32V)) ∧ Ext w' w'' := fun w' he => bw_copied_own A n c (lim v) (by omega) w' ((HA.out.ext hext.out).ext he)
      go_wp2_with (first
        | (go_at_call 151; (with_reducible refine (hcp _ (ext_refl _)).mono ?_); rintro e w1 ⟨rfl, hR1, xb1⟩; obtain ⟨xc1, xf1, xl1, xz1⟩ := ext_use xb1; (try simp at xz1))
       )
      have HX1 := Lib.hid xb1
      have hz1 : W1.heap.size + 1 ≤ w1.heap.size := by have := (hR1.out.lt W1.heap.size rfl).2; omega
      clear hcp xc1 xf1 xl1 xz1 xb1
      go_loopg [0, 12] v (fun u vw vb wr => ∃ (k : Nat) (back : List UInt8), vw = .slice (some ⟨W1.heap.size, 0, none⟩) k n ∧ k ≤ n ∧ Hid (hxs v = hxs u ++ back.reverse) ∧ Hid (wr.ownsRow W1.heap.size 48 1 (.slice (some ⟨W1.heap.size, 0, none⟩) k n) k ((lim u).map u32V)) ∧ Hid (wr.ownsRow (W1.heap.size + 1) 5 1 vb back.length (back.map bV)) ∧ Hid (Ext w1 wr ∨ True) ∧ Hid (Ext W1 wr) ∧ W1.heap.size + 1 ≤ wr.heap.size)
      case atStart => exact ⟨n, [], rfl, Nat.le_refl _, Lib.hid (by simp), hR1, World.ownsRow_nil _ _ _ _, Lib.hid (.inr trivial), HX1, hz1⟩
      case round =>
        clear hR1 HX1 hz1
        obtain ⟨k, back, rfl, hk, hdig, hownw, hownb, -, hE, hz⟩ := hrel
        have hku : (lim gk).length = k := by have := hownw.out.1; simpa using this
        have hbl : back.length ≤ 1300 := by
          have h1 := HD.out
          rw [hdig.out] at h1
          simp at h1; omega
        by_cases hk0 : 0 < k
        · have hu0 : gk ≠ 0 := by intro e; rw [e, lim_zero] at hku; simp at hku; omega
          have HU := Lib.hid hu0
          have HK := Lib.hid hku
          clear hu0 hku
          go_wp2
          go_loopw [13, 14] (fun vr vi wr2 => ∃ (j r : Nat) (os : List Nat), j ≤ k ∧ r < 268435456 ∧ vi = .int .i64 ((j : Int) - 1) ∧ vr = .int .u64 (r : Int) ∧ Hid (os.length = k ∧ Lb os ∧ os.take j = (lim gk).take j ∧ val ((lim gk).drop j) = 268435456 * val (os.drop j) + r) ∧
              Hid (wr2.ownsRow W1.heap.size 48 1 (.slice (some ⟨W1.heap.size, 0, none⟩) k n) k (os.map u32V)) ∧ Hid (wr2.ownsRow (W1.heap.size + 1) 5 1 u12 back.length (back.map bV)) ∧ Hid (Ext W1 wr2) ∧ W1.heap.size + 1 ≤ wr2.heap.size)
            (fun _ vi _ => (intOf vi + 1).toNat)
          case atStart =>
            refine ⟨k, 0, lim gk, Nat.le_refl _, by decide, by go_num, rfl, Lib.hid ⟨HK.out, lb_lim _, rfl, ?_⟩, hownw, hownb, hE, hz⟩
            rw [List.drop_eq_nil_of_le (by rw [HK.out]; exact Nat.le_refl _)]; rfl
          case round =>
            clear hownw hownb hE hz
            obtain ⟨j, r, os, hj, hr, rfl, rfl, hos, hownw, hownb, hE, hz⟩ := hrel
            by_cases h0 : 0 < j
            · obtain ⟨x, hx, hxb⟩ : ∃ x : Nat, Hid ((lim gk).getD (j - 1) 0 = x) ∧ x < 4294967296 := ⟨_, rfl, lb_getD (lb_lim _) _⟩
              have hx2 : os.getD (j - 1) 0 = x := by
                have h1 := congrArg (fun z : List Nat => z.getD (j - 1) 0) hos.out.2.2.1
                simp only [List.getD_eq_getElem?_getD] at h1
                rw [List.getElem?_take_of_lt (by omega), List.getElem?_take_of_lt (by omega)] at h1
                rw [List.getD_eq_getElem?_getD, h1, ← List.getD_eq_getElem?_getD]
                exact hx.out
              obtain ⟨hc1, hf1⟩ := own_at hownw.out (j - 1) (by omega)
              rw [hx2] at hc1
              have hor := or_shift r x (by omega) hxb
              obtain ⟨s, hse⟩ : ∃ s, s = r * 4294967296 + x := ⟨_, rfl⟩
              have hs : s < 268435456 * 4294967296 := by rw [hse]; omega
              have hq : s / 268435456 < 4294967296 := by omega
              rw [← hse] at hor
              have HSE := Lib.hid hse
              clear hse hx2
              go_wp2
              case roundEnd =>
                refine ⟨⟨j - 1, s % 268435456, os.set (j - 1) (s / 268435456), by omega, by omega, ?_, ?_, ⟨?_, ?_, ?_, ?_⟩, ?_, ?_, ?_, ?_⟩, ?_⟩
                · simp; omega
                · simp
                · simp [hos.out.1]
                · exact lb_set hos.out.2.1 _ hq
                · rw [List.take_set_of_le (by omega)]
                  have h1 := congrArg (fun z : List Nat => z.take (j - 1)) hos.out.2.2.1
                  simp only [List.take_take] at h1
                  rwa [Nat.min_eq_left (by omega)] at h1
                · have h := over_step (d := 268435456) (by decide) h0 (by rw [HK.out]; exact hj) (by rw [hos.out.1, HK.out]) hos.out.2.2.2 hx.out
                  rwa [← HSE.out] at h
                · show World.ownsRow _ _ _ _ _ _ _
                  have e : (s : Int) / 268435456 = ((s / 268435456 : Nat) : Int) := by omega
                  rw [e]
                  exact own_set hownw.out _ _
                · exact own_far hownb.out _ _ (fun e => by have := (hownb.out.lt _ e).1; simp only at this; omega)
                · exact ext_setCell hE.out (Nat.le_refl _) _
                · simpa using hz
                · simp [intOf]; omega
            · obtain rfl : j = 0 := by omega
              have hv := hos.out.2.2.2
              simp only [List.drop_zero, val_lim] at hv
              obtain ⟨q, hqv⟩ : ∃ q, q = val os := ⟨_, rfl⟩
              have hq1 : gk = 268435456 * q + r := by rw [hqv]; exact hv
              obtain ⟨A', c', he, hR⟩ := Rd.own hownw.out hos.out.2.1
              have hT : Calls Tryz.prog 111 #[.slice (some ⟨W1.heap.size, 0, none⟩) k n] wr fun e w'' => e = .returned (.slice (some ⟨W1.heap.size, 0, none⟩) (lim q).length n) ∧ wr = w'' := by
                cases he
                refine (bw_trim _ k n os wr hR).mono ?_
                rintro e w'' ⟨k2, rfl, hR2, rfl⟩
                refine ⟨?_, rfl⟩
                rw [← hR2.len, trimZ_lim os hos.out.2.1, hqv]
              have hk2 : (lim q).length ≤ k := by
                have h1 : (lim q).length ≤ (lim gk).length := lim_mono (by omega)
                rw [HK.out] at h1; exact h1
              have hown2 : Hid (wr.ownsRow W1.heap.size 48 1 (.slice (some ⟨W1.heap.size, 0, none⟩) (lim q).length n) (lim q).length ((lim q).map u32V)) := Lib.hid (by
                have h1 := own_pre hownw.out hk2
                obtain ⟨m, hm1, hm2⟩ := trimZ_prefix os
                rw [trimZ_lim os hos.out.2.1, ← hqv] at hm2
                have hm3 : m = (lim q).length := by rw [hm2, List.length_take, hos.out.1]; rw [hos.out.1] at hm1; omega
                rw [← List.map_take, ← hm3, ← hm2] at h1
                rw [← hm3] at *
                exact h1)
              obtain ⟨k2, hk2e⟩ : ∃ k2, k2 = (lim q).length := ⟨_, rfl⟩
              rw [← hk2e] at hT hk2 hown2
              have HK2 := Lib.hid hk2e
              have HQ1 := Lib.hid hq1
              clear hv hqv hq1 he hR hk2e h0 hj hownw
              go_wp2_with (first
                | (go_at_call 111; (with_reducible refine (hT).mono ?_); rintro e w' ⟨rfl, rfl⟩)
               )
              have hr9 : Hid (r < 16 ^ (7 - 0) ∧ hxs v = hxs (q * 16 ^ (7 - 0) + r) ++ back.reverse) := Lib.hid ⟨hr, by rw [hdig.out]; congr 2; rw [HQ1.out]; show 268435456 * q + r = q * 268435456 + r; omega⟩
              go_loopw [12, 16, 17] (fun vb vr vi wr2 => ∃ (j r' : Nat) (back2 : List UInt8), j ≤ 7 ∧ vi = .int .i64 (j : Int) ∧ vr = .int .u32 (r' : Int) ∧ r' < 268435456 ∧ Hid (r' < 16 ^ (7 - j) ∧ hxs v = hxs (q * 16 ^ (7 - j) + r') ++ back2.reverse) ∧
                  Hid (wr2.ownsRow (W1.heap.size + 1) 5 1 vb back2.length (back2.map bV)) ∧ Hid (wr2.ownsRow W1.heap.size 48 1 (.slice (some ⟨W1.heap.size, 0, none⟩) k2 n) k2 ((lim q).map u32V)) ∧ Hid (Ext W1 wr2) ∧ W1.heap.size + 1 ≤ wr2.heap.size)
                (fun _ _ vi _ => 7 - (intOf vi).toNat)
              case atStart => exact ⟨0, r, back, Nat.zero_le _, rfl, by go_num, hr, hr9, hownb, hown2, hE, hz⟩
              case round =>
                clear hownb hown2 hE hz hr9
                obtain ⟨j, r', back2, hj, rfl, rfl, hr', hd2, hownb, hownw, hE, hz⟩ := hrel
                have hbl2 : back2.length ≤ 1300 := by
                  have h1 := HD.out
                  rw [hd2.out.2] at h1
                  simp at h1; omega
                have hz' : W1.heap.size ≤ W1.heap.size + 1 := Nat.le_succ _
                obtain ⟨dg, hdg⟩ : ∃ dg : UInt8, Hid (dg = hxc (UInt8.ofNat (r' % 16))) := ⟨_, rfl⟩
                by_cases hgo : j < 7 ∧ (0 < k2 ∨ 0 < r')
                · have HP : Hid (r' < 16 * 16 ^ (7 - (j + 1)) → 0 < q * (16 * 16 ^ (7 - (j + 1))) + r') := Lib.hid (fun hlt => by
                    rcases hgo.2 with h | h
                    · have h1 : 0 < q := by
                        rcases Nat.eq_zero_or_pos q with e | e
                        · have := HK2.out; rw [e, lim_zero] at this; simp at this; omega
                        · exact e
                      have := Nat.mul_pos h1 (show 0 < 16 * 16 ^ (7 - (j + 1)) by omega)
                      omega
                    · omega)
                  by_cases hk20 : 0 < k2
                  · skip
                    go_wp2_with (first
                      | (at_builtin; refine push_u8o rfl _ _ rfl _ rfl hE.out hz' hz hownb.out rfl dg ⟨wr.heap.size, 0, none⟩ 1 rfl (by rw [World.cell?_alloc_at _ _ _ _ rfl]; simp [bV, hdg.out, fig_x]) (by omega) hownw.out (fun b e => by cases e; exact Nat.lt_succ_self _) ?_)
                      | go_in)
                    all_goals
                      intro v' w3 hx3 ho3 hk3
                      have HX3 := Lib.hid hx3
                      have hz3 := hx3.size
                      have hz4 : W1.heap.size + 1 ≤ w3.heap.size := (hk3.out.lt W1.heap.size rfl).2
                      clear hx3 hownb hownw
                      go_wp2
                      go_roundw
                      case rel =>
                        have e1 : 16 ^ (7 - j) = 16 * 16 ^ (7 - (j + 1)) := by
                          rw [show 7 - j = 7 - (j + 1) + 1 by omega, Nat.pow_succ]; omega
                        have hd3 := hd2.out
                        rw [e1] at hd3
                        refine ⟨j + 1, r' / 16, back2 ++ [dg], by omega, by go_num, by go_num, by omega, ⟨by omega, by rw [hdg.out]; exact hxs_step16 hd3.2 (HP.out hd3.1)⟩, ?_, hk3, HX3, hz4⟩
                        show World.ownsRow _ _ _ _ _ _ _
                        rw [List.length_append, List.map_append]
                        exact ho3.out
                      case measure => simp [intOf]; omega
                  · obtain rfl : k2 = 0 := by omega
                    have hr0 : 0 < r' := by omega
                    have hj9 : j < 7 := hgo.1
                    clear hgo
                    go_wp2_with (first
                      | (at_builtin; refine push_u8o rfl _ _ rfl _ rfl hE.out hz' hz hownb.out rfl dg ⟨wr.heap.size, 0, none⟩ 1 rfl (by rw [World.cell?_alloc_at _ _ _ _ rfl]; simp [bV, hdg.out, fig_x]) (by omega) hownw.out (fun b e => by cases e; exact Nat.lt_succ_self _) ?_)
                      | go_in)
                    all_goals
                      intro v' w3 hx3 ho3 hk3
                      have HX3 := Lib.hid hx3
                      have hz3 := hx3.size
                      have hz4 : W1.heap.size + 1 ≤ w3.heap.size := (hk3.out.lt W1.heap.size rfl).2
                      clear hx3 hownb hownw
                      go_wp2
                      go_roundw
                      case rel =>
                        have e1 : 16 ^ (7 - j) = 16 * 16 ^ (7 - (j + 1)) := by
                          rw [show 7 - j = 7 - (j + 1) + 1 by omega, Nat.pow_succ]; omega
                        have hd3 := hd2.out
                        rw [e1] at hd3
                        refine ⟨j + 1, r' / 16, back2 ++ [dg], by omega, by go_num, by go_num, by omega, ⟨by omega, by rw [hdg.out]; exact hxs_step16 hd3.2 (HP.out hd3.1)⟩, ?_, hk3, HX3, hz4⟩
                        show World.ownsRow _ _ _ _ _ _ _
                        rw [List.length_append, List.map_append]
                        exact ho3.out
                      case measure => simp [intOf]; omega
                · have HDQ : Hid (hxs v = hxs q ++ back2.reverse) := Lib.hid (by
                    have h1 := hd2.out
                    have h2 : r' = 0 := by
                      by_cases hj9 : j = 7
                      · subst hj9
                        have := h1.1; simp at this; exact this
                      · omega
                    by_cases hj9 : j = 7
                    · subst hj9
                      rw [h2] at h1
                      simpa using h1.2
                    · have hq0 : q = 0 := lim_nil.1 (List.eq_nil_of_length_eq_zero (by have := HK2.out; omega))
                      rw [h2, hq0] at h1
                      rw [hq0]
                      simpa using h1.2)
                  by_cases hj9 : j = 7
                  · subst hj9
                    clear hgo
                    go_wp2
                    go_roundg q
                    case rel => exact ⟨k2, back2, rfl, by omega, HDQ, hownw, hownb, Lib.hid (.inr trivial), hE, hz⟩
                    case measure => have := HQ1.out; have := HU.out; omega
                  · obtain rfl : k2 = 0 := by omega
                    obtain rfl : r' = 0 := by omega
                    have hj8 : j < 7 := by omega
                    clear hgo hj9
                    go_wp2
                    go_roundg q
                    case rel => exact ⟨0, back2, rfl, by omega, HDQ, hownw, hownb, Lib.hid (.inr trivial), hE, hz⟩
                    case measure => have := HQ1.out; have := HU.out; omega
        · obtain rfl : k = 0 := by omega
          have hu0 : gk = 0 := lim_nil.1 (List.eq_nil_of_length_eq_zero hku)
          have HB : Hid (hxs v = back.reverse) := Lib.hid (by rw [hdig.out, hu0, hxs_zero]; simp)
          clear hk0 hdig hu0 hku hownw
          go_wp2
          go_loopg [12] (least - (back.length : Int)).toNat (fun g vb wr => ∃ (m : Nat), g = (least - (back.length + m : Nat)).toNat ∧ (m = 0 ∨ ((back.length + m : Nat) : Int) ≤ least) ∧ Hid (wr.ownsRow (W1.heap.size + 1) 5 1 vb (back.length + m) ((back ++ List.replicate m 48).map bV)) ∧ Hid (Ext W1 wr) ∧ W1.heap.size + 1 ≤ wr.heap.size)
          case atStart => exact ⟨0, rfl, .inl rfl, Lib.hid (by simpa using hownb.out), hE, hz⟩
          case round =>
            clear hownb hE hz
            obtain ⟨m, rfl, hm, hownb, hE, hz⟩ := hrel
            have hz' : W1.heap.size ≤ W1.heap.size + 1 := Nat.le_succ _
            have hbm : back.length + m ≤ 10001300 := by omega
            have hlen : (back ++ List.replicate m (48 : UInt8)).length = back.length + m := by simp
            have hown1 := hownb.out
            rcases own_form hownb.out with ⟨hu, hz0⟩ | ⟨gb, cb, hu, hc1, hc2, hg1, hg2⟩
            · subst hu
              have hm0 : m = 0 := by omega
              have hbn : back = [] := List.eq_nil_of_length_eq_zero (by omega)
              subst hm0 hbn
              by_cases hgo : (0 : Int) < least
              · go_wp2_with (first
                  | (at_builtin; refine push_u8 rfl _ _ rfl _ rfl hE.out hz' hz hownb.out rfl 48 ⟨wr.heap.size, 0, none⟩ 1 rfl (by rw [World.cell?_alloc_at _ _ _ _ rfl]; simp [bV]) (by omega) ?_)
                  | go_in)
                all_goals
                  intro v' w3 hx3 ho3 hk3
                  have HX3 := Lib.hid hx3
                  have hz3 := hx3.size
                  clear hx3 hownb
                  go_wp2
                  go_roundg (least - (([] : List UInt8).length + 1 : Nat)).toNat
                  case rel => exact ⟨1, rfl, .inr (by simp; omega), Lib.hid (by simpa using ho3.out), HX3, by have := own_size ho3.out (by omega); omega⟩
                  case measure => simp; omega
              · have HT : Hid (tellX v least = []) := Lib.hid (by
                  unfold tellX
                  rw [HB.out]
                  simp; omega)
                obtain ⟨wo, rfl⟩ : ∃ wo, wo = wr := ⟨_, rfl⟩
                clear hm hbm hlen hz0 hown1 hownb HB
                go_wp2_with (first
                  | (at_make; refine make_u8 rfl _ _ rfl _ _ _ _ 0 rfl rfl rfl rfl (by omega) ?_; intro w5 hx1 ho1; have hext1 := Lib.hid hx1; clear hx1)
                  | go_in)
                go_loopw [19] (fun vi wr2 => vi = .int .i64 0 ∧ Hid (wr2.ownsRow wo.heap.size 5 1 (.slice (some ⟨wo.heap.size, 0, none⟩) 0 0) 0 []) ∧ Hid (Ext wo wr2)) (fun _ _ => 0)
                case atStart => exact ⟨rfl, ho1, hext1⟩
                case round =>
                  obtain ⟨rfl, ho, hx⟩ := hrel
                  have HR : Hid (wr.ownsRow w.heap.size 5 1 (.slice (some ⟨wo.heap.size, 0, none⟩) 0 0) (tellX v least).length ((tellX v least).map bV)) := Lib.hid (by
                    rw [HT.out]
                    exact own_base ho.out (ext_trans hext.out hE.out).size)
                  clear HT
                  go_wp2
                  refine bodyPost_ret (v := .slice (some ⟨wo.heap.size, 0, none⟩) 0 0) ?h rfl ⟨_, rfl, HR, ext_trans hext.out (ext_trans hE.out hx.out)⟩
                  case h => simp [results, Tryz.results114, go_sem]
            · subst hu
              by_cases hgo : ((back.length + m : Nat) : Int) < least
              · go_wp2_with (first
                  | (at_builtin; refine push_u8 rfl _ _ rfl _ rfl hE.out hz' hz hownb.out rfl 48 ⟨wr.heap.size, 0, none⟩ 1 rfl (by rw [World.cell?_alloc_at _ _ _ _ rfl]; simp [bV]) (by omega) ?_)
                  | go_in)
                all_goals
                  intro v' w3 hx3 ho3 hk3
                  have HX3 := Lib.hid hx3
                  have hz3 := hx3.size
                  clear hx3 hownb
                  go_wp2
                  go_roundg (least - (back.length + (m + 1) : Nat)).toNat
                  case rel =>
                    refine ⟨m + 1, rfl, .inr (by omega), Lib.hid ?_, HX3, by have := own_size ho3.out (by omega); omega⟩
                    have h1 := ho3.out
                    rw [List.replicate_succ', List.map_append, List.map_append]
                    simp only [List.map_replicate, List.map_cons, List.map_nil]
                    exact h1
                  case measure => omega
              · obtain ⟨L, hL⟩ : ∃ L, L = back.length + m := ⟨_, rfl⟩
                obtain ⟨B3, hB3⟩ : ∃ B3, B3 = back ++ List.replicate m (48 : UInt8) := ⟨_, rfl⟩
                have HF : Hid (B3.reverse = tellX v least) := Lib.hid (by
                  unfold tellX
                  rw [hB3, List.reverse_append, List.reverse_replicate, HB.out, List.length_reverse]
                  congr 2
                  omega)
                have hlen : Hid (B3.length = L) := Lib.hid (by rw [hB3, hL]; simp)
                rw [← hL] at hbm hown1 hc1 hgo ⊢
                rw [← hB3] at hown1
                rw [← hL, ← hB3] at hownb
                clear hL hB3 hm hown1 HB
                obtain ⟨wo, rfl⟩ : ∃ wo, wo = wr := ⟨_, rfl⟩
                go_wp2_with (first
                  | (at_make; refine make_u8 rfl _ _ rfl _ _ _ _ L rfl rfl rfl rfl (by omega) ?_; intro w5 hx1 ho1; have hext1 := Lib.hid hx1; clear hx1)
                  | go_in)
                have hgl1 : wo.heap.size < w5.heap.size := (ho1.out.lt wo.heap.size rfl).2
                go_loopw [19] (fun vi wr2 => ∃ (i : Nat) (os : List UInt8), i ≤ L ∧ vi = .int .i64 (i : Int) ∧ Hid (os.length = L ∧ ∀ p, p < i → os.getD p 0 = B3.getD (L - 1 - p) 0) ∧
                    Hid (wr2.ownsRow wo.heap.size 5 1 (.slice (some ⟨wo.heap.size, 0, none⟩) L L) L (os.map bV)) ∧
                    Hid (wr2.ownsRow (W1.heap.size + 1) 5 1 (.slice (some ⟨gb, 0, none⟩) L cb) L (B3.map bV)) ∧ Hid (Ext wo wr2))
                  (fun vi _ => L - (intOf vi).toNat)
                case atStart => exact ⟨0, List.replicate L 0, Nat.zero_le _, rfl, ⟨by simp, fun p hp => absurd hp (Nat.not_lt_zero _)⟩, ho1.out, own_ext hownb.out hext1.out, hext1.out⟩
                case round =>
                  obtain ⟨i, os, hi, rfl, hos, ho, hb, hx⟩ := hrel
                  by_cases hlt : i < L
                  · obtain ⟨y, hy⟩ : ∃ y : UInt8, Hid (B3.getD (L - 1 - i) 0 = y) := ⟨_, rfl⟩
                    obtain ⟨hc1, hf1⟩ := ownb_at hb.out (L - 1 - i) (by omega)
                    rw [hy.out] at hc1
                    obtain ⟨hc2, hf2⟩ := ownb_at ho.out i hlt
                    go_wp2
                    case roundEnd =>
                      refine ⟨⟨i + 1, os.set i y, by omega, by simp, ⟨by rw [List.length_set]; exact hos.out.1, fun p hp => ?_⟩, ownb_set ho.out i y, own_far hb.out _ _ (by simp [Value.ownBlock]; omega), ext_setCell hx.out (Nat.le_refl _) _⟩, ?_⟩
                      · by_cases e : p = i
                        · subst e
                          rw [List.getD_eq_getElem?_getD, List.getElem?_set_self (by rw [hos.out.1]; exact hlt), hy.out]; rfl
                        · rw [List.getD_eq_getElem?_getD, List.getElem?_set_ne (by omega), ← List.getD_eq_getElem?_getD]
                          exact hos.out.2 p (by omega)
                      · simp [intOf]; omega
                  · obtain rfl : i = L := by omega
                    have hfin : os = tellX v least := by
                      rw [← HF.out]
                      refine List.ext_getElem (by rw [List.length_reverse, hlen.out]; exact hos.out.1) fun p h1 h2 => ?_
                      have h3 := hos.out.2 p (by rw [← hos.out.1]; exact h1)
                      have h4 : p < B3.length := by rw [hlen.out, ← hos.out.1]; exact h1
                      rw [List.getD_eq_getElem?_getD, List.getD_eq_getElem?_getD, List.getElem?_eq_getElem h1, List.getElem?_eq_getElem (by have := hlen.out; omega)] at h3
                      rw [List.getElem_reverse]
                      have e : B3.length - 1 - p = i - 1 - p := by rw [hlen.out]
                      simp only [e]
                      exact h3
                    have HR : Hid (wr.ownsRow w.heap.size 5 1 (.slice (some ⟨wo.heap.size, 0, none⟩) i i) (tellX v least).length ((tellX v least).map bV)) := Lib.hid (by
                      rw [← hfin, hos.out.1]
                      exact own_base ho.out (ext_trans hext.out hE.out).size)
                    clear hfin hlt
                    go_wp2
                    refine bodyPost_ret (v := .slice (some ⟨wo.heap.size, 0, none⟩) i i) ?h rfl ⟨_, rfl, HR, ext_trans hext.out (ext_trans hE.out hx.out)⟩
                    case h => simp [results, Tryz.results114, go_sem]
end Go.Proofs.YtnkajjealkggdaaGreatDoor
end
section
/- Words of the library's: figures of sixteens of many words; a number's text in sixteens. -/
namespace Go.Proofs.YtnkajjealkggdaaGreatDoor
open Go.RowKit
attribute [local go_sem] bs_size bs_extract bs_get bs_append bs_toList const_get
attribute [local go_sem] sz2 sz3 sz4 sz5 sz6 sz7 sz8
set_option maxHeartbeats 4000000
set_option maxRecDepth 100000
attribute [local irreducible] Calls
theorem bw_tell16 : ∀ (N v : Nat) (least : Int) (A : Option Addr) (n c : Nat), n = N → n ≤ 20000 → -9000000 + 80000 * (n : Int) - 1600000000 ≤ least → least ≤ 10000000 → ∀ w, Rd w A n c (lim v) →
    Calls Tryz.prog 114 #[.slice A n c, .int .i64 16, .int .i64 least] w (TellPost w (tellX v least)) := by
  intro N
  induction N using Nat.strongRecOn with
  | _ N ih =>
    intro v least A n c hnN hn hl1 hl2 w hA
    by_cases hs : n ≤ 40
    · exact tell_small16 v least A n c hs ⟨by omega, by omega⟩ w hA
    · obtain ⟨k, hk⟩ : ∃ k, k = n / 2 * 32 / 5 := ⟨_, rfl⟩
      obtain ⟨s1, s2, s3, s4⟩ := words_split16 hA.len (by omega) hk
      have HA := Lib.hid hA
      have hk0 : 0 < k := by omega
      have hk4 : k ≤ 4 * n := by omega
      have kP : ∀ w', Calls Tryz.prog 150 #[.int .i64 16, .int .i64 (k : Int)] w' (WPost w' (16 ^ k)) := fun w' => bw_power 16 k (by decide) (by decide) (by omega) (by omega) w'
      have kD : ∀ (B : Option Addr) (m d : Nat) (w' : World), Ext w w' → Rd w' B m d (lim (16 ^ k)) → Calls Tryz.prog 149 #[.slice A n c, .slice B m d] w' (QPost w' (v / 16 ^ k) (v % 16 ^ k)) := fun B m d w' he h2 =>
        bw_div A B n c m d v (16 ^ k) (Nat.ne_of_gt (Nat.pow_pos (by decide))) (by omega) w' (HA.out.ext he) h2
      have kH : ∀ (B : Option Addr) (m d : Nat) (w' : World), Rd w' B m d (lim (v / 16 ^ k)) → Calls Tryz.prog 114 #[.slice B m d, .int .i64 16, .int .i64 (least - (k : Int))] w' (TellPost w' (tellX (v / 16 ^ k) (least - k))) := fun B m d w' h2 => by
        have h3 := h2.len
        exact ih m (by omega) _ _ B m d rfl (by omega) (by omega) (by omega) w' h2
      have kL : ∀ (B : Option Addr) (m d : Nat) (w' : World), Rd w' B m d (lim (v % 16 ^ k)) → Calls Tryz.prog 114 #[.slice B m d, .int .i64 16, .int .i64 (k : Int)] w' (TellPost w' (tellX (v % 16 ^ k) k)) := fun B m d w' h2 => by
        have h3 := h2.len
        exact ih m (by omega) _ _ B m d rfl (by omega) (by omega) (by omega) w' h2
      have hT := tell_split16 (v := v) (k := k) (least := least) s1
      have hll : (tellX (v % 16 ^ k) k).length = k := by
        unfold tellX
        have := hxs_len (Nat.mod_lt v (show 0 < 16 ^ k from Nat.pow_pos (by decide)))
        rw [List.length_append, List.length_replicate]
        omega
      have hlh : (tellX (v / 16 ^ k) (least - k)).length ≤ 20000000 := by
        have h3 : (hxs (v / 16 ^ k)).length ≤ 8 * n := hxs_lim' (k := n) (by omega)
        unfold tellX
        rw [List.length_append, List.length_replicate]
        omega
      have HK := Lib.hid (And.intro kP (And.intro kD (And.intro kH kL)))
      have HT := Lib.hid (And.intro hT hll)
      have hcap := hA.cap
      have hmx := hA.mx
      have hdv : wrap64 (((n : Int) / 2 * 32).tdiv (Lib.bitLen 16 : Nat)) = (k : Int) := by
        rw [show Lib.bitLen 16 = 5 from by kernel_rfl, Int.tdiv_eq_ediv_of_nonneg (by omega)]
        have e9 : ((n : Int) / 2 * 32) / ((5 : Nat) : Int) = (k : Int) := by
          rw [hk]
          simp
        rw [e9]
        unfold wrap64
        omega
      have hbig : (40 : Int) < (n : Int) := by omega
      have HKE := Lib.hid hk
      have hlo : -2000000000 ≤ least := by omega
      have hlu : least ≤ 10000000 := hl2
      clear hA kP kD kH kL hT hll s1 s2 s3 s4 ih hnN hs hk hl1 hl2
      generalize v / 16 ^ k = q at *
      generalize v % 16 ^ k = r at *
      generalize 16 ^ k = p at *
      go_enter Tryz.func114, Tryz.ntmps114
      go_wp2_with (first
        | (go_at_call 148; (with_reducible refine (Tryz.bits_Len32 16 _ (by omega) (by omega)).mono ?_); rintro e w0 ⟨rfl, rfl⟩)
        | (go_at_call 150; (with_reducible refine (HK.out.1 _).mono ?_); rintro e w1 ⟨A1, n1, c1, rfl, hR1, xb1⟩; obtain ⟨xc1, xf1, xl1, xz1⟩ := ext_use xb1; (try simp at xz1))
        | (go_at_call 149; (with_reducible refine (HK.out.2.1 _ _ _ _ xb1 hR1.out.1).mono ?_); rintro e w2 ⟨A2, n2, c2, B2, m2, d2, rfl, hR2, hS2, xb2⟩; obtain ⟨xc2, xf2, xl2, xz2⟩ := ext_use xb2; (try simp at xz2))
        | (go_at_call 114; (with_reducible refine (HK.out.2.2.1 _ _ _ _ hR2.out.1).mono ?_); rintro e w3 ⟨v3, rfl, hR3, xb3⟩; obtain ⟨xc3, xf3, xl3, xz3⟩ := ext_use xb3; (try simp at xz3))
        | (go_at_call 114; (with_reducible refine (HK.out.2.2.2 _ _ _ _ (hS2.out.1.ext xb3)).mono ?_); rintro e w4 ⟨v4, rfl, hR4, xb4⟩; obtain ⟨xc4, xf4, xl4, xz4⟩ := ext_use xb4; (try simp at xz4))
        | (at_builtin; refine push_u8s rfl _ _ rfl (ext_trans xb1 (ext_trans xb2 (ext_trans xb3 xb4))) (ext_trans xb1 xb2).size (ext_trans xb3 xb4).size (own_ext hR3.out xb4) rfl hR4.out rfl (by rw [HT.out.2]; exact hk0) (by have := HT.out.2; omega) ?_; intro v5 w5 hx5 ho5)
       )
      refine bodyPost_ret (v := v5) ?h rfl ⟨v5, rfl, ?_, hx5⟩
      case h => simp [results, Tryz.results114, go_sem]
      show World.ownsRow _ _ _ _ _ _ _
      have h6 := own_base ho5.out (ext_trans xb1 xb2).size
      rw [HT.out.1, List.length_append]
      exact h6
def hxtext (v : Nat) : List UInt8 := if v = 0 then [48] else hxs v
theorem tellx_one (v : Nat) : tellX v 1 = hxtext v := by
  unfold tellX hxtext
  by_cases h : v = 0
  · subst h; rw [if_pos rfl, hxs_zero]; rfl
  · rw [if_neg h]
    have : 0 < (hxs v).length := List.length_pos_iff.2 (by rw [hxs_pos h]; simp)
    have e : ((1 : Int) - (hxs v).length).toNat = 0 := by omega
    rw [e]; rfl
theorem bi_Text16 (b : Nat) (z : Nat) (A : Option Addr) (n c : Nat) (hn : n ≤ 19000) (w : World) (hx : IntIs w b 0 (z : Int) A n c) :
    Calls Tryz.prog 65 #[.pointer (some ⟨b, 0, none⟩), .int .i64 16] w fun e w' => e = .returned (.string (bs (hxtext z))) ∧ Ext w w' := by
  have HX := Lib.hid hx
  have lx := hx.room.lt
  have x0 := hx.neg
  have x1 := hx.words
  simp only [Nat.zero_add] at x1
  have e0 : decide ((z : Int) < 0) = false := by simp
  rw [e0] at x0
  have hrd : ∀ w', Ext w w' → Rd w' A n c (lim z) := fun w' he => by have := HX.out.rd.ext he; rwa [Int.natAbs_natCast] at this
  have kT : ∀ w', Ext w w' → Calls Tryz.prog 114 #[.slice A n c, .int .i64 16, .int .i64 1] w' fun e w'' => ∃ (g k cp : Nat), e = .returned (.slice (some ⟨g, 0, none⟩) k cp) ∧ ((convert 23 9 (.slice (some ⟨g, 0, none⟩) k cp)).run Tryz.prog w'' = .ok (.string (bs (hxtext z))) w'') ∧ Ext w' w'' := fun w' he => by
    have h1 := bw_tell16 n z 1 A n c rfl (by omega) (by omega) (by decide) w' (hrd w' he)
    rw [tellx_one] at h1
    refine h1.mono ?_
    rintro e w'' ⟨vv, rfl, h2, h3⟩
    have hd0 : 0 < (hxtext z).length := by
      unfold hxtext; split
      · decide
      · rename_i h; exact List.length_pos_iff.2 (by rw [hxs_pos h]; simp)
    rcases own_form h2.out with ⟨_, h0⟩ | ⟨g, cp, rfl, _⟩
    · omega
    · exact ⟨g, _, cp, rfl, ownb_str h2.out 0 _ cp (by omega) (hxtext z) (by simp), h3⟩
  have hlen : (hxtext z).length ≤ 608001 := by
    unfold hxtext; split
    · decide
    · have := hxs_lim' (v := z) (k := n) (by rw [(hrd w (ext_refl _)).len]; exact Nat.le_refl _); omega
  clear hx e0 hrd
  generalize hxtext z = l at *
  go_enter Tryz.func65, Tryz.ntmps65
  go_wp2_with (first
    | (go_at_call 114; (with_reducible refine (kT _ (ext_refl _)).mono ?_); rintro e w1 ⟨g1, k1, c1, rfl, hR1, xb1⟩; obtain ⟨xc1, xf1, xl1, xz1⟩ := ext_use xb1; (try simp at xz1); obtain ⟨l1_0, gc, gf⟩ := kp xb1 (b) (by first | omega | (simp; try omega)); have r1_0 := gc 0; have f1_0 := gf 0; have r1_0_1 := gc 1; have f1_0_1 := gf 1; clear gc gf)
   )
  refine bodyPost_ret (v := .string (bs l)) ?h rfl ⟨rfl, xb1⟩
  case h => simp [results, Tryz.results65, go_sem]
end Go.Proofs.YtnkajjealkggdaaGreatDoor
end
