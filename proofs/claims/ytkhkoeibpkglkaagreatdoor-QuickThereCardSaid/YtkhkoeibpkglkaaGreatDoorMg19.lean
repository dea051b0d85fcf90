/- Lemmas of this proof, laid together: IntP, NtK, NtL, RndS, QkP, QkD, QkE. -/
import Derived.Test.YtkhkoeibpkglkaaGreatDoorMg18
import Derived.Deep.DeepCutAuto
import Derived.Deep.RegionWith
import Derived.Test.YtkhkoeibpkglkaaGreatDoorMg08
import Derived.Test.YtkhkoeibpkglkaaGreatDoorMg17
import Derived.Deep.LoopGhost
import Derived.Test.YtkhkoeibpkglkaaGreatDoorMg13
import Derived.Test.YtkhkoeibpkglkaaGreatDoorMg09
import Derived.Lib.ParseIntBCases
import Derived.Laws.FloatArith
import Derived.Test.YtkhkoeibpkglkaaGreatDoorShelf
set_option linter.unusedSimpArgs false
set_option linter.unusedVariables false
section
/- Whole numbers of the library's: a limb put below a number that was shifted up. -/
namespace Go.Proofs.YtkhkoeibpkglkaaGreatDoor
open Go.RowKit
attribute [local go_sem] sz2 sz3 sz4 sz5 sz6 sz7 sz8
set_option maxHeartbeats 4000000
set_option maxRecDepth 100000
attribute [local irreducible] Calls
theorem lim_shl (v : Nat) (h : v ≠ 0) : lim (v * 4294967296) = 0 :: lim v := by
  rw [lim_pos (by omega)]
  have e1 : v * 4294967296 % Bs = 0 := Nat.mul_mod_left v 4294967296
  have e2 : v * 4294967296 / Bs = v := Nat.mul_div_cancel v (by decide)
  rw [e1, e2]
theorem lim_sing {c : Nat} (h : c ≠ 0) (hc : c < 4294967296) : lim c = [c] := by
  rw [lim_pos h]
  have e1 : c % Bs = c := Nat.mod_eq_of_lt hc
  have e2 : c / Bs = 0 := Nat.div_eq_of_lt hc
  rw [e1, e2, lim_zero]
theorem bi_Or (b o g p h q v c : Nat) (hc : c < 4294967296) (A : Option Addr) (n cx : Nat) (B : Option Addr) (m cy : Nat) (hn : n ≤ 500000) (w : World) (hr : Room w b o) (hx : IntIs w g p ((v * 4294967296 : Nat) : Int) A n cx) (hy : IntIs w h q (c : Int) B m cy) :
    Calls Tryz.prog 133 #[.pointer (some ⟨b, o, none⟩), .pointer (some ⟨g, p, none⟩), .pointer (some ⟨h, q, none⟩)] w (IPost w b o ((v * 4294967296 + c : Nat) : Int)) := by
  have HX := Lib.hid hx
  have HY := Lib.hid hy
  have HR := Lib.hid hr
  have lx := hx.room.lt
  have x1 := hx.words
  have ly := hy.room.lt
  have y1 := hy.words
  have hxl : (lim (v * 4294967296)).length = n := by have := hx.rd.len; rwa [Int.natAbs_natCast] at this
  have hyl : (lim c).length = m := by have := hy.rd.len; rwa [Int.natAbs_natCast] at this
  have hm1 : m ≤ 1 := by
    by_cases h0 : c = 0
    · subst h0; rw [lim_zero] at hyl; simp at hyl; omega
    · rw [lim_sing h0 hc] at hyl; simp at hyl; omega
  -- the row behind the copy, and behind the loop
  obtain ⟨L, hL⟩ : ∃ L, max n m = L := ⟨_, rfl⟩
  have hLi : max (n : Int) (m : Int) = (L : Int) := by omega
  obtain ⟨zs, hzs⟩ : ∃ zs, lim (v * 4294967296) ++ (List.replicate L 0).drop n = zs := ⟨_, rfl⟩
  have hzl : zs.length = L := by rw [← hzs, List.length_append, hxl, List.length_drop, List.length_replicate]; omega
  have hrow : Lb zs ∧ val zs = v * 4294967296 ∧ (0 < m → zs.getD 0 0 = 0 ∧ Lb (zs.set 0 c) ∧ val (zs.set 0 c) = v * 4294967296 + c) := by
    by_cases h0 : v = 0
    · subst h0
      have hn0 : n = 0 := by rw [← hxl, Nat.zero_mul, lim_zero]; rfl
      subst hn0
      have hLm : L = m := by omega
      subst hLm
      have hz : zs = List.replicate L 0 := by rw [← hzs, Nat.zero_mul, lim_zero]; simp
      subst hz
      rcases (by omega : L = 0 ∨ L = 1) with e | e
      · subst e
        refine ⟨fun x hx => (by simp at hx), rfl, fun q => absurd q (by omega)⟩
      · subst e
        refine ⟨fun x hx => ?_, rfl, fun _ => ⟨rfl, fun x hx => ?_, ?_⟩⟩
        · simp at hx; subst hx; decide
        · simp at hx; subst hx; exact hc
        · simp [val]
    · have hl := lim_shl v h0
      have hnl : 1 ≤ n := by rw [← hxl, hl]; simp
      have hz : zs = 0 :: lim v := by
        rw [← hzs, hl, List.drop_of_length_le (by rw [List.length_replicate]; omega), List.append_nil]
      have hv := val_lim v
      subst hz
      refine ⟨fun x hx => ?_, ?_, fun _ => ⟨rfl, fun x hx => ?_, ?_⟩⟩
      · rcases List.mem_cons.1 hx with rfl | hx
        · decide
        · exact lb_lim v x hx
      · show 0 + Bs * val (lim v) = _
        rw [hv]
        show 0 + 4294967296 * v = _
        omega
      · rw [List.set_cons_zero] at hx
        rcases List.mem_cons.1 hx with rfl | hx
        · exact hc
        · exact lb_lim v x hx
      · rw [List.set_cons_zero]
        show c + Bs * val (lim v) = _
        rw [hv]
        show c + 4294967296 * v = _
        omega
  have hyc : 0 < m → (lim c) = [c] := fun hm => by
    by_cases h0 : c = 0
    · subst h0; rw [lim_zero] at hyl; simp at hyl; omega
    · exact lim_sing h0 hc
  have HRX : Hid (Rd w A n cx (lim (v * 4294967296))) := Lib.hid (by have := hx.rd; rwa [Int.natAbs_natCast] at this)
  have HRY : Hid (Rd w B m cy (lim c)) := Lib.hid (by have := hy.rd; rwa [Int.natAbs_natCast] at this)
  have HROW := Lib.hid hrow
  have HYC := Lib.hid hyc
  have HZS := Lib.hid hzs
  have HXL := Lib.hid hxl
  have HYL := Lib.hid hyl
  have hbl := HR.out.lt
  have hnL : n ≤ L := by omega
  have hmL : m ≤ L := by omega
  have hL5 : L ≤ 500001 := by omega
  have hLn : (L : Int) ≤ 500001 := by omega
  have hor : bits BinOp.or IntKind.u32 0 (c : Int) = (c : Int) := by
    have := bits_or32 0 c (by decide) hc
    rw [Nat.zero_or] at this
    exact this
  have hcv : (c : Int) < 4294967296 := by omega
  clear hx hy hr hrow hyc hzs hxl hyl hL
  go_enter Tryz.func133, Tryz.ntmps133
  go_upto_region 1 with fail
  refine wp_aft_tail 11 (by kernel_rfl) (by kernel_rfl) (by kernel_rfl) (fun hq hqf => ?_)
  simp only [List.take_succ_cons, List.take_zero, List.drop_succ_cons, List.drop_zero]
  repeat (go_big_quiet_step (first | fail
    ))
  refine wpQuiet_nil ?_
  rintro _ ⟨nq, rfl⟩
  have xl := ext_lt nq.use
  have xz := ext_size nq.use
  try simp at xz
  have hE0 := Lib.hid nq.use
  have x2 := (Below.cell (p := ⟨g, p + 1, none⟩) nq.use lx).trans x1
  have y2 := (Below.cell (p := ⟨h, q + 1, none⟩) nq.use ly).trans y1
  have lx2 := ext_lt nq.use _ lx
  have ly2 := ext_lt nq.use _ ly
  clear hq hqf x1 y1
  generalize nq.out = W at *
  clear nq
  have y2' := y2
  have ly2' := ly2
  go_upto_region 2 with (first
    | (at_make; refine make_u32 rfl _ _ rfl _ _ _ _ L rfl rfl rfl rfl (by omega) ?_; intro w1 hx1 ho1; have hext1 := Lib.hid hx1; have x2 := (Below.cell (p := ⟨g, p + 1, none⟩) hx1 lx2).trans x2; have y2 := (Below.cell (p := ⟨h, q + 1, none⟩) hx1 ly2).trans y2; have lx2 := ext_lt hx1 _ lx2; have ly2 := ext_lt hx1 _ ly2; clear hx1))
  have HOR := Lib.hid hor
  have HC := Lib.hid hc
  clear hLi hor hcv hc
  go_upto_region 3 with (first
    | (with_reducible refine copy_u32 rfl (.tmp 22) (.tmp 26) rfl ho1.out (HRX.out.ext (ext_trans hE0.out hext1.out)) rfl rfl hnL hext1.out (Nat.le_refl _) ?_; intro w2 hx2 ho2; have hext2 := Lib.hid hx2; clear hx2))
  rw [HZS.out] at ho2
  have y2 := (Below.cell (p := ⟨h, q + 1, none⟩) hext2.out ly2').trans y2'
  have ly2 := ext_lt hext2.out _ ly2'
  obtain ⟨H, hH⟩ : ∃ H, W.heap.size = H := ⟨_, rfl⟩
  have hWw := ext_size hE0.out
  rw [hH] at ho2
  rw [hH]
  have hWH : w.heap.size ≤ H := by omega
  have hWH2 : W.heap.size ≤ H := by omega
  clear x2 lx2 ho1 hext1 hH
  go_wp2_with fail
  go_loopw [33] (fun vi wr => ∃ i : Nat, i ≤ m ∧ vi = .int .i64 (i : Int) ∧ Hid (wr.ownsRow H 60 1 (.slice (some ⟨H, 0, none⟩) L L) L ((if i = 0 then zs else zs.set 0 c).map u32V)) ∧ Hid (Ext W wr)) (fun vi _ => m - (intOf vi).toNat)
  case atStart => exact ⟨0, Nat.zero_le _, rfl, ho2.out, hext2.out⟩
  case round =>
    obtain ⟨i, hi, rfl, ho, hE⟩ := hrel
    by_cases hlt : i < m
    · obtain rfl : i = 0 := by omega
      obtain rfl : m = 1 := by omega
      obtain ⟨z0, z1, z2⟩ := HROW.out.2.2 (by omega)
      have hL0 : 0 < L := by omega
      rw [if_pos rfl] at ho
      have hRY := HRY.out.ext (ext_trans hE0.out hE.out)
      rw [HYC.out (by omega)] at hRY
      rcases hRY.shape with ⟨_, q0, _⟩ | ⟨by_, oy, rfl⟩
      · omega
      · obtain ⟨hb1, hc1⟩ := hRY.cells by_ oy rfl 0 (by simp)
        simp only [List.getElem_cons_zero, Nat.add_zero] at hc1
        obtain ⟨ha1, hf1⟩ := own_at ho.out 0 hL0
        rw [z0] at ha1
        have hor := HOR.out
        have hL0' : (0 : Int) < (L : Int) := by omega
        clear z0 z1 z2 hRY
        go_wp2
        case roundEnd =>
          refine ⟨⟨1, by omega, rfl, ?_, ext_setCell hE.out (by omega) _⟩, by simp [intOf]⟩
          rw [if_neg (by decide)]
          exact Lib.hid (own_set ho.out 0 c)
    · obtain rfl : i = m := by omega
      have hlt' : ¬ (i : Int) < (i : Int) := by omega
      have hV : Lb (if i = 0 then zs else zs.set 0 c) ∧ val (if i = 0 then zs else zs.set 0 c) = v * 4294967296 + c := by
        by_cases g0 : i = 0
        · rw [if_pos g0]
          have hc0 : c = 0 := by
            have := HYL.out
            rw [g0] at this
            exact lim_nil.1 (List.eq_nil_of_length_eq_zero this)
          rw [hc0, Nat.add_zero]
          exact ⟨HROW.out.1, HROW.out.2.1⟩
        · rw [if_neg g0]
          exact ⟨(HROW.out.2.2 (by omega)).2.1, (HROW.out.2.2 (by omega)).2.2⟩
      have kT := Lib.hid (bw_trim_own ho.out hV.1 hV.2)
      have hE0w := Lib.hid (ext_trans hE0.out hE.out)
      have hHb : b < H := by omega
      have hO : ∀ k, Off (some ⟨H, 0, none⟩) k b := fun k x hx _ e => by cases hx; simp only at e; omega
      clear hV hlt HROW HYC HRY HRX HZS ho
      go_wp2_with (first
        | (go_at_call 180; (with_reducible refine (kT.out).mono ?_); rintro e w3 ⟨⟨k3, rfl, hR3⟩, rfl⟩)
        | (go_at_call 117; (with_reducible refine (bi_set b o false _ k3 L (v * 4294967296 + c) _ (HR.out.ext hE0w.out) hR3.out (hO _)).mono ?_); rintro e w4 ⟨rfl, hI4, xt4⟩))
      refine bodyPost_ret (v := .pointer (some ⟨b, o, none⟩)) ?h rfl ⟨rfl, _, _, _, ⟨hI4.out, fun x hx => by cases hx; show w.heap.size ≤ H; omega⟩, (Tch.of hE0w.out).trans xt4⟩
      case h => simp [results, Tryz.results133, go_sem]
end Go.Proofs.YtkhkoeibpkglkaaGreatDoor
end
section
/- The program's whole numbers: small ones; powers. -/
namespace Go.Proofs.YtkhkoeibpkglkaaGreatDoor
open Go.RowKit
attribute [local go_sem] sz2 sz3 sz4 sz5 sz6 sz7 sz8
set_option maxHeartbeats 4000000
set_option maxRecDepth 100000
attribute [local irreducible] Calls
/-- A natural number with no room behind it. -/
abbrev NatPost (w : World) (v : Nat) : Ending → World → Prop := fun e w' => ∃ (A : Option Addr) (k : Nat), e = .returned (natV A k k) ∧ Hid (Rd w' A k k (lim v) ∧ Fr w A) ∧ Ext w w'
theorem nof_any (v : Nat) (hv : v < 18446744073709551616) (w : World) : Calls Tryz.prog 56 #[.int .u64 (v : Int)] w (NatPost w v) := by
  have hval : val [v % 4294967296, v / 4294967296] = v := by
    have := Nat.mod_add_div v 4294967296
    simp [val, Bs]; omega
  have hlb : Lb [v % 4294967296, v / 4294967296] := by
    intro x hx
    simp at hx
    unfold Bs
    rcases hx with rfl | rfl <;> omega
  have hR : Rd ((w.alloc (Obj.cells #[.slice none 0 0] 31)).alloc (Obj.cells #[.int .u32 ((v : Int) % 4294967296), .int .u32 ((v : Int) / 4294967296)] 60)) (some ⟨w.heap.size + 1, 0, none⟩) 2 2 [v % 4294967296, v / 4294967296] :=
    Rd.made _ _ _ _ hlb (by simp [u32V]) (by simp) (by simp) rfl
  have hT : Calls Tryz.prog 110 #[.slice (some ⟨w.heap.size + 1, 0, none⟩) 2 2] ((w.alloc (Obj.cells #[.slice none 0 0] 31)).alloc (Obj.cells #[.int .u32 ((v : Int) % 4294967296), .int .u32 ((v : Int) / 4294967296)] 60)) fun e w'' => ∃ (A' : Option Addr) (k : Nat), e = .returned (natV A' k k) ∧ Hid (Rd w'' A' k k (lim v) ∧ ∀ a, A' = some a → w.heap.size < a.block) ∧ Ext ((w.alloc (Obj.cells #[.slice none 0 0] 31)).alloc (Obj.cells #[.int .u32 ((v : Int) % 4294967296), .int .u32 ((v : Int) / 4294967296)] 60)) w'' := by
    refine (trimmed_any _ _ _ _ _ hR).mono ?_
    rintro e w'' ⟨A', k, rfl, h2, h3⟩
    refine ⟨A', k, rfl, ⟨?_, fun a ha => ?_⟩, h3⟩
    · have := h2.out.1 _ (hR.ext h3); rwa [hval] at this
    · have := h2.out.2 a ha; cases this; exact Nat.lt_succ_self _
  clear hR hval hlb
  go_enter Tryz.func56, Tryz.ntmps56
  go_wp2_with (first
    | (go_at_call 110; (with_reducible refine hT.mono ?_); rintro e w3 ⟨A3, k3, rfl, hR3, xb3⟩; have r0 := (Below.cell (p := ⟨w.heap.size, 0, none⟩) xb3 (by simp; omega)).trans (show _ = some (Value.slice none 0 0) by simp [go_sem]); have f0 := (Below.frozen (p := ⟨w.heap.size, 0, none⟩) xb3 (by simp; omega)).trans (show _ = false by simp [go_sem]))
   )
  have hcr := World.cell?_setCell_same _ _ (.slice A3 k3 k3) r0
  refine bodyPost_ret (v := natV A3 k3 k3) ?h rfl ⟨A3, k3, rfl, ⟨hR3.out.1.set _ hR3.out.2, fun a ha => Nat.le_of_lt (hR3.out.2 a ha)⟩, ext_setCell (ext_trans (ext_alloc (ext_alloc (ext_refl _) _) _) xb3) (Nat.le_refl _) _⟩
  case h => simp [results, Tryz.results56, go_sem, hcr]
theorem nof_one (w : World) : Calls Tryz.prog 56 #[.int .u64 1] w (NatPost w 1) := nof_any 1 (by decide) w
theorem pow_le' {o s r N : Nat} (h : o * s ^ r = N) (hN : 0 < N) (hr : 1 ≤ r) : o ≤ N ∧ s ≤ N ∧ o * s ≤ N ∧ (2 ≤ r → s * s ≤ N) := by
  have ho : 0 < o := Nat.pos_of_ne_zero (fun e => by subst e; simp at h; omega)
  have hs : 0 < s := Nat.pos_of_ne_zero (fun e => by subst e; rw [Nat.zero_pow (by omega)] at h; simp at h; omega)
  have h1 : s ≤ s ^ r := by have := Nat.pow_le_pow_right hs hr; rwa [Nat.pow_one] at this
  have h2 : 1 ≤ s ^ r := Nat.one_le_pow _ _ hs
  refine ⟨?_, ?_, ?_, fun h3 => ?_⟩
  · rw [← h]; exact Nat.le_mul_of_pos_right _ h2
  · rw [← h]; exact Nat.le_trans h1 (Nat.le_mul_of_pos_left _ ho)
  · rw [← h]; exact Nat.mul_le_mul_left _ h1
  · rw [← h]
    have h4 : s ^ 2 ≤ s ^ r := Nat.pow_le_pow_right hs h3
    rw [Nat.pow_two] at h4
    exact Nat.le_trans h4 (Nat.le_mul_of_pos_left _ ho)
theorem pow_odd {o s r N : Nat} (h : o * s ^ r = N) (hr : r % 2 = 1) : o * s * (s * s) ^ (r / 2) = N := by
  have e : r = 2 * (r / 2) + 1 := by omega
  have h2 : (s * s) ^ (r / 2) = s ^ (2 * (r / 2)) := by rw [← Nat.pow_two, ← Nat.pow_mul]
  rw [h2, Nat.mul_assoc, ← Nat.pow_succ']
  show o * s ^ (2 * (r / 2) + 1) = N
  rw [← e, h]
theorem pow_even {o s r N : Nat} (h : o * s ^ r = N) (hr : r % 2 = 0) : o * (s * s) ^ (r / 2) = N := by
  have e : r = 2 * (r / 2) := by omega
  have h2 : (s * s) ^ (r / 2) = s ^ (2 * (r / 2)) := by rw [← Nat.pow_two, ← Nat.pow_mul]
  rw [h2, ← e, h]
theorem and_one (r : Nat) (hr : r < 9223372036854775808) : bits BinOp.and IntKind.i64 (r : Int) 1 = ((r % 2 : Nat) : Int) := by
  have h1 : (BitVec.ofInt 64 (r : Int)).toNat = r := by rw [BitVec.ofInt_natCast, BitVec.toNat_ofNat]; exact Nat.mod_eq_of_lt (by omega)
  have h2 : (BitVec.ofInt 64 1).toNat = 1 := by decide
  show IntKind.i64.wrap ((BitVec.ofInt 64 (r : Int) &&& BitVec.ofInt 64 1).toNat : Int) = _
  rw [BitVec.toNat_and, h1, h2, Nat.and_one_is_mod, IntKind.wrap_i64]
  omega
/-- A number with an error of nought. -/
abbrev NatPost0 (w : World) (v : Nat) : Ending → World → Prop := fun e w' => ∃ (A : Option Addr) (k : Nat), e = .returned (.tuple #[natV A k k, .int .i64 0]) ∧ Hid (Rd w' A k k (lim v) ∧ Fr w A) ∧ Ext w w'
theorem npow_zero (b : Nat) (w : World) : Calls Tryz.prog 53 #[.int .u32 (b : Int), .int .i64 0] w (NatPost0 w 1) := by
  go_enter Tryz.func53, Tryz.ntmps53
  go_wp2_with (first
    | (go_at_call 56; (with_reducible refine (nof_one _).mono ?_); rintro e w3 ⟨A3, k3, rfl, hR3, xb3⟩; have r0 := (Below.cell (p := ⟨w.heap.size, 0, none⟩) xb3 (by simp)).trans (show _ = some (Value.slice none 0 0) by simp [go_sem]); have f0 := (Below.frozen (p := ⟨w.heap.size, 0, none⟩) xb3 (by simp)).trans (show _ = false by simp [go_sem]))
   )
  have hcr := World.cell?_setCell_same _ _ (.slice A3 k3 k3) r0
  have hlt : ∀ a, A3 = some a → w.heap.size < a.block := fun a ha => by have := hR3.out.2 a ha; simp at this; omega
  refine bodyPost_ret (v := .tuple #[natV A3 k3 k3, .int .i64 0]) ?h rfl ⟨A3, k3, rfl, ⟨hR3.out.1.set _ hlt, fun a ha => Nat.le_of_lt (hlt a ha)⟩, ext_setCell (ext_trans (ext_alloc (ext_refl _) _) xb3) (Nat.le_refl _) _⟩
  case h => simp [results, Tryz.results53, go_sem, hcr]
/-- Three cells: two of the loop's and the answer's. -/
structure PC (w : World) (G6 G7 Gr : Nat) (v6 v7 vr : Value) : Prop where
  c6 : w.cell? ⟨G6, 0, none⟩ = some v6
  c7 : w.cell? ⟨G7, 0, none⟩ = some v7
  cr : w.cell? ⟨Gr, 0, none⟩ = some vr
  f6 : w.frozen? ⟨G6, 0, none⟩ = false
  f7 : w.frozen? ⟨G7, 0, none⟩ = false
  fr : w.frozen? ⟨Gr, 0, none⟩ = false
  l7 : G7 < w.heap.size
theorem PC.ext {w w' : World} {G6 G7 Gr : Nat} {v6 v7 vr : Value} (h : PC w G6 G7 Gr v6 v7 vr) (h6 : G6 < G7) (hr : Gr < G7) (he : Ext w w') : PC w' G6 G7 Gr v6 v7 vr :=
  ⟨(Below.cell (p := ⟨G6, 0, none⟩) he (Nat.lt_trans h6 h.l7)).trans h.c6, (Below.cell (p := ⟨G7, 0, none⟩) he h.l7).trans h.c7, (Below.cell (p := ⟨Gr, 0, none⟩) he (Nat.lt_trans hr h.l7)).trans h.cr,
   (Below.frozen (p := ⟨G6, 0, none⟩) he (Nat.lt_trans h6 h.l7)).trans h.f6, (Below.frozen (p := ⟨G7, 0, none⟩) he h.l7).trans h.f7, (Below.frozen (p := ⟨Gr, 0, none⟩) he (Nat.lt_trans hr h.l7)).trans h.fr, ext_lt he _ h.l7⟩
theorem PC.set6 {w : World} {G6 G7 Gr : Nat} {v6 v7 vr : Value} (h : PC w G6 G7 Gr v6 v7 vr) (h6 : G6 < G7) (hr : Gr < G6) (v : Value) : PC (w.setCell ⟨G6, 0, none⟩ v) G6 G7 Gr v v7 vr :=
  ⟨World.cell?_setCell_same _ _ _ h.c6, (World.cell?_setCell_other _ _ _ _ (by intro e; simp at e; try omega)).trans h.c7, (World.cell?_setCell_other _ _ _ _ (by intro e; simp at e; try omega)).trans h.cr, by simpa using h.f6, by simpa using h.f7, by simpa using h.fr, by simpa using h.l7⟩
theorem PC.set7 {w : World} {G6 G7 Gr : Nat} {v6 v7 vr : Value} (h : PC w G6 G7 Gr v6 v7 vr) (h6 : G6 < G7) (hr : Gr < G6) (v : Value) : PC (w.setCell ⟨G7, 0, none⟩ v) G6 G7 Gr v6 v vr :=
  ⟨(World.cell?_setCell_other _ _ _ _ (by intro e; simp at e; try omega)).trans h.c6, World.cell?_setCell_same _ _ _ h.c7, (World.cell?_setCell_other _ _ _ _ (by intro e; simp at e; try omega)).trans h.cr, by simpa using h.f6, by simpa using h.f7, by simpa using h.fr, by simpa using h.l7⟩
/-- The loop of a power. -/
def PowRel (w : World) (G6 G7 N : Nat) (vi : Value) (wr : World) : Prop := ∃ (rem o s : Nat) (O : Option Addr) (ko : Nat) (Q : Option Addr) (kq : Nat), (1 ≤ rem ∧ rem ≤ 524288) ∧ vi = .int .i64 (rem : Int) ∧ Hid (o * s ^ rem = N) ∧ Hid (Rd wr O ko ko (lim o)) ∧ Hid (Rd wr Q kq kq (lim s)) ∧
  Hid (Off O ko G6 ∧ Off O ko G7 ∧ Off Q kq G6 ∧ Off Q kq G7 ∧ ∀ x, O = some x → w.heap.size < x.block) ∧ Hid (PC wr G6 G7 w.heap.size (.slice O ko ko) (.slice Q kq kq) (.slice none 0 0)) ∧ Hid (Ext w wr)
theorem npow_pos (b n : Nat) (hb : 2 ≤ b) (hb2 : b < 4294967296) (hn : 1 ≤ n) (hn2 : n ≤ 524288) (hl : (lim (b ^ n)).length ≤ 8000) (w : World) : Calls Tryz.prog 53 #[.int .u32 (b : Int), .int .i64 (n : Int)] w (NatPost0 w (b ^ n)) := by
  obtain ⟨N, hN⟩ : ∃ N, N = b ^ n := ⟨_, rfl⟩
  have hN0 : 0 < N := by rw [hN]; exact Nat.pow_pos (by omega)
  have hst : 1 * b ^ n = N := by rw [hN, Nat.one_mul]
  rw [← hN] at hl ⊢
  have HL := Lib.hid hl
  have HST := Lib.hid hst
  clear hl hst hN
  have hn1 : ((n : Int) == 0) = false := by rw [beq_eq_false_iff_ne]; omega
  go_enter Tryz.func53, Tryz.ntmps53
  go_wp2_with (first
    | (go_at_call 56; (with_reducible refine (nof_one _).mono ?_); rintro e w3 ⟨A3, k3, rfl, hR3, xb3⟩)
    | (go_at_call 56; (with_reducible refine (nof_any b (by omega) _).mono ?_); rintro e w4 ⟨A4, k4, rfl, hR4, xb4⟩)
   )
  have hs3 : w.heap.size + 1 ≤ w3.heap.size := by have := ext_size xb3; simpa using this
  have hs4 : w3.heap.size ≤ w4.heap.size := ext_size xb4
  have hE4 := Lib.hid (ext_trans (ext_alloc (ext_refl w) (Obj.cells #[.slice none 0 0] 31)) (ext_trans xb3 xb4))
  have r0 := (Below.cell (p := ⟨w.heap.size, 0, none⟩) (ext_trans xb3 xb4) (by simp)).trans (show _ = some (Value.slice none 0 0) by simp [go_sem])
  have f0 := (Below.frozen (p := ⟨w.heap.size, 0, none⟩) (ext_trans xb3 xb4) (by simp)).trans (show _ = false by simp [go_sem])
  have hR3' := Lib.hid (hR3.out.1.ext xb4)
  have hF3 : ∀ x, A3 = some x → w.heap.size < x.block := fun x hx => by have := hR3.out.2 x hx; simp at this; omega
  have o36 : Off A3 k3 w4.heap.size := hR3'.out.off (Nat.le_refl _)
  have o37 : Off A3 k3 (w4.heap.size + 1) := hR3'.out.off (by omega)
  have o46 : Off A4 k4 w4.heap.size := hR4.out.1.off (Nat.le_refl _)
  have o47 : Off A4 k4 (w4.heap.size + 1) := hR4.out.1.off (by omega)
  have hlt : w.heap.size < w4.heap.size := by omega
  have HOFF := Lib.hid (And.intro o36 (And.intro o37 (And.intro o46 (And.intro o47 hF3))))
  clear o36 o37 o46 o47
  go_loopw [1] (fun vi wr => PowRel w w4.heap.size (w4.heap.size + 1) N vi wr) (fun vi _ => (intOf vi).toNat)
  case atStart =>
    have k1 : w.heap.size < ((w4.alloc (Obj.cells #[.slice A3 k3 k3] 31)).heap.size) := by simp; omega
    exact ⟨n, 1, b, A3, k3, A4, k4, ⟨hn, hn2⟩, rfl, HST.out, hR3'.out.ext (ext_alloc (ext_alloc (ext_refl _) _) _), hR4.out.1.ext (ext_alloc (ext_alloc (ext_refl _) _) _), HOFF.out,
      ⟨by simp [go_sem], by simp [go_sem], by rw [World.cell?_alloc_lt _ _ _ k1, World.cell?_alloc_lt _ _ _ hlt]; exact r0, by simp [go_sem], by simp [go_sem], by simp [go_sem, hlt, f0], by simp⟩, ext_alloc (ext_alloc hE4.out _) _⟩
  case round =>
    obtain ⟨G6, hG6⟩ : ∃ G, G = w4.heap.size := ⟨_, rfl⟩
    rw [← hG6] at hrel hlt
    simp only [← hG6]
    obtain ⟨G7, hG7⟩ : ∃ G, G = G6 + 1 := ⟨_, rfl⟩
    rw [← hG7] at hrel
    simp only [← hG7]
    have h67 : G6 < G7 := by omega
    have hr7 : w.heap.size < G7 := by omega
    have h67' : ¬ G6 = G7 := by omega
    have h76' : ¬ G7 = G6 := by omega
    clear hG6 hG7 HOFF hR3' hF3 r0 f0 hE4 hs3 hs4 hR3 hR4 xb3 xb4 HST
    obtain ⟨rem, o, s, O, ko, Q, kq, ⟨h1, h2⟩, rfl, hst, hO, hQ, hoff, hpc, hE⟩ := hrel
    obtain ⟨p1, p2, p3, p4⟩ := pow_le' hst.out hN0 h1
    have lo := hO.out.len
    have lq := hQ.out.len
    have lo1 : (lim o).length ≤ 8000 := Nat.le_trans (lim_mono p1) HL.out
    have lq1 : (lim s).length ≤ 8000 := Nat.le_trans (lim_mono p2) HL.out
    have c1 : ∀ wx, Ext wr wx → Calls Tryz.prog 55 #[natV O ko ko, natV Q kq kq] wx (NatPost0 wx (o * s)) := fun wx hx =>
      pmul_any O Q ko ko kq kq o s wx (hO.out.ext hx) (hQ.out.ext hx) (by omega) (by omega) (by omega) (Nat.le_trans (lim_mono p3) (Nat.le_trans HL.out (by omega)))
    have c2 : 2 ≤ rem → ∀ wx, Rd wx Q kq kq (lim s) → Calls Tryz.prog 55 #[natV Q kq kq, natV Q kq kq] wx (NatPost0 wx (s * s)) := fun h wx hx =>
      pmul_any Q Q kq kq kq kq s s wx hx hx (by omega) (by omega) (by omega) (Nat.le_trans (lim_mono (p4 h)) (Nat.le_trans HL.out (by omega)))
    obtain ⟨c6, c7, cr, f6, f7, fr, l7⟩ := hpc.out
    have eand := and_one rem (by omega)
    obtain ⟨rem2, hrem2⟩ : ∃ r, r = rem / 2 := ⟨_, rfl⟩
    have e2 : (rem : Int) / 2 = (rem2 : Int) := by omega
    clear p1 p2 p3 p4 lo1 lq1 lo lq
    by_cases hodd : rem % 2 = 1
    · rw [hodd] at eand
      have hodd' := Lib.hid (pow_odd hst.out hodd)
      rw [← hrem2] at hodd'
      have HR2 := Lib.hid hrem2
      clear hrem2
      by_cases h0 : rem2 = 0
      · subst h0
        rw [Nat.pow_zero, Nat.mul_one] at hodd'
        go_wp2_with (first
          | (go_at_call 55; (with_reducible refine (c1 _ (ext_refl _)).mono ?_); rintro e w5 ⟨O5, k5, rfl, hR5, xb5⟩; have hp5 := Lib.hid ((hpc.out.ext h67 hr7 xb5).set6 h67 hlt (.slice O5 k5 k5)); have hq5 := Lib.hid (hpc.out.ext h67 hr7 xb5); obtain ⟨d6, d7, dr, g6, g7, gr, m7⟩ := hq5.out; obtain ⟨i6, i7, ir, j6, j7, jr, n7⟩ := hp5.out)
         )
        have hcr := World.cell?_setCell_same _ _ (.slice O5 k5 k5) ir
        have n5 : ∀ x, O5 = some x → G7 < x.block := fun x hx => by have := hR5.out.2 x hx; have := hpc.out.l7; omega
        have hRv : Rd w5 O5 k5 k5 (lim N) := by have := hR5.out.1; rwa [hodd'.out] at this
        refine bodyPost_ret (v := .tuple #[natV O5 k5 k5, .int .i64 0]) ?h rfl ⟨O5, k5, rfl, ⟨(hRv.set _ (fun x hx => Nat.lt_trans h67 (n5 x hx))).set _ (fun x hx => by have := n5 x hx; show w.heap.size < x.block; omega), fun x hx => by have := n5 x hx; show w.heap.size ≤ x.block; omega⟩, ext_setCell (ext_setCell (ext_trans hE.out xb5) (Nat.le_of_lt hlt) _) (Nat.le_refl _) _⟩
        case h => simp [results, Tryz.results53, go_sem, hcr]
      · have h0' : ((rem2 : Int) == 0) = false := by rw [beq_eq_false_iff_ne]; omega
        have hrm := HR2.out
        have c2' := c2 (by omega)
        clear c2 hrm
        go_wp2_with (first
          | (go_at_call 55; (with_reducible refine (c1 _ (ext_refl _)).mono ?_); rintro e w5 ⟨O5, k5, rfl, hR5, xb5⟩; have hp5 := Lib.hid ((hpc.out.ext h67 hr7 xb5).set6 h67 hlt (.slice O5 k5 k5)); have hq5 := Lib.hid (hpc.out.ext h67 hr7 xb5); obtain ⟨d6, d7, dr, g6, g7, gr, m7⟩ := hq5.out; obtain ⟨i6, i7, ir, j6, j7, jr, n7⟩ := hp5.out; have hQ5 := Lib.hid ((hQ.out.ext xb5).tch ((Tch.refl _ w5).set 0 (.slice O5 k5 k5)) hoff.out.2.2.1))
          | (go_at_call 55; (with_reducible refine (c2' _ hQ5.out).mono ?_); rintro e w6 ⟨Q6, k6, rfl, hR6, xb6⟩; have hp6 := Lib.hid (hp5.out.ext h67 hr7 xb6); obtain ⟨s6, s7, sr, t6, t7, tr, q7⟩ := hp6.out)
         )
        have n5 : ∀ x, O5 = some x → G7 < x.block := fun x hx => by have := hR5.out.2 x hx; have := hpc.out.l7; omega
        have n6 : ∀ x, Q6 = some x → G7 < x.block := fun x hx => by have := hR6.out.2 x hx; simp at this; omega
        case roundEnd =>
          refine ⟨⟨rem2, o * s, s * s, O5, k5, Q6, k6, ⟨by omega, by have := HR2.out; omega⟩, rfl, hodd'.out, ?_, ?_, ⟨?_, ?_, ?_, ?_, ?_⟩, hp6.out.set7 h67 hlt _, ?_⟩, ?_⟩
          · exact ((hR5.out.1.set _ (fun x hx => Nat.lt_trans h67 (n5 x hx))).ext xb6).set _ n5
          · exact hR6.out.1.set _ n6
          · exact fun x hx _ e => by have := n5 x hx; omega
          · exact fun x hx _ e => by have := n5 x hx; omega
          · exact fun x hx _ e => by have := n6 x hx; omega
          · exact fun x hx _ e => by have := n6 x hx; omega
          · exact fun x hx => by have := n5 x hx; omega
          · exact ext_setCell (ext_trans (ext_setCell (ext_trans hE.out xb5) (Nat.le_of_lt hlt) _) xb6) (Nat.le_of_lt hr7) _
          · have := HR2.out; simp [intOf]; omega
    · have hev : rem % 2 = 0 := by omega
      rw [hev] at eand
      have hev' := Lib.hid (pow_even hst.out hev)
      rw [← hrem2] at hev'
      have HR2 := Lib.hid hrem2
      have c2' := c2 (by omega)
      have h0' : ((rem2 : Int) == 0) = false := by rw [beq_eq_false_iff_ne]; omega
      clear hrem2 c2 hodd hev
      go_wp2_with (first
        | (go_at_call 55; (with_reducible refine (c2' _ hQ.out).mono ?_); rintro e w6 ⟨Q6, k6, rfl, hR6, xb6⟩; have hp6 := Lib.hid (hpc.out.ext h67 hr7 xb6); obtain ⟨s6, s7, sr, t6, t7, tr, q7⟩ := hp6.out)
       )
      have n6 : ∀ x, Q6 = some x → G7 < x.block := fun x hx => by have := hR6.out.2 x hx; have := hpc.out.l7; omega
      case roundEnd =>
        refine ⟨⟨rem2, o, s * s, O, ko, Q6, k6, ⟨?_, ?_⟩, rfl, hev'.out, ?_, ?_, ⟨hoff.out.1, hoff.out.2.1, ?_, ?_, hoff.out.2.2.2.2⟩, hp6.out.set7 h67 hlt _, ?_⟩, ?_⟩
        · have : rem2 ≠ 0 := by intro h; subst h; simp at h0'
          omega
        · have := HR2.out; omega
        · exact (hO.out.ext xb6).tch ((Tch.refl _ w6).set 0 _) hoff.out.2.1
        · exact hR6.out.1.set _ n6
        · exact fun x hx _ e => by have := n6 x hx; omega
        · exact fun x hx _ e => by have := n6 x hx; omega
        · exact ext_setCell (ext_trans hE.out xb6) (Nat.le_of_lt hr7) _
        · have := HR2.out; simp [intOf]; omega
end Go.Proofs.YtkhkoeibpkglkaaGreatDoor
end
section
/- The program's numbers: bits, shifts down. -/
namespace Go.Proofs.YtkhkoeibpkglkaaGreatDoor
open Go.RowKit
attribute [local go_sem] sz2 sz3 sz4 sz5 sz6 sz7 sz8
set_option maxHeartbeats 4000000
set_option maxRecDepth 100000
attribute [local irreducible] Calls
theorem lower_step {xs os : List Nat} {j s x V O : Nat} (hs : s < 32) (hj : 0 < j) (hjn : j ≤ xs.length) (hl : os.length = xs.length) (hb : Lb xs) (hV : val (xs.drop j) = V) (hO : val (os.drop j) = O) (hOV : O = V / 2 ^ s) (hx : xs.getD (j - 1) 0 = x) :
    val ((os.set (j - 1) ((V % Bs * 4294967296 + x) / 2 ^ s % 4294967296)).drop (j - 1)) = val (xs.drop (j - 1)) / 2 ^ s ∧ x = val (xs.drop (j - 1)) % Bs := by
  have h1 : j - 1 < xs.length := by omega
  have e1 : xs.drop (j - 1) = x :: xs.drop j := by
    rw [List.drop_eq_getElem_cons h1, show j - 1 + 1 = j by omega]
    rw [List.getD_eq_getElem?_getD, List.getElem?_eq_getElem h1] at hx
    congr 1
  have h2 : j - 1 < (os.set (j - 1) ((V % Bs * 4294967296 + x) / 2 ^ s % 4294967296)).length := by rw [List.length_set]; omega
  have e2 : (os.set (j - 1) ((V % Bs * 4294967296 + x) / 2 ^ s % 4294967296)).drop (j - 1) = (V % Bs * 4294967296 + x) / 2 ^ s % 4294967296 :: os.drop j := by
    rw [List.drop_eq_getElem_cons h2, show j - 1 + 1 = j by omega, List.getElem_set_self, List.drop_set_of_lt (by omega)]
  have hxb : x < Bs := by
    have := lb_getD hb (j - 1); rw [hx] at this; exact this
  rw [e1, e2]
  simp only [val]
  rw [hV, hO]
  have q1 : (x + Bs * V) / Bs = V := by rw [Nat.add_mul_div_left _ _ (by decide), Nat.div_eq_of_lt hxb, Nat.zero_add]
  have q2 : (x + Bs * V) % Bs = x := by rw [Nat.add_mul_mod_self_left, Nat.mod_eq_of_lt hxb]
  have q3 := div_limb (D := x + Bs * V) (T := V % Bs * 4294967296 + x) hs (by rw [q1, q2])
  refine ⟨?_, q2.symm⟩
  rw [q3, hOV]
  have q4 : V / 2 ^ s = (x + Bs * V) / 2 ^ s / Bs := by rw [Nat.div_div_eq_div_mul, Nat.mul_comm (2 ^ s), ← Nat.div_div_eq_div_mul, q1]
  rw [q4]
  exact Nat.mod_add_div _ _
theorem lowered_any (A : Option Addr) (n c : Nat) (xs : List Nat) (s : Nat) (hs : s < 32) (hn : n ≤ 1000000) (w : World) (hA : Rd w A n c xs) :
    Calls Tryz.prog 269 #[.slice A n c, .int .i64 (s : Int)] w fun e w' => ∃ (A' : Option Addr) (os : List Nat), e = .returned (.slice A' n n) ∧ Hid (Rd w' A' n n os ∧ val os = val xs / 2 ^ s ∧ Fr w A') ∧ Ext w w' := by
  have hmx := hA.mx
  have hcx := hA.cap
  have HA := Lib.hid hA
  have hlx := Lib.hid hA.len
  clear hA
  go_enter Tryz.func269, Tryz.ntmps269
  go_wp2_with (first
    | (at_make; refine make_u32 rfl _ _ rfl _ _ _ _ n rfl rfl rfl rfl (by omega) ?_; intro w1 hx1 ho1; have hext1 := Lib.hid hx1; clear hx1)
    | go_in)
  have hfr : w.heap.size < w1.heap.size := (ho1.out.lt w.heap.size rfl).2
  go_loopw [6, 7] (fun vr vi wr => ∃ (j V : Nat) (os : List Nat), j ≤ n ∧ vi = .int .i64 ((j : Int) - 1) ∧ vr = .int .u64 ((V % Bs : Nat) : Int) ∧ Hid (os.length = n ∧ Lb os ∧ val (xs.drop j) = V ∧ val (os.drop j) = V / 2 ^ s) ∧
      Hid (wr.ownsRow w.heap.size 60 1 (.slice (some ⟨w.heap.size, 0, none⟩) n n) n (os.map u32V)) ∧ Hid (Ext w wr))
    (fun _ vi _ => (intOf vi + 1).toNat)
  case atStart => exact ⟨n, 0, List.replicate n 0, Nat.le_refl _, by go_num, rfl, ⟨by simp, lb_replicate n, by rw [List.drop_eq_nil_of_le (by rw [hlx.out]; exact Nat.le_refl _)]; rfl, by rw [List.drop_eq_nil_of_le (by simp)]; simp [val]⟩, ho1.out, hext1.out⟩
  case round =>
    obtain ⟨j, V, os, hj, rfl, rfl, hos, hown, hext⟩ := hrel
    by_cases h0 : 0 < j
    · obtain ⟨b, off, hAe⟩ : ∃ b off, A = some ⟨b, off, none⟩ := by
        rcases HA.out.shape with ⟨_, h, _⟩ | h
        · omega
        · exact h
      subst hAe
      obtain ⟨x, hx, hxb, hcell⟩ := (HA.out.ext hext.out).get (j - 1) (by omega)
      obtain ⟨hc1, hf1⟩ := own_at hown.out (j - 1) (by omega)
      have hst := Lib.hid (lower_step (O := V / 2 ^ s) hs h0 (by rw [hlx.out]; omega) (by rw [hos.out.1, hlx.out]) HA.out.lb hos.out.2.2.1 hos.out.2.2.2 rfl hx.out)
      have hVb : V % Bs < 4294967296 := Nat.mod_lt _ (by decide)
      have O1 := or_shift (V % Bs) x hVb hxb
      generalize V % Bs = ab at hst hVb O1 ⊢
      go_wp2
      case roundEnd =>
        refine ⟨⟨j - 1, val (xs.drop (j - 1)), os.set (j - 1) ((ab * 4294967296 + x) / 2 ^ s % 4294967296), by omega, ?_, ?_, ⟨by rw [List.length_set]; exact hos.out.1, lb_set hos.out.2.1 _ (Nat.mod_lt _ (by decide)), rfl, hst.out.1⟩, ?_, ?_⟩, ?_⟩
        · simp; omega
        · rw [← hst.out.2]
        · have e : ((ab : Int) * 4294967296 + (x : Int)) / 2 ^ s % 4294967296 = (((ab * 4294967296 + x) / 2 ^ s % 4294967296 : Nat) : Int) := by simp
          rw [e]
          exact own_set hown.out _ _
        · exact ext_setCell hext.out (Nat.le_refl _) _
        · simp [intOf]; omega
    · obtain rfl : j = 0 := by omega
      obtain ⟨A', c', he, hR⟩ := Rd.own hown.out hos.out.2.1
      cases he
      have hv := hos.out.2.2
      simp only [List.drop_zero] at hv
      have HX := Lib.hid (show Rd wr (some ⟨w.heap.size, 0, none⟩) n n os ∧ val os = val xs / 2 ^ s ∧ Fr w (some ⟨w.heap.size, 0, none⟩) from ⟨hR, by rw [hv.2, hv.1], fun q hq => by cases hq; exact Nat.le_refl _⟩)
      clear hR hv h0 hj
      go_wp2
      refine bodyPost_ret (v := .slice (some ⟨w.heap.size, 0, none⟩) n n) ?h rfl ⟨_, os, rfl, HX, hext.out⟩
      case h => simp [results, Tryz.results269, go_sem]
theorem and_one32 (r : Nat) (hr : r < 4294967296) : bits BinOp.and IntKind.u32 (r : Int) 1 = ((r % 2 : Nat) : Int) := by
  have h1 : (BitVec.ofInt 32 (r : Int)).toNat = r := by rw [BitVec.ofInt_natCast, BitVec.toNat_ofNat]; exact Nat.mod_eq_of_lt (by omega)
  have h2 : (BitVec.ofInt 32 1).toNat = 1 := by decide
  show IntKind.u32.wrap ((BitVec.ofInt 32 (r : Int) &&& BitVec.ofInt 32 1).toNat : Int) = _
  rw [BitVec.toNat_and, h1, h2, Nat.and_one_is_mod, IntKind.wrap_u32]
  omega
theorem ndown_any (A : Option Addr) (n c v i : Nat) (hi : i ≤ 1000000) (hl : n ≤ 16384) (hv : v / 2 ^ i ≠ 0) (w : World) (hA : Rd w A n c (lim v)) :
    Calls Tryz.prog 237 #[natV A n c, .int .i64 (i : Int)] w (NatPost0 w (v / 2 ^ i)) := by
  have hla := hA.len
  have hmx := hA.mx
  have hcx := hA.cap
  have chA : ∀ w', Ext w w' → Calls Tryz.prog 105 #[natV A n c] w' fun e w'' => e = .returned (.int .i64 0) ∧ Ext w' w'' := fun w' he => by
    have := ncheck_any A n c (lim v) w' (hA.ext he); rwa [chk_lim (by omega)] at this
  obtain ⟨k, hk⟩ : ∃ k, k = i / 32 := ⟨_, rfl⟩
  obtain ⟨s, hs⟩ : ∃ s, s = i % 32 := ⟨_, rfl⟩
  have hs32 : s < 32 := by omega
  have hkz : i = 32 * k + s := by omega
  have e1 : (i : Int) / 32 = (k : Int) := by omega
  have e2 : (i : Int) % 32 = (s : Int) := by omega
  have e3 : v / 2 ^ i = v / Bs ^ k / 2 ^ s := by
    rw [hkz, Nat.pow_add, Nat.pow_mul, Nat.div_div_eq_div_mul]
  have hkn : k < n := by
    rcases Nat.lt_or_ge k n with h | h
    · exact h
    · exfalso; apply hv
      rw [e3, Nat.div_eq_of_lt (Nat.lt_of_lt_of_le (lim_lt v) (Nat.pow_le_pow_right (by decide) (by omega))), Nat.zero_div]
  have kL : ∀ A' m c' w', Ext w w' → m ≤ 1000000 → Rd w' A' m c' ((lim v).drop k) → Calls Tryz.prog 269 #[.slice A' m c', .int .i64 (s : Int)] w' fun e w'' => ∃ (B : Option Addr) (os : List Nat), e = .returned (.slice B m m) ∧ Hid (Rd w'' B m m os ∧ val os = v / 2 ^ i ∧ Fr w' B) ∧ Ext w' w'' := fun A' m c' w' _ hm hR => by
    have := lowered_any A' m c' _ s hs32 hm w' hR
    rw [show val ((lim v).drop k) = v / Bs ^ k by rw [lim_drop, val_lim], ← e3] at this
    exact this
  have HA := Lib.hid hA
  obtain ⟨b, off, hAe⟩ : ∃ b off, A = some ⟨b, off, none⟩ := by
    rcases HA.out.shape with ⟨_, h, _⟩ | h
    · omega
    · exact h
  subst hAe
  clear hA hk hs hkz e3 hv
  generalize v / 2 ^ i = V at *
  have hnk : n - k ≤ 1000000 := by omega
  have hkn' : k ≤ n := Nat.le_of_lt hkn
  go_enter Tryz.func237, Tryz.ntmps237
  go_wp2_with (first
    | (go_at_call 105; (with_reducible refine (chA _ (by (repeat (first | exact ext_refl _ | assumption | refine ext_setCell ?_ (by simp; try omega) _ | refine ext_alloc ?_ _ | refine ext_drew ?_ | refine ext_drewN ?_ _ | refine ext_trans ?_ (Aft.use _) | refine ext_trans ?_ (by assumption))))).mono ?_); rintro e w1 ⟨rfl, xb1⟩; obtain ⟨xc1, xf1, xl1, xz1⟩ := ext_use xb1; (try simp at xz1); obtain ⟨l1_0, gc, gf⟩ := kp xb1 (w.heap.size) (by first | omega | (simp; try omega)); have r1_0 := gc 0; have f1_0 := gf 0; clear gc gf; obtain ⟨l1_1, gc, gf⟩ := kp xb1 (w.heap.size + 1) (by first | omega | (simp; try omega)); have r1_1 := gc 0; have f1_1 := gf 0; clear gc gf)
    | (go_at_call 269; (with_reducible refine (kL _ _ _ _ (by (repeat (first | exact ext_refl _ | assumption | refine ext_setCell ?_ (by simp; try omega) _ | refine ext_alloc ?_ _ | refine ext_drew ?_ | refine ext_drewN ?_ _ | refine ext_trans ?_ (Aft.use _) | refine ext_trans ?_ (by assumption)))) hnk ((HA.out.ext (by (repeat (first | exact ext_refl _ | assumption | refine ext_setCell ?_ (by simp; try omega) _ | refine ext_alloc ?_ _ | refine ext_drew ?_ | refine ext_drewN ?_ _ | refine ext_trans ?_ (Aft.use _) | refine ext_trans ?_ (by assumption))))).drop hkn')).mono ?_); rintro e w2 ⟨B, os, rfl, hR2, xb2⟩; obtain ⟨xc2, xf2, xl2, xz2⟩ := ext_use xb2; (try simp at xz2); obtain ⟨l2_0, gc, gf⟩ := kp xb2 (w.heap.size + 1) (by first | omega | (simp; try omega)); have r2_0 := gc 0; have f2_0 := gf 0; clear gc gf)
    | (go_at_call 110; (with_reducible refine (trimmed_any B _ _ os _ hR2.out.1).mono ?_); rintro e w3 ⟨D, m, rfl, hR3, xb3⟩; obtain ⟨xc3, xf3, xl3, xz3⟩ := ext_use xb3; (try simp at xz3); obtain ⟨l3_0, gc, gf⟩ := kp xb3 (w.heap.size + 1) (by first | omega | (simp; try omega)); have r3_0 := gc 0; have f3_0 := gf 0; clear gc gf)
  )
  have hF : ∀ x, D = some x → w.heap.size + 1 < x.block := fun x hx => by have := hR2.out.2.2 x (hR3.out.2 x hx); have := ext_size xb1; simp at *; omega
  have hRv : Rd w3 D m m (lim V) := by have := hR3.out.1 w3 (hR2.out.1.ext xb3); rwa [hR2.out.2.1] at this
  have hEE : Ext w w3 := by (repeat (first | exact ext_refl _ | assumption | refine ext_setCell ?_ (by simp; try omega) _ | refine ext_alloc ?_ _ | refine ext_drew ?_ | refine ext_drewN ?_ _ | refine ext_trans ?_ (Aft.use _) | refine ext_trans ?_ (by assumption)))
  have z0 : w3.cell? ⟨w.heap.size + 1, 0, none⟩ = some (.slice none 0 0) := by simp [go_sem, *]
  have q0 : (w3.setCell ⟨w.heap.size + 1, 0, none⟩ (.slice D m m)).cell? ⟨w.heap.size + 1, 0, none⟩ = some (.slice D m m) := World.cell?_setCell_same _ _ _ z0
  refine bodyPost_ret (v := .tuple #[natV D m m, .int .i64 0]) ?h rfl ⟨D, m, rfl, ⟨hRv.set _ (fun x hx => hF x hx), fun x hx => Nat.le_of_lt (by have := hF x hx; omega)⟩, ext_setCell hEE (by simp) _⟩
  case h => simp [results, Tryz.results237, go_sem, q0]
end Go.Proofs.YtkhkoeibpkglkaaGreatDoor
end
section
/- Rounding a fraction to a float: quotients and products of floats that are whole numbers. -/
namespace Go.Proofs.YtkhkoeibpkglkaaGreatDoor
open Go.RowKit
set_option maxRecDepth 100000
theorem rdQ_eq {mode : Nat} {neg : Bool} {a d b c : Nat} (hd : 0 < d) (hc : 0 < c) (h : a * c = b * d) : rdQ mode neg a d = rdQ mode neg b c := by
  rw [← rdQ_scale (a := a) (d := d) hc, ← rdQ_scale (a := b) (d := c) hd, h, Nat.mul_comm d c]
theorem rdQ_sticky (X Y k : Nat) (hY : 0 < Y) (hk : 1 ≤ k) : rdQ 0 false (2 * (X / Y) + (X % Y != 0).toNat) (2 ^ (k + 1)) = rdQ 0 false X (Y * 2 ^ k) := by
  obtain ⟨Q, hQ⟩ : ∃ Q, X / Y = Q := ⟨_, rfl⟩
  obtain ⟨R, hR⟩ : ∃ R, X % Y = R := ⟨_, rfl⟩
  have hX : X = Y * Q + R := by rw [← hQ, ← hR]; exact (Nat.div_add_mod X Y).symm
  have hRY : R < Y := by rw [← hR]; exact Nat.mod_lt _ hY
  obtain ⟨P, hP⟩ : ∃ P, 2 ^ k = 2 * P := ⟨2 ^ (k - 1), by rw [← Nat.pow_succ']; congr 1; omega⟩
  have hP0 : 0 < P := by have := Nat.two_pow_pos k; omega
  have hP2 : 2 ^ (k + 1) = 2 * (2 * P) := by rw [Nat.pow_succ', hP]
  obtain ⟨u, hu⟩ : ∃ u, Q % (2 * P) = u := ⟨_, rfl⟩
  obtain ⟨q, hq⟩ : ∃ q, Q / (2 * P) = q := ⟨_, rfl⟩
  have hQq : Q = 2 * P * q + u := by rw [← hq, ← hu]; exact (Nat.div_add_mod Q _).symm
  have huP : u < 2 * P := by rw [← hu]; exact Nat.mod_lt _ (by omega)
  obtain ⟨s, hs⟩ : ∃ s, (R != 0).toNat = s := ⟨_, rfl⟩
  have hs0 : (R = 0 ∧ s = 0) ∨ (R ≠ 0 ∧ s = 1) := by
    rw [← hs]
    by_cases h : R = 0
    · left; subst h; exact ⟨rfl, rfl⟩
    · right
      refine ⟨h, ?_⟩
      have : (R != 0) = true := by simpa using h
      rw [this]; rfl
  rw [hQ, hR, hs, hP, hP2]
  have l1 : (2 * Q + s) / (2 * (2 * P)) = q := by
    refine Nat.div_eq_of_lt_le ?_ ?_
    · rw [hQq]
      have : q * (2 * (2 * P)) = 2 * (2 * P * q) := by rw [Nat.mul_comm q, Nat.mul_assoc]
      omega
    · rw [hQq]
      have : (q + 1) * (2 * (2 * P)) = 2 * (2 * P * q) + 2 * (2 * P) := by rw [Nat.add_mul, Nat.one_mul, Nat.mul_comm q, Nat.mul_assoc]
      omega
  have l2 : (2 * Q + s) % (2 * (2 * P)) = 2 * u + s := by
    have := Nat.div_add_mod (2 * Q + s) (2 * (2 * P))
    rw [l1] at this
    have e : 2 * (2 * P) * q = 2 * (2 * P * q) := Nat.mul_assoc ..
    omega
  have hYq : Y * (2 * P * q) = q * (Y * (2 * P)) := by rw [Nat.mul_comm (2 * P) q, Nat.mul_left_comm]
  have hXe : X = q * (Y * (2 * P)) + (Y * u + R) := by rw [hX, hQq, Nat.mul_add, hYq]; omega
  have hYu : Y * u + R < Y * (2 * P) := by
    have h1 : Y * (u + 1) ≤ Y * (2 * P) := Nat.mul_le_mul_left _ (by omega)
    rw [Nat.mul_add, Nat.mul_one] at h1
    omega
  have r1 : X / (Y * (2 * P)) = q := by
    refine Nat.div_eq_of_lt_le ?_ ?_
    · omega
    · rw [Nat.add_mul, Nat.one_mul]; omega
  have r2 : X % (Y * (2 * P)) = Y * u + R := by
    have := Nat.div_add_mod X (Y * (2 * P))
    rw [r1, Nat.mul_comm _ q] at this
    omega
  have c1 : cmpN (2 * (2 * u + s)) (2 * (2 * P)) = cmpN (2 * (Y * u + R)) (Y * (2 * P)) := by
    have e1 : 2 * (Y * u) = Y * (2 * u) := Nat.mul_left_comm ..
    rcases Nat.lt_trichotomy (2 * u) (2 * P) with g | g | g
    · have h1 : Y * (2 * u + 2) ≤ Y * (2 * P) := Nat.mul_le_mul_left _ (by omega)
      rw [Nat.mul_add, Nat.mul_comm Y 2] at h1
      unfold cmpN
      rw [if_pos (by omega), if_pos (by omega)]
    · have h1 : Y * (2 * u) = Y * (2 * P) := by rw [g]
      unfold cmpN
      rcases hs0 with ⟨h2, h3⟩ | ⟨h2, h3⟩
      · rw [if_neg (by omega), if_neg (by omega), if_neg (by omega), if_neg (by omega)]
      · rw [if_neg (by omega), if_pos (by omega), if_neg (by omega), if_pos (by omega)]
    · have h1 : Y * (2 * P + 2) ≤ Y * (2 * u) := Nat.mul_le_mul_left _ (by omega)
      rw [Nat.mul_add, Nat.mul_comm Y 2] at h1
      unfold cmpN
      rw [if_neg (by omega), if_pos (by omega), if_neg (by omega), if_pos (by omega)]
  have z1 : 2 * u + s = 0 ↔ Y * u + R = 0 := by
    constructor
    · intro h
      have hu0 : u = 0 := by omega
      rw [hu0, Nat.mul_zero]; omega
    · intro h
      have : Y * u = 0 := by omega
      rcases Nat.mul_eq_zero.1 this with h1 | h1
      · omega
      · omega
  unfold rdQ
  rw [l1, l2, r1, r2, c1]
  by_cases h : 2 * u + s = 0
  · rw [if_pos h, if_pos (z1.1 h)]
  · rw [if_neg h, if_neg (fun g => h (z1.2 g))]
theorem log2_eq {n k : Nat} (h1 : 2 ^ k ≤ n) (h2 : n < 2 ^ (k + 1)) : n.log2 = k := by
  have h0 : n ≠ 0 := by have := Nat.two_pow_pos k; omega
  exact (Nat.log2_eq_iff h0).2 ⟨h1, h2⟩
/-- A quotient of two floats' numbers is written as their fraction is rounded. -/
theorem quo_even {E F : Nat} (hE : 2 ≤ E) (s t : Bool) {m n : Nat} (hm : 0 < m) (hn : 0 < n) (hml : m.log2 ≤ F + 1 + n.log2) (i j : Int) :
    ((Ieee.Datum.quotient (F + 2) (.number s m i) (.number t n j)).map (fmt E F).write) = some ((fmt E F).word (s ^^ t) (evenQ E F (tA m (i - j)) (tD n (i - j)))) := by
  obtain ⟨mo, hmo⟩ : ∃ mo, F + 2 + n.log2 - m.log2 = mo := ⟨_, rfl⟩
  have hmo1 : mo + m.log2 = F + 2 + n.log2 := by omega
  obtain ⟨X, hX⟩ : ∃ X, m * 2 ^ mo = X := ⟨_, rfl⟩
  have hm1 := Nat.log2_self_le (n := m) (by omega)
  have hm2 := Nat.lt_log2_self (n := m)
  have hn1 := Nat.log2_self_le (n := n) (by omega)
  have hn2 := Nat.lt_log2_self (n := n)
  have hX1 : 2 ^ (F + 2 + n.log2) ≤ X := by
    rw [← hX, ← hmo1, Nat.pow_add, Nat.mul_comm]
    exact Nat.mul_le_mul_right _ hm1
  have hQ1 : 2 ^ (F + 1) ≤ X / n := by
    rw [Nat.le_div_iff_mul_le hn]
    refine Nat.le_trans (Nat.mul_le_mul_left _ (Nat.le_of_lt hn2)) ?_
    rw [← Nat.pow_add, show F + 1 + (n.log2 + 1) = F + 2 + n.log2 by omega]
    exact hX1
  obtain ⟨Q, hQ⟩ : ∃ Q, X / n = Q := ⟨_, rfl⟩
  have hQ0 : 0 < Q := by have := Nat.two_pow_pos (F + 1); omega
  obtain ⟨l, hl⟩ : ∃ l, Q.log2 = l := ⟨_, rfl⟩
  have hl1 : 2 ^ l ≤ Q := by rw [← hl]; exact Nat.log2_self_le (by omega)
  have hl2 : Q < 2 ^ (l + 1) := by rw [← hl]; exact Nat.lt_log2_self
  have hlF : F + 1 ≤ l := by
    rcases Nat.lt_or_ge l (F + 1) with h | h
    · have : 2 ^ (l + 1) ≤ 2 ^ (F + 1) := Nat.pow_le_pow_right (by decide) (by omega)
      omega
    · exact h
  obtain ⟨st, hst⟩ : ∃ st, (X % n != 0).toNat = st := ⟨_, rfl⟩
  have hst1 : st ≤ 1 := by rw [← hst]; exact Bool.toNat_le _
  obtain ⟨q2, hq2⟩ : ∃ q2, 2 * Q + st = q2 := ⟨_, rfl⟩
  have hq20 : 0 < q2 := by omega
  have hlog : q2.log2 = l + 1 := log2_eq (by rw [Nat.pow_succ]; omega) (by rw [Nat.pow_succ 2 (l + 1)]; omega)
  obtain ⟨P, hP⟩ : ∃ P, i - j = P := ⟨_, rfl⟩
  have hq : Ieee.Datum.quotient (F + 2) (.number s m i) (.number t n j) = some (.number (s ^^ t) q2 (i - j - mo - 1)) := by
    unfold Ieee.Datum.quotient
    simp only
    rw [if_neg (by omega), hmo, Nat.shiftLeft_eq, hX, hQ, hst, hq2]
  rw [hq, hP]
  show some ((fmt E F).nearest (s ^^ t) q2 (P - mo - 1)) = _
  rw [near_even E F hE _ q2 hq20]
  congr 2
  have hd1 : 0 < tD 1 (P - mo - 1) := Nat.mul_pos (by decide) (Nat.two_pow_pos _)
  have hA : 0 < tA m P := Nat.mul_pos hm (Nat.two_pow_pos _)
  have hD : 0 < tD n P := Nat.mul_pos hn (Nat.two_pow_pos _)
  have hXn : n * Q ≤ X ∧ X < n * (Q + 1) := by
    rw [← hQ]
    refine ⟨Nat.mul_div_le X n, ?_⟩
    rw [Nat.mul_add, Nat.mul_one]
    have := Nat.div_add_mod X n
    have := Nat.mod_lt X hn
    omega
  have hlg : lgQ (tA m P) (tD n P) = P - mo + l := by
    refine lgQ_eq hA hD ?_ ?_
    · rw [leP_at ((-P).toNat + mo) (by omega)]
      unfold tA tD
      rw [Nat.mul_assoc, Nat.mul_assoc, ← Nat.pow_add, ← Nat.pow_add]
      have e1 : (-P).toNat + (P - mo + (l : Nat) + (((-P).toNat + mo : Nat) : Int)).toNat = l + (P.toNat + (-P).toNat) := by omega
      have e2 : P.toNat + ((-P).toNat + mo) = mo + (P.toNat + (-P).toNat) := by omega
      rw [e1, e2, Nat.pow_add, Nat.pow_add 2 mo, ← Nat.mul_assoc, ← Nat.mul_assoc, hX]
      exact Nat.mul_le_mul_right _ (Nat.le_trans (Nat.mul_le_mul_left _ hl1) hXn.1)
    · rw [leP_at ((-P).toNat + mo) (by omega)]
      unfold tA tD
      rw [Nat.mul_assoc, Nat.mul_assoc, ← Nat.pow_add, ← Nat.pow_add]
      have e1 : (-P).toNat + (P - mo + (l : Nat) + 1 + (((-P).toNat + mo : Nat) : Int)).toNat = (l + 1) + (P.toNat + (-P).toNat) := by omega
      have e2 : P.toNat + ((-P).toNat + mo) = mo + (P.toNat + (-P).toNat) := by omega
      rw [e1, e2, Nat.pow_add, Nat.pow_add 2 mo, ← Nat.mul_assoc, ← Nat.mul_assoc, hX]
      have h1 : X < n * 2 ^ (l + 1) := Nat.lt_of_lt_of_le hXn.2 (Nat.mul_le_mul_left _ hl2)
      have := Nat.mul_lt_mul_of_pos_right h1 (Nat.two_pow_pos (P.toNat + (-P).toNat))
      omega
  have hlow : lowQ E (tA q2 (P - mo - 1)) (tD 1 (P - mo - 1)) = lowQ E (tA m P) (tD n P) := by
    unfold lowQ
    rw [hlg, lgQ_bin hq20, hlog]
    congr 1
    omega
  obtain ⟨low, hlo⟩ : ∃ low, lowQ E (tA m P) (tD n P) = low := ⟨_, rfl⟩
  have hlow1 : P - mo + l ≤ low := by rw [← hlo]; unfold lowQ; rw [hlg]; omega
  have hman : manQ E F 0 false (tA q2 (P - mo - 1)) (tD 1 (P - mo - 1)) = manQ E F 0 false (tA m P) (tD n P) := by
    unfold manQ
    rw [hlow, hlo]
    have e0 := rdQ_bin 0 false q2 (P - mo - 1) (low - F)
    rw [Int.neg_sub] at e0
    rw [← e0]
    obtain ⟨k, hk⟩ : ∃ k : Nat, (low - F - (P - mo - 1)).toNat = k + 1 ∧ 1 ≤ k ∧ low - F = P - mo + k := ⟨(low - F - (P - mo - 1)).toNat - 1, by omega, by omega, by omega⟩
    obtain ⟨k1, k2, k3⟩ := hk
    have e1 : (P - mo - 1 - (low - F)).toNat = 0 := by omega
    have hsk := rdQ_sticky X n k hn k2
    rw [hQ, hst, hq2] at hsk
    rw [k1, e1, Nat.pow_zero, Nat.mul_one, hsk, ← hX]
    refine rdQ_eq (Nat.mul_pos hn (Nat.two_pow_pos _)) (Nat.mul_pos hD (Nat.two_pow_pos _)) ?_
    unfold tA tD
    have e2 : mo + ((-P).toNat + (-((F : Int) - low)).toNat) = P.toNat + ((F : Int) - low).toNat + k := by omega
    calc m * 2 ^ mo * (n * 2 ^ (-P).toNat * 2 ^ (-((F : Int) - low)).toNat) = m * n * 2 ^ (mo + ((-P).toNat + (-((F : Int) - low)).toNat)) := by rw [Nat.pow_add, Nat.pow_add]; ac_rfl
      _ = m * n * 2 ^ (P.toNat + ((F : Int) - low).toNat + k) := by rw [e2]
      _ = m * 2 ^ P.toNat * 2 ^ ((F : Int) - low).toNat * (n * 2 ^ k) := by rw [Nat.pow_add, Nat.pow_add]; ac_rfl
  unfold evenQ rungQ
  rw [hman, hlow]
/-- A float that is this whole number. -/
def IsW (E F x v : Nat) : Prop := ∃ m p, (fmt E F).read x = .number false m p ∧ 0 < m ∧ m.log2 ≤ F ∧ tA m p = v * tD 1 p
theorem isW_of {E F n : Nat} (hE : 2 ≤ E) (hn : 0 < n) (h : n ≤ 2 ^ (F + 1)) (hb : (F : Int) + 1 ≤ biasF E) : IsW E F ((fmt E F).nearest false n 0) n := by
  have hb1 := (bias_two E hE).2
  have key : ∀ m : Nat, 0 < m → m.log2 ≤ F → ∀ p : Nat, m * 2 ^ p = n → p + m.log2 ≤ F + 1 → IsW E F ((fmt E F).nearest false n 0) n := by
    intro m hm hl p hp hpl
    have e1 : (fmt E F).nearest false n 0 = (fmt E F).nearest false m p := near_eq hE false hn hm (by
      unfold tA tD
      have a1 : (-(p : Int)).toNat = 0 := by omega
      have a2 : ((p : Int)).toNat = p := by omega
      rw [a1, a2]
      simp only [Int.toNat_zero, Int.neg_zero, Nat.pow_zero, Nat.mul_one]
      exact hp.symm)
    rw [e1]
    refine ⟨m * 2 ^ (F - m.log2), p - (F - m.log2 : Nat), read_exact hE false hm p hl (by omega) (by omega), Nat.mul_pos hm (Nat.two_pow_pos _), ?_, ?_⟩
    · have : (m * 2 ^ (F - m.log2)).log2 = F := by
        refine log2_eq ?_ ?_
        · calc 2 ^ F = 2 ^ m.log2 * 2 ^ (F - m.log2) := by rw [← Nat.pow_add]; congr 1; omega
            _ ≤ m * 2 ^ (F - m.log2) := Nat.mul_le_mul_right _ (Nat.log2_self_le (by omega))
        · calc m * 2 ^ (F - m.log2) < 2 ^ (m.log2 + 1) * 2 ^ (F - m.log2) := Nat.mul_lt_mul_of_pos_right Nat.lt_log2_self (Nat.two_pow_pos _)
            _ = 2 ^ (F + 1) := by rw [← Nat.pow_add]; congr 1; omega
      omega
    · unfold tA tD
      rw [Nat.one_mul, ← hp, Nat.mul_assoc, Nat.mul_assoc, ← Nat.pow_add, ← Nat.pow_add]
      congr 2
      omega
  rcases Nat.lt_or_ge n (2 ^ (F + 1)) with g | g
  · refine key n hn ?_ 0 (by rw [Nat.pow_zero, Nat.mul_one]) ?_
    · have := (Nat.log2_lt (by omega)).2 g; omega
    · have := (Nat.log2_lt (by omega)).2 g; omega
  · have hl0 : Nat.log2 1 = 0 := by decide
    refine key 1 (by decide) (by rw [hl0]; omega) (F + 1) (by omega) (by rw [hl0]; omega)
theorem mul_W {E F x y a b : Nat} (hE : 2 ≤ E) (hx : IsW E F x a) (hy : IsW E F y b) : (fmt E F).mul x y = some ((fmt E F).word false (evenQ E F (a * b) 1)) := by
  obtain ⟨m, p, h1, h2, -, h3⟩ := hx
  obtain ⟨n, q, k1, k2, -, k3⟩ := hy
  unfold Ieee.Format.mul
  rw [h1, k1]
  show some ((fmt E F).nearest (false ^^ false) (m * n) (p + q)) = _
  have hab : 0 < a * b := by
    have h4 : 0 < tA m p := Nat.mul_pos h2 (Nat.two_pow_pos _)
    have h5 : 0 < tA n q := Nat.mul_pos k2 (Nat.two_pow_pos _)
    refine Nat.mul_pos (Nat.pos_of_ne_zero fun e => ?_) (Nat.pos_of_ne_zero fun e => ?_)
    · rw [e, Nat.zero_mul] at h3; omega
    · rw [e, Nat.zero_mul] at k3; omega
  have hmn : 0 < m * n := Nat.mul_pos h2 k2
  rw [near_even E F hE _ _ hmn]
  congr 2
  have hA : 0 < tA (m * n) (p + q) := Nat.mul_pos hmn (Nat.two_pow_pos _)
  have hD : 0 < tD 1 (p + q) := Nat.mul_pos (by decide) (Nat.two_pow_pos _)
  rw [← bits_even (neg := false) hE hA hD, ← bits_even (neg := false) (d := 1) hE hab (by decide), bitsQ_eq (c := 1) hA hD hab (by decide) ?_]
  rw [Nat.mul_one]
  have e : m * 2 ^ p.toNat * (n * 2 ^ q.toNat) = a * 2 ^ (-p).toNat * (b * 2 ^ (-q).toNat) := by
    have h3' : m * 2 ^ p.toNat = a * 2 ^ (-p).toNat := by have := h3; unfold tA tD at this; rwa [Nat.one_mul] at this
    have k3' : n * 2 ^ q.toNat = b * 2 ^ (-q).toNat := by have := k3; unfold tA tD at this; rwa [Nat.one_mul] at this
    rw [h3', k3']
  unfold tA tD
  rw [Nat.one_mul]
  obtain ⟨c, c1, c2⟩ : ∃ c : Nat, p.toNat + q.toNat = (p + q).toNat + c ∧ (-p).toNat + (-q).toNat = (-(p + q)).toNat + c := ⟨p.toNat + q.toNat - (p + q).toNat, by omega, by omega⟩
  refine Nat.eq_of_mul_eq_mul_right (Nat.two_pow_pos c) ?_
  calc m * n * 2 ^ (p + q).toNat * 2 ^ c = m * n * 2 ^ (p.toNat + q.toNat) := by rw [c1, Nat.pow_add 2 _ c]; ac_rfl
    _ = m * 2 ^ p.toNat * (n * 2 ^ q.toNat) := by rw [Nat.pow_add]; ac_rfl
    _ = a * 2 ^ (-p).toNat * (b * 2 ^ (-q).toNat) := e
    _ = a * b * 2 ^ ((-p).toNat + (-q).toNat) := by rw [Nat.pow_add]; ac_rfl
    _ = a * b * 2 ^ (-(p + q)).toNat * 2 ^ c := by rw [c2, Nat.pow_add 2 _ c]; ac_rfl
theorem div_W {E F x y a b : Nat} (hE : 2 ≤ E) (hx : IsW E F x a) (hy : IsW E F y b) : (fmt E F).div x y = some ((fmt E F).word false (evenQ E F a b)) := by
  obtain ⟨m, p, h1, h2, hl, h3⟩ := hx
  obtain ⟨n, q, k1, k2, -, k3⟩ := hy
  unfold Ieee.Format.div
  rw [h1, k1]
  have := quo_even (F := F) hE false false h2 k2 (by omega) p q
  refine this.trans ?_
  congr 2
  have h4 : 0 < tA m p := Nat.mul_pos h2 (Nat.two_pow_pos _)
  have h5 : 0 < tA n q := Nat.mul_pos k2 (Nat.two_pow_pos _)
  have ha : 0 < a := Nat.pos_of_ne_zero fun e => by rw [e, Nat.zero_mul] at h3; omega
  have hb : 0 < b := Nat.pos_of_ne_zero fun e => by rw [e, Nat.zero_mul] at k3; omega
  have hA : 0 < tA m (p - q) := Nat.mul_pos h2 (Nat.two_pow_pos _)
  have hD : 0 < tD n (p - q) := Nat.mul_pos k2 (Nat.two_pow_pos _)
  rw [← bits_even (neg := false) hE hA hD, ← bits_even (neg := false) hE ha hb, bitsQ_eq hA hD ha hb ?_]
  have h3' : m * 2 ^ p.toNat = a * 2 ^ (-p).toNat := by have := h3; unfold tA tD at this; rwa [Nat.one_mul] at this
  have k3' : n * 2 ^ q.toNat = b * 2 ^ (-q).toNat := by have := k3; unfold tA tD at this; rwa [Nat.one_mul] at this
  unfold tA tD
  obtain ⟨c, c1, c2⟩ : ∃ c : Nat, p.toNat + (-q).toNat = (p - q).toNat + c ∧ (-p).toNat + q.toNat = (-(p - q)).toNat + c := ⟨p.toNat + (-q).toNat - (p - q).toNat, by omega, by omega⟩
  refine Nat.eq_of_mul_eq_mul_right (Nat.two_pow_pos c) ?_
  calc m * 2 ^ (p - q).toNat * b * 2 ^ c = m * 2 ^ p.toNat * (b * 2 ^ (-q).toNat) := by
        have : 2 ^ (p - q).toNat * 2 ^ c = 2 ^ p.toNat * 2 ^ (-q).toNat := by rw [← Nat.pow_add, ← Nat.pow_add, c1]
        calc m * 2 ^ (p - q).toNat * b * 2 ^ c = m * b * (2 ^ (p - q).toNat * 2 ^ c) := by ac_rfl
          _ = m * b * (2 ^ p.toNat * 2 ^ (-q).toNat) := by rw [this]
          _ = m * 2 ^ p.toNat * (b * 2 ^ (-q).toNat) := by ac_rfl
    _ = a * 2 ^ (-p).toNat * (n * 2 ^ q.toNat) := by rw [h3', k3']
    _ = a * (n * 2 ^ (-(p - q)).toNat) * 2 ^ c := by
        have : 2 ^ (-p).toNat * 2 ^ q.toNat = 2 ^ (-(p - q)).toNat * 2 ^ c := by rw [← Nat.pow_add, ← Nat.pow_add, c2]
        calc a * 2 ^ (-p).toNat * (n * 2 ^ q.toNat) = a * n * (2 ^ (-p).toNat * 2 ^ q.toNat) := by ac_rfl
          _ = a * n * (2 ^ (-(p - q)).toNat * 2 ^ c) := by rw [this]
          _ = a * (n * 2 ^ (-(p - q)).toNat) * 2 ^ c := by ac_rfl
end Go.Proofs.YtkhkoeibpkglkaaGreatDoor
end
section
/- quick: what is parsed and what native floats read: the plain law. -/
namespace Go.Proofs.YtkhkoeibpkglkaaGreatDoor
open Go.RowKit
set_option maxRecDepth 100000
theorem qk_cons (c : UInt8) (r : List UInt8) : dval (c :: r) = (c.toNat - 48) * 10 ^ r.length + dval r := by
  have h := dval_append [c] r
  have e : dval [c] = c.toNat - 48 := by simp [dval]
  rw [e] at h
  exact h
theorem pu_go (l : List UInt8) (h : digsB l = true) : ∀ acc, acc < 18446744073709551616 → Lib.parseUint10 acc l = if acc * 10 ^ l.length + dval l < 18446744073709551616 then Lib.NumEnd.ok (acc * 10 ^ l.length + dval l) else Lib.NumEnd.range := by
  induction l with
  | nil =>
    intro acc ha
    have e : acc * 10 ^ ([] : List UInt8).length + dval [] = acc := by simp [dval]
    rw [e, if_pos ha]
    rfl
  | cons c r ih =>
    intro acc ha
    have h2 : isD c = true ∧ digsB r = true := by simpa [digsB] using h
    have h3 := isD_yes c h2.1
    have hp : 1 ≤ 10 ^ r.length := Nat.pow_pos (by decide)
    have e : acc * 10 ^ (c :: r).length + dval (c :: r) = (acc * 10 + (c.toNat - 48)) * 10 ^ r.length + dval r := by
      rw [qk_cons, List.length_cons, Nat.pow_succ, Nat.add_mul, ← Nat.mul_assoc, Nat.mul_right_comm, Nat.add_assoc]
    have big : ∀ n, 18446744073709551616 ≤ n → ¬ n * 10 ^ r.length + dval r < 18446744073709551616 := fun n hn => by
      have := Nat.mul_le_mul hn hp
      omega
    rw [e]
    simp only [Lib.parseUint10]
    rw [if_pos ⟨h3.1, h3.2⟩]
    by_cases g1 : 1844674407370955162 ≤ acc
    · rw [if_pos g1, if_neg (big _ (by omega))]
    · rw [if_neg g1]
      by_cases g2 : 18446744073709551616 ≤ acc * 10 + (c.toNat - 48)
      · rw [if_pos g2, if_neg (big _ g2)]
      · rw [if_neg g2, ih h2.2 _ (by omega)]
theorem pu_digs (l : List UInt8) (h : digsB l = true) (h0 : 0 < l.length) : Lib.parseUintB 64 l = if dval l < 18446744073709551616 then Lib.NumEnd.ok (dval l) else Lib.NumEnd.range := by
  rw [Lib.parseUintB_64]
  unfold Lib.parseMag
  rw [if_neg (by intro e; subst e; simp at h0), pu_go l h 0 (by decide), Nat.zero_mul, Nat.zero_add]
/-- How many tens the digits take up. -/
def askK (d : Dc) (power : Nat) : Nat := (d.exp - power).toNat
/-- May it be asked: of so many whole numbers, with a power from -power to more? -/
def askB (d : Dc) (whole power more : Nat) : Bool := decide (dcE d = 0) && (decide (d.dig = []) || (decide (dval d.dig * 10 ^ askK d power ≤ whole) && (decide (-(power : Int) ≤ d.exp) && decide (d.exp ≤ more))))
def askN (d : Dc) (power : Nat) : Nat := if d.dig = [] then 0 else dval d.dig * 10 ^ askK d power
def askX (d : Dc) (power : Nat) : Int := if d.dig = [] then 0 else d.exp - askK d power
/-- n times 10 to the power of e by native floats: their bits. -/
def rdB (E F : Nat) (neg : Bool) (n : Nat) (e : Int) : Nat := (if neg = true then 2 ^ (E + F) else 0) + (if n = 0 then 0 else evenQ E F (n * 10 ^ e.toNat) (10 ^ (-e).toNat))
/-- 10 to the power of k as a float's bits. -/
def tnB (E F k : Nat) : Nat := evenQ E F (10 ^ k) 1
theorem isW_bin {E F m : Nat} (hE : 2 ≤ E) (hm : 0 < m) (hl : m.log2 ≤ F) (p : Nat) (hb : (p : Int) + m.log2 ≤ biasF E) : IsW E F (evenQ E F (m * 2 ^ p) 1) (m * 2 ^ p) := by
  have hb1 := (bias_two E hE).2
  have e1 : (fmt E F).nearest false m p = evenQ E F (m * 2 ^ p) 1 := by
    rw [near_even E F hE false m hm]
    unfold tA tD
    have a1 : (-(p : Int)).toNat = 0 := by omega
    rw [a1, Int.toNat_natCast, Nat.pow_zero, Nat.mul_one]
    rfl
  rw [← e1]
  refine ⟨m * 2 ^ (F - m.log2), p - (F - m.log2 : Nat), read_exact hE false hm p hl (by omega) (by omega), Nat.mul_pos hm (Nat.two_pow_pos _), ?_, ?_⟩
  · have : (m * 2 ^ (F - m.log2)).log2 = F := by
      refine log2_eq ?_ ?_
      · calc 2 ^ F = 2 ^ m.log2 * 2 ^ (F - m.log2) := by rw [← Nat.pow_add]; congr 1; omega
          _ ≤ m * 2 ^ (F - m.log2) := Nat.mul_le_mul_right _ (Nat.log2_self_le (by omega))
      · calc m * 2 ^ (F - m.log2) < 2 ^ (m.log2 + 1) * 2 ^ (F - m.log2) := Nat.mul_lt_mul_of_pos_right Nat.lt_log2_self (Nat.two_pow_pos _)
          _ = 2 ^ (F + 1) := by rw [← Nat.pow_add]; congr 1; omega
    omega
  · unfold tA tD
    rw [Nat.one_mul, Nat.mul_assoc, Nat.mul_assoc, ← Nat.pow_add, ← Nat.pow_add]
    congr 2
    omega
theorem isW_ten {E F k : Nat} (hE : 2 ≤ E) (hl : (5 ^ k).log2 ≤ F) (hb : (k : Int) + (5 ^ k).log2 ≤ biasF E) : IsW E F (tnB E F k) (10 ^ k) := by
  have e : (10 : Nat) ^ k = 5 ^ k * 2 ^ k := by rw [← Nat.mul_pow]
  unfold tnB
  rw [e]
  exact isW_bin hE (Nat.pow_pos (by decide)) hl k hb
theorem log_mono {a b : Nat} (h : a ≤ b) (ha : a ≠ 0) : a.log2 ≤ b.log2 := by
  rw [Nat.le_log2 (by omega)]
  exact Nat.le_trans (Nat.log2_self_le ha) h
/-- The two kinds of floats: their fields, and the power up to which tens are exact. -/
inductive Kd : FloatKind → Nat → Nat → Nat → Prop
  | single : Kd .f32 8 23 10
  | double : Kd .f64 11 52 22
theorem Kd.fmt {k : FloatKind} {E F P : Nat} (h : Kd k E F P) : k.format = Proofs.YtkhkoeibpkglkaaGreatDoor.fmt E F ∧ 2 ≤ E ∧ (F : Int) + 1 ≤ biasF E := by
  cases h <;> exact ⟨rfl, by decide, by decide⟩
theorem Kd.ten {k : FloatKind} {E F P : Nat} (h : Kd k E F P) {j : Nat} (hj : j ≤ P) : IsW E F (tnB E F j) (10 ^ j) := by
  have h5 : (5 : Nat) ^ j ≤ 5 ^ P := Nat.pow_le_pow_right (by decide) hj
  have hl := log_mono h5 (Nat.ne_of_gt (Nat.pow_pos (by decide)))
  cases h
  · have e : Nat.log2 (5 ^ 10) = 23 := by decide
    have b : biasF 8 = 127 := by decide
    exact isW_ten (by decide) (by omega) (by omega)
  · have e : Nat.log2 (5 ^ 22) = 51 := by decide
    have b : biasF 11 = 1023 := by decide
    exact isW_ten (by decide) (by omega) (by omega)
theorem Kd.more {k : FloatKind} {E F P : Nat} (h : Kd k E F P) {j : Nat} (hj : j ≤ P) : floatBits .mul k (tnB E F j) (tnB E F 1) = some (tnB E F (j + 1)) := by
  obtain ⟨h1, h2, h3⟩ := h.fmt
  have hp : 1 ≤ P := by cases h <;> decide
  show k.format.mul _ _ = _
  rw [h1, mul_W h2 (h.ten hj) (h.ten hp)]
  show some (evenQ E F _ 1) = _
  rw [Nat.pow_one, ← Nat.pow_succ]
  rfl
theorem Kd.whole {k : FloatKind} {E F P : Nat} (h : Kd k E F P) {n : Nat} (hn : 0 < n) (h53 : n ≤ 2 ^ (F + 1)) : IsW E F (floatOfInt k (n : Int)) n := by
  obtain ⟨h1, h2, h3⟩ := h.fmt
  have := isW_of (F := F) h2 hn h53 h3
  have e : floatOfInt k (n : Int) = (Proofs.YtkhkoeibpkglkaaGreatDoor.fmt E F).nearest false n 0 := by
    show k.format.write (.number (decide ((n : Int) < 0)) (n : Int).natAbs 0) = _
    rw [h1, decide_eq_false (by omega), Int.natAbs_natCast]
    rfl
  rw [e]
  exact this
theorem Kd.nought {k : FloatKind} {E F P : Nat} (h : Kd k E F P) : floatOfInt k 0 = 0 := by cases h <;> decide
theorem Kd.times {k : FloatKind} {E F P : Nat} (h : Kd k E F P) {n j : Nat} (h53 : n ≤ 2 ^ (F + 1)) (hj : j ≤ P) : floatBits .mul k (floatOfInt k (n : Int)) (tnB E F j) = some (rdB E F false n (j : Int)) := by
  obtain ⟨h1, h2, h3⟩ := h.fmt
  have a1 : (-(j : Int)).toNat = 0 := by omega
  show k.format.mul _ _ = _
  unfold rdB
  rw [Int.toNat_natCast, a1, Nat.pow_zero, h1]
  rcases Nat.eq_zero_or_pos n with rfl | hn
  · obtain ⟨m, p, k1, k2, -, -⟩ := h.ten hj
    rw [show floatOfInt k ((0 : Nat) : Int) = 0 from h.nought]
    unfold Ieee.Format.mul
    rw [k1]
    cases h <;> (show some (Ieee.Format.nearest _ (false ^^ false) (0 * m) _) = _; rw [Nat.zero_mul]; rfl)
  · rw [mul_W h2 (h.whole hn h53) (h.ten hj), if_neg (show ¬ false = true by decide), if_neg (show ¬ n = 0 by omega), Nat.zero_add]
    rfl
theorem Kd.over {k : FloatKind} {E F P : Nat} (h : Kd k E F P) {n j : Nat} (h53 : n ≤ 2 ^ (F + 1)) (hj : j ≤ P) : floatBits .quo k (floatOfInt k (n : Int)) (tnB E F j) = some (rdB E F false n (-(j : Int))) := by
  obtain ⟨h1, h2, h3⟩ := h.fmt
  have a1 : (-(j : Int)).toNat = 0 := by omega
  show k.format.div _ _ = _
  unfold rdB
  rw [Int.neg_neg, Int.toNat_natCast, a1, Nat.pow_zero, Nat.mul_one, h1]
  rcases Nat.eq_zero_or_pos n with rfl | hn
  · obtain ⟨m, p, k1, k2, -, -⟩ := h.ten hj
    rw [show floatOfInt k ((0 : Nat) : Int) = 0 from h.nought]
    unfold Ieee.Format.div
    rw [k1]
    have e0 : ∀ i : Int, ∃ q, (Proofs.YtkhkoeibpkglkaaGreatDoor.fmt E F).read 0 = .number false 0 q := by cases h <;> exact fun _ => ⟨_, rfl⟩
    obtain ⟨q, e0⟩ := e0 0
    rw [e0]
    have e1 : ∃ r, Ieee.Datum.quotient ((Proofs.YtkhkoeibpkglkaaGreatDoor.fmt E F).fractionBits + 2) (.number false 0 q) (.number false m p) = some (.number false 0 r) := by
      unfold Ieee.Datum.quotient
      simp only
      rw [if_neg (by omega), Nat.zero_shiftLeft, Nat.zero_div, Nat.zero_mod]
      exact ⟨_, rfl⟩
    obtain ⟨r, e1⟩ := e1
    rw [e1]
    rfl
  · rw [div_W h2 (h.whole hn h53) (h.ten hj), if_neg (show ¬ false = true by decide), if_neg (show ¬ n = 0 by omega), Nat.zero_add]
    rfl
theorem xor_top {x k : Nat} (h : x < 2 ^ k) : x ^^^ 2 ^ k = x + 2 ^ k := by
  have h2 := Nat.two_pow_add_eq_or_of_lt h 1
  rw [Nat.mul_one] at h2
  rw [Nat.add_comm x, h2]
  refine Nat.eq_of_testBit_eq fun i => ?_
  rw [Nat.testBit_xor, Nat.testBit_or, Nat.testBit_two_pow]
  by_cases e : k = i
  · subst e
    rw [Nat.testBit_lt_two_pow h]
    simp
  · rw [decide_eq_false e]
    simp
theorem even_lt (E F a d : Nat) : evenQ E F a d < 2 ^ (E + F) := Nat.lt_of_le_of_lt (Nat.min_le_right _ _) (inf_lt E F)
theorem rdB_lt {E F n : Nat} {e : Int} : rdB E F false n e < 2 ^ (E + F) := by
  have := even_lt E F (n * 10 ^ e.toNat) (10 ^ (-e).toNat)
  have h2 := Nat.two_pow_pos (E + F)
  unfold rdB
  rw [if_neg (show ¬ false = true by decide), Nat.zero_add]
  split <;> omega
theorem rdB_neg {E F n : Nat} {e : Int} : rdB E F true n e = rdB E F false n e + 2 ^ (E + F) := by
  unfold rdB
  rw [if_pos rfl, if_neg (show ¬ false = true by decide), Nat.zero_add, Nat.add_comm]
theorem Kd.negf {k : FloatKind} {E F P : Nat} (h : Kd k E F P) (n : Nat) (e : Int) : Op.negFloat k (rdB E F false n e) = rdB E F true n e := by
  obtain ⟨h1, h2, h3⟩ := h.fmt
  unfold Op.negFloat
  rw [h1, rdB_neg]
  exact xor_top rdB_lt
end Go.Proofs.YtkhkoeibpkglkaaGreatDoor
end
section
/- quick: the digits as a number; which decimals may be asked. -/
namespace Go.Proofs.YtkhkoeibpkglkaaGreatDoor
open Go.RowKit
attribute [local go_sem] bs_size bs_extract bs_get bs_append bs_toList const_get
attribute [local go_sem] sz2 sz3 sz4 sz5 sz6 sz7 sz8
set_option maxHeartbeats 8000000
set_option maxRecDepth 100000
attribute [local irreducible] Calls
/-- The error for a number that is too great stands. -/
def Er (w : World) : Prop := ∃ te pe, w.cell? ⟨7, 0, none⟩ = some (.iface te pe)
theorem Er.ext {w w' : World} (h : Er w) (he : Ext w w') : Er w' := by
  obtain ⟨te, pe, h⟩ := h
  exact ⟨te, pe, (Below.cell (p := ⟨7, 0, none⟩) he (Lib.lt_of_cell h)).trans h⟩
theorem bytes_ext {w w' : World} {t : TypeId} {s : ByteArray} (h : w' = w ∨ w' = Lib.bytesWorld w t s) : Ext w w' := by
  rcases h with rfl | rfl
  · exact ext_refl _
  · exact Lib.bytesWorld_below _ _ _
theorem qk_number_ok (l : List UInt8) (hd : digsB l = true) (h0 : 0 < l.length) (hl : l.length ≤ 65536) (hv : dval l < 18446744073709551616) (w : World) :
    Calls Tryz.prog 57 #[.string (bs l)] w fun e w' => e = .returned (.tuple #[.int .u64 (dval l : Nat), .bool true]) ∧ Ext w w' := by
  have hs : (bs l).size = l.length := bs_size l
  have k : Hid (∀ w, Calls Tryz.prog 111 #[.string (bs l), .int .i64 10, .int .i64 64] w fun e w' => e = .returned (.tuple #[.int .u64 (dval l : Nat), .nilIface]) ∧ Ext w w') := Lib.hid fun w =>
    (Tryz.strconv_ParseUint_10_at64_ok (bs l) (by omega) (dval l) (by show Lib.parseUintB 64 l = _; rw [pu_digs l hd h0, if_pos hv]) w).mono fun e w' ⟨h1, h2⟩ => ⟨h1, bytes_ext h2⟩
  generalize dval l = v at *
  clear hd h0 hl hs
  go_enter Tryz.func57, Tryz.ntmps57
  go_wp2_with (first
    | (go_at_call 111; (with_reducible refine (k.out _).mono ?_); rintro e w1 ⟨rfl, xb1⟩))
  go_region
  go_wp2
  all_goals
    refine bodyPost_ret (v := .tuple #[.int .u64 ↑v, .bool true]) ?h rfl ⟨rfl, ?_⟩
    case h => simp [results, Tryz.results57, go_sem]
    repeat (first | exact ext_refl _ | assumption | refine ext_setCell ?_ (by simp; try omega) _ | refine ext_alloc ?_ _ | refine ext_drew ?_ | refine ext_drewN ?_ _ | refine ext_trans ?_ (Aft.use _) | refine ext_trans ?_ (by assumption))
theorem qk_number_no (l : List UInt8) (hd : digsB l = true) (h0 : 0 < l.length) (hl : l.length ≤ 65536) (hv : ¬ dval l < 18446744073709551616) (w : World) (hE : Er w) :
    Calls Tryz.prog 57 #[.string (bs l)] w fun e w' => e = .returned (.tuple #[.int .u64 18446744073709551615, .bool false]) ∧ Ext w w' := by
  have hs : (bs l).size = l.length := bs_size l
  have k : Hid (∀ w, Er w → Calls Tryz.prog 111 #[.string (bs l), .int .i64 10, .int .i64 64] w fun e w' => ∃ t N, e = .returned (.tuple #[.int .u64 18446744073709551615, .iface t (.pointer (some ⟨N, 0, none⟩))]) ∧ Ext w w') := Lib.hid fun w ⟨te, pe, hc⟩ =>
    (Tryz.strconv_ParseUint_10_at64_range (bs l) (by omega) (by show Lib.parseUintB 64 l = _; rw [pu_digs l hd h0, if_neg hv]) _ w hc (.inr ⟨te, pe, rfl⟩)).mono fun e w' ⟨N, h1, _, _, h2⟩ => ⟨_, N, h1, h2⟩
  have HE := Lib.hid hE
  clear hd h0 hl hs hE hv
  go_enter Tryz.func57, Tryz.ntmps57
  go_wp2_with (first
    | (go_at_call 111; (with_reducible refine (k.out _ (HE.out.ext (by (repeat (first | exact ext_refl _ | assumption | refine ext_setCell ?_ (by simp; try omega) _ | refine ext_alloc ?_ _ | refine ext_drew ?_ | refine ext_drewN ?_ _ | refine ext_trans ?_ (Aft.use _) | refine ext_trans ?_ (by assumption)))))).mono ?_); rintro e w1 ⟨t, N, rfl, xb1⟩))
  go_region
  go_wp2
  all_goals
    refine bodyPost_ret (v := .tuple #[.int .u64 18446744073709551615, .bool false]) ?h rfl ⟨rfl, ?_⟩
    case h => simp [results, Tryz.results57, go_sem]
    repeat (first | exact ext_refl _ | assumption | refine ext_setCell ?_ (by simp; try omega) _ | refine ext_alloc ?_ _ | refine ext_drew ?_ | refine ext_drewN ?_ _ | refine ext_trans ?_ (Aft.use _) | refine ext_trans ?_ (by assumption))
end Go.Proofs.YtkhkoeibpkglkaaGreatDoor
end
section
/- quick: what native floats read. -/
namespace Go.Proofs.YtkhkoeibpkglkaaGreatDoor
open Go.RowKit
attribute [local go_sem] unary_neg_float
attribute [local go_sem] sz2 sz3 sz4 sz5 sz6 sz7 sz8
set_option maxHeartbeats 8000000
set_option maxRecDepth 100000
attribute [local irreducible] Calls
theorem qk_read64 (neg : Bool) (n : Nat) (e : Int) (hn : n ≤ 9007199254740992) (he : -22 ≤ e ∧ e ≤ 22) (w : World) :
    Calls Tryz.prog 50 #[.bool neg, .int .u64 (n : Int), .int .i64 e] w fun x w' => x = .returned (.float .f64 (rdB 11 52 neg n e)) ∧ Ext w w' := by
  have hk := Kd.double
  obtain ⟨K, hK⟩ : ∃ K : Nat, max e (-e) = (K : Int) := ⟨(max e (-e)).toNat, by omega⟩
  have hK22 : K ≤ 22 := by omega
  have hone : floatOfInt .f64 1 = tnB 11 52 0 := by kernel_rfl
  have hten : (4621819117588971520 : Nat) = tnB 11 52 1 := by kernel_rfl
  have hmore : Hid (∀ i, i < K → ∀ t w, (binOp .mul t (.float .f64 (tnB 11 52 i)) (.float .f64 4621819117588971520)).run Tryz.prog w = .ok (.float .f64 (tnB 11 52 (i + 1))) w) := Lib.hid fun i hi t w => run_float_arith w .mul t .f64 _ _ _ (by rw [hten]; exact hk.more (by omega))
  have htimes := hk.times (n := n) (j := K) hn hK22
  have hover := hk.over (n := n) (j := K) hn hK22
  obtain ⟨V, hV⟩ : ∃ V, floatOfInt .f64 (n : Int) = V := ⟨_, rfl⟩
  obtain ⟨R, hR⟩ : ∃ R, rdB 11 52 false n e = R := ⟨_, rfl⟩
  have hop : Hid ((e < 0 → ∀ t w, (binOp .quo t (.float .f64 V) (.float .f64 (tnB 11 52 K))).run Tryz.prog w = .ok (.float .f64 R) w) ∧ (¬ e < 0 → ∀ t w, (binOp .mul t (.float .f64 V) (.float .f64 (tnB 11 52 K))).run Tryz.prog w = .ok (.float .f64 R) w)) := Lib.hid ⟨fun h t w => by
      have e1 : -(K : Int) = e := by omega
      rw [e1, hR, hV] at hover
      exact run_float_arith w .quo t .f64 _ _ _ hover, fun h t w => by
      have e1 : (K : Int) = e := by omega
      rw [e1, hR, hV] at htimes
      exact run_float_arith w .mul t .f64 _ _ _ htimes⟩
  clear htimes hover hk hten
  have hKi : (K : Int) ≤ 22 := by omega
  have hmx := hK
  obtain ⟨hea, heb⟩ := he
  go_enter Tryz.func50, Tryz.ntmps50
  go_wp2
  have hb : ∀ i : Nat, i ≤ K → (i : Int) ≤ 22 := fun i hi => by omega
  go_loopw [8, 16] (fun v8 v16 wr => ∃ i : Nat, i ≤ K ∧ v8 = .float .f64 (tnB 11 52 i) ∧ v16 = .int .i64 (i : Int) ∧ Hid (Ext w wr)) (fun _ v16 _ => K - (intOf v16).toNat)
  case atStart => exact ⟨0, Nat.zero_le _, rfl, rfl, ext_refl _⟩
  case round =>
    obtain ⟨i, hi, rfl, rfl, hX⟩ := hrel
    have hiI := hb i hi
    by_cases hlt : i < K
    · have hltI : (i : Int) < (K : Int) := by omega
      have hm := hmore.out i hlt
      go_wp2_with (simp only [hm])
      case roundEnd => exact ⟨⟨i + 1, by omega, rfl, by simp, hX.out⟩, by simp [intOf]; omega⟩
    · have e1 : i = K := by omega
      subst e1
      have hnlt : ¬ (i : Int) < (i : Int) := by omega
      by_cases he : e < 0
      · have ho := hop.out.1 (by omega)
        cases neg with
        | true =>
          go_wp2_with (simp only [ho])
          refine bodyPost_ret (v := .float .f64 (Op.negFloat .f64 R)) ?h rfl ⟨by rw [← hR, Kd.double.negf], hX.out⟩
          case h => simp [results, Tryz.results50, go_sem]
        | false =>
          go_wp2_with (simp only [ho])
          refine bodyPost_ret (v := .float .f64 R) ?h rfl ⟨by rw [← hR], hX.out⟩
          case h => simp [results, Tryz.results50, go_sem]
      · have ho := hop.out.2 (by omega)
        cases neg with
        | true =>
          go_wp2_with (simp only [ho])
          refine bodyPost_ret (v := .float .f64 (Op.negFloat .f64 R)) ?h rfl ⟨by rw [← hR, Kd.double.negf], hX.out⟩
          case h => simp [results, Tryz.results50, go_sem]
        | false =>
          go_wp2_with (simp only [ho])
          refine bodyPost_ret (v := .float .f64 R) ?h rfl ⟨by rw [← hR], hX.out⟩
          case h => simp [results, Tryz.results50, go_sem]
theorem qk_read32 (neg : Bool) (n : Nat) (e : Int) (hn : n ≤ 16777216) (he : -10 ≤ e ∧ e ≤ 10) (w : World) :
    Calls Tryz.prog 51 #[.bool neg, .int .u64 (n : Int), .int .i64 e] w fun x w' => x = .returned (.float .f32 (rdB 8 23 neg n e)) ∧ Ext w w' := by
  have hk := Kd.single
  obtain ⟨K, hK⟩ : ∃ K : Nat, max e (-e) = (K : Int) := ⟨(max e (-e)).toNat, by omega⟩
  have hK10 : K ≤ 10 := by omega
  have hone : floatOfInt .f32 1 = tnB 8 23 0 := by kernel_rfl
  have hten : (1092616192 : Nat) = tnB 8 23 1 := by kernel_rfl
  have hmore : Hid (∀ i, i < K → ∀ t w, (binOp .mul t (.float .f32 (tnB 8 23 i)) (.float .f32 1092616192)).run Tryz.prog w = .ok (.float .f32 (tnB 8 23 (i + 1))) w) := Lib.hid fun i hi t w => run_float_arith w .mul t .f32 _ _ _ (by rw [hten]; exact hk.more (by omega))
  have htimes := hk.times (n := n) (j := K) hn hK10
  have hover := hk.over (n := n) (j := K) hn hK10
  obtain ⟨V, hV⟩ : ∃ V, floatOfInt .f32 (n : Int) = V := ⟨_, rfl⟩
  obtain ⟨R, hR⟩ : ∃ R, rdB 8 23 false n e = R := ⟨_, rfl⟩
  have hop : Hid ((e < 0 → ∀ t w, (binOp .quo t (.float .f32 V) (.float .f32 (tnB 8 23 K))).run Tryz.prog w = .ok (.float .f32 R) w) ∧ (¬ e < 0 → ∀ t w, (binOp .mul t (.float .f32 V) (.float .f32 (tnB 8 23 K))).run Tryz.prog w = .ok (.float .f32 R) w)) := Lib.hid ⟨fun h t w => by
      have e1 : -(K : Int) = e := by omega
      rw [e1, hR, hV] at hover
      exact run_float_arith w .quo t .f32 _ _ _ hover, fun h t w => by
      have e1 : (K : Int) = e := by omega
      rw [e1, hR, hV] at htimes
      exact run_float_arith w .mul t .f32 _ _ _ htimes⟩
  clear htimes hover hk hten
  have hKi : (K : Int) ≤ 10 := by omega
  have hmx := hK
  obtain ⟨hea, heb⟩ := he
  go_enter Tryz.func51, Tryz.ntmps51
  go_wp2
  have hb : ∀ i : Nat, i ≤ K → (i : Int) ≤ 10 := fun i hi => by omega
  go_loopw [8, 16] (fun v8 v16 wr => ∃ i : Nat, i ≤ K ∧ v8 = .float .f32 (tnB 8 23 i) ∧ v16 = .int .i64 (i : Int) ∧ Hid (Ext w wr)) (fun _ v16 _ => K - (intOf v16).toNat)
  case atStart => exact ⟨0, Nat.zero_le _, rfl, rfl, ext_refl _⟩
  case round =>
    obtain ⟨i, hi, rfl, rfl, hX⟩ := hrel
    have hiI := hb i hi
    by_cases hlt : i < K
    · have hltI : (i : Int) < (K : Int) := by omega
      have hm := hmore.out i hlt
      go_wp2_with (simp only [hm])
      case roundEnd => exact ⟨⟨i + 1, by omega, rfl, by simp, hX.out⟩, by simp [intOf]; omega⟩
    · have e1 : i = K := by omega
      subst e1
      have hnlt : ¬ (i : Int) < (i : Int) := by omega
      by_cases he : e < 0
      · have ho := hop.out.1 (by omega)
        cases neg with
        | true =>
          go_wp2_with (simp only [ho])
          refine bodyPost_ret (v := .float .f32 (Op.negFloat .f32 R)) ?h rfl ⟨by rw [← hR, Kd.single.negf], hX.out⟩
          case h => simp [results, Tryz.results51, go_sem]
        | false =>
          go_wp2_with (simp only [ho])
          refine bodyPost_ret (v := .float .f32 R) ?h rfl ⟨by rw [← hR], hX.out⟩
          case h => simp [results, Tryz.results51, go_sem]
      · have ho := hop.out.2 (by omega)
        cases neg with
        | true =>
          go_wp2_with (simp only [ho])
          refine bodyPost_ret (v := .float .f32 (Op.negFloat .f32 R)) ?h rfl ⟨by rw [← hR, Kd.single.negf], hX.out⟩
          case h => simp [results, Tryz.results51, go_sem]
        | false =>
          go_wp2_with (simp only [ho])
          refine bodyPost_ret (v := .float .f32 R) ?h rfl ⟨by rw [← hR], hX.out⟩
          case h => simp [results, Tryz.results51, go_sem]
end Go.Proofs.YtkhkoeibpkglkaaGreatDoor
end
