/- The program's next: digits and one. -/
import Derived.Test.YtmpgfibahdiblaaDoorDecD
namespace Go.Proofs.YtmpgfibahdiblaaDoor
open Go.RowKit
attribute [local go_sem] bs_size bs_extract bs_get bs_append bs_toList const_get
attribute [local go_sem] sz2 sz3 sz4 sz5 sz6 sz7 sz8
set_option maxHeartbeats 4000000
set_option maxRecDepth 100000
attribute [local irreducible] Calls
theorem byte_57 (a : UInt8) : (((a.toNat : Int) == 57) = true) ↔ a = 57 := byte_eqc a 57 (by decide)
theorem byte_57n (a : UInt8) : (((a.toNat : Int) == 57) = false) ↔ a ≠ 57 := by rw [← Bool.not_eq_true, byte_57]
theorem getD_eq {l : List UInt8} {i : Nat} (h : i < l.length) : l.getD i 0 = l[i] := by
  rw [List.getD_eq_getElem?_getD, List.getElem?_eq_getElem h]; rfl
/-- All nines. -/
theorem next_all {l os : List UInt8} (hlen : os.length = l.length + 1) (h : ∀ p, 0 < p → p ≤ l.length → os.getD p 0 = 48 ∧ (48 :: l).getD p 0 = 57) : os.set 0 49 = nx l := by
  have e : l = List.replicate l.length 57 := by
    refine List.ext_getElem (by simp) fun p h1 h2 => ?_
    have := (h (p + 1) (by omega) (by omega)).2
    rw [List.getD_cons_succ, getD_eq h1] at this
    rw [this, List.getElem_replicate]
  rw [e, nx_all]
  refine List.ext_getElem (by simp; omega) fun p h1 h2 => ?_
  rw [List.length_set] at h1
  by_cases h0 : p = 0
  · subst h0; simp
  · have := (h p (by omega) (by omega)).1
    rw [getD_eq h1] at this
    rw [List.getElem_set_ne (by omega), this]
    obtain ⟨q, rfl⟩ : ∃ q, p = q + 1 := ⟨p - 1, by omega⟩
    simp
theorem next_at {l os : List UInt8} {i : Nat} {x : UInt8} (hd : digsB l = true) (hld : lead l) (hlen : os.length = l.length + 1) (hi : 0 < i) (hil : i ≤ l.length) (hx : (48 :: l).getD i 0 = x) (hx9 : x ≠ 57)
    (h1 : ∀ p, p ≤ i → os.getD p 0 = (48 :: l).getD p 0) (h : ∀ p, i < p → p ≤ l.length → os.getD p 0 = 48 ∧ (48 :: l).getD p 0 = 57) : (os.set i (UInt8.ofNat (x.toNat + 1))).drop 1 = nx l := by
  obtain ⟨j, rfl⟩ : ∃ j, i = j + 1 := ⟨i - 1, by omega⟩
  rw [List.getD_cons_succ, getD_eq (by omega)] at hx
  have e1 : l.take j ++ [x] = l.take (j + 1) := by rw [← hx, ← List.take_succ_eq_append_getElem]
  have e : l = l.take j ++ [x] ++ List.replicate (l.length - (j + 1)) 57 := by
    rw [e1]
    have : List.replicate (l.length - (j + 1)) 57 = l.drop (j + 1) := by
      refine List.ext_getElem (by simp) fun p h2 h3 => ?_
      simp at h2
      have := (h (j + 1 + p + 1) (by omega) (by omega)).2
      rw [List.getD_cons_succ, getD_eq (by omega)] at this
      rw [List.getElem_replicate, List.getElem_drop, this]
    rw [this, List.take_append_drop]
  have hda : digsB (l.take j ++ [x]) = true := by rw [e1]; exact digs_take hd _
  have hla : lead (l.take j ++ [x]) := by
    intro y hy
    refine hld y ?_
    rw [e1] at hy
    rw [List.head?_take] at hy
    simpa using hy
  have hn := nx_at (l.take j) x (l.length - (j + 1)) hda hla hx9
  rw [← e] at hn
  rw [hn]
  refine List.ext_getElem (by simp; omega) fun p h2 h3 => ?_
  rw [List.length_drop, List.length_set] at h2
  rw [List.getElem_drop, List.getElem_set]
  by_cases c1 : p < j
  · rw [if_neg (by omega), List.getElem_append_left (by simp; omega), List.getElem_append_left (by simp; omega), List.getElem_take]
    have := h1 (p + 1) (by omega)
    rw [getD_eq (by omega), List.getD_cons_succ, getD_eq (by omega)] at this
    rw [← this]
    congr 1
    omega
  · by_cases c2 : p = j
    · subst c2
      rw [if_pos (by omega), List.getElem_append_left (by simp; omega), List.getElem_append_right (by simp; omega)]
      simp
    · rw [if_neg (by omega), List.getElem_append_right (by simp; omega), List.getElem_replicate]
      have := (h (1 + p) (by omega) (by omega)).1
      rwa [getD_eq (by omega)] at this
theorem next_any (l : List UInt8) (hd : digsB l = true) (hld : lead l) (hl : l.length ≤ 65536) (w : World) :
    Calls Tryd.prog 47 #[.string (bs l)] w fun e w' => e = .returned (.string (bs (nx l))) ∧ Ext w w' := by
  have HD := Lib.hid hd
  have HL := Lib.hid hld
  clear hd hld
  by_cases h0 : l = []
  · subst h0
    clear HD HL
    rw [show nx [] = [49] by unfold nx; rw [show dval [] + 1 = 1 from rfl, digs_pos (by decide), show 1 / 10 = 0 from rfl, digs_zero]; rfl]
    go_enter Tryd.func47, Tryd.ntmps47
    go_wp2_with (first
      | (at_make; refine make_u8 rfl _ _ rfl _ _ _ _ 1 rfl rfl (by simp) (by simp) (by omega) ?_; intro w1 hx1 ho1; have hext1 := Lib.hid hx1; clear hx1; have hgl1 : w.heap.size < w1.heap.size := (ho1.out.lt w.heap.size rfl).2; obtain ⟨hc0, hf0⟩ := ownb_at ho1.out 0 (by omega);
          have hos : (w1.setCell ⟨w.heap.size, 0, none⟩ (.int .u8 48)).ownsRow w.heap.size 5 1 (.slice (some ⟨w.heap.size, 0, none⟩) 1 1) 1 (((List.replicate 1 (0 : UInt8)).set 0 48).map bV) := ownb_set ho1.out 0 48;
          obtain ⟨w2, hcp, how2, hx2⟩ := copy_str hos 0 0 0 [] rfl (by omega) 9 3; have HO2 := Lib.hid how2; have HX2 := Lib.hid hx2; clear how2 hx2 hos)
      | go_in)
    have hX : Hid (Ext w w2) := Lib.hid (HX2.out w (ext_setCell hext1.out (Nat.le_refl _) _) (Nat.le_refl _))
    obtain ⟨hc2, hf2⟩ := ownb_at HO2.out 0 (by omega)
    have hc2' : w2.cell? ⟨w.heap.size, 0, none⟩ = some (.int .u8 48) := hc2
    have hrow2 : (w2.setCell ⟨w.heap.size, 0, none⟩ (.int .u8 49)).ownsRow w.heap.size 5 1 (.slice (some ⟨w.heap.size, 0, none⟩) 1 1) 1 _ := ownb_set HO2.out 0 49
    have hcv := ownb_str hrow2 0 1 1 (by omega) [49] (by rfl)
    have HX := Lib.hid (show Ext w (w2.setCell ⟨w.heap.size, 0, none⟩ (.int .u8 49)) from ext_setCell hX.out (Nat.le_refl _) _)
    clear hcp HO2 HX2 hext1 ho1 hc0 hf0 hc2 hrow2 hX
    go_loop [4] (fun vi => vi = .int .i64 0) (fun vi => (intOf vi).toNat)
    case atStart => rfl
    case round =>
      subst hrel
      go_wp2
      go_ret
      exact ⟨rfl, HX.out⟩
  · have hpos : 0 < l.length := List.length_pos_iff.2 h0
    have hne : ((l.length : Int) == 0) = false := by rw [beq_eq_false_iff_ne]; omega
    clear h0
    go_enter Tryd.func47, Tryd.ntmps47
    go_wp2_with (first
      | (at_make; refine make_u8 rfl _ _ rfl _ _ _ _ (l.length + 1) rfl rfl (by simp) (by simp) (by omega) ?_; intro w1 hx1 ho1; have hext1 := Lib.hid hx1; clear hx1; have hgl1 : w.heap.size < w1.heap.size := (ho1.out.lt w.heap.size rfl).2; obtain ⟨hc0, hf0⟩ := ownb_at ho1.out 0 (by omega);
          have hos : (w1.setCell ⟨w.heap.size, 0, none⟩ (.int .u8 48)).ownsRow w.heap.size 5 1 (.slice (some ⟨w.heap.size, 0, none⟩) (l.length + 1) (l.length + 1)) (l.length + 1) (((List.replicate (l.length + 1) (0 : UInt8)).set 0 48).map bV) := ownb_set ho1.out 0 48;
          obtain ⟨w2, hcp, how2, hx2⟩ := copy_str hos 1 l.length l.length l rfl (by omega) 9 3; have HO2 := Lib.hid how2; have HX2 := Lib.hid hx2; clear how2 hx2 hos)
      | go_in)
    · exact absurd hpos (by simp_all)
    have hX : Hid (Ext w w2) := Lib.hid (HX2.out w (ext_setCell hext1.out (Nat.le_refl _) _) (Nat.le_refl _))
    have hrow : Hid (w2.ownsRow w.heap.size 5 1 (.slice (some ⟨w.heap.size, 0, none⟩) (l.length + 1) (l.length + 1)) (l.length + 1) ((48 :: l).map bV)) := by
      have h := HO2.out
      have e : List.take 1 ((List.replicate (l.length + 1) (0 : UInt8)).set 0 48) ++ l ++ List.drop (1 + l.length) ((List.replicate (l.length + 1) (0 : UInt8)).set 0 48) = 48 :: l := by
        rw [List.replicate_succ, List.set_cons_zero, List.take_succ_cons, List.take_zero, Nat.add_comm 1, List.drop_succ_cons, List.drop_eq_nil_of_le (by simp)]
        simp
      rw [e] at h
      exact h
    clear hcp HO2 HX2 hext1 ho1 hc0 hf0
    go_loopw [4] (fun vi wr => ∃ (i : Nat) (os : List UInt8), i ≤ l.length ∧ vi = .int .i64 (i : Int) ∧ Hid (os.length = l.length + 1 ∧ (∀ p, p ≤ i → os.getD p 0 = (48 :: l).getD p 0) ∧ ∀ p, i < p → p ≤ l.length → os.getD p 0 = 48 ∧ (48 :: l).getD p 0 = 57) ∧
        Hid (wr.ownsRow w.heap.size 5 1 (.slice (some ⟨w.heap.size, 0, none⟩) (l.length + 1) (l.length + 1)) (l.length + 1) (os.map bV)) ∧ Hid (Ext w wr))
      (fun vi _ => (intOf vi).toNat)
    case atStart => exact ⟨l.length, 48 :: l, Nat.le_refl _, by go_num, ⟨by simp, fun _ _ => rfl, fun p h1 h2 => absurd h1 (by omega)⟩, hrow.out, hX.out⟩
    case round =>
      clear hrow hX
      obtain ⟨i, os, hi, rfl, hos, hown, hext⟩ := hrel
      obtain ⟨x, hx⟩ : ∃ x : UInt8, Hid (os.getD i 0 = x) := ⟨_, rfl⟩
      obtain ⟨hc, hf⟩ := ownb_at hown.out i (by omega)
      rw [hx.out] at hc
      by_cases h9 : x = 57
      · have h9c := (byte_57 x).2 h9
        have hi0 : 0 < i := by
          rcases Nat.eq_zero_or_pos i with e | e
          · exfalso
            have := hos.out.2.1 i (Nat.le_refl _)
            rw [hx.out, h9, e] at this
            simp at this
          · exact e
        have H9 := Lib.hid h9
        clear h9
        go_wp2
        case roundEnd =>
          refine ⟨⟨i - 1, os.set i 48, by omega, by go_num, ⟨by rw [List.length_set]; exact hos.out.1, fun p hp => ?_, fun p h1 h2 => ?_⟩, ownb_set hown.out i 48, ext_setCell hext.out (Nat.le_refl _) _⟩, by simp [intOf]; omega⟩
          · rw [List.getD_eq_getElem?_getD, List.getElem?_set_ne (by omega), ← List.getD_eq_getElem?_getD]
            exact hos.out.2.1 p (by omega)
          · by_cases e : p = i
            · subst e
              refine ⟨?_, ?_⟩
              · rw [List.getD_eq_getElem?_getD, List.getElem?_set_self (by rw [hos.out.1]; omega)]; rfl
              · rw [← hos.out.2.1 p (Nat.le_refl _), hx.out, H9.out]
            · rw [List.getD_eq_getElem?_getD, List.getElem?_set_ne (by omega), ← List.getD_eq_getElem?_getD]
              exact hos.out.2.2 p (by omega) h2
      · have h9c := (byte_57n x).2 h9
        have H9 := Lib.hid h9
        clear h9
        by_cases hi0 : i = 0
        · subst hi0
          have hx48 : x = 48 := by
            rw [← hx.out, hos.out.2.1 0 (Nat.le_refl _)]; rfl
          subst hx48
          have hc' : wr.cell? ⟨w.heap.size, 0, none⟩ = some (.int .u8 48) := hc
          have hrow2 : (wr.setCell ⟨w.heap.size, 0, none⟩ (.int .u8 49)).ownsRow w.heap.size 5 1 (.slice (some ⟨w.heap.size, 0, none⟩) (l.length + 1) (l.length + 1)) (l.length + 1) ((os.set 0 49).map bV) := ownb_set hown.out 0 49
          have hcv := ownb_str hrow2 0 (l.length + 1) (l.length + 1) (by omega) (nx l) (by rw [next_all hos.out.1 hos.out.2.2, List.drop_zero, List.take_of_length_le (by rw [← next_all hos.out.1 hos.out.2.2, List.length_set, hos.out.1]; exact Nat.le_refl _)])
          have hX : Ext w (wr.setCell ⟨w.heap.size, 0, none⟩ (.int .u8 49)) := ext_setCell hext.out (Nat.le_refl _) _
          have HX := Lib.hid hX
          clear hrow2 hc hX h9c
          go_wp2
          go_ret
          exact ⟨rfl, HX.out⟩
        · have hxl : x.toNat ≤ 56 := by
            have h1 := hos.out.2.1 i (Nat.le_refl _)
            obtain ⟨j, rfl⟩ : ∃ j, i = j + 1 := ⟨i - 1, by omega⟩
            rw [hx.out, List.getD_cons_succ, getD_eq (by omega)] at h1
            have h2 := (digs_at HD.out j (by omega)).2
            rw [← h1] at h2
            have h3 : x.toNat ≠ 57 := fun e => H9.out (UInt8.toNat_inj.1 e)
            omega
          have hyv : ((UInt8.ofNat (x.toNat + 1)).toNat : Int) = (x.toNat : Int) + 1 := by simp; omega
          have hrow2 : (wr.setCell ⟨w.heap.size, i, none⟩ (.int .u8 ((x.toNat : Int) + 1))).ownsRow w.heap.size 5 1 (.slice (some ⟨w.heap.size, 0, none⟩) (l.length + 1) (l.length + 1)) (l.length + 1) ((os.set i (UInt8.ofNat (x.toNat + 1))).map bV) := by
            rw [← hyv]; exact ownb_set hown.out i _
          have h0c := (ownb_at hrow2 0 (by omega)).1
          rw [List.getD_eq_getElem?_getD, List.getElem?_set_ne hi0, ← List.getD_eq_getElem?_getD, hos.out.2.1 0 (Nat.zero_le _)] at h0c
          have h0c' : (wr.setCell ⟨w.heap.size, i, none⟩ (.int .u8 ((x.toNat : Int) + 1))).cell? ⟨w.heap.size, 0, none⟩ = some (.int .u8 48) := h0c
          have hcv := ownb_str hrow2 1 l.length l.length (by omega) (nx l) (by
            have := next_at HD.out HL.out hos.out.1 (by omega) hi ((hos.out.2.1 i (Nat.le_refl _)).symm.trans hx.out) H9.out hos.out.2.1 hos.out.2.2
            rw [← this, List.take_of_length_le (by simp [hos.out.1])])
          have HX := Lib.hid (show Ext w (wr.setCell ⟨w.heap.size, i, none⟩ (.int .u8 ((x.toNat : Int) + 1))) from ext_setCell hext.out (Nat.le_refl _) _)
          have hi0' : 0 < i := by omega
          clear hrow2 h0c hyv
          go_wp2
          go_ret
          exact ⟨rfl, HX.out⟩
end Go.Proofs.YtmpgfibahdiblaaDoor
