/- Lemmas of this proof, laid together: LxA. -/
import Derived.Test.YtnkajjealkggdaaGreatDoorMg02
import Derived.Test.YtnkajjealkggdaaGreatDoorMg19
import Derived.Test.YtnkajjealkggdaaGreatDoorShelf
import Derived.Deep.DeepCutAuto
import Derived.Deep.RegionWith
import Derived.Shelf.Unicode.DecodeSlow
set_option linter.unusedSimpArgs false
set_option linter.unusedVariables false
section
/- Lex, the program: what goes through a text. -/
namespace Go.Proofs.YtnkajjealkggdaaGreatDoor
open Go.RowKit
attribute [local go_sem] bs_size bs_extract bs_get bs_append bs_toList const_get
attribute [local go_sem] sz2 sz3 sz4 sz5 sz6 sz7 sz8
set_option maxHeartbeats 4000000
set_option maxRecDepth 100000
attribute [local irreducible] Calls
/-- A text that is gone through lies in the block b: l is ahead, of N bytes in all; c: the first fault. -/
structure Sc (W w : World) (b N : Nat) (l : List UInt8) (c : Nat) : Prop where
  lt : b < w.heap.size
  c0 : w.cell? ⟨b, 0, none⟩ = some (.string (bs l))
  c1 : w.cell? ⟨b, 1, none⟩ = some (.int .i64 ((N - l.length : Nat) : Int))
  c2 : w.cell? ⟨b, 2, none⟩ = some (.int .i64 (c : Int))
  f0 : w.frozen? ⟨b, 0, none⟩ = false
  f1 : w.frozen? ⟨b, 1, none⟩ = false
  f2 : w.frozen? ⟨b, 2, none⟩ = false
  le : l.length ≤ N
  big : N ≤ 70000
  base : Ext W w
  low : W.heap.size ≤ b
theorem Sc.ext {W w w' : World} {b N : Nat} {l : List UInt8} {c : Nat} (h : Sc W w b N l c) (he : Ext w w') : Sc W w' b N l c :=
  ⟨ext_lt he _ h.lt, (Below.cell (p := ⟨b, 0, none⟩) he h.lt).trans h.c0, (Below.cell (p := ⟨b, 1, none⟩) he h.lt).trans h.c1, (Below.cell (p := ⟨b, 2, none⟩) he h.lt).trans h.c2,
    (Below.frozen (p := ⟨b, 0, none⟩) he h.lt).trans h.f0, (Below.frozen (p := ⟨b, 1, none⟩) he h.lt).trans h.f1, (Below.frozen (p := ⟨b, 2, none⟩) he h.lt).trans h.f2, h.le, h.big, ext_trans h.base he, h.low⟩
theorem Sc.tch {W w w' : World} {b N g : Nat} {l : List UInt8} {c : Nat} (h : Sc W w b N l c) (he : Tch g w w') (hg : b ≠ g) (hW : W.heap.size ≤ g) : Sc W w' b N l c :=
  ⟨Nat.lt_of_lt_of_le h.lt he.size, (he.cell (p := ⟨b, 0, none⟩) h.lt hg).trans h.c0, (he.cell (p := ⟨b, 1, none⟩) h.lt hg).trans h.c1, (he.cell (p := ⟨b, 2, none⟩) h.lt hg).trans h.c2,
    (he.frozen (p := ⟨b, 0, none⟩) h.lt hg).trans h.f0, (he.frozen (p := ⟨b, 1, none⟩) h.lt hg).trans h.f1, (he.frozen (p := ⟨b, 2, none⟩) h.lt hg).trans h.f2, h.le, h.big, he.ext h.base hW, h.low⟩
theorem Sc.drew {W w : World} {b N : Nat} {l : List UInt8} {c : Nat} (h : Sc W w b N l c) : Sc W w.drew b N l c := h.ext (ext_drew (ext_refl _))
theorem Tch.drew {b : Nat} {u w : World} (h : Tch b u w) : Tch b u w.drew := h.trans (Tch.of (ext_drew (ext_refl _)))
theorem Sc.move {W w : World} {b N : Nat} {l : List UInt8} {c : Nat} (h : Sc W w b N l c) (m : List UInt8) (hm : m.length ≤ N) {v : Value} (hv : v = .int .i64 ((N - m.length : Nat) : Int)) :
    Sc W ((w.setCell ⟨b, 0, none⟩ (.string (bs m))).setCell ⟨b, 1, none⟩ v) b N m c := by
  obtain ⟨hl, h0, h1, h2, f0, f1, f2, le, big, base, low⟩ := h
  subst hv
  have q0 := World.cell?_setCell_same _ _ (.string (bs m)) h0
  have q1 : (w.setCell ⟨b, 0, none⟩ (.string (bs m))).cell? ⟨b, 1, none⟩ = some (.int .i64 ((N - l.length : Nat) : Int)) := by rw [World.cell?_setCell_other _ _ _ _ (by intro e; simp at e)]; exact h1
  refine ⟨by simpa using hl, ?_, World.cell?_setCell_same _ _ _ q1, ?_, by simpa using f0, by simpa using f1, by simpa using f2, hm, big, ext_setCell (ext_setCell base low _) low _, low⟩
  · rw [World.cell?_setCell_other _ _ _ _ (by intro e; simp at e)]; exact q0
  · rw [World.cell?_setCell_other _ _ _ _ (by intro e; simp at e), World.cell?_setCell_other _ _ _ _ (by intro e; simp at e)]; exact h2
theorem Sc.code {W w : World} {b N : Nat} {l : List UInt8} {c : Nat} (h : Sc W w b N l c) (e : Nat) {v : Value} (hv : v = .int .i64 (e : Int)) : Sc W (w.setCell ⟨b, 2, none⟩ v) b N l e := by
  obtain ⟨hl, h0, h1, h2, f0, f1, f2, le, big, base, low⟩ := h
  subst hv
  refine ⟨by simpa using hl, ?_, ?_, World.cell?_setCell_same _ _ _ h2, by simpa using f0, by simpa using f1, by simpa using f2, le, big, ext_setCell base low _, low⟩
  · rw [World.cell?_setCell_other _ _ _ _ (by intro e; simp at e)]; exact h0
  · rw [World.cell?_setCell_other _ _ _ _ (by intro e; simp at e)]; exact h1
abbrev ScQ (W w : World) (b N : Nat) (v : Value) (l : List UInt8) (c : Nat) : Ending → World → Prop := fun e w' => e = .returned v ∧ Hid (Sc W w' b N l c) ∧ Tch b w w'
theorem lx_skip (b N n : Nat) (l : List UInt8) (c : Nat) (W w : World) (h : Sc W w b N l c) (hn : n ≤ l.length) :
    Calls Tryz.prog 92 #[.pointer (some ⟨b, 0, none⟩), .int .i64 n] w (ScQ W w b N (.tuple #[]) (l.drop n) c) := by
  have H := Lib.hid h
  obtain ⟨hl, h0, h1, h2, f0, f1, f2, le, big, base, low⟩ := h
  have hd : (l.drop n).length = l.length - n := List.length_drop
  have e1 : ((N - l.length : Nat) : Int) + (n : Int) = ((N - (l.drop n).length : Nat) : Int) := by omega
  have ex : (bs l).extract n l.length = bs (l.drop n) := by rw [bs_extract, List.take_of_length_le (Nat.le_refl _)]
  go_enter Tryz.func92, Tryz.ntmps92
  go_region
  refine bodyPost_end (v := .tuple #[]) (by simp [results, Tryz.results92, go_sem]) rfl ⟨rfl, (H.out.move _ (by omega) (by rw [hd])).drew, (((Tch.refl b w).set _ _).set _ _).drew⟩
theorem lx_prefix (t l : List UInt8) (w : World) : Calls Tryz.prog 50 #[.string (bs l), .string (bs t)] w fun e w' => e = .returned (.bool (decide (l.take t.length = t))) ∧ w = w' := by
  refine (Tryz.strings_HasPrefix (bs l) (bs t) w).mono ?_
  rintro e w' ⟨rfl, rfl⟩
  refine ⟨?_, rfl⟩
  congr 2
  rw [bs_data, bs_data, ← Lib.hasPrefix_of_take, Bool.eq_iff_iff]
  simp only [Bool.and_eq_true, decide_eq_true_eq, beq_iff_eq]
  constructor
  · exact fun h => h.2
  · intro h
    refine ⟨?_, h⟩
    have := congrArg List.length h
    rw [List.length_take] at this; omega
theorem lx_has (b N : Nat) (t l : List UInt8) (c : Nat) (W w : World) (h : Sc W w b N l c) :
    Calls Tryz.prog 89 #[.pointer (some ⟨b, 0, none⟩), .string (bs t)] w (ScQ W w b N (.bool (hasS t l c).1) (hasS t l c).2.1 (hasS t l c).2.2) := by
  have H := Lib.hid h
  obtain ⟨hl, h0, h1, h2, f0, f1, f2, le, big, base, low⟩ := h
  by_cases hc : c = 0
  · subst hc
    by_cases ht : l.take t.length = t
    · rw [hasS_yes ht]
      have kp := Lib.hid (lx_prefix t l w)
      rw [decide_eq_true ht] at kp
      have hle : t.length ≤ l.length := by
        have := congrArg List.length ht
        rw [List.length_take] at this; omega
      clear ht
      go_enter Tryz.func89, Tryz.ntmps89
      go_wp2_with (first
        | (go_at_call 50; (with_reducible refine (kp.out).mono ?_); rintro e w1 ⟨rfl, rfl⟩)
        | (go_at_call 92; (with_reducible refine (lx_skip b N t.length l 0 _ _ H.out hle).mono ?_); rintro e w2 ⟨rfl, hS, hT⟩))
      refine bodyPost_ret (v := .bool true) ?h rfl ⟨rfl, hS, hT⟩
      case h => simp [results, Tryz.results89, go_sem]
    · rw [hasS_no ht]
      have kp := Lib.hid (lx_prefix t l w)
      rw [decide_eq_false ht] at kp
      clear ht
      go_enter Tryz.func89, Tryz.ntmps89
      go_wp2_with (first
        | (go_at_call 50; (with_reducible refine (kp.out).mono ?_); rintro e w1 ⟨rfl, rfl⟩))
      refine bodyPost_ret (v := .bool false) ?h rfl ⟨rfl, H, Tch.refl _ _⟩
      case h => simp [results, Tryz.results89, go_sem]
  · rw [hasS_err t l hc]
    have hc2 : ((c : Int) != 0) = true := by simp [hc]
    have hc3 : ¬ (c : Int) = 0 := by omega
    go_enter Tryz.func89, Tryz.ntmps89
    go_wp2
    refine bodyPost_ret (v := .bool false) ?h rfl ⟨rfl, H, Tch.refl _ _⟩
    case h => simp [results, Tryz.results89, go_sem]
theorem lowB_up {x : UInt8} (h : 65 ≤ x.toNat ∧ x.toNat ≤ 90) : (lowB x).toNat = x.toNat + 32 := by
  unfold lowB; rw [if_pos h, UInt8.toNat_ofNat', Nat.mod_eq_of_lt (by omega)]
theorem lowB_no {x : UInt8} (h : ¬ (65 ≤ x.toNat ∧ x.toNat ≤ 90)) : lowB x = x := by unfold lowB; rw [if_neg h]
theorem fold_step {l t : List UInt8} {i : Nat} (h1 : i < l.length) (h2 : i < t.length) (h : (l.take i).map lowB = t.take i) (he : lowB l[i] = t[i]) : (l.take (i + 1)).map lowB = t.take (i + 1) := by
  rw [List.take_succ_eq_append_getElem h1, List.take_succ_eq_append_getElem h2, List.map_append, h, List.map_singleton, he]
theorem fold_at {l t : List UInt8} {i : Nat} (h1 : i < l.length) (h2 : i < t.length) (h : (l.take t.length).map lowB = t) : lowB l[i] = t[i] := by
  have h3 : ((l.take t.length).map lowB)[i]? = t[i]? := by rw [h]
  rw [List.getElem?_map, List.getElem?_take, if_pos h2, List.getElem?_eq_getElem h1, List.getElem?_eq_getElem h2] at h3
  simpa using h3
theorem lx_fold (b N : Nat) (t l : List UInt8) (c : Nat) (W w : World) (h : Sc W w b N l c) :
    Calls Tryz.prog 52 #[.pointer (some ⟨b, 0, none⟩), .string (bs t)] w (ScQ W w b N (.bool (foldS t l c).1) (foldS t l c).2.1 (foldS t l c).2.2) := by
  have H := Lib.hid h
  obtain ⟨hl, h0, h1, h2, f0, f1, f2, le, big, base, low⟩ := h
  by_cases hc : c = 0
  · subst hc
    by_cases hlt : l.length < t.length
    · have hn : ¬ (l.take t.length).map lowB = t := fun q => by
        have := congrArg List.length q
        rw [List.length_map, List.length_take] at this; omega
      rw [foldS_no hn]
      have h9 : (l.length : Int) < t.length := by omega
      clear hn
      go_enter Tryz.func52, Tryz.ntmps52
      go_wp2
      refine bodyPost_ret (v := .bool false) ?h rfl ⟨rfl, H, Tch.refl _ _⟩
      case h => simp [results, Tryz.results52, go_sem]
    · have h9 : ¬ (l.length : Int) < t.length := by omega
      have kY := Lib.hid (fun (q : (l.take t.length).map lowB = t) => foldS_yes q)
      have kN := Lib.hid (fun (q : ¬ (l.take t.length).map lowB = t) => foldS_no q)
      have kA := Lib.hid (fun i h1 h2 => @fold_at l t i h1 h2)
      obtain ⟨X, hX⟩ : ∃ X, foldS t l 0 = X := ⟨_, rfl⟩
      rw [hX] at kY kN ⊢
      clear hX
      go_enter Tryz.func52, Tryz.ntmps52
      go_wp2
      go_loop [5, 6, 24] (fun _ _ v => ∃ k : Nat, k ≤ t.length ∧ v = .int .i64 k ∧ Hid ((l.take k).map lowB = t.take k)) (fun _ _ v => t.length - (intOf v).toNat)
      case atStart => exact ⟨0, Nat.zero_le _, rfl, rfl⟩
      case round =>
        obtain ⟨k, hk, rfl, hd⟩ := hrel
        by_cases hkt : k < t.length
        · have hkl : k < l.length := by omega
          have hkt2 : (k : Int) < t.length := by omega
          obtain ⟨x, hx⟩ : ∃ x, l[k] = x := ⟨_, rfl⟩
          obtain ⟨y, hy⟩ : ∃ y, t[k] = y := ⟨_, rfl⟩
          have HS := Lib.hid (fun he => fold_step hkl hkt hd.out he)
          have HA := Lib.hid (fun q => kA.out k hkl hkt q)
          rw [hx, hy] at HS HA
          have HX := Lib.hid hx
          have HY := Lib.hid hy
          have hgx : Hid ((bs l)[k]'(by rw [bs_size]; exact hkl) = x) := by show _ = _; rw [bs_get]; exact hx
          have hy256 := y.toNat_lt
          by_cases hu : 65 ≤ x.toNat ∧ x.toNat ≤ 90
          · obtain ⟨u1, u2⟩ := hu
            have HL := Lib.hid (lowB_up ⟨u1, u2⟩)
            have a1 : ((x.toNat : Int) + 32) % 256 = (x.toNat : Int) + 32 := by omega
            by_cases he : x.toNat + 32 = y.toNat
            · have a2 : ((x.toNat : Int) + 32 != (y.toNat : Int)) = false := by rw [bne_eq_false_iff_eq]; omega
              have HE : Hid (lowB x = y) := UInt8.toNat_inj.1 (HL.out.trans he)
              clear he
              go_wp2
              exact ⟨⟨k + 1, by omega, by go_num, HS.out HE.out⟩, by simp [intOf]; omega⟩
            · have a2 : ((x.toNat : Int) + 32 != (y.toNat : Int)) = true := by rw [bne_iff_ne]; omega
              have HE : Hid (X = (false, l, 0)) := kN.out (fun q => he (by rw [← HA.out q]; exact HL.out.symm))
              clear he
              go_wp2
              refine bodyPost_ret (v := .bool X.1) ?h rfl ⟨rfl, by rw [HE.out]; exact H, Tch.refl _ _⟩
              case h => simp [results, Tryz.results52, go_sem, HE.out]
          · have HL : Hid ((lowB x).toNat = x.toNat) := by show _ = _; rw [lowB_no hu]
            by_cases u1 : 65 ≤ x.toNat
            · have u2 : ¬ (x.toNat : Int) ≤ 90 := by omega
              have u3 : (65 : Int) ≤ x.toNat := by omega
              clear hu
              by_cases he : x.toNat = y.toNat
              · have a2 : ((x.toNat : Int) != (y.toNat : Int)) = false := by rw [bne_eq_false_iff_eq]; omega
                have HE : Hid (lowB x = y) := UInt8.toNat_inj.1 (HL.out.trans he)
                clear he
                go_wp2
                exact ⟨⟨k + 1, by omega, by go_num, HS.out HE.out⟩, by simp [intOf]; omega⟩
              · have a2 : ((x.toNat : Int) != (y.toNat : Int)) = true := by rw [bne_iff_ne]; omega
                have HE : Hid (X = (false, l, 0)) := kN.out (fun q => he (by rw [← HA.out q]; exact HL.out.symm))
                clear he
                go_wp2
                refine bodyPost_ret (v := .bool X.1) ?h rfl ⟨rfl, by rw [HE.out]; exact H, Tch.refl _ _⟩
                case h => simp [results, Tryz.results52, go_sem, HE.out]
            · have u2 : ¬ (65 : Int) ≤ x.toNat := by omega
              clear hu
              by_cases he : x.toNat = y.toNat
              · have a2 : ((x.toNat : Int) != (y.toNat : Int)) = false := by rw [bne_eq_false_iff_eq]; omega
                have HE : Hid (lowB x = y) := UInt8.toNat_inj.1 (HL.out.trans he)
                clear he
                go_wp2
                exact ⟨⟨k + 1, by omega, by go_num, HS.out HE.out⟩, by simp [intOf]; omega⟩
              · have a2 : ((x.toNat : Int) != (y.toNat : Int)) = true := by rw [bne_iff_ne]; omega
                have HE : Hid (X = (false, l, 0)) := kN.out (fun q => he (by rw [← HA.out q]; exact HL.out.symm))
                clear he
                go_wp2
                refine bodyPost_ret (v := .bool X.1) ?h rfl ⟨rfl, by rw [HE.out]; exact H, Tch.refl _ _⟩
                case h => simp [results, Tryz.results52, go_sem, HE.out]
        · obtain rfl : k = t.length := by omega
          have hX := kY.out (by rw [hd.out, List.take_length])
          subst hX
          go_wp2_with (first
            | (go_at_call 92; (with_reducible refine (lx_skip b N t.length l 0 _ _ H.out (by omega)).mono ?_); rintro e w2 ⟨rfl, hS, hT⟩))
          refine bodyPost_ret (v := .bool true) ?h rfl ⟨rfl, hS, hT⟩
          case h => simp [results, Tryz.results52, go_sem]
  · rw [foldS_err t l hc]
    have hc2 : ((c : Int) != 0) = true := by simp [hc]
    have hc3 : ¬ (c : Int) = 0 := by omega
    go_enter Tryz.func52, Tryz.ntmps52
    go_wp2
    refine bodyPost_ret (v := .bool false) ?h rfl ⟨rfl, H, Tch.refl _ _⟩
    case h => simp [results, Tryz.results52, go_sem]
end Go.Proofs.YtnkajjealkggdaaGreatDoor
end
