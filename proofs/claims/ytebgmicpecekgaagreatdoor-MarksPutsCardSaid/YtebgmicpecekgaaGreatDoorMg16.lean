/- Lemmas of this proof, laid together: MkR, MkS, MkT, MkU, AvA. -/
import Derived.Test.YtebgmicpecekgaaGreatDoorMg15
import Derived.Deep.CutBlock
import Derived.Deep.DeepCutAuto
import Derived.Deep.RegionWith
import Derived.Deep.LoopGhost
import Derived.Lib.RuneCount
set_option linter.unusedSimpArgs false
set_option linter.unusedVariables false
section
/- Marks: take: a text gone through. -/
namespace Go.Proofs.YtebgmicpecekgaaGreatDoor
open Go.RowKit Go.Maps
attribute [local go_sem] bs_size bs_extract bs_get bs_append bs_toList const_get
set_option maxHeartbeats 4000000
set_option maxRecDepth 100000
attribute [local irreducible] Calls
/-- What was taken so far. -/
structure TS where
  plain : List UInt8
  places : List Int
  runes : List Int
  ats : List Int
  broken : List Nat
  begun : Bool
  inside : Bool
/-- What a rune stands for. -/
def clsC (P G M N : Int) (r : Int) (n : Nat) : UInt8 :=
  if r = 65533 ∧ n = 1 then 120 else if r = M then 45 else if r = P then 46 else if r = 101 then 101 else
    if N ≤ r ∧ r ≤ N + 9 then UInt8.ofNat (48 + (r - N).toNat) else if G ≠ 0 ∧ r = G then 103 else 120
/-- One rune more. -/
def tkStep (P G M N : Int) (s : TS) (i : Nat) (r : Int) (n : Nat) : TS :=
  let c := clsC P G M N r n
  let br := if r = 65533 ∧ n = 1 then s.broken ++ [i] else s.broken
  let bg := s.begun || isD c
  if (bg && s.inside) = true then
    if c = 103 then { s with runes := s.runes ++ [r], ats := s.ats ++ [(i : Int)], broken := br, begun := bg }
    else if isD c = true then { s with plain := s.plain ++ [c], places := s.places ++ [(i : Int)], runes := s.runes ++ [r], ats := s.ats ++ [(i : Int)], broken := br, begun := bg }
    else { s with plain := s.plain ++ [c], places := s.places ++ [(i : Int)], ats := s.ats ++ [(i : Int)], broken := br, begun := bg, inside := false }
  else { s with plain := s.plain ++ [c], places := s.places ++ [(i : Int)], broken := br, begun := bg }
def tkRun (P G M N : Int) (l : List UInt8) : Nat → Nat → TS → TS
  | 0, _, s => s
  | f + 1, i, s => if i < l.length then tkRun P G M N l f (i + (Lib.decodeL (l.drop i)).2) (tkStep P G M N s i (Lib.decodeL (l.drop i)).1 (Lib.decodeL (l.drop i)).2) else s
def tk0 : TS := ⟨[], [], [], [], [], false, true⟩
/-- What is taken of a text, ahead of the two last places. -/
def tkV (P G M N : Int) (l : List UInt8) : TS := tkRun P G M N l l.length 0 tk0
/-- No list is longer than what was gone through. -/
structure TsLe (s : TS) (i : Nat) : Prop where
  a : s.plain.length ≤ i
  b : s.places.length ≤ i
  c : s.runes.length ≤ i
  d : s.ats.length ≤ i
theorem tkA {P G M N : Int} {s : TS} {i : Nat} {r : Int} {n : Nat} {br : List Nat} (hcl : clsC P G M N r n = 103) (hbr : (if r = 65533 ∧ n = 1 then s.broken ++ [i] else s.broken) = br) (hb : s.begun = true) (hi : s.inside = true) :
    tkStep P G M N s i r n = ⟨s.plain, s.places, s.runes ++ [r], s.ats ++ [(i : Int)], br, true, true⟩ := by
  unfold tkStep
  simp only [hcl, hbr, hb, hi]
  rfl
theorem tkB {P G M N : Int} {s : TS} {i : Nat} {r : Int} {n : Nat} {c : UInt8} {br : List Nat} (hcl : clsC P G M N r n = c) (hd : isD c = true) (hbr : (if r = 65533 ∧ n = 1 then s.broken ++ [i] else s.broken) = br) (hi : s.inside = true) :
    tkStep P G M N s i r n = ⟨s.plain ++ [c], s.places ++ [(i : Int)], s.runes ++ [r], s.ats ++ [(i : Int)], br, true, true⟩ := by
  have h103 : ¬ c = 103 := fun e => by subst e; revert hd; decide
  unfold tkStep
  simp only [hcl, hbr, hd, hi, Bool.or_true, Bool.and_self, if_true, if_neg h103]
theorem tkC {P G M N : Int} {s : TS} {i : Nat} {r : Int} {n : Nat} {c : UInt8} {br : List Nat} (hcl : clsC P G M N r n = c) (hd : isD c = false) (h103 : c ≠ 103) (hbr : (if r = 65533 ∧ n = 1 then s.broken ++ [i] else s.broken) = br) (hb : s.begun = true) (hi : s.inside = true) :
    tkStep P G M N s i r n = ⟨s.plain ++ [c], s.places ++ [(i : Int)], s.runes, s.ats ++ [(i : Int)], br, true, false⟩ := by
  unfold tkStep
  simp only [hcl, hbr, hd, hb, hi, Bool.or_false, Bool.and_self, if_true, if_neg h103, Bool.false_eq_true, if_false]
theorem tkD {P G M N : Int} {s : TS} {i : Nat} {r : Int} {n : Nat} {c : UInt8} {br : List Nat} (hcl : clsC P G M N r n = c) (hbr : (if r = 65533 ∧ n = 1 then s.broken ++ [i] else s.broken) = br) (h : ((s.begun || isD c) && s.inside) = false) :
    tkStep P G M N s i r n = ⟨s.plain ++ [c], s.places ++ [(i : Int)], s.runes, s.ats, br, s.begun || isD c, s.inside⟩ := by
  unfold tkStep
  simp only [hcl, hbr, h, Bool.false_eq_true, if_false]
theorem tkDn {P G M N : Int} {s : TS} {i : Nat} {r : Int} {n : Nat} {c : UInt8} {br : List Nat} (hcl : clsC P G M N r n = c) (hd : isD c = false) (hbr : (if r = 65533 ∧ n = 1 then s.broken ++ [i] else s.broken) = br) (h : (s.begun && s.inside) = false) :
    tkStep P G M N s i r n = ⟨s.plain ++ [c], s.places ++ [(i : Int)], s.runes, s.ats, br, s.begun, s.inside⟩ := by
  have := tkD (s := s) (i := i) hcl hbr (by rw [hd, Bool.or_false]; exact h)
  rw [hd, Bool.or_false] at this
  exact this
theorem tkDd {P G M N : Int} {s : TS} {i : Nat} {r : Int} {n : Nat} {c : UInt8} {br : List Nat} (hcl : clsC P G M N r n = c) (hd : isD c = true) (hbr : (if r = 65533 ∧ n = 1 then s.broken ++ [i] else s.broken) = br) (h : s.inside = false) :
    tkStep P G M N s i r n = ⟨s.plain ++ [c], s.places ++ [(i : Int)], s.runes, s.ats, br, true, s.inside⟩ := by
  have := tkD (s := s) (i := i) hcl hbr (by rw [h, Bool.and_false])
  rw [hd, Bool.or_true] at this
  exact this
theorem and_t {a b : Bool} (h : (a && b) = true) : a = true ∧ b = true := by cases a <;> cases b <;> simp_all
theorem and_f {b : Bool} (h : (true && b) = false) : b = false := by cases b <;> simp_all
theorem tk1 {P G M N : Int} {s : TS} {i : Nat} {r : Int} {n : Nat} {br : List Nat} (hcl : clsC P G M N r n = 103) (hbr : (if r = 65533 ∧ n = 1 then s.broken ++ [i] else s.broken) = br) (hbg : (s.begun || isD 103) = true) (hi : s.inside = true) :
    tkStep P G M N s i r n = ⟨s.plain, s.places, s.runes ++ [r], s.ats ++ [(i : Int)], br, true, true⟩ :=
  tkA hcl hbr (by have h : isD 103 = false := by decide
                  rw [h, Bool.or_false] at hbg; exact hbg) hi
theorem tk2 {P G M N : Int} {s : TS} {i : Nat} {r : Int} {n : Nat} {c : UInt8} {br : List Nat} (hcl : clsC P G M N r n = c) (hbr : (if r = 65533 ∧ n = 1 then s.broken ++ [i] else s.broken) = br) (_hbg : (s.begun || isD c) = true) (hd : isD c = true) (hi : s.inside = true := by rfl) :
    tkStep P G M N s i r n = ⟨s.plain ++ [c], s.places ++ [(i : Int)], s.runes ++ [r], s.ats ++ [(i : Int)], br, true, true⟩ := tkB hcl hd hbr hi
theorem tk3 {P G M N : Int} {s : TS} {i : Nat} {r : Int} {n : Nat} {c : UInt8} {br : List Nat} (hcl : clsC P G M N r n = c) (hbr : (if r = 65533 ∧ n = 1 then s.broken ++ [i] else s.broken) = br) (hbg : (s.begun || isD c) = true) (hd : isD c = false) (h103 : c ≠ 103) (hi : s.inside = true := by rfl) :
    tkStep P G M N s i r n = ⟨s.plain ++ [c], s.places ++ [(i : Int)], s.runes, s.ats ++ [(i : Int)], br, true, false⟩ :=
  tkC hcl hd h103 hbr (by rw [hd, Bool.or_false] at hbg; exact hbg) hi
theorem tk4 {P G M N : Int} {s : TS} {i : Nat} {r : Int} {n : Nat} {c : UInt8} {br : List Nat} {bg : Bool} (hcl : clsC P G M N r n = c) (hbr : (if r = 65533 ∧ n = 1 then s.broken ++ [i] else s.broken) = br) (hbg : (s.begun || isD c) = bg) (h : (bg && s.inside) = false) :
    tkStep P G M N s i r n = ⟨s.plain ++ [c], s.places ++ [(i : Int)], s.runes, s.ats, br, bg, s.inside⟩ := by
  subst hbg
  exact tkD hcl hbr h
theorem tkStep_le {P G M N : Int} {s : TS} {i : Nat} (r : Int) {n : Nat} (h : TsLe s i) (hn : 1 ≤ n) : TsLe (tkStep P G M N s i r n) (i + n) := by
  obtain ⟨h1, h2, h3, h4⟩ := h
  unfold tkStep
  dsimp only
  split
  · split
    · exact ⟨by dsimp only; omega, by dsimp only; omega, by simp; omega, by simp; omega⟩
    · split
      · exact ⟨by simp; omega, by simp; omega, by simp; omega, by simp; omega⟩
      · exact ⟨by simp; omega, by simp; omega, by dsimp only; omega, by simp; omega⟩
  · exact ⟨by simp; omega, by simp; omega, by dsimp only; omega, by dsimp only; omega⟩
theorem Tak.mapped {W W' : World} {base t : Nat} {vb vp vr va : Value} {B mB mB' : Nat} {nb : List UInt8} {ps rs qs : List Int} {C C' : Int → Prop} (h : Tak W base t vb vp vr va B mB nb ps rs qs C) (hm : MapC W' B mB' C') (hg : W.grownBy W' (some B)) : Tak W' base t vb vp vr va B mB' nb ps rs qs C' := by
  obtain ⟨es, cl, hB⟩ := h.om.blk
  obtain ⟨v0, h0, hb⟩ := h.blk
  have hr : ∀ {e2 : TypeId} {v2 : Value} {n2 : Nat} {ys : List Value}, W.ownsRow base e2 1 v2 n2 ys → W'.ownsRow base e2 1 v2 n2 ys := fun h2 => own_keep h2 (fun g hgo => by
    obtain ⟨_, cur, h4⟩ := own_at_block h2 hgo
    exact hg.block g (own_blk_lt h2 hgo) (fun e => by cases e; rw [hB] at h4; cases h4))
  exact ⟨⟨v0, h0, (hg.block t h.lt (fun e => by cases e; rw [hB] at hb; cases hb)).trans hb⟩, hr h.ob, hr h.op, hr h.or, hr h.oa, hm, h.ap, h.tb, h.bb⟩
theorem mk_take (P G M N : Int) (A : Option Addr) (k c : Nat) (l : List UInt8) (hl : l.length ≤ 65536) (hN : 0 ≤ N ∧ N + 9 ≤ 1114111) (w : World) (hT : Lib.Utf8Tabs 1 2 w) (hg : 2 < w.heap.size) :
    Calls Tryz.prog 27 #[mkV P G M N A k c, .string (bs l)] w fun e w' => ∃ t vb vp vr va B mB, e = .returned (.pointer (some ⟨t, 0, none⟩)) ∧ Ext w w' ∧
      Hid (Tak w' (w.heap.size + 1) t vb vp vr va B mB (tkV P G M N l).plain ((tkV P G M N l).places ++ [(l.length : Int)]) (tkV P G M N l).runes ((tkV P G M N l).ats ++ [(l.length : Int)]) (fun z => ∃ b ∈ (tkV P G M N l).broken, (b : Int) = z)) ∧ Hid ((tkV P G M N l).plain = [] → vb = .slice none 0 0) := by
  have hmm := @run_makeMap Tryz.prog
  have e1 : Hid (Ext w (w.alloc (BoxM P G M N A k c))) := ext_alloc (ext_refl w) _
  have b1 := Lib.hid (MkAt.made w P G M N A k c)
  have HT := Lib.hid hT
  clear hT
  have hb1 : (w.alloc (BoxM P G M N A k c)).heap.size = w.heap.size + 1 := by simp
  have hb2 : ((w.alloc (BoxM P G M N A k c)).alloc (.map #[] 0)).heap.size = w.heap.size + 1 + 1 := by simp
  have T0 : Hid (Tak (((w.alloc (BoxM P G M N A k c)).alloc (.map #[] 0)).alloc (.cells #[.pointer none, .slice none 0 0, .slice none 0 0, .slice none 0 0, .slice none 0 0, .map (some (w.heap.size + 1))] 65)) (w.heap.size + 1) (w.heap.size + 1 + 1) (.slice none 0 0) (.slice none 0 0) (.slice none 0 0) (.slice none 0 0) (w.heap.size + 1) 0 [] [] [] [] (fun z => ∃ b ∈ ([] : List Nat), (b : Int) = z)) := by
    refine ⟨⟨_, .inl rfl, ?_⟩, ⟨rfl, .inl ⟨rfl, rfl⟩⟩, ⟨rfl, .inl ⟨rfl, rfl⟩⟩, ⟨rfl, .inl ⟨rfl, rfl⟩⟩, ⟨rfl, .inl ⟨rfl, rfl⟩⟩, ?_, (fun g hg => (by cases hg)), (by omega), (by omega)⟩
    · rw [← hb2]; show (Array.push _ _)[_]? = _; exact Array.getElem?_push_size
    · obtain ⟨D, h1, h2, h3⟩ := (MapC.made (w.alloc (BoxM P G M N A k c))).ext (ext_alloc (ext_refl _) (.cells #[.pointer none, .slice none 0 0, .slice none 0 0, .slice none 0 0, .slice none 0 0, .map (some (w.heap.size + 1))] 65))
      rw [hb1] at h1
      exact ⟨D, h1, h2, fun i c h => by rw [h3 i c h]; simp⟩
  have E0 : Hid (Ext (w.alloc (BoxM P G M N A k c)) (((w.alloc (BoxM P G M N A k c)).alloc (.map #[] 0)).alloc (.cells #[.pointer none, .slice none 0 0, .slice none 0 0, .slice none 0 0, .slice none 0 0, .map (some (w.heap.size + 1))] 65))) := ext_alloc (ext_alloc (ext_refl _) _) _
  obtain ⟨fin, hfin⟩ : ∃ fin, tkV P G M N l = fin := ⟨_, rfl⟩
  rw [hfin]
  have hut : ∀ W, Ext (w.alloc (BoxM P G M N A k c)) W → Lib.Utf8Tabs 1 2 W := fun W h => by
    have h2 : Ext w W := ext_trans e1.out h
    obtain ⟨a, b⟩ := HT.out
    exact ⟨fun c hc => (Below.cell (p := ⟨1, c, none⟩) h2 (by show 1 < w.heap.size; omega)).trans (a c hc), fun i hi => ⟨(Below.cell (p := ⟨2, 2 * i, none⟩) h2 (by show 2 < w.heap.size; omega)).trans (b i hi).1, (Below.cell (p := ⟨2, 2 * i + 1, none⟩) h2 (by show 2 < w.heap.size; omega)).trans (b i hi).2⟩⟩
  have HU := Lib.hid hut
  clear hut
  go_enter Tryz.func27, Tryz.ntmps27
  go_wp2
  go_loopg [6, 7, 8] l.length (fun gk v6 v7 v8 wr => ∃ (i : Nat) (s : TS) (vb vp vr va : Value) (mB fu : Nat), gk = l.length - i ∧ v6 = .bool s.begun ∧ v7 = .bool s.inside ∧ v8 = .int .i64 i ∧ i ≤ l.length ∧ mB ≤ i ∧
      Hid (Tak wr (w.heap.size + 1) (w.heap.size + 1 + 1) vb vp vr va (w.heap.size + 1) mB s.plain s.places s.runes s.ats (fun z => ∃ b ∈ s.broken, (b : Int) = z)) ∧ Hid (Ext (w.alloc (BoxM P G M N A k c)) wr) ∧ Hid (TsLe s i) ∧ Hid (s.plain = [] → vb = .slice none 0 0) ∧
      Hid (l.length ≤ i + fu ∧ tkRun P G M N l fu i s = fin))
  case atStart => exact ⟨0, tk0, _, _, _, _, 0, l.length, rfl, rfl, rfl, rfl, Nat.zero_le _, Nat.le_refl _, T0, E0, ⟨Nat.le_refl _, Nat.le_refl _, Nat.le_refl _, Nat.le_refl _⟩, fun _ => rfl, by omega, hfin⟩
  case round =>
    clear T0 E0 hfin
    obtain ⟨i, s, vb, vp, vr, va, mB, fu, rfl, rfl, rfl, rfl, hi, hmB, hTk, hE, hle, hem, hrun⟩ := hrel
    obtain ⟨spl, sps, srs, sqs, sbr, sbg, sin⟩ := s
    dsimp only at hTk hle hem hrun
    obtain ⟨x1, x2, x3, x4⟩ := hle.out
    dsimp only at x1 x2 x3 x4
    have hT1 := HU.out _ hE.out
    by_cases hlt : i < l.length
    · have hlt' : (i : Int) < (l.length : Int) := by omega
      have hne : l.drop i ≠ [] := fun e => by
        have := congrArg List.length e
        rw [List.length_drop] at this; simp at this; omega
      obtain ⟨r, n, hrn⟩ : ∃ r n, Lib.decodeL (l.drop i) = (r, n) := ⟨_, _, rfl⟩
      have hn1 : 1 ≤ n := by have := Lib.decodeL_width (l.drop i); rw [hrn] at this; exact this
      have hn2 : n ≤ l.length - i := by have := Lib.decodeL_le (l.drop i) hne; rw [hrn, List.length_drop] at this; exact this
      have hr1 : r ≤ 1114111 := by have := Lib.decodeL_rune (l.drop i); rw [hrn] at this; exact this
      have kd := Lib.hid (mk_decode (l.drop i) hne wr hT1)
      rw [hrn] at kd
      have hcl0 : ∀ s', tkStep P G M N ⟨spl, sps, srs, sqs, sbr, sbg, sin⟩ i (r : Int) n = s' → ∀ (wz : World) (vb vp vr va : Value) (mB : Nat), mB ≤ i + 1 →
          Hid (Tak wz (w.heap.size + 1) (w.heap.size + 1 + 1) vb vp vr va (w.heap.size + 1) mB s'.plain s'.places s'.runes s'.ats (fun z => ∃ b ∈ s'.broken, (b : Int) = z)) → Hid (Ext (w.alloc (BoxM P G M N A k c)) wz) → (s'.plain = [] → vb = .slice none 0 0) →
          ∃ (i' : Nat) (s2 : TS) (vb vp vr va : Value) (mB fu' : Nat), l.length - (i + n) = l.length - i' ∧ Value.bool s'.begun = .bool s2.begun ∧ Value.bool s'.inside = .bool s2.inside ∧ Value.int IntKind.i64 ((i : Int) + (n : Int)) = Value.int .i64 (i' : Int) ∧ i' ≤ l.length ∧ mB ≤ i' ∧
            Hid (Tak wz (w.heap.size + 1) (w.heap.size + 1 + 1) vb vp vr va (w.heap.size + 1) mB s2.plain s2.places s2.runes s2.ats (fun z => ∃ b ∈ s2.broken, (b : Int) = z)) ∧ Hid (Ext (w.alloc (BoxM P G M N A k c)) wz) ∧ Hid (TsLe s2 i') ∧ Hid (s2.plain = [] → vb = .slice none 0 0) ∧
            Hid (l.length ≤ i' + fu' ∧ tkRun P G M N l fu' i' s2 = fin) := by
        intro s' hs' wz vb vp vr va mB h1 h2 h3 h4
        obtain ⟨hf1, hf2⟩ := hrun.out
        obtain ⟨f0, rfl⟩ : ∃ f0, fu = f0 + 1 := ⟨fu - 1, by omega⟩
        have h5 : tkRun P G M N l f0 (i + n) (tkStep P G M N ⟨spl, sps, srs, sqs, sbr, sbg, sin⟩ i (r : Int) n) = fin := by
          have h6 := hf2
          rw [tkRun, if_pos hlt, hrn] at h6
          exact h6
        have h7 := tkStep_le (P := P) (G := G) (M := M) (N := N) (r : Int) hle.out hn1
        rw [hs'] at h5 h7
        exact ⟨i + n, s', vb, vp, vr, va, mB, f0, rfl, rfl, rfl, by go_num, by omega, by omega, h2, h3, h7, h4, by omega, h5⟩
      have HF := Lib.hid hcl0
      clear hcl0 hrun hle
      go_upto_block 2 with (first
        | (go_at_call 42; (with_reducible refine (kd.out).mono ?_); rintro e w1 ⟨rfl, hE1⟩))
      have hTk1 := Lib.hid (hTk.out.ext hE1)
      have hE2 := Lib.hid (ext_trans hE.out hE1)
      clear hTk hE hE1 kd hrn
      obtain ⟨cb, hcl⟩ : ∃ cb : UInt8, clsC P G M N (r : Int) n = cb := ⟨_, rfl⟩
      obtain ⟨br, hbr⟩ : ∃ br : List Nat, (if (r : Int) = 65533 ∧ n = 1 then sbr ++ [i] else sbr) = br := ⟨_, rfl⟩
      obtain ⟨bg, hbg⟩ : ∃ bg : Bool, (sbg || isD cb) = bg := ⟨_, rfl⟩
      have HCL := Lib.hid hcl
      have HBR := Lib.hid hbr
      have HBG := Lib.hid hbg
      clear hcl hbr hbg
      go_cut [6, 11] (fun v6 v11 wx => v6 = .bool bg ∧ v11 = .int .u8 cb.toNat ∧ ∃ mB', mB' ≤ i + 1 ∧ Hid (Tak wx (w.heap.size + 1) (w.heap.size + 1 + 1) vb vp vr va (w.heap.size + 1) mB' spl sps srs sqs (fun z => ∃ b ∈ br, (b : Int) = z)) ∧ Hid (Ext (w.alloc (BoxM P G M N A k c)) wx))
      case first =>
        go_upto_region 9 with fail
        obtain ⟨bk, hbk⟩ : ∃ bk : Bool, decide (r = 65533 ∧ n = 1) = bk := ⟨_, rfl⟩
        have HBK := Lib.hid hbk
        clear hbk
        go_cut [29] (fun v29 wx => v29 = .bool bk ∧ wx = w1)
        case first =>
          by_cases h31 : r = 65533
          · by_cases h34 : n = 1
            · have hb : bk = true := by rw [← HBK.out]; exact decide_eq_true ⟨h31, h34⟩
              have q31 : ((r : Int) == 65533) = true := by subst h31; rfl
              have q34 : ((n : Int) == 1) = true := by subst h34; rfl
              go_wp2
              go_meet
              case rel => exact ⟨by rw [hb], rfl⟩
            · have hb : bk = false := by rw [← HBK.out]; exact decide_eq_false (fun h => h34 h.2)
              have q31 : ((r : Int) == 65533) = true := by subst h31; rfl
              have q34 : ((n : Int) == 1) = false := by simp; omega
              go_wp2
              go_meet
              case rel => exact ⟨by rw [hb], rfl⟩
          · have hb : bk = false := by rw [← HBK.out]; exact decide_eq_false (fun h => h31 h.1)
            have q31 : ((r : Int) == 65533) = false := by simp; omega
            go_wp2
            go_meet
            case rel => exact ⟨by rw [hb], rfl⟩
        case rest =>
          obtain ⟨rfl, hw⟩ := hcut
          subst hw
          rename ∀ (a : Act) (w : World), Code.wp _ _ _ a w → _ => hK5
          refine hK5 _ _ ?_
          clear hK5
          obtain ⟨d1, d2, d3, d4, d5, dz⟩ := hTk1.out.cells
          obtain ⟨p0, p1, p2, p3, p4, pl⟩ := b1.out.ext hE2.out
          by_cases hbt : bk = true
          · subst hbt
            obtain ⟨h31, h34⟩ : r = 65533 ∧ n = 1 := of_decide_eq_true HBK.out
            have hbr : br = sbr ++ [i] := by rw [← HBR.out, if_pos ⟨by omega, h34⟩]
            have hc : cb = 120 := by rw [← HCL.out]; unfold clsC; rw [if_pos ⟨by omega, h34⟩]
            have hg1 : bg = sbg := by rw [← HBG.out, hc]; cases sbg <;> rfl
            subst hbr hc hg1
            obtain ⟨D, hown, hD, hat⟩ := hTk1.out.om
            have hwf : (Lit.int .i64 (i : Int)).wf = true := WalkArith.wf_i64 (by omega)
            have hwf2 : (Lit.int .i64 (n : Int)).wf = true := WalkArith.wf_i64 (by omega)
            have hn0 : (0 : Int) < (n : Int) := by omega
            clear h31 h34
            have HAT := Lib.hid hat
            clear hat
            go_wp2_with (first
              | (at_mapUpdate; refine wpList_mapUpdate_own _ rfl _ _ _ 63 rfl 3 3 int_law map_under _ (w.heap.size + 1) mB _ rfl hown (by unfold maxLen; omega) _ _ _ rfl rfl (keyOf_int_mk int_under hwf) _ [] (plainElem_int int_under hwf2) ?_; intro w2 hown2 hgrow2))
            go_meet
            have hM2 : MapC w2 (w.heap.size + 1) (mB + 1) (fun z => ∃ b ∈ sbr ++ [i], (b : Int) = z) := by
              refine ⟨_, hown2, put_map hD _ _, fun z cb h => ?_⟩
              rw [put_at hD (i : Int) (n : Int) hn0 HAT.out z cb h]
              simp only [List.mem_append, List.mem_singleton]
              constructor
              · rintro (⟨b, h1, h2⟩ | rfl)
                · exact ⟨b, .inl h1, h2⟩
                · exact ⟨i, .inr rfl, rfl⟩
              · rintro ⟨b, h1 | rfl, h2⟩
                · exact .inl ⟨b, h1, h2⟩
                · exact .inr h2.symm
            case rel => exact ⟨rfl, rfl, mB + 1, by omega, Lib.hid (hTk1.out.mapped hM2 hgrow2), Lib.hid ((Frm.grown (S := fun q => q = w.heap.size + 1) hgrow2 (fun q hq => by cases hq; rfl)).ext hE2.out (fun q hq => by subst hq; rw [hb1]; exact Nat.le_refl _))⟩
          · have hbf : bk = false := by simpa using hbt
            subst hbf
            have hnb : ¬ ((r : Int) = 65533 ∧ n = 1) := fun h => by have := of_decide_eq_false HBK.out; omega
            have hbr : br = sbr := by rw [← HBR.out, if_neg hnb]
            subst hbr
            have hcl2 : (if (r : Int) = M then (45 : UInt8) else if (r : Int) = P then 46 else if (r : Int) = 101 then 101 else if N ≤ (r : Int) ∧ (r : Int) ≤ N + 9 then UInt8.ofNat (48 + ((r : Int) - N).toNat) else if G ≠ 0 ∧ (r : Int) = G then 103 else 120) = cb := by
              rw [← HCL.out]; unfold clsC; rw [if_neg hnb]
            have HC2 := Lib.hid hcl2
            clear hcl2 HCL hbt
            by_cases hM : (r : Int) = M
            · have hc : cb = 45 := by rw [← HC2.out, if_pos hM]
              have hg1 : bg = sbg := by rw [← HBG.out, hc]; cases sbg <;> rfl
              subst hc hg1
              have q1 : ((r : Int) == M) = true := by simp [hM]
              go_wp2
              go_meet
              case rel => exact ⟨rfl, rfl, mB, by omega, hTk1, hE2⟩
            · have q1 : ((r : Int) == M) = false := by simp [hM]
              by_cases hP : (r : Int) = P
              · have hc : cb = 46 := by rw [← HC2.out, if_neg hM, if_pos hP]
                have hg1 : bg = sbg := by rw [← HBG.out, hc]; cases sbg <;> rfl
                subst hc hg1
                have q2 : ((r : Int) == P) = true := by simp [hP]
                go_wp2
                go_meet
                case rel => exact ⟨rfl, rfl, mB, by omega, hTk1, hE2⟩
              · have q2 : ((r : Int) == P) = false := by simp [hP]
                by_cases hX : (r : Int) = 101
                · have hc : cb = 101 := by rw [← HC2.out, if_neg hM, if_neg hP, if_pos hX]
                  have hg1 : bg = sbg := by rw [← HBG.out, hc]; cases sbg <;> rfl
                  subst hc hg1
                  have q3 : ((r : Int) == 101) = true := by simp [hX]
                  go_wp2
                  go_meet
                  case rel => exact ⟨rfl, rfl, mB, by omega, hTk1, hE2⟩
                · have q3 : ((r : Int) == 101) = false := by simp [hX]
                  have HC3 : Hid ((if N ≤ (r : Int) ∧ (r : Int) ≤ N + 9 then UInt8.ofNat (48 + ((r : Int) - N).toNat) else if G ≠ 0 ∧ (r : Int) = G then 103 else 120) = cb) := by
                    have h := HC2.out
                    rw [if_neg hM, if_neg hP, if_neg hX] at h
                    exact h
                  clear HC2
                  by_cases hD1 : N ≤ (r : Int)
                  · have q4 : decide (N ≤ (r : Int)) = true := by simp [hD1]
                    by_cases hD2 : (r : Int) ≤ N + 9
                    · have q5 : decide ((r : Int) ≤ N + 9) = true := by simp [hD2]
                      obtain ⟨hcn, hd⟩ : (cb.toNat : Int) = 48 + (r : Int) - N ∧ isD cb = true := by
                        obtain ⟨dg, hdg⟩ : ∃ dg : Nat, (r : Int) = N + dg := ⟨((r : Int) - N).toNat, by omega⟩
                        have hdg9 : dg ≤ 9 := by omega
                        have hc : cb = UInt8.ofNat (48 + dg) := by rw [← HC3.out, if_pos ⟨hD1, hD2⟩]; congr 2; omega
                        have hcn : cb.toNat = 48 + dg := by rw [hc]; simp [UInt8.toNat_ofNat']; omega
                        exact ⟨by omega, by simp [isD]; constructor <;> omega⟩
                      have hg1 : bg = true := by rw [← HBG.out, hd, Bool.or_true]
                      have HCN := Lib.hid hcn
                      clear hcn hd
                      subst hg1
                      go_wp2
                      go_meet
                      case rel => exact ⟨rfl, congrArg (Value.int .u8) HCN.out.symm, mB, by omega, hTk1, hE2⟩
                    · have q5 : decide ((r : Int) ≤ N + 9) = false := by simp; omega
                      have HC4 : Hid ((if G ≠ 0 ∧ (r : Int) = G then 103 else 120) = cb) := by
                        have h := HC3.out
                        rw [if_neg (fun h => hD2 (by omega))] at h
                        exact h
                      clear HC3
                      by_cases hG0 : G = 0
                      · have hc : cb = 120 := by rw [← HC4.out, if_neg (fun h => h.1 hG0)]
                        have hg1 : bg = sbg := by rw [← HBG.out, hc]; cases sbg <;> rfl
                        subst hc hg1
                        have q6 : (G != 0) = false := by simp [hG0]
                        clear hG0 HC4
                        go_wp2
                        go_meet
                        case rel => exact ⟨rfl, rfl, mB, by omega, hTk1, hE2⟩
                      · have q6 : (G != 0) = true := by simp [hG0]
                        by_cases hG : (r : Int) = G
                        · have hc : cb = 103 := by rw [← HC4.out, if_pos ⟨hG0, hG⟩]
                          have hg1 : bg = sbg := by rw [← HBG.out, hc]; cases sbg <;> rfl
                          subst hc hg1
                          have q7 : ((r : Int) == G) = true := by simp [hG]
                          clear hG hG0 HC4
                          go_wp2
                          go_meet
                          case rel => exact ⟨rfl, rfl, mB, by omega, hTk1, hE2⟩
                        · have hc : cb = 120 := by rw [← HC4.out, if_neg (fun h => hG h.2)]
                          have hg1 : bg = sbg := by rw [← HBG.out, hc]; cases sbg <;> rfl
                          subst hc hg1
                          have q7 : ((r : Int) == G) = false := by simp [hG]
                          go_wp2
                          go_meet
                          case rel => exact ⟨rfl, rfl, mB, by omega, hTk1, hE2⟩
                  · have q4 : decide (N ≤ (r : Int)) = false := by simp; omega
                    have HC4 : Hid ((if G ≠ 0 ∧ (r : Int) = G then 103 else 120) = cb) := by
                      have h := HC3.out
                      rw [if_neg (fun h => hD1 (by omega))] at h
                      exact h
                    clear HC3
                    by_cases hG0 : G = 0
                    · have hc : cb = 120 := by rw [← HC4.out, if_neg (fun h => h.1 hG0)]
                      have hg1 : bg = sbg := by rw [← HBG.out, hc]; cases sbg <;> rfl
                      subst hc hg1
                      have q6 : (G != 0) = false := by simp [hG0]
                      clear hG0 HC4
                      go_wp2
                      go_meet
                      case rel => exact ⟨rfl, rfl, mB, by omega, hTk1, hE2⟩
                    · have q6 : (G != 0) = true := by simp [hG0]
                      by_cases hG : (r : Int) = G
                      · have hc : cb = 103 := by rw [← HC4.out, if_pos ⟨hG0, hG⟩]
                        have hg1 : bg = sbg := by rw [← HBG.out, hc]; cases sbg <;> rfl
                        subst hc hg1
                        have q7 : ((r : Int) == G) = true := by simp [hG]
                        clear hG hG0 HC4
                        go_wp2
                        go_meet
                        case rel => exact ⟨rfl, rfl, mB, by omega, hTk1, hE2⟩
                      · have hc : cb = 120 := by rw [← HC4.out, if_neg (fun h => hG h.2)]
                        have hg1 : bg = sbg := by rw [← HBG.out, hc]; cases sbg <;> rfl
                        subst hc hg1
                        have q7 : ((r : Int) == G) = false := by simp [hG]
                        go_wp2
                        go_meet
                        case rel => exact ⟨rfl, rfl, mB, by omega, hTk1, hE2⟩
      case rest =>
        obtain ⟨rfl, rfl, mB', hmB', hTk2, hE3⟩ := hcut
        clear hTk1 hE2 hmB hmm HU hT1
        have hbt2 : (w.alloc (BoxM P G M N A k c)).heap.size ≤ w.heap.size + 1 + 1 := by rw [hb1]; omega
        obtain ⟨d1, d2, d3, d4, d5, dz⟩ := hTk2.out.cells
        have f2' := dz 2
        have f3' := dz 3
        have f4' := dz 4
        clear dz
        by_cases hins : (bg && sin) = true
        · have hb1' : bg = true := (and_t hins).1
          have hs1' : sin = true := (and_t hins).2
          subst hb1' hs1'
          clear hins
          by_cases h103 : cb = 103
          · subst h103
            have hst := tk1 (s := ⟨spl, sps, srs, sqs, sbr, sbg, true⟩) HCL.out HBR.out HBG.out rfl
            go_wp2_with (first
              | (at_builtin; refine push_intg rfl _ _ rfl _ rfl X11.out (Nat.le_of_eq hb1) (by have := T11.out.tb; have := T11.out.lt; omega) T11.out.oa rfl ((i : Int)) ⟨_, 0, none⟩ 1 rfl (by simp [go_sem, iV]) (by omega) (fun v12 w12 hE12 hO12 hK12 hL12 => ?_); obtain ⟨A12, q12, rfl⟩ := own_shape hO12.out; obtain ⟨⟨u12, g12, hb12⟩, hq1, hq2⟩ := T11.out.frame (W' := w12) T11.out.oa (by decide) hK12.out; clear hq1 hq2; have c121 : w12.cell? ⟨w.heap.size + 1 + 1, 1, none⟩ = some vb := (by rw [D2.cell_of_block hb12]; rfl); have c122 : w12.cell? ⟨w.heap.size + 1 + 1, 2, none⟩ = some vp := (by rw [D2.cell_of_block hb12]; rfl); have c123 : w12.cell? ⟨w.heap.size + 1 + 1, 3, none⟩ = some (.slice A11 (srs.length + 1) q11) := (by rw [D2.cell_of_block hb12]; rfl); have c124 : w12.cell? ⟨w.heap.size + 1 + 1, 4, none⟩ = some va := (by rw [D2.cell_of_block hb12]; rfl); have c125 : w12.cell? ⟨w.heap.size + 1 + 1, 5, none⟩ = some (.map (some (w.heap.size + 1))) := (by rw [D2.cell_of_block hb12]; rfl); have f12 : w12.frozen? ⟨w.heap.size + 1 + 1, 4, none⟩ = false := (D2.frozen_of_block hb12 4); have T12 := Lib.hid (T11.out.at hO12.out hK12.out hL12.out); have X12 := Lib.hid (ext_setCell hE12 (p := ⟨w.heap.size + 1 + 1, 4, none⟩) hbt2 (.slice A12 (sqs.length + 1) q12)); clear hE12 hO12 hK12 hL12 hb12 g12)
              | (at_builtin; refine push_i32h rfl _ _ rfl _ rfl hE3.out (Nat.le_of_eq hb1) (by have := hTk2.out.tb; have := hTk2.out.lt; omega) hTk2.out.or rfl ((r : Int)) ⟨_, 0, none⟩ 1 rfl (by simp [go_sem, rV]) (by omega) (fun v11 w11 hE11 hO11 hK11 hL11 => ?_); obtain ⟨A11, q11, rfl⟩ := own_shape hO11.out; obtain ⟨⟨u11, g11, hb11⟩, hq1, hq2⟩ := hTk2.out.frame (W' := w11) hTk2.out.or (by decide) hK11.out; clear hq1 hq2; have c111 : w11.cell? ⟨w.heap.size + 1 + 1, 1, none⟩ = some vb := (by rw [D2.cell_of_block hb11]; rfl); have c112 : w11.cell? ⟨w.heap.size + 1 + 1, 2, none⟩ = some vp := (by rw [D2.cell_of_block hb11]; rfl); have c113 : w11.cell? ⟨w.heap.size + 1 + 1, 3, none⟩ = some vr := (by rw [D2.cell_of_block hb11]; rfl); have c114 : w11.cell? ⟨w.heap.size + 1 + 1, 4, none⟩ = some va := (by rw [D2.cell_of_block hb11]; rfl); have c115 : w11.cell? ⟨w.heap.size + 1 + 1, 5, none⟩ = some (.map (some (w.heap.size + 1))) := (by rw [D2.cell_of_block hb11]; rfl); have f11 : w11.frozen? ⟨w.heap.size + 1 + 1, 3, none⟩ = false := (D2.frozen_of_block hb11 3); have T11 := Lib.hid (hTk2.out.runes hO11.out hK11.out hL11.out); have X11 := Lib.hid (ext_setCell hE11 (p := ⟨w.heap.size + 1 + 1, 3, none⟩) hbt2 (.slice A11 (srs.length + 1) q11)); clear hE11 hO11 hK11 hL11 hb11 g11))
            go_roundg (l.length - (i + n))
            case measure => omega
            case rel => exact HF.out _ hst _ _ _ _ _ _ (by omega) T12 X12 (by exact hem.out)
          · have q1 : ((cb.toNat : Int) == 103) = false := by
              have : cb.toNat ≠ 103 := fun h => h103 (UInt8.toNat.inj h)
              simp; omega
            by_cases hdg : isD cb = true
            · have hst := tk2 (s := ⟨spl, sps, srs, sqs, sbr, sbg, true⟩) HCL.out HBR.out HBG.out hdg
              obtain ⟨g1, g2⟩ : 48 ≤ cb.toNat ∧ cb.toNat ≤ 57 := by simp [isD] at hdg; exact hdg
              have q2 : decide ((48 : Int) ≤ (cb.toNat : Int)) = true := by simp; omega
              have q3 : decide ((cb.toNat : Int) ≤ 57) = true := by simp; omega
              go_wp2_with (first
                | (at_builtin; refine push_intg rfl _ _ rfl _ rfl X13.out (Nat.le_of_eq hb1) (by have := T13.out.tb; have := T13.out.lt; omega) T13.out.op rfl ((i : Int)) ⟨_, 0, none⟩ 1 rfl (by simp [go_sem, iV]) (by omega) (fun v14 w14 hE14 hO14 hK14 hL14 => ?_); obtain ⟨A14, q14, rfl⟩ := own_shape hO14.out; obtain ⟨⟨u14, g14, hb14⟩, hq1, hq2⟩ := T13.out.frame (W' := w14) T13.out.op (by decide) hK14.out; clear hq1 hq2; have c141 : w14.cell? ⟨w.heap.size + 1 + 1, 1, none⟩ = some vb13 := (by rw [D2.cell_of_block hb14]; rfl); have c142 : w14.cell? ⟨w.heap.size + 1 + 1, 2, none⟩ = some vp := (by rw [D2.cell_of_block hb14]; rfl); have c143 : w14.cell? ⟨w.heap.size + 1 + 1, 3, none⟩ = some (.slice A11 (srs.length + 1) q11) := (by rw [D2.cell_of_block hb14]; rfl); have c144 : w14.cell? ⟨w.heap.size + 1 + 1, 4, none⟩ = some (.slice A12 (sqs.length + 1) q12) := (by rw [D2.cell_of_block hb14]; rfl); have c145 : w14.cell? ⟨w.heap.size + 1 + 1, 5, none⟩ = some (.map (some (w.heap.size + 1))) := (by rw [D2.cell_of_block hb14]; rfl); have f14 : w14.frozen? ⟨w.heap.size + 1 + 1, 2, none⟩ = false := (D2.frozen_of_block hb14 2); have T14 := Lib.hid (T13.out.places hO14.out hK14.out hL14.out); have X14 := Lib.hid (ext_setCell hE14 (p := ⟨w.heap.size + 1 + 1, 2, none⟩) hbt2 (.slice A14 (sps.length + 1) q14)); clear hE14 hO14 hK14 hL14 hb14 g14)
                | (go_at_call 43; have kw := bl_WriteByte T12.out X12.out (Nat.le_of_eq hb1) (by omega) cb; (with_reducible refine kw.mono ?_); rintro e w13 ⟨rfl, hX13, vb13, T13⟩; have X13 := Lib.hid hX13; obtain ⟨c131, c132, c133, c134, c135, fz13⟩ := T13.out.cells; have f13 := fz13 2; clear fz13 hX13 kw)
                | (at_builtin; refine push_intg rfl _ _ rfl _ rfl X11.out (Nat.le_of_eq hb1) (by have := T11.out.tb; have := T11.out.lt; omega) T11.out.oa rfl ((i : Int)) ⟨_, 0, none⟩ 1 rfl (by simp [go_sem, iV]) (by omega) (fun v12 w12 hE12 hO12 hK12 hL12 => ?_); obtain ⟨A12, q12, rfl⟩ := own_shape hO12.out; obtain ⟨⟨u12, g12, hb12⟩, hq1, hq2⟩ := T11.out.frame (W' := w12) T11.out.oa (by decide) hK12.out; clear hq1 hq2; have c121 : w12.cell? ⟨w.heap.size + 1 + 1, 1, none⟩ = some vb := (by rw [D2.cell_of_block hb12]; rfl); have c122 : w12.cell? ⟨w.heap.size + 1 + 1, 2, none⟩ = some vp := (by rw [D2.cell_of_block hb12]; rfl); have c123 : w12.cell? ⟨w.heap.size + 1 + 1, 3, none⟩ = some (.slice A11 (srs.length + 1) q11) := (by rw [D2.cell_of_block hb12]; rfl); have c124 : w12.cell? ⟨w.heap.size + 1 + 1, 4, none⟩ = some va := (by rw [D2.cell_of_block hb12]; rfl); have c125 : w12.cell? ⟨w.heap.size + 1 + 1, 5, none⟩ = some (.map (some (w.heap.size + 1))) := (by rw [D2.cell_of_block hb12]; rfl); have f12 : w12.frozen? ⟨w.heap.size + 1 + 1, 4, none⟩ = false := (D2.frozen_of_block hb12 4); have T12 := Lib.hid (T11.out.at hO12.out hK12.out hL12.out); have X12 := Lib.hid (ext_setCell hE12 (p := ⟨w.heap.size + 1 + 1, 4, none⟩) hbt2 (.slice A12 (sqs.length + 1) q12)); clear hE12 hO12 hK12 hL12 hb12 g12)
                | (at_builtin; refine push_i32h rfl _ _ rfl _ rfl hE3.out (Nat.le_of_eq hb1) (by have := hTk2.out.tb; have := hTk2.out.lt; omega) hTk2.out.or rfl ((r : Int)) ⟨_, 0, none⟩ 1 rfl (by simp [go_sem, rV]) (by omega) (fun v11 w11 hE11 hO11 hK11 hL11 => ?_); obtain ⟨A11, q11, rfl⟩ := own_shape hO11.out; obtain ⟨⟨u11, g11, hb11⟩, hq1, hq2⟩ := hTk2.out.frame (W' := w11) hTk2.out.or (by decide) hK11.out; clear hq1 hq2; have c111 : w11.cell? ⟨w.heap.size + 1 + 1, 1, none⟩ = some vb := (by rw [D2.cell_of_block hb11]; rfl); have c112 : w11.cell? ⟨w.heap.size + 1 + 1, 2, none⟩ = some vp := (by rw [D2.cell_of_block hb11]; rfl); have c113 : w11.cell? ⟨w.heap.size + 1 + 1, 3, none⟩ = some vr := (by rw [D2.cell_of_block hb11]; rfl); have c114 : w11.cell? ⟨w.heap.size + 1 + 1, 4, none⟩ = some va := (by rw [D2.cell_of_block hb11]; rfl); have c115 : w11.cell? ⟨w.heap.size + 1 + 1, 5, none⟩ = some (.map (some (w.heap.size + 1))) := (by rw [D2.cell_of_block hb11]; rfl); have f11 : w11.frozen? ⟨w.heap.size + 1 + 1, 3, none⟩ = false := (D2.frozen_of_block hb11 3); have T11 := Lib.hid (hTk2.out.runes hO11.out hK11.out hL11.out); have X11 := Lib.hid (ext_setCell hE11 (p := ⟨w.heap.size + 1 + 1, 3, none⟩) hbt2 (.slice A11 (srs.length + 1) q11)); clear hE11 hO11 hK11 hL11 hb11 g11))
              go_roundg (l.length - (i + n))
              case measure => omega
              case rel => exact HF.out _ hst _ _ _ _ _ _ (by omega) T14 X14 (by intro h; simp at h)
            · have hdf : isD cb = false := by simpa using hdg
              have hst := tk3 (s := ⟨spl, sps, srs, sqs, sbr, sbg, true⟩) HCL.out HBR.out HBG.out hdf h103
              have hg : ¬ (48 ≤ cb.toNat ∧ cb.toNat ≤ 57) := by intro h; apply hdg; simp [isD]; exact h
              by_cases g1 : 48 ≤ cb.toNat
              · have g2 : ¬ cb.toNat ≤ 57 := fun h => hg ⟨g1, h⟩
                have q2 : decide ((48 : Int) ≤ (cb.toNat : Int)) = true := by simp; omega
                have q3 : decide ((cb.toNat : Int) ≤ 57) = false := by simp; omega
                go_wp2_with (first
                  | (at_builtin; refine push_intg rfl _ _ rfl _ rfl X12.out (Nat.le_of_eq hb1) (by have := T12.out.tb; have := T12.out.lt; omega) T12.out.op rfl ((i : Int)) ⟨_, 0, none⟩ 1 rfl (by simp [go_sem, iV]) (by omega) (fun v13 w13 hE13 hO13 hK13 hL13 => ?_); obtain ⟨A13, q13, rfl⟩ := own_shape hO13.out; obtain ⟨⟨u13, g13, hb13⟩, hq1, hq2⟩ := T12.out.frame (W' := w13) T12.out.op (by decide) hK13.out; clear hq1 hq2; have c131 : w13.cell? ⟨w.heap.size + 1 + 1, 1, none⟩ = some vb12 := (by rw [D2.cell_of_block hb13]; rfl); have c132 : w13.cell? ⟨w.heap.size + 1 + 1, 2, none⟩ = some vp := (by rw [D2.cell_of_block hb13]; rfl); have c133 : w13.cell? ⟨w.heap.size + 1 + 1, 3, none⟩ = some vr := (by rw [D2.cell_of_block hb13]; rfl); have c134 : w13.cell? ⟨w.heap.size + 1 + 1, 4, none⟩ = some (.slice A11 (sqs.length + 1) q11) := (by rw [D2.cell_of_block hb13]; rfl); have c135 : w13.cell? ⟨w.heap.size + 1 + 1, 5, none⟩ = some (.map (some (w.heap.size + 1))) := (by rw [D2.cell_of_block hb13]; rfl); have f13 : w13.frozen? ⟨w.heap.size + 1 + 1, 2, none⟩ = false := (D2.frozen_of_block hb13 2); have T13 := Lib.hid (T12.out.places hO13.out hK13.out hL13.out); have X13 := Lib.hid (ext_setCell hE13 (p := ⟨w.heap.size + 1 + 1, 2, none⟩) hbt2 (.slice A13 (sps.length + 1) q13)); clear hE13 hO13 hK13 hL13 hb13 g13)
                  | (go_at_call 43; have kw := bl_WriteByte T11.out X11.out (Nat.le_of_eq hb1) (by omega) cb; (with_reducible refine kw.mono ?_); rintro e w12 ⟨rfl, hX12, vb12, T12⟩; have X12 := Lib.hid hX12; obtain ⟨c121, c122, c123, c124, c125, fz12⟩ := T12.out.cells; have f12 := fz12 2; clear fz12 hX12 kw)
                  | (at_builtin; refine push_intg rfl _ _ rfl _ rfl hE3.out (Nat.le_of_eq hb1) (by have := hTk2.out.tb; have := hTk2.out.lt; omega) hTk2.out.oa rfl ((i : Int)) ⟨_, 0, none⟩ 1 rfl (by simp [go_sem, iV]) (by omega) (fun v11 w11 hE11 hO11 hK11 hL11 => ?_); obtain ⟨A11, q11, rfl⟩ := own_shape hO11.out; obtain ⟨⟨u11, g11, hb11⟩, hq1, hq2⟩ := hTk2.out.frame (W' := w11) hTk2.out.oa (by decide) hK11.out; clear hq1 hq2; have c111 : w11.cell? ⟨w.heap.size + 1 + 1, 1, none⟩ = some vb := (by rw [D2.cell_of_block hb11]; rfl); have c112 : w11.cell? ⟨w.heap.size + 1 + 1, 2, none⟩ = some vp := (by rw [D2.cell_of_block hb11]; rfl); have c113 : w11.cell? ⟨w.heap.size + 1 + 1, 3, none⟩ = some vr := (by rw [D2.cell_of_block hb11]; rfl); have c114 : w11.cell? ⟨w.heap.size + 1 + 1, 4, none⟩ = some va := (by rw [D2.cell_of_block hb11]; rfl); have c115 : w11.cell? ⟨w.heap.size + 1 + 1, 5, none⟩ = some (.map (some (w.heap.size + 1))) := (by rw [D2.cell_of_block hb11]; rfl); have f11 : w11.frozen? ⟨w.heap.size + 1 + 1, 4, none⟩ = false := (D2.frozen_of_block hb11 4); have T11 := Lib.hid (hTk2.out.at hO11.out hK11.out hL11.out); have X11 := Lib.hid (ext_setCell hE11 (p := ⟨w.heap.size + 1 + 1, 4, none⟩) hbt2 (.slice A11 (sqs.length + 1) q11)); clear hE11 hO11 hK11 hL11 hb11 g11))
                go_roundg (l.length - (i + n))
                case measure => omega
                case rel => exact HF.out _ hst _ _ _ _ _ _ (by omega) T13 X13 (by intro h; simp at h)
              · have q2 : decide ((48 : Int) ≤ (cb.toNat : Int)) = false := by simp; omega
                go_wp2_with (first
                  | (at_builtin; refine push_intg rfl _ _ rfl _ rfl X12.out (Nat.le_of_eq hb1) (by have := T12.out.tb; have := T12.out.lt; omega) T12.out.op rfl ((i : Int)) ⟨_, 0, none⟩ 1 rfl (by simp [go_sem, iV]) (by omega) (fun v13 w13 hE13 hO13 hK13 hL13 => ?_); obtain ⟨A13, q13, rfl⟩ := own_shape hO13.out; obtain ⟨⟨u13, g13, hb13⟩, hq1, hq2⟩ := T12.out.frame (W' := w13) T12.out.op (by decide) hK13.out; clear hq1 hq2; have c131 : w13.cell? ⟨w.heap.size + 1 + 1, 1, none⟩ = some vb12 := (by rw [D2.cell_of_block hb13]; rfl); have c132 : w13.cell? ⟨w.heap.size + 1 + 1, 2, none⟩ = some vp := (by rw [D2.cell_of_block hb13]; rfl); have c133 : w13.cell? ⟨w.heap.size + 1 + 1, 3, none⟩ = some vr := (by rw [D2.cell_of_block hb13]; rfl); have c134 : w13.cell? ⟨w.heap.size + 1 + 1, 4, none⟩ = some (.slice A11 (sqs.length + 1) q11) := (by rw [D2.cell_of_block hb13]; rfl); have c135 : w13.cell? ⟨w.heap.size + 1 + 1, 5, none⟩ = some (.map (some (w.heap.size + 1))) := (by rw [D2.cell_of_block hb13]; rfl); have f13 : w13.frozen? ⟨w.heap.size + 1 + 1, 2, none⟩ = false := (D2.frozen_of_block hb13 2); have T13 := Lib.hid (T12.out.places hO13.out hK13.out hL13.out); have X13 := Lib.hid (ext_setCell hE13 (p := ⟨w.heap.size + 1 + 1, 2, none⟩) hbt2 (.slice A13 (sps.length + 1) q13)); clear hE13 hO13 hK13 hL13 hb13 g13)
                  | (go_at_call 43; have kw := bl_WriteByte T11.out X11.out (Nat.le_of_eq hb1) (by omega) cb; (with_reducible refine kw.mono ?_); rintro e w12 ⟨rfl, hX12, vb12, T12⟩; have X12 := Lib.hid hX12; obtain ⟨c121, c122, c123, c124, c125, fz12⟩ := T12.out.cells; have f12 := fz12 2; clear fz12 hX12 kw)
                  | (at_builtin; refine push_intg rfl _ _ rfl _ rfl hE3.out (Nat.le_of_eq hb1) (by have := hTk2.out.tb; have := hTk2.out.lt; omega) hTk2.out.oa rfl ((i : Int)) ⟨_, 0, none⟩ 1 rfl (by simp [go_sem, iV]) (by omega) (fun v11 w11 hE11 hO11 hK11 hL11 => ?_); obtain ⟨A11, q11, rfl⟩ := own_shape hO11.out; obtain ⟨⟨u11, g11, hb11⟩, hq1, hq2⟩ := hTk2.out.frame (W' := w11) hTk2.out.oa (by decide) hK11.out; clear hq1 hq2; have c111 : w11.cell? ⟨w.heap.size + 1 + 1, 1, none⟩ = some vb := (by rw [D2.cell_of_block hb11]; rfl); have c112 : w11.cell? ⟨w.heap.size + 1 + 1, 2, none⟩ = some vp := (by rw [D2.cell_of_block hb11]; rfl); have c113 : w11.cell? ⟨w.heap.size + 1 + 1, 3, none⟩ = some vr := (by rw [D2.cell_of_block hb11]; rfl); have c114 : w11.cell? ⟨w.heap.size + 1 + 1, 4, none⟩ = some va := (by rw [D2.cell_of_block hb11]; rfl); have c115 : w11.cell? ⟨w.heap.size + 1 + 1, 5, none⟩ = some (.map (some (w.heap.size + 1))) := (by rw [D2.cell_of_block hb11]; rfl); have f11 : w11.frozen? ⟨w.heap.size + 1 + 1, 4, none⟩ = false := (D2.frozen_of_block hb11 4); have T11 := Lib.hid (hTk2.out.at hO11.out hK11.out hL11.out); have X11 := Lib.hid (ext_setCell hE11 (p := ⟨w.heap.size + 1 + 1, 4, none⟩) hbt2 (.slice A11 (sqs.length + 1) q11)); clear hE11 hO11 hK11 hL11 hb11 g11))
                go_roundg (l.length - (i + n))
                case measure => omega
                case rel => exact HF.out _ hst _ _ _ _ _ _ (by omega) T13 X13 (by intro h; simp at h)
        · have hst := tk4 (s := ⟨spl, sps, srs, sqs, sbr, sbg, sin⟩) HCL.out HBR.out HBG.out (by simpa using hins)
          cases bg with
          | true =>
            have hs0 : sin = false := and_f (by simpa using hins)
            subst hs0
            clear hins
            go_wp2_with (first
              | (at_builtin; refine push_intg rfl _ _ rfl _ rfl X11.out (Nat.le_of_eq hb1) (by have := T11.out.tb; have := T11.out.lt; omega) T11.out.op rfl ((i : Int)) ⟨_, 0, none⟩ 1 rfl (by simp [go_sem, iV]) (by omega) (fun v12 w12 hE12 hO12 hK12 hL12 => ?_); obtain ⟨A12, q12, rfl⟩ := own_shape hO12.out; obtain ⟨⟨u12, g12, hb12⟩, hq1, hq2⟩ := T11.out.frame (W' := w12) T11.out.op (by decide) hK12.out; clear hq1 hq2; have c121 : w12.cell? ⟨w.heap.size + 1 + 1, 1, none⟩ = some vb11 := (by rw [D2.cell_of_block hb12]; rfl); have c122 : w12.cell? ⟨w.heap.size + 1 + 1, 2, none⟩ = some vp := (by rw [D2.cell_of_block hb12]; rfl); have c123 : w12.cell? ⟨w.heap.size + 1 + 1, 3, none⟩ = some vr := (by rw [D2.cell_of_block hb12]; rfl); have c124 : w12.cell? ⟨w.heap.size + 1 + 1, 4, none⟩ = some va := (by rw [D2.cell_of_block hb12]; rfl); have c125 : w12.cell? ⟨w.heap.size + 1 + 1, 5, none⟩ = some (.map (some (w.heap.size + 1))) := (by rw [D2.cell_of_block hb12]; rfl); have f12 : w12.frozen? ⟨w.heap.size + 1 + 1, 2, none⟩ = false := (D2.frozen_of_block hb12 2); have T12 := Lib.hid (T11.out.places hO12.out hK12.out hL12.out); have X12 := Lib.hid (ext_setCell hE12 (p := ⟨w.heap.size + 1 + 1, 2, none⟩) hbt2 (.slice A12 (sps.length + 1) q12)); clear hE12 hO12 hK12 hL12 hb12 g12)
              | (go_at_call 43; have kw := bl_WriteByte hTk2.out hE3.out (Nat.le_of_eq hb1) (by omega) cb; (with_reducible refine kw.mono ?_); rintro e w11 ⟨rfl, hX11, vb11, T11⟩; have X11 := Lib.hid hX11; obtain ⟨c111, c112, c113, c114, c115, fz11⟩ := T11.out.cells; have f11 := fz11 2; clear fz11 hX11 kw))
            go_roundg (l.length - (i + n))
            case measure => omega
            case rel => exact HF.out _ hst _ _ _ _ _ _ (by omega) T12 X12 (by intro h; simp at h)
          | false =>
            clear hins
            go_wp2_with (first
              | (at_builtin; refine push_intg rfl _ _ rfl _ rfl X11.out (Nat.le_of_eq hb1) (by have := T11.out.tb; have := T11.out.lt; omega) T11.out.op rfl ((i : Int)) ⟨_, 0, none⟩ 1 rfl (by simp [go_sem, iV]) (by omega) (fun v12 w12 hE12 hO12 hK12 hL12 => ?_); obtain ⟨A12, q12, rfl⟩ := own_shape hO12.out; obtain ⟨⟨u12, g12, hb12⟩, hq1, hq2⟩ := T11.out.frame (W' := w12) T11.out.op (by decide) hK12.out; clear hq1 hq2; have c121 : w12.cell? ⟨w.heap.size + 1 + 1, 1, none⟩ = some vb11 := (by rw [D2.cell_of_block hb12]; rfl); have c122 : w12.cell? ⟨w.heap.size + 1 + 1, 2, none⟩ = some vp := (by rw [D2.cell_of_block hb12]; rfl); have c123 : w12.cell? ⟨w.heap.size + 1 + 1, 3, none⟩ = some vr := (by rw [D2.cell_of_block hb12]; rfl); have c124 : w12.cell? ⟨w.heap.size + 1 + 1, 4, none⟩ = some va := (by rw [D2.cell_of_block hb12]; rfl); have c125 : w12.cell? ⟨w.heap.size + 1 + 1, 5, none⟩ = some (.map (some (w.heap.size + 1))) := (by rw [D2.cell_of_block hb12]; rfl); have f12 : w12.frozen? ⟨w.heap.size + 1 + 1, 2, none⟩ = false := (D2.frozen_of_block hb12 2); have T12 := Lib.hid (T11.out.places hO12.out hK12.out hL12.out); have X12 := Lib.hid (ext_setCell hE12 (p := ⟨w.heap.size + 1 + 1, 2, none⟩) hbt2 (.slice A12 (sps.length + 1) q12)); clear hE12 hO12 hK12 hL12 hb12 g12)
              | (go_at_call 43; have kw := bl_WriteByte hTk2.out hE3.out (Nat.le_of_eq hb1) (by omega) cb; (with_reducible refine kw.mono ?_); rintro e w11 ⟨rfl, hX11, vb11, T11⟩; have X11 := Lib.hid hX11; obtain ⟨c111, c112, c113, c114, c115, fz11⟩ := T11.out.cells; have f11 := fz11 2; clear fz11 hX11 kw))
            go_roundg (l.length - (i + n))
            case measure => omega
            case rel => exact HF.out _ hst _ _ _ _ _ _ (by omega) T12 X12 (by intro h; simp at h)
    · have hil : i = l.length := by omega
      have hlt' : ¬ ((i : Int) < (l.length : Int)) := by omega
      have hfx : (⟨spl, sps, srs, sqs, sbr, sbg, sin⟩ : TS) = fin := by
        have h := hrun.out.2
        cases fu with
        | zero => rw [tkRun] at h; exact h
        | succ f => rw [tkRun, if_neg hlt] at h; exact h
      subst hfx
      dsimp only
      have hTk2 := hTk
      have hE3 := hE
      obtain ⟨d1, d2, d3, d4, d5, dz⟩ := hTk2.out.cells
      have f2' := dz 2
      have hbt2 : (w.alloc (BoxM P G M N A k c)).heap.size ≤ w.heap.size + 1 + 1 := by rw [hb1]; omega
      have HX := Lib.hid hil
      clear dz hTk hE hrun HU hT1 hil
      go_wp2_with (first
        | (at_builtin; refine push_intg rfl _ _ rfl _ rfl X11.out (Nat.le_of_eq hb1) (by have := T11.out.tb; have := T11.out.lt; omega) T11.out.oa rfl ((l.length : Int)) ⟨_, 0, none⟩ 1 rfl (by simp [go_sem, iV]) (by omega) (fun v12 w12 hE12 hO12 hK12 hL12 => ?_); obtain ⟨A12, q12, rfl⟩ := own_shape hO12.out; obtain ⟨⟨u12, g12, hb12⟩, hq1, hq2⟩ := T11.out.frame (W' := w12) T11.out.oa (by decide) hK12.out; clear hq1 hq2; have c121 : w12.cell? ⟨w.heap.size + 1 + 1, 1, none⟩ = some vb := (by rw [D2.cell_of_block hb12]; rfl); have c122 : w12.cell? ⟨w.heap.size + 1 + 1, 2, none⟩ = some (.slice A11 (sps.length + 1) q11) := (by rw [D2.cell_of_block hb12]; rfl); have c123 : w12.cell? ⟨w.heap.size + 1 + 1, 3, none⟩ = some vr := (by rw [D2.cell_of_block hb12]; rfl); have c124 : w12.cell? ⟨w.heap.size + 1 + 1, 4, none⟩ = some va := (by rw [D2.cell_of_block hb12]; rfl); have c125 : w12.cell? ⟨w.heap.size + 1 + 1, 5, none⟩ = some (.map (some (w.heap.size + 1))) := (by rw [D2.cell_of_block hb12]; rfl); have f12 : w12.frozen? ⟨w.heap.size + 1 + 1, 4, none⟩ = false := (D2.frozen_of_block hb12 4); have T12 := Lib.hid (T11.out.at hO12.out hK12.out hL12.out); have X12 := Lib.hid (ext_setCell hE12 (p := ⟨w.heap.size + 1 + 1, 4, none⟩) hbt2 (.slice A12 (sqs.length + 1) q12)); clear hE12 hO12 hK12 hL12 hb12 g12)
        | (at_builtin; refine push_intg rfl _ _ rfl _ rfl hE3.out (Nat.le_of_eq hb1) (by have := hTk2.out.tb; have := hTk2.out.lt; omega) hTk2.out.op rfl ((l.length : Int)) ⟨_, 0, none⟩ 1 rfl (by simp [go_sem, iV]) (by omega) (fun v11 w11 hE11 hO11 hK11 hL11 => ?_); obtain ⟨A11, q11, rfl⟩ := own_shape hO11.out; obtain ⟨⟨u11, g11, hb11⟩, hq1, hq2⟩ := hTk2.out.frame (W' := w11) hTk2.out.op (by decide) hK11.out; clear hq1 hq2; have c111 : w11.cell? ⟨w.heap.size + 1 + 1, 1, none⟩ = some vb := (by rw [D2.cell_of_block hb11]; rfl); have c112 : w11.cell? ⟨w.heap.size + 1 + 1, 2, none⟩ = some vp := (by rw [D2.cell_of_block hb11]; rfl); have c113 : w11.cell? ⟨w.heap.size + 1 + 1, 3, none⟩ = some vr := (by rw [D2.cell_of_block hb11]; rfl); have c114 : w11.cell? ⟨w.heap.size + 1 + 1, 4, none⟩ = some va := (by rw [D2.cell_of_block hb11]; rfl); have c115 : w11.cell? ⟨w.heap.size + 1 + 1, 5, none⟩ = some (.map (some (w.heap.size + 1))) := (by rw [D2.cell_of_block hb11]; rfl); have f11 : w11.frozen? ⟨w.heap.size + 1 + 1, 2, none⟩ = false := (D2.frozen_of_block hb11 2); have T11 := Lib.hid (hTk2.out.places hO11.out hK11.out hL11.out); have X11 := Lib.hid (ext_setCell hE11 (p := ⟨w.heap.size + 1 + 1, 2, none⟩) hbt2 (.slice A11 (sps.length + 1) q11)); clear hE11 hO11 hK11 hL11 hb11 g11))
      go_ret
      exact ⟨_, rfl, ext_trans e1.out X12.out, _, ⟨_, _, _, _, _, T12⟩, hem⟩
end Go.Proofs.YtebgmicpecekgaaGreatDoor
end
section
/- Marks: Take: what it answers. -/
namespace Go.Proofs.YtebgmicpecekgaaGreatDoor
open Go.RowKit Go.Maps
set_option maxHeartbeats 4000000
set_option maxRecDepth 100000
/-- The first place at which two rows part. -/
def misN : List Int → List Int → Nat → Option Nat
  | [], [], _ => none
  | [], _ :: _, i => some i
  | _ :: _, [], i => some i
  | a :: s, b :: t, i => if a = b then misN s t (i + 1) else some i
/-- Groups at the wrong places, or none. -/
def misA (o : Option Nat) (L : List Int) (p : List UInt8) : List UInt8 × Int × Int :=
  match o with
  | some i => ([], 231, L.getD i 0)
  | none => (p, 0, 0)
/-- What Take answers: the plain text, or the fault and its place. -/
def takeV (P G M N : Int) (xs : List Int) (l : List UInt8) : List UInt8 × Int × Int :=
  if rdy P G M N xs l.length ≠ 0 then ([], rdy P G M N xs l.length, 0) else
    if 0 ≤ (shpB (tkV P G M N l).plain).1 then
      (if ∃ b ∈ (tkV P G M N l).broken, (b : Int) = ((tkV P G M N l).places ++ [(l.length : Int)]).getD (shpB (tkV P G M N l).plain).1.toNat 0 then
        ([], 114, ((tkV P G M N l).places ++ [(l.length : Int)]).getD (shpB (tkV P G M N l).plain).1.toNat 0)
       else ([], 12, ((tkV P G M N l).places ++ [(l.length : Int)]).getD (shpB (tkV P G M N l).plain).1.toNat 0))
    else if (shpB (tkV P G M N l).plain).2.2 - (shpB (tkV P G M N l).plain).2.1 < (tkV P G M N l).runes.length then
      misA (misN (tkV P G M N l).runes (wholeN G N xs (((tkV P G M N l).plain.take (shpB (tkV P G M N l).plain).2.2).drop (shpB (tkV P G M N l).plain).2.1) (((tkV P G M N l).plain.take (shpB (tkV P G M N l).plain).2.2).drop (shpB (tkV P G M N l).plain).2.1).length) 0) ((tkV P G M N l).ats ++ [(l.length : Int)]) (tkV P G M N l).plain
    else ((tkV P G M N l).plain, 0, 0)
theorem tkRun_ind {P G M N : Int} {l : List UInt8} (Q : TS → Prop) (hs : ∀ s i r n, Q s → Q (tkStep P G M N s i r n)) : ∀ f i s, Q s → Q (tkRun P G M N l f i s)
  | 0, _, _, h => h
  | f + 1, i, s, h => by
    rw [tkRun]
    split
    · exact tkRun_ind Q hs f _ _ (hs _ _ _ _ h)
    · exact h
theorem tkRun_le {P G M N : Int} {l : List UInt8} : ∀ f i s, TsLe s i → i ≤ l.length → TsLe (tkRun P G M N l f i s) l.length
  | 0, i, s, h, hi => ⟨Nat.le_trans h.a hi, Nat.le_trans h.b hi, Nat.le_trans h.c hi, Nat.le_trans h.d hi⟩
  | f + 1, i, s, h, hi => by
    rw [tkRun]
    split
    · rename_i hlt
      have hne : l.drop i ≠ [] := fun e => by
        have := congrArg List.length e
        rw [List.length_drop] at this; simp at this; omega
      have h1 := Lib.decodeL_width (l.drop i)
      have h2 := Lib.decodeL_le (l.drop i) hne
      rw [List.length_drop] at h2
      exact tkRun_le f _ _ (tkStep_le _ h h1) (by omega)
    · exact ⟨Nat.le_trans h.a hi, Nat.le_trans h.b hi, Nat.le_trans h.c hi, Nat.le_trans h.d hi⟩
theorem tkV_le (P G M N : Int) (l : List UInt8) : TsLe (tkV P G M N l) l.length :=
  tkRun_le _ _ _ ⟨Nat.le_refl _, Nat.le_refl _, Nat.le_refl _, Nat.le_refl _⟩ (Nat.zero_le _)
theorem tkV_len (P G M N : Int) (l : List UInt8) : (tkV P G M N l).places.length = (tkV P G M N l).plain.length ∧ (tkV P G M N l).runes.length ≤ (tkV P G M N l).ats.length := by
  refine tkRun_ind (fun s => s.places.length = s.plain.length ∧ s.runes.length ≤ s.ats.length) (fun s i r n h => ?_) _ _ _ ⟨rfl, Nat.le_refl _⟩
  obtain ⟨h1, h2⟩ := h
  unfold tkStep
  dsimp only
  split
  · split
    · exact ⟨h1, by simp; omega⟩
    · split
      · exact ⟨by simp; omega, by simp; omega⟩
      · exact ⟨by simp; omega, by simp; omega⟩
  · exact ⟨by simp; omega, by simp; omega⟩
/-- All places lie in the text. -/
structure TsIn (s : TS) (n : Nat) : Prop where
  p : ∀ z ∈ s.places, 0 ≤ z ∧ z ≤ (n : Int)
  a : ∀ z ∈ s.ats, 0 ≤ z ∧ z ≤ (n : Int)
theorem in_snoc {L : List Int} {n i : Nat} (h : ∀ z ∈ L, 0 ≤ z ∧ z ≤ (n : Int)) (hi : i ≤ n) : ∀ z ∈ L ++ [(i : Int)], 0 ≤ z ∧ z ≤ (n : Int) := by
  intro z hz
  rcases List.mem_append.1 hz with h1 | h1
  · exact h z h1
  · rw [List.mem_singleton] at h1; subst h1; omega
theorem tkRun_in {P G M N : Int} {l : List UInt8} : ∀ f i s, TsIn s l.length → TsIn (tkRun P G M N l f i s) l.length
  | 0, _, _, h => h
  | f + 1, i, s, h => by
    rw [tkRun]
    split
    · rename_i hlt
      refine tkRun_in f _ _ ?_
      obtain ⟨h1, h2⟩ := h
      unfold tkStep
      dsimp only
      split
      · split
        · exact ⟨h1, in_snoc h2 (by omega)⟩
        · split
          · exact ⟨in_snoc h1 (by omega), in_snoc h2 (by omega)⟩
          · exact ⟨in_snoc h1 (by omega), in_snoc h2 (by omega)⟩
      · exact ⟨in_snoc h1 (by omega), h2⟩
    · exact h
theorem tkV_in (P G M N : Int) (l : List UInt8) : TsIn (tkV P G M N l) l.length := tkRun_in _ _ _ ⟨by simp [tk0], by simp [tk0]⟩
theorem misN_lt : ∀ (s t : List Int) (i j : Nat), misN s t i = some j → i ≤ j ∧ j ≤ i + s.length
  | [], [], _, _, h => by simp [misN] at h
  | [], _ :: _, i, j, h => by simp [misN] at h; simp; omega
  | _ :: _, [], i, j, h => by simp [misN] at h; simp; omega
  | a :: s, b :: t, i, j, h => by
    rw [misN] at h
    split at h
    · have := misN_lt s t (i + 1) j h
      simp; omega
    · simp at h; simp; omega
theorem misN_drop (s t : List Int) (i : Nat) (hs : i < s.length) (ht : i < t.length) : misN (s.drop i) (t.drop i) i = if s[i] = t[i] then misN (s.drop (i + 1)) (t.drop (i + 1)) (i + 1) else some i := by
  rw [List.drop_eq_getElem_cons hs, List.drop_eq_getElem_cons ht, misN]
theorem misN_short (s t : List Int) (i : Nat) (hs : i < s.length) (ht : t.length ≤ i) : misN (s.drop i) (t.drop i) i = some i := by
  rw [List.drop_eq_getElem_cons hs, List.drop_of_length_le ht, misN]
theorem misN_end (s t : List Int) (ht : s.length ≤ t.length) : misN (s.drop s.length) (t.drop s.length) s.length = if s.length < t.length then some s.length else none := by
  rw [List.drop_of_length_le (Nat.le_refl _)]
  split
  · rename_i h
    rw [List.drop_eq_getElem_cons h, misN]
  · rw [List.drop_of_length_le (by omega), misN]
theorem rowN_nil (l : List UInt8) (a : Nat) (h : l.length ≤ a) : rowN l a = 0 := by
  unfold rowN; rw [List.drop_of_length_le h]; rfl
theorem ptS_le (l : List UInt8) (a : Nat) (h : a ≤ l.length) : (ptS l a).1 ≤ l.length := by
  unfold ptS
  split
  · rename_i h1
    have : a < l.length := by
      rcases Nat.lt_or_ge a l.length with q | q
      · exact q
      · rw [List.getElem?_eq_none q] at h1; cases h1
    exact rowN_le l (a + 1) (by omega)
  · exact h
theorem exS_le (l : List UInt8) (a : Nat) (h : a ≤ l.length) : (exS l a).1 ≤ l.length := by
  unfold exS
  split
  · rename_i h1
    have h2 : a < l.length := by
      rcases Nat.lt_or_ge a l.length with q | q
      · exact q
      · rw [List.getElem?_eq_none q] at h1; cases h1
    dsimp only
    split
    · rename_i h3
      have : a + 1 < l.length := by
        rcases Nat.lt_or_ge (a + 1) l.length with q | q
        · exact q
        · rw [List.getElem?_eq_none q] at h3; cases h3
      exact rowN_le l (a + 2) (by omega)
    · exact rowN_le l (a + 1) (by omega)
  · exact h
theorem shpB_le (l : List UInt8) : (shpB l).1 ≤ l.length := by
  unfold shpB
  obtain ⟨f, hf, hfl⟩ : ∃ f, (if l[0]? = some 45 then 1 else 0) = f ∧ f ≤ l.length := by
    split
    · rename_i h
      cases l with
      | nil => simp at h
      | cons a t => exact ⟨1, rfl, by simp⟩
    · exact ⟨0, rfl, Nat.zero_le _⟩
  simp only [hf]
  have h1 := rowN_le l f hfl
  have h2 := ptS_le l _ h1
  have h3 := exS_le l _ h2
  split
  · dsimp only; omega
  · split
    · dsimp only; omega
    · split
      · dsimp only; omega
      · split
        · dsimp only; omega
        · dsimp only; omega
theorem shpB_m1 (l : List UInt8) : -1 ≤ (shpB l).1 := by
  have h : ∀ n : Nat, (-1 : Int) ≤ n := fun n => by omega
  unfold shpB
  obtain ⟨f, hf⟩ : ∃ f, (if l[0]? = some 45 then 1 else 0) = f := ⟨_, rfl⟩
  simp only [hf]
  split
  · exact h _
  · split
    · exact h _
    · split
      · exact h _
      · split
        · exact h _
        · exact Int.le_refl _
theorem TakR.ext {W W' : World} {base t : Nat} {vp vr va : Value} {B mB : Nat} {ps rs qs : List Int} {C : Int → Prop} (h : TakR W t vp vr va base B mB ps rs qs C) (he : Ext W W') : TakR W' t vp vr va base B mB ps rs qs C :=
  ⟨Nat.lt_of_lt_of_le h.lt he.size, (Below.cell (p := ⟨t, 2, none⟩) he h.lt).trans h.c2, (Below.cell (p := ⟨t, 3, none⟩) he h.lt).trans h.c3, (Below.cell (p := ⟨t, 4, none⟩) he h.lt).trans h.c4, (Below.cell (p := ⟨t, 5, none⟩) he h.lt).trans h.c5, own_ext h.op he, own_ext h.or he, own_ext h.oa he, h.om.ext he⟩
/-- An owned row that has an element: where it lies. -/
theorem own_get {w : World} {base : Nat} {e : TypeId} {v : Value} {n : Nat} {xs : List Value} (h : w.ownsRow base e 1 v n xs) (hn : 0 < n) : ∃ g c, v = .slice (some ⟨g, 0, none⟩) n c ∧ base ≤ g ∧ g < w.heap.size ∧ ∀ j x, xs[j]? = some x → w.cell? ⟨g, j, none⟩ = some x := by
  have hc := h
  rcases h.2 with ⟨_, hz⟩ | ⟨g, cap, cur, hv, hbg, hg, _⟩
  · omega
  · subst hv
    exact ⟨g, cap, rfl, hbg, (Array.getElem?_eq_some_iff.1 hg).1, fun j x hx => by
      have h1 := hc.cells rfl j x hx
      cases j with
      | zero => simpa [Addr.add] using h1
      | succ j => simpa [Addr.add] using h1⟩
end Go.Proofs.YtebgmicpecekgaaGreatDoor
end
section
/- Marks: Take of the program. -/
namespace Go.Proofs.YtebgmicpecekgaaGreatDoor
open Go.RowKit Go.Maps
attribute [local go_sem] bs_size bs_extract bs_get bs_append bs_toList const_get
set_option maxHeartbeats 4000000
set_option maxRecDepth 100000
attribute [local irreducible] Calls
theorem rdy_ok {P G M N : Int} {xs : List Int} {n : Nat} (h : rdy P G M N xs n = 0) : ckv P G M N xs = 0 ∧ n ≤ 65536 := by
  unfold rdy at h
  split at h
  · rename_i q; exact absurd h q
  · rename_i q
    split at h
    · cases h
    · exact ⟨by omega, by omega⟩
theorem ckv_N9 {P G M N : Int} {xs : List Int} {k : Nat} (hl : xs.length = k) (h : ckv P G M N xs = 0) : 0 ≤ N ∧ N + 9 ≤ 1114111 := by
  obtain ⟨h1, h2, _⟩ := szOk_of (k := k) hl h
  have := h2 (N + 9) (by unfold allR; simp; exact .inr (.inr (.inr (.inr ⟨9, by omega, rfl⟩))))
  unfold stdR at this
  omega
theorem mk_Take_early (P G M N : Int) (A : Option Addr) (k c : Nat) (xs : List Int) (l : List UInt8) (w : World) (hA : RdI w A k c xs) (h : rdy P G M N xs l.length ≠ 0) :
    Calls Tryz.prog 12 #[mkV P G M N A k c, .string (bs l)] w fun e w' => ∃ v, e = .returned (.tuple #[.string (bs (takeV P G M N xs l).1), v]) ∧ Ext w w' ∧ Hid (ErrIs w' v (takeV P G M N xs l).2.1 (takeV P G M N xs l).2.2) := by
  have e1 : Hid (Ext w (w.alloc (BoxM P G M N A k c))) := ext_alloc (ext_refl w) _
  have kr := Lib.hid (mk_ready P G M N A k c xs l _ (hA.ext e1.out))
  have ht : takeV P G M N xs l = ([], rdy P G M N xs l.length, 0) := by unfold takeV; rw [if_pos h]
  rw [ht]
  obtain ⟨y, hy⟩ : ∃ y, rdy P G M N xs l.length = y := ⟨_, rfl⟩
  rw [hy] at kr h ⊢
  clear ht hy hA
  go_enter Tryz.func12, Tryz.ntmps12
  go_wp2_with (first
    | (go_at_call 17; (with_reducible refine (kr.out).mono ?_); rintro e1 w1 ⟨v, rfl, hE1, hV⟩; obtain ⟨b, rfl, hb⟩ := errV_of hV.out h))
  refine bodyPost_ret (v := .tuple #[.string (bs []), _]) ?h rfl ⟨_, rfl, ext_trans e1.out hE1, hV⟩
  case h => simp [results, Tryz.results12, go_sem]; rfl
theorem mk_Take_bad (P G M N : Int) (A : Option Addr) (k c : Nat) (xs : List Int) (l : List UInt8) (w : World) (hT : Lib.Utf8Tabs 1 2 w) (hg : 2 < w.heap.size) (hA : RdI w A k c xs) (hr0 : rdy P G M N xs l.length = 0) (hb : 0 ≤ (shpB (tkV P G M N l).plain).1) :
    Calls Tryz.prog 12 #[mkV P G M N A k c, .string (bs l)] w fun e w' => ∃ v, e = .returned (.tuple #[.string (bs (takeV P G M N xs l).1), v]) ∧ Ext w w' ∧ Hid (ErrIs w' v (takeV P G M N xs l).2.1 (takeV P G M N xs l).2.2) := by
  have e1 : Hid (Ext w (w.alloc (BoxM P G M N A k c))) := ext_alloc (ext_refl w) _
  have b1 := Lib.hid (MkAt.made w P G M N A k c)
  have kr := Lib.hid (mk_ready P G M N A k c xs l _ (hA.ext e1.out))
  obtain ⟨hck, hl⟩ := rdy_ok hr0
  have hN := ckv_N9 hA.len hck
  have hle := tkV_le P G M N l
  have hin := in_snoc (tkV_in P G M N l).p (Nat.le_refl _)
  obtain ⟨hpl, hra⟩ := tkV_len P G M N l
  have hsb := shpB_le (tkV P G M N l).plain
  have kt := Lib.hid (fun (w' : World) (hw : Ext w w') => mk_take P G M N A k c l hl hN w' (by
    obtain ⟨a, b⟩ := hT
    exact ⟨fun c hc => (Below.cell (p := ⟨1, c, none⟩) hw (by show 1 < w.heap.size; omega)).trans (a c hc), fun i hi => ⟨(Below.cell (p := ⟨2, 2 * i, none⟩) hw (by show 2 < w.heap.size; omega)).trans (b i hi).1, (Below.cell (p := ⟨2, 2 * i + 1, none⟩) hw (by show 2 < w.heap.size; omega)).trans (b i hi).2⟩⟩) (Nat.lt_of_lt_of_le hg hw.size))
  have htv : takeV P G M N xs l = if ∃ b ∈ (tkV P G M N l).broken, (b : Int) = ((tkV P G M N l).places ++ [(l.length : Int)]).getD (shpB (tkV P G M N l).plain).1.toNat 0 then
        ([], 114, ((tkV P G M N l).places ++ [(l.length : Int)]).getD (shpB (tkV P G M N l).plain).1.toNat 0)
       else ([], 12, ((tkV P G M N l).places ++ [(l.length : Int)]).getD (shpB (tkV P G M N l).plain).1.toNat 0) := by
    unfold takeV; rw [if_neg (fun q => q hr0), if_pos hb]
  rw [hr0] at kr
  have hle2 := hle.a
  have hle3 := hle.b
  have hps : (tkV P G M N l).plain.length ≤ 1000000 := by omega
  have ksh := Lib.hid (fun w' => mk_shape (tkV P G M N l).plain hps w')
  obtain ⟨bad, f, e, hs⟩ : ∃ bad f e, shpB (tkV P G M N l).plain = (bad, f, e) := ⟨_, _, _, rfl⟩
  rw [hs] at htv ksh hb hsb
  dsimp only at htv hb hsb
  obtain ⟨bn, rfl⟩ : ∃ bn : Nat, bad = bn := ⟨bad.toNat, by omega⟩
  have hbn : (Int.toNat (bn : Int)) = bn := by omega
  rw [hbn] at htv
  obtain ⟨at_, hat⟩ : ∃ z, ((tkV P G M N l).places ++ [(l.length : Int)]).getD bn 0 = z := ⟨_, rfl⟩
  rw [hat] at htv
  have hgt : ((tkV P G M N l).places ++ [(l.length : Int)])[bn]? = some at_ := by
    have hlt : bn < ((tkV P G M N l).places ++ [(l.length : Int)]).length := by simp; omega
    rw [← hat, List.getD_eq_getElem?_getD, List.getElem?_eq_getElem hlt]; rfl
  have hpl2 : ((tkV P G M N l).places ++ [(l.length : Int)]).length = (tkV P G M N l).places.length + 1 := by simp
  have hrg := hin at_ (List.mem_of_getElem? hgt)
  have hwf : (Lit.int .i64 at_).wf = true := WalkArith.wf_i64 (by omega)
  clear hin
  obtain ⟨T, hTd⟩ : ∃ T, tkV P G M N l = T := ⟨_, rfl⟩
  rw [hTd] at htv
  obtain ⟨cd, hcd⟩ : ∃ cd : Int, cd = if ∃ b ∈ T.broken, (b : Int) = at_ then 114 else 12 := ⟨_, rfl⟩
  have htv2 : takeV P G M N xs l = ([], cd, at_) := by rw [htv, hcd]; split <;> rfl
  rw [htv2]
  have HCD := Lib.hid hcd
  clear htv2 hcd
  rw [hTd] at kt ksh hgt hle2 hle3 hpl hra hpl2 hsb hps
  have hPL := Lib.hid hpl2
  have HG := Lib.hid hgt
  have hb0 : (w.alloc (BoxM P G M N A k c)).heap.size = w.heap.size + 1 := by simp
  clear hTd hat htv hs hle hr0 hA hT hgt hpl2
  go_enter Tryz.func12, Tryz.ntmps12
  go_upto_if 36 with (first
    | (go_at_call 17; (with_reducible refine (kr.out).mono ?_); rintro e1 w1 ⟨v, rfl, hE1, hV⟩; obtain rfl := errV_no hV.out; obtain ⟨p0, p1, p2, p3, p4, pl⟩ := b1.out.ext hE1)
    | (go_at_call 27; (with_reducible refine (kt.out _ (ext_trans e1.out hE1)).mono ?_); rintro e2 w2 ⟨t, vb, vp, vr, va, B, mB, rfl, hE2, hTk, hem⟩)
    | (go_at_call 28; (with_reducible refine (bl_String hTk.out hE2 (Nat.le_succ _) hps hem.out).mono ?_); rintro e3 w3 ⟨rfl, hE3, hR⟩)
    | (go_at_call 18; (with_reducible refine (ksh.out _).mono ?_); rintro e4 w4 ⟨rfl, hE4⟩))
  have R4 := Lib.hid (hR.out.ext hE4)
  have hE5 := Lib.hid (ext_trans e1.out (ext_trans hE1 (ext_trans hE3 hE4)))
  clear hE2 hTk hem hE3 hR hE4 hE1 hV p0 p1 p2 p3 p4 pl kr kt ksh
  obtain ⟨gp, cp, rfl, hgp, hgl, hgc⟩ := own_get R4.out.op (by rw [hPL.out]; omega)
  obtain ⟨tl, r2, r3, r4, r5, -, -, -, om⟩ := R4.out
  have hcat : w4.cell? ⟨gp, bn, none⟩ = some (.int .i64 at_) := hgc bn _ (by rw [List.getElem?_map, HG.out]; rfl)
  rw [hPL.out] at r2
  obtain ⟨D, hown, hD, hmc⟩ := om
  have hbnl : (bn : Int) < ((T.places.length + 1 : Nat) : Int) := by omega
  clear hgc R4
  go_upto_if 50 with (first
    | (at_lookup; refine wpList_lookup_own_int _ rfl _ _ 63 rfl 3 3 .i64 int_law map_under int_under (int_zero _) B mB _ rfl hown _ _ rfl (keyOf_int_mk int_under hwf) ?_; intro cv hcv hcw))
  have hpos := hmc _ _ hcv
  clear hcv hmc hown hD hcw
  by_cases hbr : ∃ b ∈ T.broken, (b : Int) = at_
  · have hc50 : 0 < cv := hpos.2 hbr
    have hd50 : decide (0 < cv) = true := decide_eq_true hc50
    have hcd : cd = 114 := by rw [HCD.out, if_pos hbr]
    subst hcd
    go_wp2_with (first
      | (go_at_call 19; (with_reducible refine (mk_no 114 at_ (by decide) _).mono ?_); rintro e5 w5 ⟨v, rfl, hE6, hV⟩))
    refine bodyPost_ret (v := .tuple #[.string (bs []), _]) ?h rfl ⟨_, rfl, ext_trans hE5.out hE6, hV⟩
    case h => simp [results, Tryz.results12, go_sem]; rfl
  · have hc50 : ¬ 0 < cv := fun h => hbr (hpos.1 h)
    have hd50 : decide (0 < cv) = false := decide_eq_false hc50
    have hcd : cd = 12 := by rw [HCD.out, if_neg hbr]
    subst hcd
    go_wp2_with (first
      | (go_at_call 19; (with_reducible refine (mk_no 12 at_ (by decide) _).mono ?_); rintro e5 w5 ⟨v, rfl, hE6, hV⟩))
    refine bodyPost_ret (v := .tuple #[.string (bs []), _]) ?h rfl ⟨_, rfl, ext_trans hE5.out hE6, hV⟩
    case h => simp [results, Tryz.results12, go_sem]; rfl
end Go.Proofs.YtebgmicpecekgaaGreatDoor
end
section
/- Marks: Take of the program, where the text is a number. -/
namespace Go.Proofs.YtebgmicpecekgaaGreatDoor
open Go.RowKit Go.Maps
attribute [local go_sem] bs_size bs_extract bs_get bs_append bs_toList const_get
set_option maxHeartbeats 4000000
set_option maxRecDepth 100000
attribute [local irreducible] Calls
theorem mk_Take_main (P G M N : Int) (A : Option Addr) (k c : Nat) (xs : List Int) (l : List UInt8) (w : World) (hT : Lib.Utf8Tabs 1 2 w) (hg : 2 < w.heap.size) (hA : RdI w A k c xs) (hr0 : rdy P G M N xs l.length = 0) (hb : ¬ 0 ≤ (shpB (tkV P G M N l).plain).1) :
    Calls Tryz.prog 12 #[mkV P G M N A k c, .string (bs l)] w fun e w' => ∃ v, e = .returned (.tuple #[.string (bs (takeV P G M N xs l).1), v]) ∧ Ext w w' ∧ Hid (ErrIs w' v (takeV P G M N xs l).2.1 (takeV P G M N xs l).2.2) := by
  have e1 : Hid (Ext w (w.alloc (BoxM P G M N A k c))) := ext_alloc (ext_refl w) _
  have b1 := Lib.hid (MkAt.made w P G M N A k c)
  have kr := Lib.hid (mk_ready P G M N A k c xs l _ (hA.ext e1.out))
  obtain ⟨hck, hl⟩ := rdy_ok hr0
  have hN := ckv_N9 hA.len hck
  obtain ⟨-, -, -, hso⟩ := szOk_of hA.len hck
  have hle := tkV_le P G M N l
  obtain ⟨hpl, hra⟩ := tkV_len P G M N l
  have kt := Lib.hid (fun (w' : World) (hw : Ext w w') => mk_take P G M N A k c l hl hN w' (by
    obtain ⟨a, b⟩ := hT
    exact ⟨fun c hc => (Below.cell (p := ⟨1, c, none⟩) hw (by show 1 < w.heap.size; omega)).trans (a c hc), fun i hi => ⟨(Below.cell (p := ⟨2, 2 * i, none⟩) hw (by show 2 < w.heap.size; omega)).trans (b i hi).1, (Below.cell (p := ⟨2, 2 * i + 1, none⟩) hw (by show 2 < w.heap.size; omega)).trans (b i hi).2⟩⟩) (Nat.lt_of_lt_of_le hg hw.size))
  rw [hr0] at kr
  have hle2 := hle.a
  have hle3 := hle.c
  have hps : (tkV P G M N l).plain.length ≤ 1000000 := by omega
  have ksh := Lib.hid (fun w' => mk_shape (tkV P G M N l).plain hps w')
  have hmin := shpB_m1 (tkV P G M N l).plain
  obtain ⟨bad, f, e, hs⟩ : ∃ bad f e, shpB (tkV P G M N l).plain = (bad, f, e) := ⟨_, _, _, rfl⟩
  have hbm : bad = -1 := by rw [hs] at hb hmin; dsimp only at hb hmin; omega
  subst hbm
  obtain ⟨hf1, hfe, hel, -, hdg, -⟩ := shp_ok hs
  have htv : takeV P G M N xs l = if e - f < (tkV P G M N l).runes.length then
      misA (misN (tkV P G M N l).runes (wholeN G N xs (((tkV P G M N l).plain.take e).drop f) (((tkV P G M N l).plain.take e).drop f).length) 0) ((tkV P G M N l).ats ++ [(l.length : Int)]) (tkV P G M N l).plain
      else ((tkV P G M N l).plain, 0, 0) := by
    unfold takeV; rw [if_neg (fun q => q hr0), if_neg hb, hs]
  rw [hs] at ksh
  have hdd := drop_isD hdg hel
  obtain ⟨T, hTd⟩ : ∃ T, tkV P G M N l = T := ⟨_, rfl⟩
  rw [hTd] at kt ksh hle2 hle3 hpl hra hps htv hdd hel
  obtain ⟨d, hd⟩ : ∃ d, (T.plain.take e).drop f = d := ⟨_, rfl⟩
  have hdl : d.length = e - f := by rw [← hd]; simp; omega
  rw [hd] at htv hdd
  have hexd : (bs T.plain).extract f e = bs d := by rw [bs_extract, hd]
  have kw := Lib.hid (fun (w' : World) (hw : Ext w w') => mk_whole P G M N A k c xs d w' (hA.ext hw) hso ⟨hN.1, by omega⟩ (by omega) hdd)
  have hwl := wholeN_len G N xs d d.length
  have hw0 : 0 < (wholeN G N xs d d.length).length := by
    obtain ⟨m, hm⟩ : ∃ m, d.length = m + 1 := ⟨d.length - 1, by omega⟩
    rw [hm, wholeN]; simp; omega
  obtain ⟨L, hL⟩ : ∃ L, wholeN G N xs d d.length = L := ⟨_, rfl⟩
  rw [hL] at kw htv hwl hw0
  clear hs hb hmin hdd hso hT hA hck hr0 hTd hdg hL hle
  have hb0 : (w.alloc (BoxM P G M N A k c)).heap.size = w.heap.size + 1 := by simp
  by_cases hgr : e - f < T.runes.length
  · rw [if_pos hgr] at htv
    obtain ⟨rt, rc, ra, hres⟩ : ∃ rt rc ra, takeV P G M N xs l = (rt, rc, ra) := ⟨_, _, _, rfl⟩
    rw [hres] at htv ⊢
    have HTV := Lib.hid htv
    clear htv hres
    go_enter Tryz.func12, Tryz.ntmps12
    go_upto_if 36 with (first
      | (go_at_call 17; (with_reducible refine (kr.out).mono ?_); rintro e1 w1 ⟨v, rfl, hE1, hV⟩; obtain rfl := errV_no hV.out; obtain ⟨p0, p1, p2, p3, p4, pl⟩ := b1.out.ext hE1)
      | (go_at_call 27; (with_reducible refine (kt.out _ (ext_trans e1.out hE1)).mono ?_); rintro e2 w2 ⟨t, vb, vp, vr, va, B, mB, rfl, hE2, hTk, hem⟩)
      | (go_at_call 28; (with_reducible refine (bl_String hTk.out hE2 (Nat.le_succ _) hps hem.out).mono ?_); rintro e3 w3 ⟨rfl, hE3, hR⟩)
      | (go_at_call 18; (with_reducible refine (ksh.out _).mono ?_); rintro e4 w4 ⟨rfl, hE4⟩))
    have R4 := Lib.hid (hR.out.ext hE4)
    have hE5 := Lib.hid (ext_trans e1.out (ext_trans hE1 (ext_trans hE3 hE4)))
    have hEb := Lib.hid (ext_trans hE1 (ext_trans hE3 hE4))
    clear hE2 hTk hem hE3 hR hE4 hE1 hV p0 p1 p2 p3 p4 pl kr kt ksh
    have hgr2 : (e : Int) - (f : Int) < (T.runes.length : Int) := by omega
    obtain ⟨gr, cr, rfl, hgr3, hgr4, hgrc⟩ := own_get R4.out.or (by omega)
    obtain ⟨tl, r2, r3, r4, r5, -, -, -, -⟩ := R4.out
    obtain ⟨p0, p1, p2, p3, p4, pl⟩ := b1.out.ext hEb.out
    have HGR := Lib.hid hgrc
    clear hgrc hgr
    have hfe2 : f ≤ e := by omega
    go_upto_region 13 with fail
    go_cut [13] (fun v13 wx => Hid (OwnR wx w4.heap.size v13 L.length L) ∧ Hid (Ext w4 wx))
    case first =>
      go_region_with (first
        | (go_at_call 20; (with_reducible refine (kw.out _ (ext_drew hE5.out)).mono ?_); rintro e5 w5 ⟨vw, rfl, hE6, hW⟩))
      all_goals
        go_wp2
        go_meet
        exact ⟨hW, Lib.hid (ext_trans (ext_drew (ext_refl _)) hE6)⟩
    case rest =>
      obtain ⟨hW, hE6⟩ := hcut
      obtain ⟨gL, cL, rfl, hgL1, hgL2, hgL3⟩ := own_get hW.out hw0
      have R5 := Lib.hid (R4.out.ext hE6.out)
      have hE7 := Lib.hid (ext_trans hE5.out hE6.out)
      have hgr5 : gr < wc.heap.size := Nat.lt_of_lt_of_le hgr4 hE6.out.size
      have hrc : ∀ i (hi : i < T.runes.length), wc.cell? ⟨gr, i, none⟩ = some (.int .i32 T.runes[i]) := fun i hi => by
        rw [Below.cell (p := ⟨gr, i, none⟩) hE6.out hgr4]
        exact HGR.out i _ (by rw [List.getElem?_map, List.getElem?_eq_getElem hi]; rfl)
      have hLc : ∀ i (hi : i < L.length), wc.cell? ⟨gL, i, none⟩ = some (.int .i32 L[i]) := fun i hi => hgL3 i _ (by rw [List.getElem?_map, List.getElem?_eq_getElem hi]; rfl)
      obtain ⟨ga, ca, rfl, hga1, hga2, hgac⟩ := own_get R5.out.oa (by simp)
      have hqc : ∀ i, i ≤ T.runes.length → wc.cell? ⟨ga, i, none⟩ = some (.int .i64 ((T.ats ++ [(l.length : Int)]).getD i 0)) := fun i hi => by
        have hlt : i < (T.ats ++ [(l.length : Int)]).length := by simp; omega
        exact hgac i _ (by rw [List.getElem?_map, List.getD_eq_getElem?_getD, List.getElem?_eq_getElem hlt]; rfl)
      have hal : ((T.ats ++ [(l.length : Int)]).length : Int) = T.ats.length + 1 := by simp
      obtain ⟨na, hna⟩ : ∃ na, (T.ats ++ [(l.length : Int)]).length = na := ⟨_, rfl⟩
      have hna2 : na = T.ats.length + 1 := by rw [← hna]; simp
      rw [hna] at R5
      obtain ⟨tl5, s2, s3, s4, s5, -, -, -, -⟩ := R5.out
      have HRC := Lib.hid hrc
      have HLC := Lib.hid hLc
      have HQC := Lib.hid hqc
      clear R4 R5 hW hgL3 hgac hrc hLc hqc hal hna r2 r3 r4 r5 p0 p1 p2 p3 p4 pl HGR kw hE5 hEb
      rename ∀ (a : Act) (w : World), Code.wp _ _ _ a w → _ => hK5
      refine hK5 _ _ ?_
      clear hK5
      go_wp2
      go_loopg [14, 15, 75] T.runes.length (fun gk v14 v15 v75 wr => ∃ i : Nat, gk = T.runes.length - i ∧ v75 = .int .i64 i ∧ i ≤ T.runes.length ∧ i ≤ L.length ∧ Hid (misN T.runes L 0 = misN (T.runes.drop i) (L.drop i) i) ∧ wr = wc)
      case atStart => exact ⟨0, rfl, rfl, Nat.zero_le _, Nat.zero_le _, rfl, rfl⟩
      case round =>
        obtain ⟨i, rfl, rfl, hi1, hi2, hmi, rfl⟩ := hrel
        have hq := HQC.out i hi1
        by_cases hlt : i < T.runes.length
        · have hlt' : (i : Int) < (T.runes.length : Int) := by omega
          have hci := HRC.out i hlt
          by_cases hge : L.length ≤ i
          · have hge' : (L.length : Int) ≤ (i : Int) := by omega
            have hr := HTV.out
            rw [hmi.out, misN_short _ _ _ hlt hge] at hr
            obtain ⟨rfl, rfl, hra⟩ : rt = [] ∧ rc = 231 ∧ ra = (T.ats ++ [(l.length : Int)]).getD i 0 := by
              simp only [misA, Prod.mk.injEq] at hr; exact hr
            rw [← hra] at hq
            clear hr hra hmi
            go_wp2_with (first
              | (go_at_call 19; (with_reducible refine (mk_no 231 ra (by decide) _).mono ?_); rintro e8 w8 ⟨v, rfl, hE8, hV⟩))
            refine bodyPost_ret (v := .tuple #[.string (bs []), _]) ?h rfl ⟨_, rfl, ext_trans hE7.out hE8, hV⟩
            case h => simp [results, Tryz.results12, go_sem]; rfl
          · have hge' : ¬ (L.length : Int) ≤ (i : Int) := by omega
            have hli : i < L.length := by omega
            have hcl := HLC.out i hli
            have hms := misN_drop T.runes L i hlt hli
            obtain ⟨x, hx⟩ : ∃ x, T.runes[i] = x := ⟨_, rfl⟩
            obtain ⟨y, hy⟩ : ∃ y, L[i] = y := ⟨_, rfl⟩
            rw [hx] at hci hms
            rw [hy] at hcl hms
            by_cases hxy : x = y
            · rw [if_pos hxy, ← hmi.out] at hms
              have hb : (x != y) = false := by simp [hxy]
              have HMS := Lib.hid hms
              clear hms hx hy hmi hxy
              go_wp2
              go_roundg (T.runes.length - (i + 1))
              case measure => omega
              case rel => exact ⟨i + 1, rfl, by go_num, by omega, by omega, HMS, rfl⟩
            · rw [if_neg hxy, ← hmi.out] at hms
              have hb : (x != y) = true := by simp [hxy]
              have hr := HTV.out
              rw [hms] at hr
              obtain ⟨rfl, rfl, hra⟩ : rt = [] ∧ rc = 231 ∧ ra = (T.ats ++ [(l.length : Int)]).getD i 0 := by
                simp only [misA, Prod.mk.injEq] at hr; exact hr
              rw [← hra] at hq
              clear hr hra hmi hms hx hy hxy
              go_wp2_with (first
                | (go_at_call 19; (with_reducible refine (mk_no 231 ra (by decide) _).mono ?_); rintro e8 w8 ⟨v, rfl, hE8, hV⟩))
              refine bodyPost_ret (v := .tuple #[.string (bs []), _]) ?h rfl ⟨_, rfl, ext_trans hE7.out hE8, hV⟩
              case h => simp [results, Tryz.results12, go_sem]; rfl
        · have hie : i = T.runes.length := by omega
          have hlt' : ¬ (i : Int) < (T.runes.length : Int) := by omega
          have hr := HTV.out
          rw [hmi.out, hie, misN_end _ _ (by omega)] at hr
          rw [hie] at hq
          by_cases hsh : T.runes.length < L.length
          · have hsh' : (T.runes.length : Int) < (L.length : Int) := by omega
            rw [if_pos hsh] at hr
            obtain ⟨rfl, rfl, hra⟩ : rt = [] ∧ rc = 231 ∧ ra = (T.ats ++ [(l.length : Int)]).getD T.runes.length 0 := by
              simp only [misA, Prod.mk.injEq] at hr; exact hr
            rw [← hra] at hq
            clear hr hra hmi hie
            go_upto_region 21 with fail
            go_region_with (first
              | (go_at_call 19; (with_reducible refine (mk_no 231 ra (by decide) _).mono ?_); rintro e8 w8 ⟨v, rfl, hE8, hV⟩))
            all_goals
              go_wp2
              refine bodyPost_ret (v := .tuple #[.string (bs []), _]) ?h rfl ⟨_, rfl, ext_trans hE7.out (ext_trans (ext_drew (ext_refl _)) hE8), hV⟩
              case h => simp [results, Tryz.results12, go_sem]; rfl
          · have hsh' : ¬ (T.runes.length : Int) < (L.length : Int) := by omega
            rw [if_neg hsh] at hr
            obtain ⟨rfl, rfl, rfl⟩ : rt = T.plain ∧ rc = 0 ∧ ra = 0 := by
              simp only [misA, Prod.mk.injEq] at hr; exact hr
            clear hr hmi hie
            go_wp2
            refine bodyPost_ret (v := .tuple #[.string (bs T.plain), .nilIface]) ?h rfl ⟨_, rfl, hE7.out, .inl ⟨rfl, rfl⟩⟩
            case h => simp [results, Tryz.results12, go_sem]
  · rw [if_neg hgr] at htv
    rw [htv]
    clear htv kw
    have hgr2 : ¬ ((e : Int) - (f : Int) < (T.runes.length : Int)) := by omega
    go_enter Tryz.func12, Tryz.ntmps12
    go_upto_if 36 with (first
      | (go_at_call 17; (with_reducible refine (kr.out).mono ?_); rintro e1 w1 ⟨v, rfl, hE1, hV⟩; obtain rfl := errV_no hV.out; obtain ⟨p0, p1, p2, p3, p4, pl⟩ := b1.out.ext hE1)
      | (go_at_call 27; (with_reducible refine (kt.out _ (ext_trans e1.out hE1)).mono ?_); rintro e2 w2 ⟨t, vb, vp, vr, va, B, mB, rfl, hE2, hTk, hem⟩)
      | (go_at_call 28; (with_reducible refine (bl_String hTk.out hE2 (Nat.le_succ _) hps hem.out).mono ?_); rintro e3 w3 ⟨rfl, hE3, hR⟩)
      | (go_at_call 18; (with_reducible refine (ksh.out _).mono ?_); rintro e4 w4 ⟨rfl, hE4⟩))
    have R4 := Lib.hid (hR.out.ext hE4)
    have hE5 := Lib.hid (ext_trans e1.out (ext_trans hE1 (ext_trans hE3 hE4)))
    clear hE2 hTk hem hE3 hR hE4 hE1 hV p0 p1 p2 p3 p4 pl kr kt ksh
    obtain ⟨tl, r2, r3, r4, r5, -, orr, -, -⟩ := R4.out
    obtain ⟨Ar, cr, rfl⟩ := own_shape orr
    clear orr R4
    go_wp2
    refine bodyPost_ret (v := .tuple #[.string (bs T.plain), .nilIface]) ?h rfl ⟨_, rfl, hE5.out, .inl ⟨rfl, rfl⟩⟩
    case h => simp [results, Tryz.results12, go_sem]
theorem mk_Take (P G M N : Int) (A : Option Addr) (k c : Nat) (xs : List Int) (l : List UInt8) (w : World) (hT : Lib.Utf8Tabs 1 2 w) (hg : 2 < w.heap.size) (hA : RdI w A k c xs) :
    Calls Tryz.prog 12 #[mkV P G M N A k c, .string (bs l)] w fun e w' => ∃ v, e = .returned (.tuple #[.string (bs (takeV P G M N xs l).1), v]) ∧ Ext w w' ∧ Hid (ErrIs w' v (takeV P G M N xs l).2.1 (takeV P G M N xs l).2.2) := by
  by_cases h0 : rdy P G M N xs l.length = 0
  · by_cases hb : 0 ≤ (shpB (tkV P G M N l).plain).1
    · exact mk_Take_bad P G M N A k c xs l w hT hg hA h0 hb
    · exact mk_Take_main P G M N A k c xs l w hT hg hA h0 hb
  · exact mk_Take_early P G M N A k c xs l w hA h0
end Go.Proofs.YtebgmicpecekgaaGreatDoor
end
section
/- Marks: alive: the closed facts. -/
namespace Go.Proofs.YtebgmicpecekgaaGreatDoor
open Go.RowKit
set_option maxRecDepth 100000
theorem av_p1 : putV 44 46 45 48 [3] [45, 49, 50, 51, 52, 53, 54, 55, 46, 50, 53] = ([45, 49, 46, 50, 51, 52, 46, 53, 54, 55, 44, 50, 53], 0, 0) := by kernel_rfl
theorem av_t1 : takeV 44 46 45 48 [3] [45, 49, 46, 50, 51, 52, 46, 53, 54, 55, 44, 50, 53] = ([45, 49, 50, 51, 52, 53, 54, 55, 46, 50, 53], 0, 0) := by kernel_rfl
theorem av_p2 : putV 46 44 8722 2406 [3, 2] [49, 50, 51, 52, 53, 54, 55, 56, 46, 57] = ([224, 165, 167, 44, 224, 165, 168, 224, 165, 169, 44, 224, 165, 170, 224, 165, 171, 44, 224, 165, 172, 224, 165, 173, 224, 165, 174, 46, 224, 165, 175], 0, 0) := by kernel_rfl
theorem av_t2 : takeV 44 46 45 48 [3] [49, 46, 50, 51, 52, 46] = ([], 231, 5) := by kernel_rfl
theorem av_w : Lib.runeCount (bs [97, 224, 165, 166, 255]) = 3 := by kernel_rfl
end Go.Proofs.YtebgmicpecekgaaGreatDoor
end
