/- Lemmas of this proof, laid together: LxB, LxC, LxG, LxH. -/
import Derived.Test.YtnkajjealkggdaaGreatDoorMg24
import Derived.Test.YtnkajjealkggdaaGreatDoorMg12
import Derived.Lib.LaidU8
import Derived.Lib.OthersKept
set_option linter.unusedSimpArgs false
set_option linter.unusedVariables false
section
/- Lex, the program: faults, digits. -/
namespace Go.Proofs.YtnkajjealkggdaaGreatDoor
open Go.RowKit
attribute [local go_sem] bs_size bs_extract bs_get bs_append bs_toList const_get
attribute [local go_sem] sz2 sz3 sz4 sz5 sz6 sz7 sz8
set_option maxHeartbeats 4000000
set_option maxRecDepth 100000
attribute [local irreducible] Calls
abbrev rtyX (k : Nat) : Value := .agg #[.pointer (some ⟨9, k, none⟩)]
/-- What the walks ask of a world. -/
structure LxT (w : World) : Prop where
  tabs : Lib.Utf8Tabs 1 2 w
  et : w.cell? ⟨0, 0, none⟩ = some (.iface 142 (rtyX 35))
  tz : Tz w
  pw : Pw w
  er : ∃ te pe, w.cell? ⟨6, 0, none⟩ = some (.iface te pe)
theorem cell_ltX {w : World} {p : Addr} {v : Value} (h : w.cell? p = some v) : p.block < w.heap.size := by
  rcases Nat.lt_or_ge p.block w.heap.size with h1 | h1
  · exact h1
  · simp [World.cell?, Array.getElem?_eq_none h1] at h
theorem LxT.ext {w w' : World} (h : LxT w) (hE : Ext w w') : LxT w' := by
  obtain ⟨⟨a, b⟩, e, t, p, te, pe, r⟩ := h
  exact ⟨⟨fun c hc => (Below.cell (p := ⟨1, c, none⟩) hE (cell_ltX (a c hc))).trans (a c hc), fun i hi => ⟨(Below.cell (p := ⟨2, 2 * i, none⟩) hE (cell_ltX (b i hi).1)).trans (b i hi).1, (Below.cell (p := ⟨2, 2 * i + 1, none⟩) hE (cell_ltX (b i hi).2)).trans (b i hi).2⟩⟩,
    (Below.cell (p := ⟨0, 0, none⟩) hE (cell_ltX e)).trans e, t.ext hE, pw_ext p hE, te, pe, (Below.cell (p := ⟨6, 0, none⟩) hE (cell_ltX r)).trans r⟩
theorem lx_decode (l : List UInt8) (w : World) (hT : Lib.Utf8Tabs 1 2 w) :
    Calls Tryz.prog 56 #[.string (bs l)] w fun e w' => e = .returned (.tuple #[.int .i32 (Lib.decodeGo (bs l)).1, .int .i64 (Lib.decodeGo (bs l)).2]) ∧ Ext w w' := Tryz.utf8_DecodeRuneInString (bs l) w hT
theorem decGo_bs (l : List UInt8) (h : l ≠ []) : Lib.decodeGo (bs l) = Lib.decodeL l := by
  unfold Lib.decodeGo Lib.decodeL
  rw [bs_size, if_neg (fun e => h (List.eq_nil_of_length_eq_zero e))]
  rfl
theorem broken_go (l : List UInt8) : broken l = (decide ((Lib.decodeGo (bs l)).1 = 65533) && decide ((Lib.decodeGo (bs l)).2 = 1)) := by
  unfold broken
  by_cases h : l = []
  · subst h; rfl
  · rw [decGo_bs l h, decide_eq_true h, Bool.true_and, ← Bool.decide_and, decide_eq_decide]
    constructor
    · intro e; rw [e]; exact ⟨rfl, rfl⟩
    · rintro ⟨e1, e2⟩; exact Prod.ext e1 e2
theorem lx_fail (b N e : Nat) (l : List UInt8) (c : Nat) (W w : World) (h : Sc W w b N l c) (hT : LxT W) :
    Calls Tryz.prog 34 #[.pointer (some ⟨b, 0, none⟩), .int .i64 (e : Int)] w (ScQ W w b N (.tuple #[]) (failS e l c).2.1 (failS e l c).2.2) := by
  have H := Lib.hid h
  have kd := Lib.hid (fun w' hT => lx_decode l w' hT)
  have HT := Lib.hid hT
  have hbr := Lib.hid (broken_go l)
  obtain ⟨r, hr⟩ : ∃ r, (Lib.decodeGo (bs l)).1 = r := ⟨_, rfl⟩
  obtain ⟨n, hn⟩ : ∃ n, (Lib.decodeGo (bs l)).2 = n := ⟨_, rfl⟩
  rw [hr, hn] at kd hbr
  obtain ⟨hl, h0, h1, h2, f0, f1, f2, le, big, base, low⟩ := h
  clear hr hn hT
  by_cases hc : c = 0
  · subst hc
    have hs := Lib.hid (H.out.code e rfl)
    have hft : Hid (Tch b w (w.setCell ⟨b, 2, none⟩ (.int .i64 (e : Int)))) := (Tch.refl b w).set _ _
    have hset := Lib.hid (show failS e l 0 = ((), l, if broken l = true then 114 else e) from if_pos rfl)
    have k1 : Hid (∀ w', Ext (w.setCell ⟨b, 2, none⟩ (.int .i64 (e : Int))) w' → Sc W w' b N l e ∧ Tch b w w') := Lib.hid (fun w' h => ⟨hs.out.ext h, hft.out.trans (Tch.of h)⟩)
    by_cases h3 : r = 65533
    · have q3 : ((r : Int) == 65533) = true := by rw [beq_iff_eq]; omega
      by_cases h4 : n = 1
      · have q4 : ((n : Int) == 1) = true := by rw [beq_iff_eq]; omega
        rw [hset.out, hbr.out, decide_eq_true h3, decide_eq_true h4]
        clear h3 h4 hset hbr
        go_enter Tryz.func34, Tryz.ntmps34
        go_wp2_with (first
          | (go_at_call 56; (with_reducible refine (kd.out _ (HT.out.ext hs.out.base).tabs).mono ?_); rintro e9 w1 ⟨rfl, hE⟩; (have k9 := Lib.hid (k1.out _ hE)); obtain ⟨zl, z0, z1, z2, g0, g1, g2, -, -, -, -⟩ := k9.out.1))
        refine bodyPost_end (v := .tuple #[]) (by simp [results, Tryz.results34, go_sem]) rfl ⟨rfl, k9.out.1.code 114 rfl, k9.out.2.set _ _⟩
      · have q4 : ((n : Int) == 1) = false := by rw [beq_eq_false_iff_ne]; omega
        rw [hset.out, hbr.out, decide_eq_true h3, decide_eq_false h4]
        clear h3 h4 hset hbr
        go_enter Tryz.func34, Tryz.ntmps34
        go_wp2_with (first
          | (go_at_call 56; (with_reducible refine (kd.out _ (HT.out.ext hs.out.base).tabs).mono ?_); rintro e9 w1 ⟨rfl, hE⟩; (have k9 := Lib.hid (k1.out _ hE))))
        refine bodyPost_end (v := .tuple #[]) (by simp [results, Tryz.results34, go_sem]) rfl ⟨rfl, k9.out.1, k9.out.2⟩
    · have q3 : ((r : Int) == 65533) = false := by rw [beq_eq_false_iff_ne]; omega
      rw [hset.out, hbr.out, decide_eq_false h3]
      clear h3 hset hbr
      go_enter Tryz.func34, Tryz.ntmps34
      go_wp2_with (first
        | (go_at_call 56; (with_reducible refine (kd.out _ (HT.out.ext hs.out.base).tabs).mono ?_); rintro e9 w1 ⟨rfl, hE⟩; (have k9 := Lib.hid (k1.out _ hE))))
      refine bodyPost_end (v := .tuple #[]) (by simp [results, Tryz.results34, go_sem]) rfl ⟨rfl, k9.out.1, k9.out.2⟩
  · have e1 : failS e l c = ((), l, c) := if_neg hc
    rw [e1]
    have hc2 : ((c : Int) != 0) = true := by simp [hc]
    have hc3 : ¬ (c : Int) = 0 := by omega
    clear e1
    go_enter Tryz.func34, Tryz.ntmps34
    go_wp2
    refine bodyPost_ret (v := .tuple #[]) (by simp [results, Tryz.results34, go_sem]) rfl ⟨rfl, H, Tch.refl _ _⟩
end Go.Proofs.YtnkajjealkggdaaGreatDoor
end
section
/- Lex, the program: Digit. -/
namespace Go.Proofs.YtnkajjealkggdaaGreatDoor
open Go.RowKit
attribute [local go_sem] bs_size bs_extract bs_get bs_append bs_toList const_get
attribute [local go_sem] sz2 sz3 sz4 sz5 sz6 sz7 sz8
set_option maxHeartbeats 4000000
set_option maxRecDepth 100000
attribute [local irreducible] Calls
def zS : ByteArray := ⟨#[48, 217, 160, 219, 176, 223, 128, 224, 165, 166, 224, 167, 166, 224, 169, 166, 224, 185, 144, 225, 159, 160, 239, 188, 144, 240, 144, 146, 160, 240, 157, 159, 142]⟩
def zPos : List Nat := [0, 1, 3, 5, 7, 10, 13, 16, 19, 22, 25, 29, 33]
theorem zS_size : zS.size = 33 := by decide
theorem zS_at : ∀ j, j < 12 → zPos.getD j 0 < 33 ∧ Utf8.decode zS (zPos.getD j 0) = (zeroL.getD j 0, zPos.getD (j + 1) 0 - zPos.getD j 0) ∧ zPos.getD j 0 ≤ zPos.getD (j + 1) 0 ∧ zeroL.getD j 0 ≤ 200000 := by decide
def digV (r : Int) : Int × Bool := match digR r with
  | some d => ((d : Int), true)
  | none => (0, false)
theorem digIn_drop (r : Int) (j : Nat) (h : j < 12) : digIn r (zeroL.drop j) = if ((zeroL.getD j 0 : Nat) : Int) ≤ r ∧ r ≤ (zeroL.getD j 0 : Nat) + 9 then some (r - (zeroL.getD j 0 : Nat)).toNat else digIn r (zeroL.drop (j + 1)) := by
  have hl : j < zeroL.length := h
  rw [List.drop_eq_getElem_cons hl, digIn]
  have : zeroL.getD j 0 = zeroL[j] := by rw [List.getD_eq_getElem?_getD, List.getElem?_eq_getElem hl]; rfl
  rw [this]
theorem lx_Digit (r : Int) (hr : -2147483648 ≤ r ∧ r ≤ 2147483647) (w : World) :
    Calls Tryz.prog 21 #[.int .i32 r] w fun e w' => e = .returned (.tuple #[.int .i64 (digV r).1, .bool (digV r).2]) ∧ Ext w w' := by
  obtain ⟨X, hX⟩ : ∃ X, digV r = X := ⟨_, rfl⟩
  have hx0 : Hid (digR r = none → X = (0, false)) := fun h => by rw [← hX]; unfold digV; rw [h]
  have hx1 : Hid (∀ d, digR r = some d → X = ((d : Int), true)) := fun d h => by rw [← hX]; unfold digV; rw [h]
  rw [hX]
  clear hX
  go_enter Tryz.func21, Tryz.ntmps21
  go_wp2
  go_loopg [5] 12 (fun gk v5 wr => ∃ j : Nat, gk = 12 - j ∧ j ≤ 12 ∧ Hid (wr.heap[w.heap.size]? = some (.stringIter zS (zPos.getD j 0))) ∧ Hid (digR r = digIn r (zeroL.drop j)) ∧ Hid (Ext w wr))
  case atStart => exact ⟨0, rfl, Nat.zero_le _, World.iter_heap w zS 0, rfl, ext_alloc (ext_refl _) _⟩
  case round =>
    obtain ⟨j, rfl, hj, hit, hdr, hE⟩ := hrel
    by_cases hlt : j < 12
    · obtain ⟨hp, hdec, hple, hzb⟩ := zS_at j hlt
      have hdd := digIn_drop r j hlt
      rw [← hdr.out] at hdd
      obtain ⟨z, hz⟩ : ∃ z, zeroL.getD j 0 = z := ⟨_, rfl⟩
      obtain ⟨p, hpp⟩ : ∃ p, zPos.getD j 0 = p := ⟨_, rfl⟩
      obtain ⟨p2, hp2⟩ : ∃ p2, zPos.getD (j + 1) 0 = p2 := ⟨_, rfl⟩
      rw [hz] at hdec hdd hzb
      rw [hpp] at hit hp hdec hple
      rw [hp2] at hdec hple
      obtain ⟨W8, hW8⟩ : ∃ W8, W8 = wr.iterAt w.heap.size zS p2 := ⟨_, rfl⟩
      have hnx : ∀ ty, (Instr.next (.pointer (some ⟨w.heap.size, 0, none⟩)) true ty).run Tryz.prog wr = .ok (.tuple #[.bool true, .int .i64 p, .int .i32 z]) W8 := fun ty => by
        have := Lib.run_next_any_at (P := Tryz.prog) wr w.heap.size zS p ty hit.out (by rw [zS_size]; exact hp)
        rw [hdec] at this
        simp only [show p + (p2 - p) = p2 by omega] at this
        rw [hW8]; exact this
      have hit8 : Hid (W8.heap[w.heap.size]? = some (.stringIter zS (zPos.getD (j + 1) 0))) := by rw [hW8, hp2]; exact Lib.iterAt_heap _ _ _ _ _ hit.out
      have hE8 : Hid (Ext w W8) := by rw [hW8]; exact Lib.below_iterAt hE.out (Nat.le_refl _) _ _
      have HD := Lib.hid hdd
      have HJ : Hid (12 - (j + 1) < 12 - j) := by show _ < _; omega
      clear hW8 hit hE hpp hp2 hz hdec hdd hdr hple hp
      by_cases a1 : (z : Int) ≤ r
      · by_cases a2 : r ≤ z + 9
        · have hx := hx1.out (r - z).toNat (by rw [HD.out, if_pos ⟨a1, a2⟩])
          have e1 : (((r - z).toNat : Nat) : Int) = r - z := by omega
          rw [e1] at hx
          have HX := Lib.hid hx
          clear hx e1
          go_wp2
          refine bodyPost_ret (v := .tuple #[.int .i64 (r - z), .bool true]) ?h rfl ⟨by rw [HX.out], hE8.out⟩
          case h => simp [results, Tryz.results21, go_sem]
        · have hdn : Hid (digR r = digIn r (zeroL.drop (j + 1))) := by show _ = _; rw [HD.out, if_neg (fun q => a2 q.2)]
          go_wp2
          go_roundg (12 - (j + 1))
          case measure => exact HJ.out
          case rel => exact ⟨j + 1, rfl, by omega, hit8, hdn, hE8⟩
      · have hdn : Hid (digR r = digIn r (zeroL.drop (j + 1))) := by show _ = _; rw [HD.out, if_neg (fun q => a1 q.1)]
        go_wp2
        go_roundg (12 - (j + 1))
        case measure => exact HJ.out
        case rel => exact ⟨j + 1, rfl, by omega, hit8, hdn, hE8⟩
    · obtain rfl : j = 12 := by omega
      have hnx := fun ty => Lib.run_next_end_at (P := Tryz.prog) wr w.heap.size zS 33 ty hit.out (by rw [zS_size]; omega)
      have hx := hx0.out (by rw [hdr.out]; rfl)
      have HX := Lib.hid hx
      clear hx
      go_wp2
      refine bodyPost_ret (v := .tuple #[.int .i64 0, .bool false]) ?h rfl ⟨by rw [HX.out], hE.out⟩
      case h => simp [results, Tryz.results21, go_sem]
end Go.Proofs.YtnkajjealkggdaaGreatDoor
end
section
/- Lex, the program: the digits of all scripts, the digits of sixteen. -/
namespace Go.Proofs.YtnkajjealkggdaaGreatDoor
open Go.RowKit
attribute [local go_sem] bs_size bs_extract bs_get bs_append bs_toList const_get
attribute [local go_sem] sz2 sz3 sz4 sz5 sz6 sz7 sz8
set_option maxHeartbeats 4000000
set_option maxRecDepth 100000
attribute [local irreducible] Calls
theorem runeLen_dec (l : List UInt8) (h : Lib.decodeL l ≠ (65533, 1)) : Lib.runeLen ((Lib.decodeL l).1 : Int) = ((Lib.decodeL l).2 : Nat) := by
  have k0 := (l.getD 0 0).toNat_lt
  have k1 := (l.getD 1 0).toNat_lt
  have k2 := (l.getD 2 0).toNat_lt
  have k3 := (l.getD 3 0).toNat_lt
  rw [Lib.decodeL_N] at h ⊢
  unfold Lib.runeLen
  rcases Lib.decodeN_shape l.length (l.getD 0 0).toNat (l.getD 1 0).toNat (l.getD 2 0).toNat (l.getD 3 0).toNat with ⟨c, e⟩ | ⟨c1, c2, c3, cv, e⟩ | ⟨c1, c2, c3, c4, cv, cs, e⟩ | ⟨c1, c2, c3, c4, c5, cv, cw, e⟩ | e
  · rw [e]; dsimp only; repeat' split
    all_goals omega
  · rw [e]; dsimp only; repeat' split
    all_goals omega
  · rw [e]; dsimp only; repeat' split
    all_goals omega
  · rw [e]; dsimp only; repeat' split
    all_goals omega
  · exact absurd e h
theorem lx_ten (l : List UInt8) (w : World) : Calls Tryz.prog 51 #[.string (bs l)] w fun e w' => e = .returned (.tuple #[.int .i64 ((tenB l).1 : Nat), .int .i64 ((tenB l).2 : Nat)]) ∧ Ext w w' := by
  by_cases hl : l = []
  · subst hl
    have hnx : ∀ ty, (Instr.next (.pointer (some ⟨w.heap.size, 0, none⟩)) true ty).run Tryz.prog (w.alloc (.stringIter (bs []) 0)) = .ok (.tuple #[.bool false]) (w.alloc (.stringIter (bs []) 0)) := fun ty =>
      Lib.run_next_end_at (P := Tryz.prog) (w.alloc (.stringIter (bs []) 0)) w.heap.size (bs []) 0 ty (World.iter_heap w _ 0) (by rw [bs_size]; simp)
    go_enter Tryz.func51, Tryz.ntmps51
    go_wp2
    go_loopg [5, 6, 7] 0 (fun gk v5 v6 v7 wr => wr = w.alloc (.stringIter (bs []) 0))
    case atStart => rfl
    case round =>
      subst hrel
      go_wp2
      refine bodyPost_ret (v := .tuple #[.int .i64 0, .int .i64 0]) ?h rfl ⟨rfl, ext_alloc (ext_refl _) _⟩
      case h => simp [results, Tryz.results51, go_sem]
  · have h0 : 0 < l.length := List.length_pos_iff.2 hl
    obtain ⟨r, hr⟩ : ∃ r, (Lib.decodeL l).1 = r := ⟨_, rfl⟩
    obtain ⟨n, hn⟩ : ∃ n, (Lib.decodeL l).2 = n := ⟨_, rfl⟩
    have hrb := Lib.decodeL_rune l
    rw [hr] at hrb
    obtain ⟨W8, hW8⟩ : ∃ W8, W8 = (w.alloc (.stringIter (bs l) 0)).iterAt w.heap.size (bs l) n := ⟨_, rfl⟩
    have hnx : ∀ ty, (Instr.next (.pointer (some ⟨w.heap.size, 0, none⟩)) true ty).run Tryz.prog (w.alloc (.stringIter (bs l) 0)) = .ok (.tuple #[.bool true, .int .i64 (0 : Nat), .int .i32 r]) W8 := fun ty => by
      have := Lib.run_next_any_at (P := Tryz.prog) (w.alloc (.stringIter (bs l) 0)) w.heap.size (bs l) 0 ty (World.iter_heap w _ 0) (by rw [bs_size]; exact h0)
      rw [show Utf8.decode (bs l) 0 = Lib.decodeL l from rfl, hr, hn, Nat.zero_add] at this
      rw [hW8]; exact this
    have hE8 : Hid (Ext w W8) := by rw [hW8]; exact Lib.below_iterAt (ext_alloc (ext_refl _) _) (Nat.le_refl _) _ _
    have kD := Lib.hid (fun w' => lx_Digit (r : Int) (by omega) w')
    have hok := Lib.hid (fun (h : (tenB l).2 ≠ 0) => runeLen_dec l (tenB_valid h))
    have htb : tenB l = match digR ((Lib.decodeL l).1 : Int) with | some d => (d, (Lib.decodeL l).2) | none => (0, 0) := by unfold tenB; rw [if_neg hl]; rfl
    have hw := Lib.decodeL_width l
    rw [hn] at hw
    rw [hr, hn] at hok htb
    clear hW8 h0 hl hr
    cases hd : digR (r : Int) with
    | none =>
      have hv : digV (r : Int) = (0, false) := by unfold digV; rw [hd]
      rw [hd] at htb
      rw [hv] at kD
      rw [htb]
      clear htb hd hv hok
      go_enter Tryz.func51, Tryz.ntmps51
      go_wp2
      go_loopg [5, 6, 7] 0 (fun gk v5 v6 v7 wr => wr = w.alloc (.stringIter (bs l) 0))
      case atStart => rfl
      case round =>
        subst hrel
        go_wp2_with (first
          | (go_at_call 21; (with_reducible refine (kD.out _).mono ?_); rintro e w1 ⟨rfl, hE1⟩))
        refine bodyPost_ret (v := .tuple #[.int .i64 0, .int .i64 0]) ?h rfl ⟨rfl, ext_trans hE8.out hE1⟩
        case h => simp [results, Tryz.results51, go_sem]
    | some d =>
      have hv : digV (r : Int) = ((d : Int), true) := by unfold digV; rw [hd]
      rw [hd] at htb
      rw [hv] at kD
      rw [htb] at hok ⊢
      have hrl := hok.out (by dsimp only; omega)
      have kR : Hid (∀ w', Calls Tryz.prog 91 #[.int .i32 (r : Int)] w' fun e w'' => e = .returned (.int .i64 (n : Nat)) ∧ w'' = w') := fun w' => by
        have := Tryz.utf8_RuneLen (r : Int) w'
        rw [hrl] at this; exact this
      clear htb hd hv hok hrl
      go_enter Tryz.func51, Tryz.ntmps51
      go_wp2
      go_loopg [5, 6, 7] 0 (fun gk v5 v6 v7 wr => wr = w.alloc (.stringIter (bs l) 0))
      case atStart => rfl
      case round =>
        subst hrel
        go_wp2_with (first
          | (go_at_call 21; (with_reducible refine (kD.out _).mono ?_); rintro e w1 ⟨rfl, hE1⟩)
          | (go_at_call 91; (with_reducible refine (kR.out _).mono ?_); rintro e w2 ⟨rfl, rfl⟩))
        refine bodyPost_ret (v := .tuple #[.int .i64 ↑d, .int .i64 ↑n]) ?h rfl ⟨rfl, ext_trans hE8.out hE1⟩
        case h => simp [results, Tryz.results51, go_sem]
def hexT22 : List UInt8 := [48, 49, 50, 51, 52, 53, 54, 55, 56, 57, 97, 98, 99, 100, 101, 102, 65, 66, 67, 68, 69, 70]
def hexOk (c : UInt8) : Bool := match hexD c with
  | some d => decide ((Lib.indexByte hexT22 c = d ∧ d < 16) ∨ (Lib.indexByte hexT22 c = d + 6 ∧ 10 ≤ d ∧ d < 16))
  | none => decide (Lib.indexByte hexT22 c = -1)
theorem hexOk_all : (List.range 256).all (fun n => hexOk (UInt8.ofNat n)) = true := by kernel_rfl
theorem hexOk_any (c : UInt8) : hexOk c = true := by
  have := List.all_eq_true.1 hexOk_all c.toNat (List.mem_range.2 c.toNat_lt)
  rwa [UInt8.ofNat_toNat] at this
theorem lx_sixteen (l : List UInt8) (w : World) : Calls Tryz.prog 94 #[.string (bs l)] w fun e w' => e = .returned (.tuple #[.int .i64 ((sixB l).1 : Nat), .int .i64 ((sixB l).2 : Nat)]) ∧ Ext w w' := by
  match l with
  | [] =>
    go_enter Tryz.func94, Tryz.ntmps94
    go_wp2
    refine bodyPost_ret (v := .tuple #[.int .i64 0, .int .i64 0]) ?h rfl ⟨rfl, ext_refl _⟩
    case h => simp [results, Tryz.results94, go_sem]
  | c :: t =>
    have hI : Hid (∀ w', Calls Tryz.prog 131 #[.string ⟨#[48, 49, 50, 51, 52, 53, 54, 55, 56, 57, 97, 98, 99, 100, 101, 102, 65, 66, 67, 68, 69, 70]⟩, .int .u8 (c.toNat : Int)] w' fun e w'' => e = .returned (.int .i64 (Lib.indexByte hexT22 c)) ∧ w'' = w') := fun w' => by
      have := Tryz.strings_IndexByte (bs hexT22) (c.toNat : Int) w'
      rw [bs_data] at this
      have e : (c.toNat : Int).toNat.toUInt8 = c := by simp
      rw [e] at this
      exact this
    have hok := hexOk_any c
    unfold hexOk at hok
    obtain ⟨i, hi⟩ : ∃ i, Lib.indexByte hexT22 c = i := ⟨_, rfl⟩
    rw [hi] at hok hI
    have hsb : sixB (c :: t) = match hexD c with | some d => (d, 1) | none => (0, 0) := rfl
    cases hd : hexD c with
    | none =>
      rw [hd] at hok hsb
      rw [hsb]
      obtain rfl : i = -1 := by simpa using hok
      clear hok hsb hd hi
      go_enter Tryz.func94, Tryz.ntmps94
      go_wp2_with (first
        | (go_at_call 131; (with_reducible refine (hI.out _).mono ?_); rintro e w1 ⟨rfl, rfl⟩))
      refine bodyPost_ret (v := .tuple #[.int .i64 0, .int .i64 0]) ?h rfl ⟨rfl, ext_refl _⟩
      case h => simp [results, Tryz.results94, go_sem]
    | some d =>
      rw [hd] at hok hsb
      rw [hsb]
      have hok2 : (i = d ∧ d < 16) ∨ (i = d + 6 ∧ 10 ≤ d ∧ d < 16) := by simpa using hok
      clear hok hsb hd hi
      rcases hok2 with ⟨rfl, h2⟩ | ⟨rfl, h2, h3⟩
      · skip
        go_enter Tryz.func94, Tryz.ntmps94
        go_wp2_with (first
          | (go_at_call 131; (with_reducible refine (hI.out _).mono ?_); rintro e w1 ⟨rfl, rfl⟩))
        refine bodyPost_ret (v := .tuple #[.int .i64 ↑d, .int .i64 1]) ?h rfl ⟨rfl, ext_refl _⟩
        case h => simp [results, Tryz.results94, go_sem]
      · skip
        go_enter Tryz.func94, Tryz.ntmps94
        go_wp2_with (first
          | (go_at_call 131; (with_reducible refine (hI.out _).mono ?_); rintro e w1 ⟨rfl, rfl⟩))
        refine bodyPost_ret (v := .tuple #[.int .i64 ↑d, .int .i64 1]) ?h rfl ⟨rfl, ext_refl _⟩
        case h => simp [results, Tryz.results94, go_sem]
end Go.Proofs.YtnkajjealkggdaaGreatDoor
end
section
/- Lex, the program: rows of digits. (Written by mklxh.py.) -/
namespace Go.Proofs.YtnkajjealkggdaaGreatDoor
open Go.RowKit
attribute [local go_sem] bs_size bs_extract bs_get bs_append bs_toList const_get
attribute [local go_sem] sz2 sz3 sz4 sz5 sz6 sz7 sz8
set_option maxHeartbeats 4000000
set_option maxRecDepth 100000
attribute [local irreducible] Calls
abbrev OwB (w : World) (base : Nat) (v : Value) (n : Nat) (xs : List UInt8) : Prop := w.ownsRow base 5 1 v n (xs.map bV)
theorem lx_own_keep {w w' : World} {base : Nat} {e : TypeId} {size n : Nat} {v : Value} {xs : List Value} (h : w.ownsRow base e size v n xs) (hk : ∀ g, base ≤ g → g < w.heap.size → w'.heap[g]? = w.heap[g]?) : w'.ownsRow base e size v n xs := by
  obtain ⟨h1, h2⟩ := h
  refine ⟨h1, ?_⟩
  rcases h2 with h2 | ⟨g, cap, cur, rfl, h0, h3, r⟩
  · exact .inl h2
  · exact .inr ⟨g, cap, cur, rfl, h0, (hk g h0 (Array.getElem?_eq_some_iff.1 h3).1).trans h3, r⟩
theorem own_tch {w w' : World} {base b : Nat} {e : TypeId} {size n : Nat} {v : Value} {xs : List Value} (h : w.ownsRow base e size v n xs) (ht : Tch b w w') (hb : b < base) : w'.ownsRow base e size v n xs :=
  lx_own_keep h fun g h1 h2 => ht.block g h2 (by omega)
theorem Sc.below {W w w' : World} {b N n : Nat} {l : List UInt8} {c : Nat} (h : Sc W w b N l c) (he : Below n w w') (hn : b < n) : Sc W w' b N l c := by
  have hW : Ext W w' := Below.trans h.base (Below.mono he (Nat.le_of_lt (Nat.lt_of_le_of_lt h.low hn)))
  exact ⟨Nat.lt_of_lt_of_le h.lt he.size, (Below.cell (p := ⟨b, 0, none⟩) he hn).trans h.c0, (Below.cell (p := ⟨b, 1, none⟩) he hn).trans h.c1, (Below.cell (p := ⟨b, 2, none⟩) he hn).trans h.c2,
    (Below.frozen (p := ⟨b, 0, none⟩) he hn).trans h.f0, (Below.frozen (p := ⟨b, 1, none⟩) he hn).trans h.f1, (Below.frozen (p := ⟨b, 2, none⟩) he hn).trans h.f2, h.le, h.big, hW, h.low⟩
theorem Tch.below {b n : Nat} {u w w' : World} (h : Tch b u w) (he : Below n w w') (hn : u.heap.size ≤ n) : Tch b u w' :=
  ⟨he.os.trans h.os, he.tape.trans h.tape, he.output.trans h.output, Nat.le_trans h.size he.size, fun k hk hb => (he.block k (Nat.lt_of_lt_of_le hk hn)).trans (h.block k hk hb)⟩
theorem push_u8b {ops : Array Oper} {rest : List Oper} {o : Oper} {a : Act} {Q : Exit → Act → World → Prop} {w : World} (hgd : o.guard = none) (s x : Operand)
    (ho : o.op = .call { callee := .builtin .append, args := #[s, x], argTypes := #[23, 23] })
    {w0 : World} (ob : Obj) (hw : w = w0.alloc ob) {base : Nat} (hsz0 : base ≤ w0.heap.size) {v : Value} {n : Nat} {xs : List UInt8} (hown : OwB w0 base v n xs) (hs : a.eval s = v)
    (y : UInt8) (ad : Addr) (c : Nat) (hx : a.eval x = .slice (some ad) 1 c) (hnew : w.cell? ad = some (bV y)) (hn : n ≤ 1000000000)
    (h : ∀ v' w', Below base w0 w' → Hid (OwB w' base v' (n + 1) (xs ++ [y])) → wpList Tryz.prog ops Q rest (a.put o.dst v') w') : wpList Tryz.prog ops Q (o :: rest) a w := by
  obtain ⟨i, hi, hz, hsz, hby⟩ := info_parts u8_info
  subst hw
  refine wpList_append_own_at _ hgd s x _ ho base 5 i _ 1 1 u8_under hi hz hsz hby rfl (by decide) v n _ hs (hown.alloc _) ad 1 c [bV y] hx rfl ?_ ?_ ?_ ?_ ?_ ?_
  · intro j u hj
    match j, hj with
    | 0, hj => simp at hj; subst hj; simpa [Addr.add] using hnew
  · intro u hu; simp at hu; subst hu; rfl
  · unfold maxLen; omega
  · omega
  · simp; omega
  · intro v' w' ho' hg _ hat
    refine h v' w' ?_ ?_
    · have e1 : Ext w0 (w0.alloc ob) := ext_alloc (ext_refl _) _
      refine ⟨hg.os.trans e1.os, hg.tape.trans e1.tape, hg.output.trans e1.output, Nat.le_trans e1.size hg.size, fun k hk => ?_⟩
      rw [hg.block k (by simp; omega) (fun e => by have := (hown.lt k e.symm).1; omega)]
      exact e1.block k (by omega)
    · show World.ownsRow _ _ _ _ _ _ _
      simpa using ho'
theorem rowF_fuel {dig : List UInt8 → Nat × Nat} (hd : DigOk dig) : ∀ (f g : Nat) (l : List UInt8), l.length ≤ f → l.length ≤ g → rowF dig f l = rowF dig g l := by
  intro f
  induction f with
  | zero =>
    intro g l h1 h2
    obtain rfl : l = [] := List.eq_nil_of_length_eq_zero (by omega)
    rw [rowF_none _ _ hd.nil, rowF_none _ _ hd.nil]
  | succ f ih =>
    intro g l h1 h2
    by_cases h0 : (dig l).2 = 0
    · rw [rowF_none _ _ h0, rowF_none _ _ h0]
    · have hle := hd.le l
      obtain ⟨g, rfl⟩ : ∃ g2, g = g2 + 1 := ⟨g - 1, by omega⟩
      have hdr : (l.drop (dig l).2).length = l.length - (dig l).2 := List.length_drop
      have htl : (l.drop (dig l).2).tail.length = (l.drop (dig l).2).length - 1 := List.length_tail
      rw [rowF, rowF, ih g (l.drop (dig l).2).tail (by omega) (by omega), ih g (l.drop (dig l).2) (by omega) (by omega)]
theorem rowF_step {dig : List UInt8 → Nat × Nat} (hd : DigOk dig) {l : List UInt8} (h0 : (dig l).2 ≠ 0) : rowF dig l.length l =
    if (l.drop (dig l).2).head? = some 95 then
      if (dig (l.drop (dig l).2).tail).2 = 0 then ([UInt8.ofNat (dig l).1], l.drop (dig l).2, true)
      else (UInt8.ofNat (dig l).1 :: (rowF dig (l.drop (dig l).2).tail.length (l.drop (dig l).2).tail).1, (rowF dig (l.drop (dig l).2).tail.length (l.drop (dig l).2).tail).2)
    else (UInt8.ofNat (dig l).1 :: (rowF dig (l.drop (dig l).2).length (l.drop (dig l).2)).1, (rowF dig (l.drop (dig l).2).length (l.drop (dig l).2)).2) := by
  have hle := hd.le l
  obtain ⟨n, hn⟩ : ∃ n, l.length = n + 1 := ⟨l.length - 1, by omega⟩
  have hdr : (l.drop (dig l).2).length = l.length - (dig l).2 := List.length_drop
  have htl : (l.drop (dig l).2).tail.length = (l.drop (dig l).2).length - 1 := List.length_tail
  rw [hn, rowF, if_neg h0, rowF_fuel hd n (l.drop (dig l).2).tail.length (l.drop (dig l).2).tail (by omega) (by omega), rowF_fuel hd n (l.drop (dig l).2).length (l.drop (dig l).2) (by omega) (by omega)]
theorem take_one (l : List UInt8) (x : UInt8) : decide (l.take [x].length = [x]) = decide (l.head? = some x) := by
  rw [decide_eq_decide]
  cases l with
  | nil => simp
  | cons y t => simp
theorem lx_pre95 (l : List UInt8) (w : World) : Calls Tryz.prog 50 #[.string (bs l), .string ⟨#[95]⟩] w fun e w' => e = .returned (.bool (decide (l.head? = some 95))) ∧ w = w' := by
  rw [← take_one]; exact lx_prefix [95] l w
theorem lx_pre46 (l : List UInt8) (w : World) : Calls Tryz.prog 50 #[.string (bs l), .string ⟨#[46]⟩] w fun e w' => e = .returned (.bool (decide (l.head? = some 46))) ∧ w = w' := by
  rw [← take_one]; exact lx_prefix [46] l w

theorem lx_row_ten (b N : Nat) (l : List UInt8) (c : Nat) (W w : World) (h : Sc W w b N l c) :
    Calls Tryz.prog 130 #[.pointer (some ⟨b, 0, none⟩), .func (.func 51) #[] #[]] w fun e w' => ∃ v, e = .returned v ∧ Hid (Sc W w' b N (rowS tenB l c).2.1 (rowS tenB l c).2.2) ∧ Tch b w w' ∧ Hid (OwB w' w.heap.size v (rowS tenB l c).1.length (rowS tenB l c).1) := by
  have H := Lib.hid h
  have kp := Lib.hid (fun m w' => lx_pre95 m w')
  have hb0 := h.lt
  have hlN := h.le
  have hNb := h.big
  obtain ⟨hl, h0, h1, h2, f0, f1, f2, le, big, base, low⟩ := h
  obtain ⟨X, hX⟩ : ∃ X, rowS tenB l c = X := ⟨_, rfl⟩
  rw [hX]
  by_cases hc : c = 0
  · subst hc
    by_cases hu : l.head? = some 95
    · have hx : X = ([], l, 112) := by rw [← hX]; show rowG tenB (underS l 0).2.1 (underS l 0).2.2 = _; rw [under_yes hu, rowG_err _ _ (c := 112) (fun q => nomatch q)]
      subst hx
      have kp2 := Lib.hid (fun w' => lx_pre95 l w')
      rw [decide_eq_true hu] at kp2
      have H2 := Lib.hid (H.out.code 112 (v := .int .i64 112) rfl)
      obtain ⟨-, z0, z1, z2, -, -, -, -, -, -, -⟩ := H2.out
      clear hu hX
      go_enter Tryz.func130, Tryz.ntmps130
      go_wp2_with (first
        | (go_at_call 50; (with_reducible refine (kp2.out _).mono ?_); rintro e w1 ⟨rfl, rfl⟩))
      go_loopg [5, 6, 7, 8, 9] 0 (fun gk v5 v6 v7 v8 v9 wr => v5 = .slice none 0 0 ∧ wr = w.setCell ⟨b, 2, none⟩ (.int .i64 112))
      case atStart => exact ⟨rfl, rfl⟩
      case round =>
        obtain ⟨rfl, rfl⟩ := hrel
        go_wp2
        refine bodyPost_ret (v := .slice none 0 0) ?h rfl ⟨_, rfl, H2, (Tch.refl b w).set _ _, ⟨rfl, .inl ⟨rfl, rfl⟩⟩⟩
        case h => simp [results, Tryz.results130, go_sem]
    · have hx : X = ((rowF tenB l.length l).1, (rowF tenB l.length l).2.1, if (rowF tenB l.length l).2.2 = true then 112 else 0) := by rw [← hX]; show rowG tenB (underS l 0).2.1 (underS l 0).2.2 = _; rw [under_no hu, rowG_ok]
      have HX := Lib.hid hx
      have kp2 := Lib.hid (fun w' => lx_pre95 l w')
      rw [decide_eq_false hu] at kp2
      clear hu hX hx
      go_enter Tryz.func130, Tryz.ntmps130
      go_wp2_with (first
        | (go_at_call 50; (with_reducible refine (kp2.out _).mono ?_); rintro e w1 ⟨rfl, rfl⟩))
      clear h0 h1 h2 f0 f1 f2 kp2
      go_loopg [5, 6, 7, 8, 9] l.length (fun gk v5 v6 v7 v8 v9 wr => ∃ (m ds : List UInt8), gk = m.length ∧ m.length + ds.length ≤ N ∧ Hid (rowF tenB l.length l = (ds ++ (rowF tenB m.length m).1, (rowF tenB m.length m).2)) ∧ Hid (OwB wr w.heap.size v5 ds.length ds) ∧ Hid (Sc W wr b N m 0) ∧ Hid (Tch b w wr))
      case atStart => exact ⟨l, [], rfl, by simpa using hlN, rfl, ⟨rfl, .inl ⟨rfl, rfl⟩⟩, H, Tch.refl _ _⟩
      case round =>
        obtain ⟨m, ds, rfl, hmd, hrow, hO, hS, hT⟩ := hrel
        obtain ⟨-, h0, h1, h2, f0, f1, f2, -, -, -, -⟩ := hS.out
        have hwz := hT.out.size
        have hle := ten_ok.le m
        obtain ⟨d, hd⟩ : ∃ d, (tenB m).1 = d := ⟨_, rfl⟩
        obtain ⟨n, hn⟩ : ∃ n, (tenB m).2 = n := ⟨_, rfl⟩
        have hdb := tenB_lt m
        have kd := Lib.hid (fun w' => lx_ten m w')
        rw [hd] at hdb
        rw [hn] at hle
        rw [hd, hn] at kd
        by_cases hn0 : n = 0
        · subst hn0
          have hx2 := HX.out
          rw [hrow.out, rowF_none _ _ hn] at hx2
          rw [if_neg (by simp), List.append_nil] at hx2
          have HX2 := Lib.hid hx2
          clear HX hx2 hrow
          go_wp2_with (first
            | (go_at_call 51; (with_reducible refine (kd.out _).mono ?_); rintro e w2 ⟨rfl, hE2⟩))
          refine bodyPost_ret (v := u5) ?h rfl ⟨_, rfl, by rw [HX2.out]; exact hS.out.ext hE2, hT.out.trans (Tch.of hE2), by rw [HX2.out]; exact own_ext hO.out hE2⟩
          case h => simp [results, Tryz.results130, go_sem]
        · have hrs := rowF_step ten_ok (l := m) (by rw [hn]; exact hn0)
          rw [hd, hn] at hrs
          obtain ⟨m1, hm1⟩ : ∃ m1, m.drop n = m1 := ⟨_, rfl⟩
          have hml : m1.length = m.length - n := by rw [← hm1]; exact List.length_drop
          rw [hm1] at hrs
          have hyd : ((UInt8.ofNat d).toNat : Int) = d := by rw [UInt8.toNat_ofNat', Nat.mod_eq_of_lt (by omega)]
          have HYD := Lib.hid hyd
          obtain ⟨y, hy⟩ : ∃ y, UInt8.ofNat d = y := ⟨_, rfl⟩
          rw [hy] at hrs hyd HYD
          have HM1 := Lib.hid hm1
          clear hm1 hy hyd hd hn
          have hr2 := hrow.out
          rw [hrs] at hr2
          have hn0' : ¬ (n : Int) = 0 := by omega
          by_cases hu : m1.head? = some 95
          · obtain ⟨m2, rfl⟩ : ∃ m2, m1 = 95 :: m2 := by
              match m1, hu with
              | x :: t, hu => exact ⟨t, by simp at hu; rw [hu]⟩
            have kp3 := Lib.hid (fun w' => lx_pre95 (95 :: m2) w')
            rw [decide_eq_true hu] at kp3
            rw [if_pos hu, List.tail_cons] at hr2
            have kd2 := Lib.hid (fun w' => lx_ten m2 w')
            simp only [List.length_cons] at hml
            have HML := Lib.hid hml
            clear hml
            by_cases h20 : (tenB m2).2 = 0
            · rw [if_pos h20] at hr2
              rw [h20] at kd2
              have hx2 := HX.out
              rw [hr2] at hx2
              rw [if_pos rfl] at hx2
              have HX2 := Lib.hid hx2
              clear HX hx2 hrow hr2 hrs hu h20
              go_wp2_with (first
                | (go_at_call 51; (with_reducible refine (kd.out _).mono ?_); rintro e w2 ⟨rfl, hE2⟩; have hS2 := hS.out.ext hE2; have hO2 := own_ext hO.out hE2; have hT2 := hT.out.trans (Tch.of hE2); have hz2 := hT2.size)
                | (at_builtin; refine push_u8b rfl _ _ rfl _ rfl hz2 hO2 rfl y ⟨_, 0, none⟩ 1 rfl (by rw [World.cell?_alloc_at _ _ _ _ rfl]; simp [bV, HYD.out] <;> omega) (by omega) ?_; intro v3 w3 hB3 hO3; have hS3 := hS2.below hB3 hb0; have hT3 := hT2.below hB3 (Nat.le_refl _))
                | (go_at_call 92; (with_reducible refine (lx_skip b N n m 0 W _ hS3 hle).mono ?_); rintro e w4 ⟨rfl, hS4, hT4⟩; rw [HM1.out] at hS4; have hO4 := own_tch hO3.out hT4 hb0; obtain ⟨-, y0, y1, y2, g0, g1, g2, -, -, -, -⟩ := hS4.out)
                | (go_at_call 50; (with_reducible refine (kp3.out _).mono ?_); rintro e w5 ⟨rfl, rfl⟩)
                | (go_at_call 51; (with_reducible refine (kd2.out _).mono ?_); rintro e w6 ⟨rfl, hE6⟩; (have hS6 := Lib.hid (hS4.out.ext hE6)); have hO6 := own_ext hO4 hE6; obtain ⟨-, x0, x1, x2, j0, j1, j2, -, -, -, -⟩ := hS6.out))
              refine bodyPost_ret (v := v3) ?h rfl ⟨_, rfl, by rw [HX2.out]; exact hS6.out.code 112 rfl, ((hT3.trans hT4).trans (Tch.of hE6)).set _ _, by rw [HX2.out]; show OwB _ _ _ (ds ++ [y]).length _; rw [List.length_append]; exact own_tch hO6 ((Tch.refl b w6).set _ _) hb0⟩
              case h => simp [results, Tryz.results130, go_sem]
            · rw [if_neg h20] at hr2
              obtain ⟨d2, hd2⟩ : ∃ d2, (tenB m2).1 = d2 := ⟨_, rfl⟩
              obtain ⟨n2, hn2⟩ : ∃ n2, (tenB m2).2 = n2 := ⟨_, rfl⟩
              rw [hd2, hn2] at kd2
              rw [hn2] at h20
              have h20' : ¬ (n2 : Int) = 0 := by omega
              have HR2 := Lib.hid hr2
              have kS1 : Hid (∀ w', Sc W w' b N (95 :: m2) 0 → Calls Tryz.prog 92 #[.pointer (some ⟨b, 0, none⟩), .int .i64 1] w' (ScQ W w' b N (.tuple #[]) m2 0)) := fun w' h => lx_skip b N 1 (95 :: m2) 0 W w' h (by simp)
              clear hrow hr2 hrs hu hn2 hd2 h20
              go_wp2_with (first
                | (go_at_call 51; (with_reducible refine (kd.out _).mono ?_); rintro e w2 ⟨rfl, hE2⟩; have hS2 := hS.out.ext hE2; have hO2 := own_ext hO.out hE2; have hT2 := hT.out.trans (Tch.of hE2); have hz2 := hT2.size)
                | (at_builtin; refine push_u8b rfl _ _ rfl _ rfl hz2 hO2 rfl y ⟨_, 0, none⟩ 1 rfl (by rw [World.cell?_alloc_at _ _ _ _ rfl]; simp [bV, HYD.out] <;> omega) (by omega) ?_; intro v3 w3 hB3 hO3; have hS3 := hS2.below hB3 hb0; have hT3 := hT2.below hB3 (Nat.le_refl _))
                | (go_at_call 92; (with_reducible refine (lx_skip b N n m 0 W _ hS3 hle).mono ?_); rintro e w4 ⟨rfl, hS4, hT4⟩; rw [HM1.out] at hS4; have hO4 := own_tch hO3.out hT4 hb0; obtain ⟨-, y0, y1, y2, g0, g1, g2, -, -, -, -⟩ := hS4.out)
                | (go_at_call 50; (with_reducible refine (kp3.out _).mono ?_); rintro e w5 ⟨rfl, rfl⟩)
                | (go_at_call 51; (with_reducible refine (kd2.out _).mono ?_); rintro e w6 ⟨rfl, hE6⟩; (have hS6 := Lib.hid (hS4.out.ext hE6)); have hO6 := own_ext hO4 hE6; obtain ⟨-, x0, x1, x2, j0, j1, j2, -, -, -, -⟩ := hS6.out)
                | (go_at_call 92; (with_reducible refine (kS1.out _ hS6.out).mono ?_); rintro e w7 ⟨rfl, hS7, hT7⟩; have hO7 := own_tch hO6 hT7 hb0))
              go_roundg m2.length
              case measure => have := HML.out; omega
              case rel => exact ⟨m2, ds ++ [y], rfl, by have := HML.out; rw [List.length_append]; simp only [List.length_singleton]; omega, by show _ = _; rw [HR2.out]; simp, by show OwB _ _ _ (ds ++ [y]).length _; rw [List.length_append]; exact hO7, hS7, ((hT3.trans hT4).trans (Tch.of hE6)).trans hT7⟩
          · have kp3 := Lib.hid (fun w' => lx_pre95 m1 w')
            rw [decide_eq_false hu] at kp3
            rw [if_neg hu] at hr2
            have HR2 := Lib.hid hr2
            have HML := Lib.hid hml
            clear hrow hr2 hrs hu hml
            go_wp2_with (first
              | (go_at_call 51; (with_reducible refine (kd.out _).mono ?_); rintro e w2 ⟨rfl, hE2⟩; have hS2 := hS.out.ext hE2; have hO2 := own_ext hO.out hE2; have hT2 := hT.out.trans (Tch.of hE2); have hz2 := hT2.size)
              | (at_builtin; refine push_u8b rfl _ _ rfl _ rfl hz2 hO2 rfl y ⟨_, 0, none⟩ 1 rfl (by rw [World.cell?_alloc_at _ _ _ _ rfl]; simp [bV, HYD.out] <;> omega) (by omega) ?_; intro v3 w3 hB3 hO3; have hS3 := hS2.below hB3 hb0; have hT3 := hT2.below hB3 (Nat.le_refl _))
              | (go_at_call 92; (with_reducible refine (lx_skip b N n m 0 W _ hS3 hle).mono ?_); rintro e w4 ⟨rfl, hS4, hT4⟩; rw [HM1.out] at hS4; have hO4 := own_tch hO3.out hT4 hb0; obtain ⟨-, y0, y1, y2, g0, g1, g2, -, -, -, -⟩ := hS4.out)
              | (go_at_call 50; (with_reducible refine (kp3.out _).mono ?_); rintro e w5 ⟨rfl, rfl⟩)
              )
            go_roundg m1.length
            case measure => have := HML.out; omega
            case rel => exact ⟨m1, ds ++ [y], rfl, by have := HML.out; rw [List.length_append]; simp only [List.length_singleton]; omega, by show _ = _; rw [HR2.out]; simp, by show OwB _ _ _ (ds ++ [y]).length _; rw [List.length_append]; exact hO4, hS4, hT3.trans hT4⟩
  · have hx : X = ([], l, c) := by rw [← hX]; show rowG tenB (underS l c).2.1 (underS l c).2.2 = _; rw [under_err _ hc, rowG_err _ _ hc]
    subst hx
    have hc2 : ((c : Int) == 0) = false := by simp [hc]
    have hc3 : ¬ (c : Int) = 0 := by omega
    obtain ⟨y, hy⟩ : ∃ y, decide (l.head? = some 95) = y := ⟨_, rfl⟩
    have kp2 := Lib.hid (fun w' => lx_pre95 l w')
    rw [hy] at kp2
    clear hX hc hy
    cases y
    all_goals
      go_enter Tryz.func130, Tryz.ntmps130
      go_wp2_with (first
        | (go_at_call 50; (with_reducible refine (kp2.out _).mono ?_); rintro e w1 ⟨rfl, rfl⟩))
      go_loopg [5, 6, 7, 8, 9] 0 (fun gk v5 v6 v7 v8 v9 wr => v5 = .slice none 0 0 ∧ wr = w)
      case atStart => exact ⟨rfl, rfl⟩
      case round =>
        obtain ⟨rfl, rfl⟩ := hrel
        go_wp2
        refine bodyPost_ret (v := .slice none 0 0) ?h rfl ⟨_, rfl, H, Tch.refl _ _, ⟨rfl, .inl ⟨rfl, rfl⟩⟩⟩
        case h => simp [results, Tryz.results130, go_sem]

theorem lx_row_six (b N : Nat) (l : List UInt8) (c : Nat) (W w : World) (h : Sc W w b N l c) :
    Calls Tryz.prog 130 #[.pointer (some ⟨b, 0, none⟩), .func (.func 94) #[] #[]] w fun e w' => ∃ v, e = .returned v ∧ Hid (Sc W w' b N (rowS sixB l c).2.1 (rowS sixB l c).2.2) ∧ Tch b w w' ∧ Hid (OwB w' w.heap.size v (rowS sixB l c).1.length (rowS sixB l c).1) := by
  have H := Lib.hid h
  have kp := Lib.hid (fun m w' => lx_pre95 m w')
  have hb0 := h.lt
  have hlN := h.le
  have hNb := h.big
  obtain ⟨hl, h0, h1, h2, f0, f1, f2, le, big, base, low⟩ := h
  obtain ⟨X, hX⟩ : ∃ X, rowS sixB l c = X := ⟨_, rfl⟩
  rw [hX]
  by_cases hc : c = 0
  · subst hc
    by_cases hu : l.head? = some 95
    · have hx : X = ([], l, 112) := by rw [← hX]; show rowG sixB (underS l 0).2.1 (underS l 0).2.2 = _; rw [under_yes hu, rowG_err _ _ (c := 112) (fun q => nomatch q)]
      subst hx
      have kp2 := Lib.hid (fun w' => lx_pre95 l w')
      rw [decide_eq_true hu] at kp2
      have H2 := Lib.hid (H.out.code 112 (v := .int .i64 112) rfl)
      obtain ⟨-, z0, z1, z2, -, -, -, -, -, -, -⟩ := H2.out
      clear hu hX
      go_enter Tryz.func130, Tryz.ntmps130
      go_wp2_with (first
        | (go_at_call 50; (with_reducible refine (kp2.out _).mono ?_); rintro e w1 ⟨rfl, rfl⟩))
      go_loopg [5, 6, 7, 8, 9] 0 (fun gk v5 v6 v7 v8 v9 wr => v5 = .slice none 0 0 ∧ wr = w.setCell ⟨b, 2, none⟩ (.int .i64 112))
      case atStart => exact ⟨rfl, rfl⟩
      case round =>
        obtain ⟨rfl, rfl⟩ := hrel
        go_wp2
        refine bodyPost_ret (v := .slice none 0 0) ?h rfl ⟨_, rfl, H2, (Tch.refl b w).set _ _, ⟨rfl, .inl ⟨rfl, rfl⟩⟩⟩
        case h => simp [results, Tryz.results130, go_sem]
    · have hx : X = ((rowF sixB l.length l).1, (rowF sixB l.length l).2.1, if (rowF sixB l.length l).2.2 = true then 112 else 0) := by rw [← hX]; show rowG sixB (underS l 0).2.1 (underS l 0).2.2 = _; rw [under_no hu, rowG_ok]
      have HX := Lib.hid hx
      have kp2 := Lib.hid (fun w' => lx_pre95 l w')
      rw [decide_eq_false hu] at kp2
      clear hu hX hx
      go_enter Tryz.func130, Tryz.ntmps130
      go_wp2_with (first
        | (go_at_call 50; (with_reducible refine (kp2.out _).mono ?_); rintro e w1 ⟨rfl, rfl⟩))
      clear h0 h1 h2 f0 f1 f2 kp2
      go_loopg [5, 6, 7, 8, 9] l.length (fun gk v5 v6 v7 v8 v9 wr => ∃ (m ds : List UInt8), gk = m.length ∧ m.length + ds.length ≤ N ∧ Hid (rowF sixB l.length l = (ds ++ (rowF sixB m.length m).1, (rowF sixB m.length m).2)) ∧ Hid (OwB wr w.heap.size v5 ds.length ds) ∧ Hid (Sc W wr b N m 0) ∧ Hid (Tch b w wr))
      case atStart => exact ⟨l, [], rfl, by simpa using hlN, rfl, ⟨rfl, .inl ⟨rfl, rfl⟩⟩, H, Tch.refl _ _⟩
      case round =>
        obtain ⟨m, ds, rfl, hmd, hrow, hO, hS, hT⟩ := hrel
        obtain ⟨-, h0, h1, h2, f0, f1, f2, -, -, -, -⟩ := hS.out
        have hwz := hT.out.size
        have hle := six_ok.le m
        obtain ⟨d, hd⟩ : ∃ d, (sixB m).1 = d := ⟨_, rfl⟩
        obtain ⟨n, hn⟩ : ∃ n, (sixB m).2 = n := ⟨_, rfl⟩
        have hdb := sixB_lt m
        have kd := Lib.hid (fun w' => lx_sixteen m w')
        rw [hd] at hdb
        rw [hn] at hle
        rw [hd, hn] at kd
        by_cases hn0 : n = 0
        · subst hn0
          have hx2 := HX.out
          rw [hrow.out, rowF_none _ _ hn] at hx2
          rw [if_neg (by simp), List.append_nil] at hx2
          have HX2 := Lib.hid hx2
          clear HX hx2 hrow
          go_wp2_with (first
            | (go_at_call 94; (with_reducible refine (kd.out _).mono ?_); rintro e w2 ⟨rfl, hE2⟩))
          refine bodyPost_ret (v := u5) ?h rfl ⟨_, rfl, by rw [HX2.out]; exact hS.out.ext hE2, hT.out.trans (Tch.of hE2), by rw [HX2.out]; exact own_ext hO.out hE2⟩
          case h => simp [results, Tryz.results130, go_sem]
        · have hrs := rowF_step six_ok (l := m) (by rw [hn]; exact hn0)
          rw [hd, hn] at hrs
          obtain ⟨m1, hm1⟩ : ∃ m1, m.drop n = m1 := ⟨_, rfl⟩
          have hml : m1.length = m.length - n := by rw [← hm1]; exact List.length_drop
          rw [hm1] at hrs
          have hyd : ((UInt8.ofNat d).toNat : Int) = d := by rw [UInt8.toNat_ofNat', Nat.mod_eq_of_lt (by omega)]
          have HYD := Lib.hid hyd
          obtain ⟨y, hy⟩ : ∃ y, UInt8.ofNat d = y := ⟨_, rfl⟩
          rw [hy] at hrs hyd HYD
          have HM1 := Lib.hid hm1
          clear hm1 hy hyd hd hn
          have hr2 := hrow.out
          rw [hrs] at hr2
          have hn0' : ¬ (n : Int) = 0 := by omega
          by_cases hu : m1.head? = some 95
          · obtain ⟨m2, rfl⟩ : ∃ m2, m1 = 95 :: m2 := by
              match m1, hu with
              | x :: t, hu => exact ⟨t, by simp at hu; rw [hu]⟩
            have kp3 := Lib.hid (fun w' => lx_pre95 (95 :: m2) w')
            rw [decide_eq_true hu] at kp3
            rw [if_pos hu, List.tail_cons] at hr2
            have kd2 := Lib.hid (fun w' => lx_sixteen m2 w')
            simp only [List.length_cons] at hml
            have HML := Lib.hid hml
            clear hml
            by_cases h20 : (sixB m2).2 = 0
            · rw [if_pos h20] at hr2
              rw [h20] at kd2
              have hx2 := HX.out
              rw [hr2] at hx2
              rw [if_pos rfl] at hx2
              have HX2 := Lib.hid hx2
              clear HX hx2 hrow hr2 hrs hu h20
              go_wp2_with (first
                | (go_at_call 94; (with_reducible refine (kd.out _).mono ?_); rintro e w2 ⟨rfl, hE2⟩; have hS2 := hS.out.ext hE2; have hO2 := own_ext hO.out hE2; have hT2 := hT.out.trans (Tch.of hE2); have hz2 := hT2.size)
                | (at_builtin; refine push_u8b rfl _ _ rfl _ rfl hz2 hO2 rfl y ⟨_, 0, none⟩ 1 rfl (by rw [World.cell?_alloc_at _ _ _ _ rfl]; simp [bV, HYD.out] <;> omega) (by omega) ?_; intro v3 w3 hB3 hO3; have hS3 := hS2.below hB3 hb0; have hT3 := hT2.below hB3 (Nat.le_refl _))
                | (go_at_call 92; (with_reducible refine (lx_skip b N n m 0 W _ hS3 hle).mono ?_); rintro e w4 ⟨rfl, hS4, hT4⟩; rw [HM1.out] at hS4; have hO4 := own_tch hO3.out hT4 hb0; obtain ⟨-, y0, y1, y2, g0, g1, g2, -, -, -, -⟩ := hS4.out)
                | (go_at_call 50; (with_reducible refine (kp3.out _).mono ?_); rintro e w5 ⟨rfl, rfl⟩)
                | (go_at_call 94; (with_reducible refine (kd2.out _).mono ?_); rintro e w6 ⟨rfl, hE6⟩; (have hS6 := Lib.hid (hS4.out.ext hE6)); have hO6 := own_ext hO4 hE6; obtain ⟨-, x0, x1, x2, j0, j1, j2, -, -, -, -⟩ := hS6.out))
              refine bodyPost_ret (v := v3) ?h rfl ⟨_, rfl, by rw [HX2.out]; exact hS6.out.code 112 rfl, ((hT3.trans hT4).trans (Tch.of hE6)).set _ _, by rw [HX2.out]; show OwB _ _ _ (ds ++ [y]).length _; rw [List.length_append]; exact own_tch hO6 ((Tch.refl b w6).set _ _) hb0⟩
              case h => simp [results, Tryz.results130, go_sem]
            · rw [if_neg h20] at hr2
              obtain ⟨d2, hd2⟩ : ∃ d2, (sixB m2).1 = d2 := ⟨_, rfl⟩
              obtain ⟨n2, hn2⟩ : ∃ n2, (sixB m2).2 = n2 := ⟨_, rfl⟩
              rw [hd2, hn2] at kd2
              rw [hn2] at h20
              have h20' : ¬ (n2 : Int) = 0 := by omega
              have HR2 := Lib.hid hr2
              have kS1 : Hid (∀ w', Sc W w' b N (95 :: m2) 0 → Calls Tryz.prog 92 #[.pointer (some ⟨b, 0, none⟩), .int .i64 1] w' (ScQ W w' b N (.tuple #[]) m2 0)) := fun w' h => lx_skip b N 1 (95 :: m2) 0 W w' h (by simp)
              clear hrow hr2 hrs hu hn2 hd2 h20
              go_wp2_with (first
                | (go_at_call 94; (with_reducible refine (kd.out _).mono ?_); rintro e w2 ⟨rfl, hE2⟩; have hS2 := hS.out.ext hE2; have hO2 := own_ext hO.out hE2; have hT2 := hT.out.trans (Tch.of hE2); have hz2 := hT2.size)
                | (at_builtin; refine push_u8b rfl _ _ rfl _ rfl hz2 hO2 rfl y ⟨_, 0, none⟩ 1 rfl (by rw [World.cell?_alloc_at _ _ _ _ rfl]; simp [bV, HYD.out] <;> omega) (by omega) ?_; intro v3 w3 hB3 hO3; have hS3 := hS2.below hB3 hb0; have hT3 := hT2.below hB3 (Nat.le_refl _))
                | (go_at_call 92; (with_reducible refine (lx_skip b N n m 0 W _ hS3 hle).mono ?_); rintro e w4 ⟨rfl, hS4, hT4⟩; rw [HM1.out] at hS4; have hO4 := own_tch hO3.out hT4 hb0; obtain ⟨-, y0, y1, y2, g0, g1, g2, -, -, -, -⟩ := hS4.out)
                | (go_at_call 50; (with_reducible refine (kp3.out _).mono ?_); rintro e w5 ⟨rfl, rfl⟩)
                | (go_at_call 94; (with_reducible refine (kd2.out _).mono ?_); rintro e w6 ⟨rfl, hE6⟩; (have hS6 := Lib.hid (hS4.out.ext hE6)); have hO6 := own_ext hO4 hE6; obtain ⟨-, x0, x1, x2, j0, j1, j2, -, -, -, -⟩ := hS6.out)
                | (go_at_call 92; (with_reducible refine (kS1.out _ hS6.out).mono ?_); rintro e w7 ⟨rfl, hS7, hT7⟩; have hO7 := own_tch hO6 hT7 hb0))
              go_roundg m2.length
              case measure => have := HML.out; omega
              case rel => exact ⟨m2, ds ++ [y], rfl, by have := HML.out; rw [List.length_append]; simp only [List.length_singleton]; omega, by show _ = _; rw [HR2.out]; simp, by show OwB _ _ _ (ds ++ [y]).length _; rw [List.length_append]; exact hO7, hS7, ((hT3.trans hT4).trans (Tch.of hE6)).trans hT7⟩
          · have kp3 := Lib.hid (fun w' => lx_pre95 m1 w')
            rw [decide_eq_false hu] at kp3
            rw [if_neg hu] at hr2
            have HR2 := Lib.hid hr2
            have HML := Lib.hid hml
            clear hrow hr2 hrs hu hml
            go_wp2_with (first
              | (go_at_call 94; (with_reducible refine (kd.out _).mono ?_); rintro e w2 ⟨rfl, hE2⟩; have hS2 := hS.out.ext hE2; have hO2 := own_ext hO.out hE2; have hT2 := hT.out.trans (Tch.of hE2); have hz2 := hT2.size)
              | (at_builtin; refine push_u8b rfl _ _ rfl _ rfl hz2 hO2 rfl y ⟨_, 0, none⟩ 1 rfl (by rw [World.cell?_alloc_at _ _ _ _ rfl]; simp [bV, HYD.out] <;> omega) (by omega) ?_; intro v3 w3 hB3 hO3; have hS3 := hS2.below hB3 hb0; have hT3 := hT2.below hB3 (Nat.le_refl _))
              | (go_at_call 92; (with_reducible refine (lx_skip b N n m 0 W _ hS3 hle).mono ?_); rintro e w4 ⟨rfl, hS4, hT4⟩; rw [HM1.out] at hS4; have hO4 := own_tch hO3.out hT4 hb0; obtain ⟨-, y0, y1, y2, g0, g1, g2, -, -, -, -⟩ := hS4.out)
              | (go_at_call 50; (with_reducible refine (kp3.out _).mono ?_); rintro e w5 ⟨rfl, rfl⟩)
              )
            go_roundg m1.length
            case measure => have := HML.out; omega
            case rel => exact ⟨m1, ds ++ [y], rfl, by have := HML.out; rw [List.length_append]; simp only [List.length_singleton]; omega, by show _ = _; rw [HR2.out]; simp, by show OwB _ _ _ (ds ++ [y]).length _; rw [List.length_append]; exact hO4, hS4, hT3.trans hT4⟩
  · have hx : X = ([], l, c) := by rw [← hX]; show rowG sixB (underS l c).2.1 (underS l c).2.2 = _; rw [under_err _ hc, rowG_err _ _ hc]
    subst hx
    have hc2 : ((c : Int) == 0) = false := by simp [hc]
    have hc3 : ¬ (c : Int) = 0 := by omega
    obtain ⟨y, hy⟩ : ∃ y, decide (l.head? = some 95) = y := ⟨_, rfl⟩
    have kp2 := Lib.hid (fun w' => lx_pre95 l w')
    rw [hy] at kp2
    clear hX hc hy
    cases y
    all_goals
      go_enter Tryz.func130, Tryz.ntmps130
      go_wp2_with (first
        | (go_at_call 50; (with_reducible refine (kp2.out _).mono ?_); rintro e w1 ⟨rfl, rfl⟩))
      go_loopg [5, 6, 7, 8, 9] 0 (fun gk v5 v6 v7 v8 v9 wr => v5 = .slice none 0 0 ∧ wr = w)
      case atStart => exact ⟨rfl, rfl⟩
      case round =>
        obtain ⟨rfl, rfl⟩ := hrel
        go_wp2
        refine bodyPost_ret (v := .slice none 0 0) ?h rfl ⟨_, rfl, H, Tch.refl _ _, ⟨rfl, .inl ⟨rfl, rfl⟩⟩⟩
        case h => simp [results, Tryz.results130, go_sem]
end Go.Proofs.YtnkajjealkggdaaGreatDoor
end
