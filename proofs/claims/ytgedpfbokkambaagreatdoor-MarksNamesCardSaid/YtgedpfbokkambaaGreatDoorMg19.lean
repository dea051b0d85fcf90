/- Lemmas of this proof, laid together: MdB. -/
import Derived.Test.YtgedpfbokkambaaGreatDoorMg13
set_option linter.unusedSimpArgs false
set_option linter.unusedVariables false
section
/- Marks: the document's answer: the shape of a row of runes. -/
namespace Go.Proofs.YtgedpfbokkambaaGreatDoor
open Go.RowKit
attribute [local irreducible] Calls
set_option maxHeartbeats 4000000
set_option maxRecDepth 100000
/-- What stands at a place of a row of runes. -/
theorem look_at {A : Option Addr} {n c : Nat} {xs : List Int} {w : World} (hA : RdR w A n c xs) (a : Nat) : (n ≤ a ∧ (xs.map encB)[a]? = none ∧ decide ((a : Int) < (n : Int)) = false) ∨
    (a < n ∧ decide ((a : Int) < (n : Int)) = true ∧ ∃ b off x, A = some ⟨b, off, none⟩ ∧ (xs.map encB)[a]? = some (encB x) ∧ Hid (∀ w', Ext w w' → b < w'.heap.size ∧ w'.cell? ⟨b, off + a, none⟩ = some (.int .i32 x))) := by
  have hl := hA.len
  by_cases h : a < n
  · rcases hA.shape with ⟨_, h1, _⟩ | ⟨b, off, rfl⟩
    · omega
    · refine .inr ⟨h, decide_eq_true (by omega), b, off, xs.getD a 0, rfl, by rw [map_at, if_pos (by omega)], fun w' he => (hA.ext he).cells b off rfl a h⟩
  · exact .inl ⟨by omega, by rw [map_at, if_neg (by omega)], decide_eq_false (by omega)⟩
theorem at_sign {B : List UInt8} {a : Nat} {x : Int} (h : B[a]? = some (encB x)) (ch : UInt8) (hc : ch ≠ 120) : B[a]? = some ch ↔ x = (ch.toNat : Int) := by
  rw [h, Option.some.injEq]; exact encB_eq x ch hc
theorem md_plain (A : Option Addr) (n c : Nat) (xs : List Int) (w : World) (hA : RdR w A n c xs) :
    Calls Tryz.prog 33 #[.slice A n c] w fun e w' => e = .returned (.tuple #[.int .i64 (shpB (xs.map encB)).1, .int .i64 (shpB (xs.map encB)).2.1, .int .i64 (shpB (xs.map encB)).2.2]) ∧ Ext w w' := by
  have hlen := hA.len
  have hmx := hA.mx
  have hcap := hA.cap
  have kr := Lib.hid (fun (a : Nat) (z : Int) (m : Nat) (hz : z = (a : Int)) (hm : rowN (xs.map encB) a = m) (ha : a ≤ n) (w' : World) (h : Ext w w') => show Calls Tryz.prog 52 #[.slice A n c, .int .i64 z] w' (fun e w'' => e = .returned (.int .i64 (z + (m : Int))) ∧ Ext w' w'') from by
    have q := md_row A n c xs a ha w' (hA.ext h)
    rw [hm] at q
    rw [hz]
    rw [Int.natCast_add] at q
    exact q)
  have HA := Lib.hid hA
  clear hA
  obtain ⟨B, hB⟩ : ∃ B, xs.map encB = B := ⟨_, rfl⟩
  have hBl : B.length = n := by rw [← hB, List.length_map, hlen]
  have LK := Lib.hid (fun a => look_at HA.out a)
  rw [hB] at kr LK ⊢
  obtain ⟨f, hf0⟩ : ∃ f : Nat, (if B[0]? = some 45 then 1 else 0) = f := ⟨_, rfl⟩
  have hf := Lib.hid hf0
  have hfl : f ≤ n := by
    rw [← hf0]
    split
    · rename_i h; have := (List.getElem?_eq_some_iff.1 h).1; omega
    · omega
  have hf1 : f ≤ 1 := by rw [← hf0]; split <;> omega
  clear hf0 hB HA
  have hE := Lib.hid (ext_refl w)
  go_enter Tryz.func33, Tryz.ntmps33
  go_upto_region 2 with (first
    | (go_at_call 51; skip))
  go_cut [5, 20] (fun v5 vt wx => v5 = .int .i64 0 ∧ vt = .bool (decide (B[0]? = some 45)) ∧ Hid (Ext w wx))
  case first =>
    rcases LK.out (0) with ⟨h1, h2, q1⟩ | ⟨h1, q1, b, off, x, rfl, h2, h3⟩
    · have hdv := Lib.hid (decide_eq_false (show ¬ B[0]? = some 45 by rw [h2]; simp))
      have h9 : ¬ (0 < (n : Int)) := by omega
      have q3 : decide (0 < (n : Int)) = false := decide_eq_false h9
      clear h1 h2 q1
      go_wp2
      go_meet
      case rel => exact ⟨rfl, by rw [hdv.out], hE.out⟩
    · have hbc := h3.out _ hE.out
      have hs := at_sign h2 45 (by decide)
      by_cases hx : x = 45
      · have hdv := Lib.hid (decide_eq_true (hs.2 hx))
        subst hx
        obtain ⟨hb, hc⟩ := hbc; rw [Nat.add_zero] at hc
        have h9 : 0 < (n : Int) := by omega
        have q3 : decide (0 < (n : Int)) = true := decide_eq_true h9
        clear h1 h2 h3 hs q1
        go_wp2
        go_meet
        case rel => exact ⟨rfl, by rw [hdv.out], hE.out⟩
      · have hdv := Lib.hid (decide_eq_false (fun q => hx (hs.1 q)))
        have q2 : (x == 45) = false := by simpa using hx
        obtain ⟨hb, hc⟩ := hbc; rw [Nat.add_zero] at hc
        have h9 : 0 < (n : Int) := by omega
        have q3 : decide (0 < (n : Int)) = true := decide_eq_true h9
        clear h1 h2 h3 hs q1 hx
        go_wp2
        go_meet
        case rel => exact ⟨rfl, by rw [hdv.out], hE.out⟩
  case rest =>
    clear hE
    obtain ⟨rfl, rfl, hE⟩ := hcut
    rename ∀ (a : Act) (w : World), Code.wp _ _ _ a w → _ => hK5
    refine hK5 _ _ ?_
    clear hK5
    go_cut [5] (fun v5 wx => v5 = .int .i64 (f : Int) ∧ Hid (Ext w wx))
    case first =>
      by_cases h : B[0]? = some 45
      · have e : f = 1 := by rw [← hf.out, if_pos h]
        rw [decide_eq_true h]
        go_wp2
        go_meet
        case rel => exact ⟨by rw [e]; rfl, hE.out⟩
      · have e : f = 0 := by rw [← hf.out, if_neg h]
        rw [decide_eq_false h]
        go_wp2
        go_meet
        case rel => exact ⟨by rw [e]; rfl, hE.out⟩
    case rest =>
      clear hE
      obtain ⟨rfl, hE⟩ := hcut
      rename ∀ (a : Act) (w : World), Code.wp _ _ _ a w → _ => hK5
      refine hK5 _ _ ?_
      clear hK5
      have hn1 := rowN_le B f (by omega)
      obtain ⟨nd, hnd0⟩ : ∃ nd : Nat, rowN B f = nd := ⟨_, rfl⟩
      have hnd := Lib.hid hnd0
      have kf := Lib.hid (kr.out f (f : Int) nd rfl hnd0 hfl)
      rw [hnd0] at hn1
      rw [hBl] at hn1
      clear hnd0
      by_cases h0 : nd = 0
      · have hv : Hid (shpB B = ((f : Int), 0, 0)) := by show _ = _; unfold shpB; simp only [hf.out, hnd.out]; rw [if_pos h0]
        subst h0
        go_wp2_with (first
          | (go_at_call 52; (with_reducible refine (kf.out _ hE.out).mono ?_); rintro e w2 ⟨rfl, xE2⟩))
        refine bodyPost_ret (v := .tuple #[.int .i64 ↑f, .int .i64 0, .int .i64 0]) ?h rfl ⟨by rw [hv.out]; rfl, ext_trans hE.out xE2⟩
        case h => simp [results, Tryz.results33, go_sem]
      · obtain ⟨p, pb, hp⟩ : ∃ p pb, ptS B (f + nd) = (p, pb) := ⟨_, _, rfl⟩
        have HP := Lib.hid hp
        obtain ⟨q, qb, hq⟩ : ∃ q qb, exS B p = (q, qb) := ⟨_, _, rfl⟩
        have HQ := Lib.hid hq
        have hv : Hid (shpB B = if pb = true then ((p : Int), 0, 0) else if qb = true then ((q : Int), 0, 0) else if q < B.length then ((q : Int), 0, 0) else (-1, f, f + nd)) := by
          show _ = _; unfold shpB; simp only [hf.out, hnd.out]; rw [if_neg h0]; simp only [hp, hq]
        clear hp hq
        obtain ⟨en, hen⟩ : ∃ en, f + nd = en := ⟨_, rfl⟩
        have hef : ((en : Int) == (f : Int)) = false := by simp; omega
        have hel : en ≤ n := by omega
        have hfn : (f : Int) + (nd : Int) = (en : Int) := by omega
        rw [hfn] at kf
        rw [hen] at HP hv hn1
        clear hen
        go_upto_region 9 with (first
          | (go_at_call 52; (with_reducible refine (kf.out _ hE.out).mono ?_); rintro e w2 ⟨rfl, xE2⟩; have hE2 := Lib.hid (ext_trans hE.out xE2); clear hE; have hE := hE2))
        go_cut [5, 6, 7, 42] (fun v5 v6 v7 vt wx => v5 = .int .i64 (en : Int) ∧ v6 = .int .i64 (f : Int) ∧ v7 = .int .i64 (en : Int) ∧ vt = .bool (decide (B[en]? = some 46)) ∧ Hid (Ext w wx))
        case first =>
          rcases LK.out (en) with ⟨h1, h2, q1⟩ | ⟨h1, q1, b, off, x, rfl, h2, h3⟩
          · have hdv := Lib.hid (decide_eq_false (show ¬ B[en]? = some 46 by rw [h2]; simp))
            have h9 : ¬ ((en : Int) < (n : Int)) := by omega
            have q3 : decide ((en : Int) < (n : Int)) = false := decide_eq_false h9
            clear h1 h2 q1
            go_wp2
            go_meet
            case rel => exact ⟨rfl, rfl, rfl, by rw [hdv.out], hE.out⟩
          · have hbc := h3.out _ hE.out
            have hs := at_sign h2 46 (by decide)
            by_cases hx : x = 46
            · have hdv := Lib.hid (decide_eq_true (hs.2 hx))
              subst hx
              obtain ⟨hb, hc⟩ := hbc
              have h9 : (en : Int) < (n : Int) := by omega
              have q3 : decide ((en : Int) < (n : Int)) = true := decide_eq_true h9
              clear h1 h2 h3 hs q1
              go_wp2
              go_meet
              case rel => exact ⟨rfl, rfl, rfl, by rw [hdv.out], hE.out⟩
            · have hdv := Lib.hid (decide_eq_false (fun q => hx (hs.1 q)))
              have q2 : (x == 46) = false := by simpa using hx
              obtain ⟨hb, hc⟩ := hbc
              have h9 : (en : Int) < (n : Int) := by omega
              have q3 : decide ((en : Int) < (n : Int)) = true := decide_eq_true h9
              clear h1 h2 h3 hs q1 hx
              go_wp2
              go_meet
              case rel => exact ⟨rfl, rfl, rfl, by rw [hdv.out], hE.out⟩
        case rest =>
          clear hE
          obtain ⟨rfl, rfl, rfl, rfl, hE⟩ := hcut
          rename ∀ (a : Act) (w : World), Code.wp _ _ _ a w → _ => hK5
          refine hK5 _ _ ?_
          clear hK5
          go_cut [5, 6, 7] (fun v5 v6 v7 wx => v5 = .int .i64 (p : Int) ∧ v6 = .int .i64 (f : Int) ∧ v7 = .int .i64 (en : Int) ∧ pb = false ∧ p ≤ n ∧ Hid (Ext w wx))
          case first =>
            by_cases hd : B[en]? = some 46
            · rw [decide_eq_true hd]
              have hlt : en + 1 ≤ n := by have := (List.getElem?_eq_some_iff.1 hd).1; omega
              obtain ⟨m, hm⟩ : ∃ m, rowN B (en + 1) = m := ⟨_, rfl⟩
              have hle := rowN_le B (en + 1) (by omega)
              have km := Lib.hid (kr.out (en + 1) ((en : Int) + 1) m (by omega) hm hlt)
              have hpe : (p, pb) = (en + 1 + m, decide (m = 0)) := by rw [← HP.out, ← hm]; unfold ptS; rw [if_pos hd]
              rw [hm] at hle
              rw [hBl] at hle
              cases hpe
              clear hd hm
              by_cases hm0 : m = 0
              · subst hm0
                go_wp2_with (first
                  | (go_at_call 52; (with_reducible refine (km.out _ hE.out).mono ?_); rintro e w3 ⟨rfl, xE3⟩))
                refine bodyPost_ret (v := .tuple #[.int .i64 (↑en + 1), .int .i64 0, .int .i64 0]) ?h rfl ⟨by rw [hv.out]; simp, ext_trans hE.out xE3⟩
                case h => simp [results, Tryz.results33, go_sem]
              · have hmz : ((en : Int) + 1 + (m : Int) == (en : Int) + 1) = false := by simp; omega
                go_wp2_with (first
                  | (go_at_call 52; (with_reducible refine (km.out _ hE.out).mono ?_); rintro e w3 ⟨rfl, xE3⟩))
                go_meet
                case rel => exact ⟨by first | (congr 1; done) | (congr 1; omega), rfl, rfl, by simpa using hm0, hle, ext_trans hE.out xE3⟩
            · rw [decide_eq_false hd]
              have hpe : (p, pb) = (en, false) := by rw [← HP.out]; unfold ptS; rw [if_neg hd]
              cases hpe
              go_wp2
              go_meet
              case rel => exact ⟨rfl, rfl, rfl, trivial, hel, hE.out⟩
          case rest =>
            clear hE
            obtain ⟨rfl, rfl, rfl, rfl, hpl, hE⟩ := hcut
            rename ∀ (a : Act) (w : World), Code.wp _ _ _ a w → _ => hK5
            refine hK5 _ _ ?_
            clear hK5
            have hv2 : Hid (shpB B = if qb = true then ((q : Int), 0, 0) else if q < B.length then ((q : Int), 0, 0) else (-1, f, en)) := by
              show _ = _; rw [hv.out, if_neg (by decide)]
            clear hv HP kf
            go_upto_region 14 with (first
              | (go_at_call 51; skip))
            go_cut [5, 6, 7, 63] (fun v5 v6 v7 vt wx => v5 = .int .i64 (p : Int) ∧ v6 = .int .i64 (f : Int) ∧ v7 = .int .i64 (en : Int) ∧ vt = .bool (decide (B[p]? = some 101)) ∧ Hid (Ext w wx))
            case first =>
              rcases LK.out (p) with ⟨h1, h2, q1⟩ | ⟨h1, q1, b, off, x, rfl, h2, h3⟩
              · have hdv := Lib.hid (decide_eq_false (show ¬ B[p]? = some 101 by rw [h2]; simp))
                have h9 : ¬ ((p : Int) < (n : Int)) := by omega
                have q3 : decide ((p : Int) < (n : Int)) = false := decide_eq_false h9
                clear h1 h2 q1
                go_wp2
                go_meet
                case rel => exact ⟨rfl, rfl, rfl, by rw [hdv.out], hE.out⟩
              · have hbc := h3.out _ hE.out
                have hs := at_sign h2 101 (by decide)
                by_cases hx : x = 101
                · have hdv := Lib.hid (decide_eq_true (hs.2 hx))
                  subst hx
                  obtain ⟨hb, hc⟩ := hbc
                  have h9 : (p : Int) < (n : Int) := by omega
                  have q3 : decide ((p : Int) < (n : Int)) = true := decide_eq_true h9
                  clear h1 h2 h3 hs q1
                  go_wp2
                  go_meet
                  case rel => exact ⟨rfl, rfl, rfl, by rw [hdv.out], hE.out⟩
                · have hdv := Lib.hid (decide_eq_false (fun q => hx (hs.1 q)))
                  have q2 : (x == 101) = false := by simpa using hx
                  obtain ⟨hb, hc⟩ := hbc
                  have h9 : (p : Int) < (n : Int) := by omega
                  have q3 : decide ((p : Int) < (n : Int)) = true := decide_eq_true h9
                  clear h1 h2 h3 hs q1 hx
                  go_wp2
                  go_meet
                  case rel => exact ⟨rfl, rfl, rfl, by rw [hdv.out], hE.out⟩
            case rest =>
              clear hE
              obtain ⟨rfl, rfl, rfl, rfl, hE⟩ := hcut
              rename ∀ (a : Act) (w : World), Code.wp _ _ _ a w → _ => hK5
              refine hK5 _ _ ?_
              clear hK5
              go_cut [5, 6, 7] (fun v5 v6 v7 wx => v5 = .int .i64 (q : Int) ∧ v6 = .int .i64 (f : Int) ∧ v7 = .int .i64 (en : Int) ∧ qb = false ∧ q ≤ n ∧ Hid (Ext w wx))
              case first =>
                by_cases hd : B[p]? = some 101
                · rw [decide_eq_true hd]
                  have hlt : p + 1 ≤ n := by have := (List.getElem?_eq_some_iff.1 hd).1; omega
                  go_upto_region 16 with (first
                    | (go_at_call 51; skip))
                  go_cut [5, 6, 7, 76] (fun v5 v6 v7 vt wx => v5 = .int .i64 ((p : Int) + 1) ∧ v6 = .int .i64 (f : Int) ∧ v7 = .int .i64 (en : Int) ∧ vt = .bool (decide (B[p + 1]? = some 45)) ∧ Hid (Ext w wx))
                  case first =>
                    rcases LK.out (p + 1) with ⟨h1, h2, q1⟩ | ⟨h1, q1, b, off, x, rfl, h2, h3⟩
                    · have hdv := Lib.hid (decide_eq_false (show ¬ B[p + 1]? = some 45 by rw [h2]; simp))
                      have h9 : ¬ (((p : Int) + 1) < (n : Int)) := by omega
                      have q3 : decide (((p : Int) + 1) < (n : Int)) = false := decide_eq_false h9
                      clear h1 h2 q1
                      go_wp2
                      go_meet
                      case rel => exact ⟨rfl, rfl, rfl, by rw [hdv.out], hE.out⟩
                    · have hbc := h3.out _ hE.out
                      have hs := at_sign h2 45 (by decide)
                      by_cases hx : x = 45
                      · have hdv := Lib.hid (decide_eq_true (hs.2 hx))
                        subst hx
                        obtain ⟨hb, hc⟩ := hbc
                        have h9 : ((p : Int) + 1) < (n : Int) := by omega
                        have q3 : decide (((p : Int) + 1) < (n : Int)) = true := decide_eq_true h9
                        clear h1 h2 h3 hs q1
                        go_wp2
                        go_meet
                        case rel => exact ⟨rfl, rfl, rfl, by rw [hdv.out], hE.out⟩
                      · have hdv := Lib.hid (decide_eq_false (fun q => hx (hs.1 q)))
                        have q2 : (x == 45) = false := by simpa using hx
                        obtain ⟨hb, hc⟩ := hbc
                        have h9 : ((p : Int) + 1) < (n : Int) := by omega
                        have q3 : decide (((p : Int) + 1) < (n : Int)) = true := decide_eq_true h9
                        clear h1 h2 h3 hs q1 hx
                        go_wp2
                        go_meet
                        case rel => exact ⟨rfl, rfl, rfl, by rw [hdv.out], hE.out⟩
                  case rest =>
                    clear hE
                    obtain ⟨rfl, rfl, rfl, rfl, hE⟩ := hcut
                    rename ∀ (a : Act) (w : World), Code.wp _ _ _ a w → _ => hK5
                    refine hK5 _ _ ?_
                    clear hK5
                    by_cases hms : B[p + 1]? = some 45
                    · rw [decide_eq_true hms]
                      have hlt2 : p + 2 ≤ n := by have := (List.getElem?_eq_some_iff.1 hms).1; omega
                      obtain ⟨m, hm⟩ : ∃ m, rowN B (p + 2) = m := ⟨_, rfl⟩
                      have hle := rowN_le B (p + 2) (by omega)
                      have km := Lib.hid (kr.out (p + 2) ((p : Int) + 1 + 1) m (by omega) hm (by omega))
                      have hqe : (q, qb) = (p + 2 + m, decide (m = 0)) := by rw [← HQ.out, ← hm]; unfold exS; rw [if_pos hd, if_pos hms]
                      rw [hm] at hle
                      rw [hBl] at hle
                      cases hqe
                      clear hm
                      by_cases hm0 : m = 0
                      · subst hm0
                        go_wp2_with (first
                          | (go_at_call 52; (with_reducible refine (km.out _ hE.out).mono ?_); rintro e w3 ⟨rfl, xE3⟩))
                        refine bodyPost_ret (v := .tuple #[.int .i64 (↑p + 1 + 1), .int .i64 0, .int .i64 0]) ?h rfl ⟨by rw [hv2.out]; simp <;> omega, ext_trans hE.out xE3⟩
                        case h => simp [results, Tryz.results33, go_sem]
                      · have hmz : ((p : Int) + 1 + 1 + (m : Int) == (p : Int) + 1 + 1) = false := by simp; omega
                        go_wp2_with (first
                          | (go_at_call 52; (with_reducible refine (km.out _ hE.out).mono ?_); rintro e w3 ⟨rfl, xE3⟩))
                        go_meet
                        case rel => exact ⟨by first | (congr 1; done) | (congr 1; omega), rfl, rfl, by simpa using hm0, hle, ext_trans hE.out xE3⟩
                    · rw [decide_eq_false hms]
                      obtain ⟨m, hm⟩ : ∃ m, rowN B (p + 1) = m := ⟨_, rfl⟩
                      have hle := rowN_le B (p + 1) (by omega)
                      have km := Lib.hid (kr.out (p + 1) ((p : Int) + 1) m (by omega) hm (by omega))
                      have hqe : (q, qb) = (p + 1 + m, decide (m = 0)) := by rw [← HQ.out, ← hm]; unfold exS; rw [if_pos hd, if_neg hms]
                      rw [hm] at hle
                      rw [hBl] at hle
                      cases hqe
                      clear hm
                      by_cases hm0 : m = 0
                      · subst hm0
                        go_wp2_with (first
                          | (go_at_call 52; (with_reducible refine (km.out _ hE.out).mono ?_); rintro e w3 ⟨rfl, xE3⟩))
                        refine bodyPost_ret (v := .tuple #[.int .i64 (↑p + 1), .int .i64 0, .int .i64 0]) ?h rfl ⟨by rw [hv2.out]; simp <;> omega, ext_trans hE.out xE3⟩
                        case h => simp [results, Tryz.results33, go_sem]
                      · have hmz : ((p : Int) + 1 + (m : Int) == (p : Int) + 1) = false := by simp; omega
                        go_wp2_with (first
                          | (go_at_call 52; (with_reducible refine (km.out _ hE.out).mono ?_); rintro e w3 ⟨rfl, xE3⟩))
                        go_meet
                        case rel => exact ⟨by first | (congr 1; done) | (congr 1; omega), rfl, rfl, by simpa using hm0, hle, ext_trans hE.out xE3⟩
                · rw [decide_eq_false hd]
                  have hqe : (q, qb) = (p, false) := by rw [← HQ.out]; unfold exS; rw [if_neg hd]
                  cases hqe
                  go_wp2
                  go_meet
                  case rel => exact ⟨rfl, rfl, rfl, trivial, hpl, hE.out⟩
              case rest =>
                clear hE
                obtain ⟨rfl, rfl, rfl, rfl, hql, hE⟩ := hcut
                rename ∀ (a : Act) (w : World), Code.wp _ _ _ a w → _ => hK5
                refine hK5 _ _ ?_
                clear hK5
                by_cases hend : q < n
                · have hv3 : Hid (shpB B = ((q : Int), 0, 0)) := by show _ = _; rw [hv2.out, if_neg (by decide), if_pos (by omega)]
                  have hend' : (q : Int) < (n : Int) := by omega
                  go_wp2
                  refine bodyPost_ret (v := .tuple #[.int .i64 ↑q, .int .i64 0, .int .i64 0]) ?h rfl ⟨by rw [hv3.out]; rfl, hE.out⟩
                  case h => simp [results, Tryz.results33, go_sem]
                · have hv3 : Hid (shpB B = (-1, f, en)) := by show _ = _; rw [hv2.out, if_neg (by decide), if_neg (by omega)]
                  have hend' : ¬ (q : Int) < (n : Int) := by omega
                  go_wp2
                  refine bodyPost_ret (v := .tuple #[.int .i64 (-1), .int .i64 ↑f, .int .i64 ↑en]) ?h rfl ⟨by rw [hv3.out], hE.out⟩
                  case h => simp [results, Tryz.results33, go_sem]
end Go.Proofs.YtgedpfbokkambaaGreatDoor
end
