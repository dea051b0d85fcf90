/- Lemmas of this proof, laid together: MkG, MkH, MkI, MkJ, MkK, MkL, MkM, MdA. -/
import Derived.Test.YtgedpfbokkambaaGreatDoorMg02
import Derived.Test.YtgedpfbokkambaaGreatDoorMg01
import Derived.Test.YtgedpfbokkambaaGreatDoorMg12
import Derived.Test.YtgedpfbokkambaaGreatDoorShelf
import Derived.Deep.DeepCutAuto
import Derived.Shelf.Strings.SlTrimAscii
import Derived.Maps.Own
import Derived.Maps.OwnOps
import Derived.Maps.Views
import Derived.Laws.IdiomStrings
import Derived.Lib.OthersKept
import Derived.Laws.Cover4
import Derived.Test.YtgedpfbokkambaaGreatDoorMg04
import Derived.Deep.RegionWith
import Derived.Deep.LoopGhost
set_option linter.unusedSimpArgs false
set_option linter.unusedVariables false
section
/- Marks: digits and shape of the program. -/
namespace Go.Proofs.YtgedpfbokkambaaGreatDoor
open Go.RowKit
attribute [local go_sem] bs_size bs_extract bs_get bs_append bs_toList const_get
set_option maxHeartbeats 4000000
set_option maxRecDepth 100000
attribute [local irreducible] Calls
theorem ten_digits (b : UInt8) : [48, 49, 50, 51, 52, 53, 54, 55, 56, 57].contains b = isD b := by
  rw [Bool.eq_iff_iff, List.contains_iff_mem]
  simp only [isD]
  simp only [List.mem_cons, List.not_mem_nil, or_false, ← UInt8.toNat_inj]
  simp
  constructor
  · intro h; omega
  · intro h; omega
theorem trim_digits (l : List UInt8) : Lib.trimLeftS (bs l).data.toList (⟨#[48, 49, 50, 51, 52, 53, 54, 55, 56, 57]⟩ : ByteArray).data.toList = l.dropWhile isD := by
  rw [bs_data]
  show l.dropWhile (fun b => [48, 49, 50, 51, 52, 53, 54, 55, 56, 57].contains b) = _
  congr 1
  funext b
  exact ten_digits b
theorem st_TrimLeft (l : List UInt8) (w : World) :
    Calls Tryz.prog 62 #[.string (bs l), .string ⟨#[48, 49, 50, 51, 52, 53, 54, 55, 56, 57]⟩] w fun e w' => e = .returned (.string (bs (l.dropWhile isD))) ∧ Ext w w' := by
  refine (Any.strings_TrimLeft_laid Tryz.lays161 (by kernel_rfl) (bs l) ⟨#[48, 49, 50, 51, 52, 53, 54, 55, 56, 57]⟩ w (by decide) (ascii_of_all (by decide))).mono ?_
  rintro e w' ⟨rfl, h⟩
  exact ⟨by rw [trim_digits]; rfl, h⟩
theorem drop_while_len (l : List UInt8) : (l.dropWhile isD).length + (l.takeWhile isD).length = l.length := by
  have := congrArg List.length (List.takeWhile_append_dropWhile (p := isD) (l := l))
  rw [List.length_append] at this; omega
/-- How many digits stand from a place on. -/
def rowN (l : List UInt8) (at_ : Nat) : Nat := ((l.drop at_).takeWhile isD).length
theorem rowN_le (l : List UInt8) (a : Nat) (h : a ≤ l.length) : a + rowN l a ≤ l.length := by
  unfold rowN
  have := drop_while_len (l.drop a)
  rw [List.length_drop] at this
  omega
theorem mk_digits (l : List UInt8) (hl : l.length ≤ 1000000) (w : World) :
    Calls Tryz.prog 45 #[.string (bs l)] w fun e w' => e = .returned (.int .i64 (l.takeWhile isD).length) ∧ Ext w w' := by
  have h1 := drop_while_len l
  have k1 : ∀ w', Ext w w' → Calls Tryz.prog 62 #[.string (bs l), .string ⟨#[48, 49, 50, 51, 52, 53, 54, 55, 56, 57]⟩] w' fun e w'' => e = .returned (.string (bs (l.dropWhile isD))) ∧ Ext w' w'' := fun w' _ => st_TrimLeft l w'
  go_enter Tryz.func45, Tryz.ntmps45
  go_wp2_with (first
    | (go_at_call 62; (with_reducible refine (k1 _ (by (repeat (first | exact ext_refl _ | assumption | refine ext_setCell ?_ (by simp; try omega) _ | refine ext_alloc ?_ _ | refine ext_drew ?_ | refine ext_drewN ?_ _ | refine ext_trans ?_ (Aft.use _) | refine ext_trans ?_ (by assumption))))).mono ?_); rintro e w1 ⟨rfl, xb1⟩; obtain ⟨xc1, xf1, xl1, xz1⟩ := ext_use xb1; (try simp at xz1))
   )
  have h2 : ((l.length : Nat) : Int) - ((List.dropWhile isD l).length : Nat) = ((List.takeWhile isD l).length : Nat) := by omega
  refine bodyPost_ret (v := .int .i64 ↑(l.takeWhile isD).length) ?h rfl ⟨rfl, ?_⟩
  case h => simp [results, Tryz.results45, go_sem, h2]
  repeat (first | exact ext_refl _ | assumption | refine ext_setCell ?_ (by simp; try omega) _ | refine ext_alloc ?_ _ | refine ext_drew ?_ | refine ext_drewN ?_ _ | refine ext_trans ?_ (Aft.use _) | refine ext_trans ?_ (by assumption))
/-- Behind a point: the place, and is it a bad one? -/
def ptS (l : List UInt8) (a : Nat) : Nat × Bool := if l[a]? = some 46 then (a + 1 + rowN l (a + 1), decide (rowN l (a + 1) = 0)) else (a, false)
/-- Behind an exponent. -/
def exS (l : List UInt8) (a : Nat) : Nat × Bool :=
  if l[a]? = some 101 then
    let b := if l[a + 1]? = some 45 then a + 2 else a + 1
    (b + rowN l b, decide (rowN l b = 0))
  else (a, false)
/-- Where a plain text's whole part begins and ends; or where it is none. -/
def shpB (l : List UInt8) : Int × Nat × Nat :=
  let f := if l[0]? = some 45 then 1 else 0
  if rowN l f = 0 then ((f : Nat), 0, 0) else
    let p := ptS l (f + rowN l f)
    if p.2 = true then ((p.1 : Nat), 0, 0) else
      let q := exS l p.1
      if q.2 = true then ((q.1 : Nat), 0, 0) else if q.1 < l.length then ((q.1 : Nat), 0, 0) else (-1, f, f + rowN l f)
theorem pre1 (l : List UInt8) (a : Nat) (x : UInt8) : Lib.hasPrefix (l.drop a) [x] = decide (l[a]? = some x) := by
  unfold Lib.hasPrefix
  have e : l[a]? = (l.drop a)[0]? := by rw [List.getElem?_drop]; rfl
  rw [e]
  cases h : l.drop a with
  | nil => simp
  | cons y t =>
    show (x == y && List.isPrefixOf [] t) = _
    by_cases hxy : x = y
    · subst hxy; simp [List.isPrefixOf]
    · have h2 : ¬ y = x := fun e => hxy e.symm
      simp [hxy, h2]
theorem mk_shape (l : List UInt8) (hl : l.length ≤ 1000000) (w : World) :
    Calls Tryz.prog 25 #[.string (bs l)] w fun e w' => e = .returned (.tuple #[.int .i64 (shpB l).2.1, .int .i64 (shpB l).2.2, .int .i64 (shpB l).1]) ∧ Ext w w' := by
  obtain ⟨f, hf0⟩ : ∃ f : Nat, (if l[0]? = some 45 then 1 else 0) = f := ⟨_, rfl⟩
  have hf := Lib.hid hf0
  clear hf0
  have hf1 : f ≤ 1 ∧ f ≤ l.length := by
    rw [← hf.out]
    split
    · rename_i h
      have := (List.getElem?_eq_some_iff.1 h).1
      omega
    · omega
  have kd : ∀ a, a ≤ l.length → ∀ w', Calls Tryz.prog 45 #[.string (bs (l.drop a))] w' fun e w'' => e = .returned (.int .i64 (rowN l a)) ∧ Ext w' w'' := fun a ha w' => mk_digits (l.drop a) (by rw [List.length_drop]; omega) w'
  have kp : ∀ a (x : UInt8) w', Calls Tryz.prog 44 #[.string (bs (l.drop a)), .string ⟨#[x]⟩] w' fun e w'' => e = .returned (.bool (decide (l[a]? = some x))) ∧ w' = w'' := fun a x w' =>
    (Tryz.strings_HasPrefix (bs (l.drop a)) ⟨#[x]⟩ w').mono fun e w'' ⟨h1, h2⟩ => ⟨by rw [h1, bs_data]; exact congrArg (fun b => Ending.returned (.bool b)) (pre1 l a x), h2.symm⟩
  have kp0 : ∀ w', Calls Tryz.prog 44 #[.string (bs l), .string ⟨#[45]⟩] w' fun e w'' => e = .returned (.bool (decide (l[0]? = some 45))) ∧ w' = w'' := fun w' => by have := kp 0 45 w'; rwa [List.drop_zero] at this
  have KD := Lib.hid kd
  have KP := Lib.hid kp
  clear kd kp
  go_enter Tryz.func25, Tryz.ntmps25
  go_upto_if 9 with (first
    | (go_at_call 44; (with_reducible refine (kp0 _).mono ?_); rintro e w1 ⟨rfl, rfl⟩))
  go_cut [2] (fun v2 wx => v2 = .int .i64 f ∧ Hid (Ext w wx))
  case first =>
    by_cases h : l[0]? = some 45
    · have e : f = 1 := by rw [← hf.out, if_pos h]
      rw [decide_eq_true h]
      go_wp2
      go_meet
      case rel => exact ⟨by rw [e]; rfl, ext_refl _⟩
    · have e : f = 0 := by rw [← hf.out, if_neg h]
      rw [decide_eq_false h]
      go_wp2
      go_meet
      case rel => exact ⟨by rw [e]; rfl, ext_refl _⟩
  case rest =>
    obtain ⟨rfl, hE⟩ := hcut
    rename ∀ (a : Act) (w : World), Code.wp _ _ _ a w → _ => hK5
    refine hK5 _ _ ?_
    clear hK5
    have hfl : f ≤ l.length := hf1.2
    have hn1 := rowN_le l f hfl
    obtain ⟨nd, hnd0⟩ : ∃ nd : Nat, rowN l f = nd := ⟨_, rfl⟩
    have hnd := Lib.hid hnd0
    have kf := KD.out f hfl
    rw [hnd0] at kf hn1
    clear hnd0
    by_cases h0 : nd = 0
    · have hv : Hid (shpB l = ((f : Int), 0, 0)) := by show _ = _; unfold shpB; simp only [hf.out, hnd.out]; rw [if_pos h0]
      subst h0
      go_wp2_with (first
        | (go_at_call 45; (with_reducible refine (kf _).mono ?_); rintro e w2 ⟨rfl, xE2⟩))
      refine bodyPost_ret (v := .tuple #[.int .i64 0, .int .i64 0, .int .i64 ↑f]) ?h rfl ⟨by rw [hv.out]; rfl, ext_trans hE.out xE2⟩
      case h => simp [results, Tryz.results25, go_sem]
    · obtain ⟨p, pb, hp⟩ : ∃ p pb, ptS l (f + nd) = (p, pb) := ⟨_, _, rfl⟩
      have HP := Lib.hid hp
      obtain ⟨q, qb, hq⟩ : ∃ q qb, exS l p = (q, qb) := ⟨_, _, rfl⟩
      have HQ := Lib.hid hq
      have hv : Hid (shpB l = if pb = true then ((p : Int), 0, 0) else if qb = true then ((q : Int), 0, 0) else if q < l.length then ((q : Int), 0, 0) else (-1, f, f + nd)) := by
        show _ = _; unfold shpB; simp only [hf.out, hnd.out]; rw [if_neg h0]; simp only [hp, hq]
      clear hp hq
      have hfe : ((f : Int) + (nd : Int) == (f : Int)) = false := by simp; omega
      go_upto_if 24 with (first
        | (go_at_call 45; (with_reducible refine (kf _).mono ?_); rintro e w2 ⟨rfl, xE2⟩; have hE2 := Lib.hid (ext_trans hE.out xE2))
        | (go_at_call 44; (with_reducible refine (KP.out _ _ _).mono ?_); rintro e w1 ⟨rfl, rfl⟩))
      go_cut [2, 3, 5] (fun v2 v3 v5 wx => v2 = .int .i64 (f : Int) ∧ v3 = .int .i64 ((f : Int) + (nd : Int)) ∧ v5 = .int .i64 (p : Int) ∧ pb = false ∧ p ≤ l.length ∧ Hid (Ext w wx))
      case first =>
        by_cases hd : l[f + nd]? = some 46
        · rw [decide_eq_true hd]
          have hlt : f + nd + 1 ≤ l.length := (List.getElem?_eq_some_iff.1 hd).1
          obtain ⟨m, hm⟩ : ∃ m, rowN l (f + nd + 1) = m := ⟨_, rfl⟩
          have hle := rowN_le l (f + nd + 1) hlt
          have km := KD.out (f + nd + 1) hlt
          have hpe : (p, pb) = (f + nd + 1 + m, decide (m = 0)) := by rw [← HP.out, ← hm]; unfold ptS; rw [if_pos hd]
          rw [hm] at km hle
          cases hpe
          by_cases hm0 : m = 0
          · subst hm0
            go_wp2_with (first
              | (go_at_call 45; (with_reducible refine (km _).mono ?_); rintro e w3 ⟨rfl, xE3⟩))
            refine bodyPost_ret (v := .tuple #[.int .i64 0, .int .i64 0, .int .i64 (↑f + ↑nd + 1)]) ?h rfl ⟨by rw [hv.out]; simp, ext_trans hE2.out xE3⟩
            case h => simp [results, Tryz.results25, go_sem]
          · have hmz : ((m : Int) == 0) = false := by simp; omega
            go_wp2_with (first
              | (go_at_call 45; (with_reducible refine (km _).mono ?_); rintro e w3 ⟨rfl, xE3⟩))
            go_meet
            case rel => exact ⟨rfl, rfl, by first | (congr 1; done) | (congr 1; omega), by simpa using hm0, hle, ext_trans hE2.out xE3⟩
        · rw [decide_eq_false hd]
          have hpe : (p, pb) = (f + nd, false) := by rw [← HP.out]; unfold ptS; rw [if_neg hd]
          cases hpe
          go_wp2
          go_meet
          case rel => exact ⟨rfl, rfl, by first | rfl | (congr 1), by simp, hn1, hE2.out⟩
      case rest =>
        obtain ⟨rfl, rfl, rfl, rfl, hpl, hE3⟩ := hcut
        rename ∀ (a : Act) (w : World), Code.wp _ _ _ a w → _ => hK5
        refine hK5 _ _ ?_
        clear hK5
        go_upto_if 41 with (first
          | (go_at_call 44; (with_reducible refine (KP.out _ _ _).mono ?_); rintro e w1 ⟨rfl, rfl⟩))
        have hv2 : Hid (shpB l = if qb = true then ((q : Int), 0, 0) else if q < l.length then ((q : Int), 0, 0) else (-1, f, f + nd)) := by
          show _ = _; rw [hv.out, if_neg (by decide)]
        clear hv HP
        go_cut [2, 3, 5] (fun v2 v3 v5 wx => v2 = .int .i64 (f : Int) ∧ v3 = .int .i64 ((f : Int) + (nd : Int)) ∧ v5 = .int .i64 (q : Int) ∧ qb = false ∧ q ≤ l.length ∧ Hid (Ext w wx))
        case first =>
          by_cases hd : l[p]? = some 101
          · rw [decide_eq_true hd]
            have hlt : p + 1 ≤ l.length := (List.getElem?_eq_some_iff.1 hd).1
            by_cases hms : l[p + 1]? = some 45
            · have hlt2 : p + 2 ≤ l.length := (List.getElem?_eq_some_iff.1 hms).1
              obtain ⟨m, hm⟩ : ∃ m, rowN l (p + 2) = m := ⟨_, rfl⟩
              have hle := rowN_le l (p + 2) hlt2
              have km := KD.out (p + 2) hlt2
              have hqe : (q, qb) = (p + 2 + m, decide (m = 0)) := by rw [← HQ.out, ← hm]; unfold exS; rw [if_pos hd, if_pos hms]
              rw [hm] at km hle
              cases hqe
              have hms2 : decide (l[p + 1]? = some 45) = true := decide_eq_true hms
              have hc2 : (p : Int) + 1 + 1 = ((p + 2 : Nat) : Int) := by omega
              by_cases hm0 : m = 0
              · subst hm0
                go_wp2_with (first
                  | (go_at_call 45; (with_reducible refine (km _).mono ?_); rintro e w3 ⟨rfl, xE3⟩)
                  | (go_at_call 44; (with_reducible refine (KP.out _ _ _).mono ?_); rintro e w1 ⟨rfl, rfl⟩; rw [hms2]))
                refine bodyPost_ret (v := .tuple #[.int .i64 0, .int .i64 0, .int .i64 (↑p + 2)]) ?h rfl ⟨by rw [hv2.out]; simp, ext_trans hE3.out xE3⟩
                case h => simp [results, Tryz.results25, go_sem]
              · have hmz : ((m : Int) == 0) = false := by simp; omega
                go_wp2_with (first
                  | (go_at_call 45; (with_reducible refine (km _).mono ?_); rintro e w3 ⟨rfl, xE3⟩)
                  | (go_at_call 44; (with_reducible refine (KP.out _ _ _).mono ?_); rintro e w1 ⟨rfl, rfl⟩; rw [hms2]))
                go_meet
                case rel => exact ⟨rfl, rfl, by first | (congr 1; done) | (congr 1; omega), by simpa using hm0, hle, ext_trans hE3.out xE3⟩
            · obtain ⟨m, hm⟩ : ∃ m, rowN l (p + 1) = m := ⟨_, rfl⟩
              have hle := rowN_le l (p + 1) hlt
              have km := KD.out (p + 1) hlt
              have hqe : (q, qb) = (p + 1 + m, decide (m = 0)) := by rw [← HQ.out, ← hm]; unfold exS; rw [if_pos hd, if_neg hms]
              rw [hm] at km hle
              cases hqe
              have hms2 : decide (l[p + 1]? = some 45) = false := decide_eq_false hms
              by_cases hm0 : m = 0
              · subst hm0
                go_wp2_with (first
                  | (go_at_call 45; (with_reducible refine (km _).mono ?_); rintro e w3 ⟨rfl, xE3⟩)
                  | (go_at_call 44; (with_reducible refine (KP.out _ _ _).mono ?_); rintro e w1 ⟨rfl, rfl⟩; rw [hms2]))
                refine bodyPost_ret (v := .tuple #[.int .i64 0, .int .i64 0, .int .i64 (↑p + 1)]) ?h rfl ⟨by rw [hv2.out]; simp, ext_trans hE3.out xE3⟩
                case h => simp [results, Tryz.results25, go_sem]
              · have hmz : ((m : Int) == 0) = false := by simp; omega
                go_wp2_with (first
                  | (go_at_call 45; (with_reducible refine (km _).mono ?_); rintro e w3 ⟨rfl, xE3⟩)
                  | (go_at_call 44; (with_reducible refine (KP.out _ _ _).mono ?_); rintro e w1 ⟨rfl, rfl⟩; rw [hms2]))
                go_meet
                case rel => exact ⟨rfl, rfl, by first | (congr 1; done) | (congr 1; omega), by simpa using hm0, hle, ext_trans hE3.out xE3⟩
          · rw [decide_eq_false hd]
            have hqe : (q, qb) = (p, false) := by rw [← HQ.out]; unfold exS; rw [if_neg hd]
            cases hqe
            go_wp2
            go_meet
            case rel => exact ⟨rfl, rfl, by first | rfl | (congr 1), by simp, hpl, hE3.out⟩
        case rest =>
          obtain ⟨rfl, rfl, rfl, rfl, hql, hE4⟩ := hcut
          rename ∀ (a : Act) (w : World), Code.wp _ _ _ a w → _ => hK5
          refine hK5 _ _ ?_
          clear hK5
          by_cases hend : q < l.length
          · have hv3 : Hid (shpB l = ((q : Int), 0, 0)) := by show _ = _; rw [hv2.out, if_neg (by decide), if_pos hend]
            have hend' : (q : Int) < (l.length : Int) := by omega
            go_wp2
            refine bodyPost_ret (v := .tuple #[.int .i64 0, .int .i64 0, .int .i64 ↑q]) ?h rfl ⟨by rw [hv3.out]; rfl, hE4.out⟩
            case h => simp [results, Tryz.results25, go_sem]
          · have hv3 : Hid (shpB l = (-1, f, f + nd)) := by show _ = _; rw [hv2.out, if_neg (by decide), if_neg hend]
            have hend' : ¬ (q : Int) < (l.length : Int) := by omega
            go_wp2
            refine bodyPost_ret (v := .tuple #[.int .i64 ↑f, .int .i64 (↑f + ↑nd), .int .i64 (-1)]) ?h rfl ⟨by rw [hv3.out]; rfl, hE4.out⟩
            case h => simp [results, Tryz.results25, go_sem]
end Go.Proofs.YtgedpfbokkambaaGreatDoor
end
section
/- Marks: where the Groups stand: cuts. -/
namespace Go.Proofs.YtgedpfbokkambaaGreatDoor
open Go.RowKit Go.Maps
attribute [local go_sem] bs_size bs_extract bs_get bs_append bs_toList const_get
set_option maxHeartbeats 4000000
set_option maxRecDepth 100000
attribute [local irreducible] Calls
theorem int_under : Tryz.prog.underlying 3 = some (.int .i64) := by kernel_rfl
theorem map_under : Tryz.prog.underlying 55 = some (.map 3 3) := by kernel_rfl
theorem int_law : Keyed Tryz.prog 3 := int_keyed int_under
theorem int_zero (w : World) : (zeroValue 3).run Tryz.prog w = .ok (.int .i64 0) w := by kernel_rfl
/-- A map of one's own from ints to ints, positive just where C holds. -/
def MapC (w : World) (b n : Nat) (C : Int → Prop) : Prop := ∃ D : DataW Unit, w.ownsMap Tryz.prog 3 (plainElem Tryz.prog 3) b n D ∧ IsMap D ∧ ∀ i c : Int, D.atKey (.int .i64 i) (.lit (.int .i64 0)) = .lit (.int .i64 c) → (0 < c ↔ C i)
theorem MapC.made (w : World) : MapC (w.alloc (.map #[] 0)) w.heap.size 0 (fun _ => False) :=
  ⟨.map [], World.ownsMap_made _ _ _ _, ⟨[], rfl⟩, fun i c h => by
    have : (DataW.lit (H := Unit) (.int .i64 0)) = .lit (.int .i64 c) := h
    cases this; simp⟩
theorem put_at {D : DataW Unit} (hD : IsMap D) (x v : Int) (hv : 0 < v) {C : Int → Prop} (h : ∀ i c : Int, D.atKey (.int .i64 i) (.lit (.int .i64 0)) = .lit (.int .i64 c) → (0 < c ↔ C i)) :
    ∀ i c : Int, (D.put (.int .i64 x) (.lit (.int .i64 v))).atKey (.int .i64 i) (.lit (.int .i64 0)) = .lit (.int .i64 c) → (0 < c ↔ (C i ∨ i = x)) := by
  intro i c hc
  by_cases e : i = x
  · subst e
    rw [atKey_put_same hD (by simp [WideAt.IsKeyLit])] at hc
    cases hc
    simp [hv]
  · rw [atKey_put_other (fun h2 => e (by cases h2; rfl))] at hc
    rw [h i c hc]
    simp [e]
theorem put_map {D : DataW Unit} (hD : IsMap D) (k : Lit) (d : DataW Unit) : IsMap (D.put k d) := by obtain ⟨es, rfl⟩ := hD; exact ⟨_, rfl⟩
/-- The size of the k-th group from the right. -/
def szAt (xs : List Int) (k : Nat) : Int := xs.getD (min k (xs.length - 1)) 0
/-- What is left of n digits behind k groups. -/
def remI (xs : List Int) (n : Int) : Nat → Int
  | 0 => n
  | k + 1 => remI xs n k - szAt xs k
theorem szAt_ge {xs : List Int} (h : sizesOk xs) (h0 : xs.length ≠ 0) (k : Nat) : 1 ≤ szAt xs k ∧ szAt xs k ≤ 256 := by
  unfold szAt
  rw [List.getD_eq_getElem?_getD, List.getElem?_eq_getElem (by omega : min k (xs.length - 1) < xs.length)]
  exact h _ (List.getElem_mem _)
theorem remI_le {xs : List Int} (h : sizesOk xs) (h0 : xs.length ≠ 0) (n : Int) : ∀ k : Nat, remI xs n k ≤ n - k
  | 0 => by simp [remI]
  | k + 1 => by
    have := remI_le h h0 n k
    have := (szAt_ge h h0 k).1
    rw [remI]; omega
theorem remI_anti {xs : List Int} (h : sizesOk xs) (h0 : xs.length ≠ 0) (n : Int) (k : Nat) : ∀ j, remI xs n (k + j) ≤ remI xs n k
  | 0 => Int.le_refl _
  | j + 1 => by
    have := remI_anti h h0 n k j
    have := (szAt_ge h h0 (k + j)).1
    rw [← Nat.add_assoc, remI]; omega
/-- Does a Group stand ahead of digit i of n? -/
def CutAt (G : Int) (xs : List Int) (n : Int) (i : Int) : Prop := G ≠ 0 ∧ 0 < i ∧ ∃ j : Nat, 1 ≤ j ∧ remI xs n j = i
theorem cut_all {xs : List Int} (h : sizesOk xs) (h0 : xs.length ≠ 0) {G : Int} (hG : G ≠ 0) (n : Int) (k : Nat) (hend : remI xs n (k + 1) ≤ 0) (hpos : ∀ j, 1 ≤ j → j ≤ k → 0 < remI xs n j) (i : Int) :
    (∃ j : Nat, 1 ≤ j ∧ j ≤ k ∧ remI xs n j = i) ↔ CutAt G xs n i := by
  constructor
  · rintro ⟨j, h1, h2, rfl⟩
    exact ⟨hG, hpos j h1 h2, j, h1, rfl⟩
  · rintro ⟨_, hi, j, h1, rfl⟩
    refine ⟨j, h1, ?_, rfl⟩
    rcases Nat.lt_or_ge k j with h2 | h2
    · have := remI_anti h h0 n (k + 1) (j - (k + 1))
      rw [show k + 1 + (j - (k + 1)) = j by omega] at this
      omega
    · exact h2
theorem mk_cuts_bare (P M N : Int) (A : Option Addr) (k c : Nat) (n : Nat) (xs : List Int) (w : World) :
    Calls Tryz.prog 46 #[mkV P 0 M N A k c, .int .i64 n] w fun e w' => ∃ B m, e = .returned (.map (some B)) ∧ Ext w w' ∧ w.heap.size ≤ B ∧ Hid (MapC w' B m (CutAt 0 xs n)) := by
  have hmm := @run_makeMap Tryz.prog
  go_enter Tryz.func46, Tryz.ntmps46
  go_wp2
  refine bodyPost_ret (v := .map (some (w.heap.size + 1))) ?h rfl ⟨w.heap.size + 1, 0, rfl, ?_, by omega, ?_⟩
  case h => simp [results, Tryz.results46, go_sem]
  · skip
    repeat (first | exact ext_refl _ | assumption | refine ext_setCell ?_ (by simp; try omega) _ | refine ext_alloc ?_ _ | refine ext_drew ?_ | refine ext_drewN ?_ _ | refine ext_trans ?_ (Aft.use _) | refine ext_trans ?_ (by assumption))
  · have hm := MapC.made (w.alloc (.cells #[.int .i32 P, .int .i32 0, .int .i32 M, .int .i32 N, .slice A k c] 24))
    obtain ⟨D, h1, h2, h3⟩ := hm
    exact ⟨D, by simpa using h1, h2, fun i c h => by rw [h3 i c h]; simp [CutAt]⟩
theorem mk_cuts_with (P G M N : Int) (hG : G ≠ 0) (A : Option Addr) (k c : Nat) (n : Nat) (hn : n ≤ 1000000) (xs : List Int) (w : World) (hA : RdI w A k c xs) (hk : k ≠ 0) (hs : sizesOk xs) :
    Calls Tryz.prog 46 #[mkV P G M N A k c, .int .i64 n] w fun e w' => ∃ B m, e = .returned (.map (some B)) ∧ Ext w w' ∧ w.heap.size ≤ B ∧ Hid (MapC w' B m (CutAt G xs n)) := by
  have hmm := @run_makeMap Tryz.prog
  have hl := hA.len
  have hmx := hA.mx
  have hcp := hA.cap
  obtain ⟨b, off, rfl⟩ : ∃ b off, A = some ⟨b, off, none⟩ := by rcases hA.shape with ⟨_, h0, _⟩ | h0; omega; exact h0
  have bxf : Hid (∀ W, Ext (w.alloc (.cells #[.int .i32 P, .int .i32 G, .int .i32 M, .int .i32 N, .slice (some ⟨b, off, none⟩) k c] 24)) W → W.cell? ⟨w.heap.size, 0, none⟩ = some (.int .i32 P) ∧ W.cell? ⟨w.heap.size, 1, none⟩ = some (.int .i32 G) ∧ W.cell? ⟨w.heap.size, 2, none⟩ = some (.int .i32 M) ∧ W.cell? ⟨w.heap.size, 3, none⟩ = some (.int .i32 N) ∧ W.cell? ⟨w.heap.size, 4, none⟩ = some (.slice (some ⟨b, off, none⟩) k c) ∧ w.heap.size < W.heap.size) := fun W hW => by
    have hl : w.heap.size < (w.alloc (.cells #[.int .i32 P, .int .i32 G, .int .i32 M, .int .i32 N, .slice (some ⟨b, off, none⟩) k c] 24)).heap.size := by simp
    refine ⟨?_, ?_, ?_, ?_, ?_, Nat.lt_of_lt_of_le hl hW.size⟩
    · rw [Below.cell (p := ⟨w.heap.size, 0, none⟩) hW hl]; simp [go_sem]
    · rw [Below.cell (p := ⟨w.heap.size, 1, none⟩) hW hl]; simp [go_sem]
    · rw [Below.cell (p := ⟨w.heap.size, 2, none⟩) hW hl]; simp [go_sem]
    · rw [Below.cell (p := ⟨w.heap.size, 3, none⟩) hW hl]; simp [go_sem]
    · rw [Below.cell (p := ⟨w.heap.size, 4, none⟩) hW hl]; simp [go_sem]
  have hb1 : (w.alloc (.cells #[.int .i32 P, .int .i32 G, .int .i32 M, .int .i32 N, .slice (some ⟨b, off, none⟩) k c] 24)).heap.size = w.heap.size + 1 := by simp
  have E1 : Hid (Ext (w.alloc (.cells #[.int .i32 P, .int .i32 G, .int .i32 M, .int .i32 N, .slice (some ⟨b, off, none⟩) k c] 24)) ((w.alloc (.cells #[.int .i32 P, .int .i32 G, .int .i32 M, .int .i32 N, .slice (some ⟨b, off, none⟩) k c] 24)).alloc (.map #[] 0))) := ext_alloc (ext_refl _) _
  have M1 : Hid (MapC ((w.alloc (.cells #[.int .i32 P, .int .i32 G, .int .i32 M, .int .i32 N, .slice (some ⟨b, off, none⟩) k c] 24)).alloc (.map #[] 0)) (w.heap.size + 1) 0 (fun i => ∃ j : Nat, 1 ≤ j ∧ j ≤ 0 ∧ remI xs n j = i)) := by
    obtain ⟨D, h1, h2, h3⟩ := MapC.made (w.alloc (.cells #[.int .i32 P, .int .i32 G, .int .i32 M, .int .i32 N, .slice (some ⟨b, off, none⟩) k c] 24))
    rw [hb1] at h1
    exact ⟨D, h1, h2, fun i c h => by rw [h3 i c h]; exact ⟨False.elim, fun ⟨j, a, b, _⟩ => by omega⟩⟩
  have ew : Hid (∀ W, Ext (w.alloc (.cells #[.int .i32 P, .int .i32 G, .int .i32 M, .int .i32 N, .slice (some ⟨b, off, none⟩) k c] 24)) W → Ext w W) := fun W h => ext_trans (ext_alloc (ext_refl w) _) h
  have HA1 : Hid (∀ W, Ext (w.alloc (.cells #[.int .i32 P, .int .i32 G, .int .i32 M, .int .i32 N, .slice (some ⟨b, off, none⟩) k c] 24)) W → RdI W (some ⟨b, off, none⟩) k c xs) := fun W h => hA.ext (ew.out W h)
  have hG1 : (G == 0) = false := by simpa using hG
  have hx0 : xs.length ≠ 0 := by omega
  clear hA
  go_enter Tryz.func46, Tryz.ntmps46
  go_wp2
  go_loopw [1, 6] (fun v1 v6 wr => ∃ (q : Nat) (r : Int), v6 = .int .i64 q ∧ v1 = .int .i64 r ∧ Hid (remI xs n q = r) ∧ q ≤ n ∧ 0 ≤ r ∧ r ≤ n ∧ r + q ≤ n ∧ Hid (∀ j, 1 ≤ j → j ≤ q → 0 < remI xs n j) ∧ Ext (w.alloc (.cells #[.int .i32 P, .int .i32 G, .int .i32 M, .int .i32 N, .slice (some ⟨b, off, none⟩) k c] 24)) wr ∧
      Hid (MapC wr (w.heap.size + 1) q (fun i => ∃ j : Nat, 1 ≤ j ∧ j ≤ q ∧ remI xs n j = i))) (fun v1 _ _ => (intOf v1).toNat + 257)
  case atStart => exact ⟨0, n, rfl, rfl, rfl, Nat.zero_le _, by omega, by omega, by omega, fun j a b => by omega, E1.out, M1.out⟩
  case round =>
    clear E1 M1
    obtain ⟨q, r, rfl, rfl, hr, hqn, hr0, hrn, hrq, hpos, hE, hM⟩ := hrel
    obtain ⟨p0, p1, p2, p3, p4, pl⟩ := bxf.out _ hE
    obtain ⟨ix, hix⟩ : ∃ ix : Nat, ix = min q (k - 1) := ⟨_, rfl⟩
    have hixk : ix < k := by omega
    have hmin : min (q : Int) ((k : Int) - 1) = (ix : Int) := by omega
    obtain ⟨z, hz, hzb, hzc⟩ := (HA1.out _ hE).get ix hixk
    have hsz : szAt xs q = z := by unfold szAt; rw [hl, ← hix]; exact hz.out
    have hz1 := szAt_ge hs hx0 q
    rw [hsz] at hz1
    obtain ⟨D, hown, hD, hat⟩ := hM.out
    have hrr : remI xs n (q + 1) = r - z := by rw [remI, hr.out, hsz]
    clear hix hM
    have hE0 := ew.out _ hE
    by_cases hend : r - z ≤ 0
    · have hC := Lib.hid (cut_all hs hx0 hG (n : Int) q (by rw [hrr]; exact hend) hpos.out)
      go_wp2
      refine bodyPost_ret (v := .map (some (w.heap.size + 1))) ?h rfl ⟨w.heap.size + 1, rfl, hE0, by omega, q, ?_⟩
      case h => simp [results, Tryz.results46, go_sem]
      exact ⟨D, hown, hD, fun i c h => by rw [hat i c h]; exact hC.out i⟩
    · have hwf : (Lit.int .i64 (r - z)).wf = true := WalkArith.wf_i64 (by omega)
      have hwf2 : (Lit.int .i64 ((q : Int) + 1)).wf = true := WalkArith.wf_i64 (by omega)
      go_wp2_with (first
        | (at_mapUpdate; refine wpList_mapUpdate_own _ rfl _ _ _ 55 rfl 3 3 int_law map_under _ (w.heap.size + 1) q _ rfl hown (by unfold maxLen; omega) _ _ _ rfl rfl (keyOf_int_mk int_under hwf) _ [] (plainElem_int int_under hwf2) ?_; intro w1 hown1 hgrow1))
      go_roundw
      case rel =>
        refine ⟨q + 1, r - z, by go_num, rfl, hrr, by omega, by omega, by omega, by omega, fun j h1 h2 => ?_, (Frm.grown (S := fun i => i = w.heap.size + 1) hgrow1 (fun i hi => by cases hi; rfl)).ext hE (fun i hi => by subst hi; rw [hb1]; exact Nat.le_refl _), ?_⟩
        · rcases (by omega : j = q + 1 ∨ j ≤ q) with rfl | h3
          · rw [hrr]; omega
          · exact hpos.out j h1 h3
        · refine ⟨_, hown1, put_map hD _ _, fun i c h => ?_⟩
          rw [put_at hD (r - z) ((q : Int) + 1) (by omega) hat i c h]
          constructor
          · rintro (⟨j, h1, h2, h3⟩ | rfl)
            · exact ⟨j, h1, by omega, h3⟩
            · exact ⟨q + 1, by omega, Nat.le_refl _, hrr⟩
          · rintro ⟨j, h1, h2, h3⟩
            rcases (by omega : j = q + 1 ∨ j ≤ q) with rfl | h4
            · exact .inr (by rw [← h3, hrr])
            · exact .inl ⟨j, h1, h4, h3⟩
      case measure => simp [intOf]; omega
end Go.Proofs.YtgedpfbokkambaaGreatDoor
end
section
/- Marks: the digits of a whole part, with Groups: whole. -/
namespace Go.Proofs.YtgedpfbokkambaaGreatDoor
open Go.RowKit Go.Maps
attribute [local go_sem] bs_size bs_extract bs_get bs_append bs_toList const_get
set_option maxHeartbeats 4000000
set_option maxRecDepth 100000
attribute [local irreducible] Calls
/-- Sizes that go with a Group. -/
def szOk (G : Int) (k : Nat) (xs : List Int) : Prop := (G = 0 ∧ k = 0) ∨ (G ≠ 0 ∧ k ≠ 0 ∧ k ≤ 16 ∧ sizesOk xs)
theorem szOk_of {P G M N : Int} {k : Nat} {xs : List Int} (hl : xs.length = k) (h : ckv P G M N xs = 0) : (0 ≤ N ∧ N ≤ 1114111) ∧ (∀ r ∈ allR P G M N, stdR r) ∧ (allR P G M N).Nodup ∧ szOk G k xs := by
  unfold ckv at h
  split at h
  · cases h
  rename_i h1
  split at h
  · cases h
  rename_i h2
  split at h
  · cases h
  rename_i h3
  refine ⟨by omega, by simpa using h2, by simpa using h3, ?_⟩
  unfold szv at h
  split at h
  · rename_i h4; exact .inl ⟨h4.1, by omega⟩
  split at h
  · cases h
  split at h
  · cases h
  rename_i h4 h5 h6
  refine .inr ⟨fun e => h5 (.inl e), fun e => h5 (.inr (.inl (by omega))), ?_, by simpa using h6⟩
  rcases Nat.lt_or_ge 16 k with h7 | h7
  · exact absurd (.inr (.inr (by omega))) h5
  · exact h7
theorem mk_cuts (P G M N : Int) (A : Option Addr) (k c : Nat) (n : Nat) (hn : n ≤ 1000000) (xs : List Int) (w : World) (hA : RdI w A k c xs) (hs : szOk G k xs) :
    Calls Tryz.prog 46 #[mkV P G M N A k c, .int .i64 n] w fun e w' => ∃ B m, e = .returned (.map (some B)) ∧ Ext w w' ∧ w.heap.size ≤ B ∧ Hid (MapC w' B m (CutAt G xs n)) := by
  rcases hs with ⟨rfl, _⟩ | ⟨h1, h2, _, h3⟩
  · exact mk_cuts_bare P M N A k c n xs w
  · exact mk_cuts_with P G M N h1 A k c n hn xs w hA h2 h3
theorem MapC.ext {w w' : World} {b n : Nat} {C : Int → Prop} (h : MapC w b n C) (he : Ext w w') : MapC w' b n C := by
  obtain ⟨D, h1, h2, h3⟩ := h
  exact ⟨D, h1.kept (row := none) ⟨he.os, he.tape, he.output, he.size, fun k hk _ => he.block k hk⟩ (by simp), h2, h3⟩
/-- CutAt, reckoned. -/
def cutB (G : Int) (xs : List Int) (n : Nat) (i : Nat) : Bool := decide (G ≠ 0) && decide (0 < i) && (List.range n).any (fun j => decide (remI xs n (j + 1) = (i : Int)))
theorem cutB_iff {G : Int} {k : Nat} {xs : List Int} (hl : xs.length = k) (hs : szOk G k xs) (n i : Nat) : CutAt G xs n i ↔ cutB G xs n i = true := by
  unfold cutB CutAt
  rcases hs with ⟨rfl, _⟩ | ⟨h1, h2, _, h3⟩
  · simp
  · simp only [Bool.and_eq_true, decide_eq_true_eq, List.any_eq_true, List.mem_range]
    constructor
    · rintro ⟨_, hi, j, hj, he⟩
      refine ⟨⟨h1, by omega⟩, j - 1, ?_, by rw [show j - 1 + 1 = j by omega]; exact he⟩
      have := remI_le h3 (by omega) (n : Int) j
      omega
    · rintro ⟨⟨_, hi⟩, j, hj, he⟩
      exact ⟨h1, by omega, j + 1, by omega, he⟩
/-- The first i digits, with Groups. -/
def wholeN (G N : Int) (xs : List Int) (l : List UInt8) : Nat → List Int
  | 0 => []
  | i + 1 => wholeN G N xs l i ++ (if cutB G xs l.length i = true then [G] else []) ++ [N + (((l.getD i 0).toNat : Int) - 48)]
theorem wholeN_len (G N : Int) (xs : List Int) (l : List UInt8) : ∀ i, (wholeN G N xs l i).length ≤ 2 * i
  | 0 => by simp [wholeN]
  | i + 1 => by
    have := wholeN_len G N xs l i
    rw [wholeN]
    split <;> simp <;> omega
theorem own_base {w : World} {base base' : Nat} {e : TypeId} {size n : Nat} {v : Value} {xs : List Value} (h : w.ownsRow base e size v n xs) (hb : base' ≤ base) : w.ownsRow base' e size v n xs := by
  obtain ⟨h1, h2⟩ := h
  refine ⟨h1, ?_⟩
  rcases h2 with h2 | ⟨g, cap, cur, he, h0, r⟩
  · exact .inl h2
  · exact .inr ⟨g, cap, cur, he, Nat.le_trans hb h0, r⟩
theorem mk_whole (P G M N : Int) (A : Option Addr) (k c : Nat) (xs : List Int) (l : List UInt8) (w : World) (hA : RdI w A k c xs) (hs : szOk G k xs) (hN : 0 ≤ N ∧ N ≤ 1114111) (hl : l.length ≤ 1000000) (hd : ∀ b ∈ l, isD b = true) :
    Calls Tryz.prog 27 #[mkV P G M N A k c, .string (bs l)] w fun e w' => ∃ v, e = .returned v ∧ Ext w w' ∧ Hid (OwnR w' w.heap.size v (wholeN G N xs l l.length).length (wholeN G N xs l l.length)) := by
  have hxl := hA.len
  have bxf : Hid (∀ W, Ext (w.alloc (.cells #[.int .i32 P, .int .i32 G, .int .i32 M, .int .i32 N, .slice A k c] 24)) W → W.cell? ⟨w.heap.size, 0, none⟩ = some (.int .i32 P) ∧ W.cell? ⟨w.heap.size, 1, none⟩ = some (.int .i32 G) ∧ W.cell? ⟨w.heap.size, 2, none⟩ = some (.int .i32 M) ∧ W.cell? ⟨w.heap.size, 3, none⟩ = some (.int .i32 N) ∧ W.cell? ⟨w.heap.size, 4, none⟩ = some (.slice A k c) ∧ w.heap.size < W.heap.size) := fun W hW => by
    have hl : w.heap.size < (w.alloc (.cells #[.int .i32 P, .int .i32 G, .int .i32 M, .int .i32 N, .slice A k c] 24)).heap.size := by simp
    refine ⟨?_, ?_, ?_, ?_, ?_, Nat.lt_of_lt_of_le hl hW.size⟩
    · rw [Below.cell (p := ⟨w.heap.size, 0, none⟩) hW hl]; simp [go_sem]
    · rw [Below.cell (p := ⟨w.heap.size, 1, none⟩) hW hl]; simp [go_sem]
    · rw [Below.cell (p := ⟨w.heap.size, 2, none⟩) hW hl]; simp [go_sem]
    · rw [Below.cell (p := ⟨w.heap.size, 3, none⟩) hW hl]; simp [go_sem]
    · rw [Below.cell (p := ⟨w.heap.size, 4, none⟩) hW hl]; simp [go_sem]
  have hb1 : (w.alloc (.cells #[.int .i32 P, .int .i32 G, .int .i32 M, .int .i32 N, .slice A k c] 24)).heap.size = w.heap.size + 1 := by simp
  have e1 : Hid (Ext w (w.alloc (.cells #[.int .i32 P, .int .i32 G, .int .i32 M, .int .i32 N, .slice A k c] 24))) := ext_alloc (ext_refl w) _
  have kc := Lib.hid (mk_cuts P G M N A k c l.length hl xs _ (hA.ext e1.out) hs)
  have HD := Lib.hid hd
  have hcb := Lib.hid (fun i => cutB_iff hxl hs l.length i)
  clear hA hd
  go_enter Tryz.func27, Tryz.ntmps27
  go_upto_region 3 with (first
    | (go_at_call 46; (with_reducible refine (kc.out).mono ?_); rintro e w1 ⟨B, mB, rfl, hE1, hB, hM⟩))
  obtain ⟨cap, hcap⟩ : ∃ cap, cap = grownCap w1 (bs l).size 0 5 := ⟨_, rfl⟩
  obtain ⟨C, hC⟩ : ∃ C, C = bytesRow (bs l) cap := ⟨_, rfl⟩
  have hconv : (convert 9 46 (.string (bs l))).run Tryz.prog w1 = .ok (.slice (some ⟨w1.heap.size, 0, none⟩) l.length cap) (w1.drew.alloc (.cells C 5 (C.size, C.size + 1))) := by
    have := run_bytes_of_string (P := Tryz.prog) w1 9 46 5 (bs l) str_kind u8_under u8_kind
    rw [← hcap, ← hC, bs_size] at this
    exact this
  have hcell : ∀ q, q < l.length → C[q]? = some (.int .u8 ((l.getD q 0).toNat : Int)) := fun q hq => by
    have := bytesRow_at (bs l) cap q (by show q < l.toArray.size; simpa using hq)
    rw [← hC] at this
    rw [this, List.getD_eq_getElem?_getD, List.getElem?_eq_getElem hq]
    simp [bs]
  obtain ⟨W2, hW2⟩ : ∃ W2 : World, W2 = w1.drew.alloc (.cells C 5 (C.size, C.size + 1)) := ⟨_, rfl⟩
  rw [← hW2] at hconv
  have hE2 : Ext w1 W2 := by rw [hW2]; exact ext_alloc (ext_drew (ext_refl _)) _
  have hlt2 : w1.heap.size < W2.heap.size := by rw [hW2]; simp
  have hcell2 : Hid (∀ q, q < l.length → W2.cell? ⟨w1.heap.size, q, none⟩ = some (.int .u8 ((l.getD q 0).toNat : Int))) := fun q hq => by
    rw [hW2]
    have := World.cell?_alloc_mark w1.drew C 5 (C.size, C.size + 1) q
    exact this.trans (hcell q hq)
  have hM2 := Lib.hid (hM.out.ext hE2)
  have hE02 := Lib.hid (ext_trans hE1 hE2)
  clear hcap hC hcell hW2 hM
  go_wp2
  go_loopw [5, 16] (fun v5 v16 wr => ∃ i : Nat, v16 = .int .i64 i ∧ i ≤ l.length ∧ Ext W2 wr ∧ Hid (OwnR wr W2.heap.size v5 (wholeN G N xs l i).length (wholeN G N xs l i))) (fun _ v16 _ => l.length - (intOf v16).toNat)
  case atStart => exact ⟨0, rfl, Nat.zero_le _, ext_refl _, ⟨rfl, .inl ⟨rfl, rfl⟩⟩⟩
  case round =>
    obtain ⟨i, rfl, hi, hE, hO⟩ := hrel
    obtain ⟨p0, p1, p2, p3, p4, pl⟩ := bxf.out _ (ext_trans hE02.out hE)
    have hwl := wholeN_len G N xs l i
    have hsz2 := ext_size hE
    by_cases hlt : i < l.length
    · obtain ⟨x, hx⟩ : ∃ x, l.getD i 0 = x := ⟨_, rfl⟩
      have hxd : 48 ≤ x.toNat ∧ x.toNat ≤ 57 := by
        have := HD.out x (by rw [← hx, List.getD_eq_getElem?_getD, List.getElem?_eq_getElem hlt]; exact List.getElem_mem hlt)
        simpa [isD] using this
      have hc0 : wr.cell? ⟨w1.heap.size, i, none⟩ = some (.int .u8 (x.toNat : Int)) := by
        rw [Below.cell (p := ⟨w1.heap.size, i, none⟩) hE hlt2, hcell2.out i hlt, hx]
      obtain ⟨D, hown, hD, hat⟩ := hM2.out.ext hE
      have hwf : (Lit.int .i64 (i : Int)).wf = true := WalkArith.wf_i64 (by omega)
      obtain ⟨m, hm⟩ : ∃ m, (wholeN G N xs l i).length = m := ⟨_, rfl⟩
      obtain ⟨L, hL⟩ : ∃ L, wholeN G N xs l i = L := ⟨_, rfl⟩
      have hstep := Lib.hid (show wholeN G N xs l (i + 1) = L ++ (if cutB G xs l.length i = true then [G] else []) ++ [N + ((x.toNat : Int) - 48)] by rw [wholeN, hL, hx])
      have hcbi := hcb.out i
      rw [hL] at hO hwl
      have hO := Lib.hid hO.out
      obtain ⟨cb, hcbe⟩ : ∃ cb, cutB G xs l.length i = cb := ⟨_, rfl⟩
      rw [hcbe] at hcbi
      have hst2 : Hid (wholeN G N xs l (i + 1) = L ++ (if cb = true then [G] else []) ++ [N + ((x.toNat : Int) - 48)]) := by have := hstep.out; rw [hcbe] at this; exact this
      clear hstep hcbe hm hL hx
      have hni : N + ((x.toNat : Int) - 48) ≤ 2147483647 := by omega
      go_upto_if 24 with (first
        | (at_lookup; refine wpList_lookup_own_int _ rfl _ _ 55 rfl 3 3 .i64 int_law map_under int_under (int_zero _) B mB _ rfl hown _ _ rfl (keyOf_int_mk int_under hwf) ?_; intro cv hcv hcw))
      have hpos := (hat _ _ hcv).trans hcbi
      have hfin : ∀ (wz : World) (vz : Value), Ext W2 wz → Hid (OwnR wz W2.heap.size vz (wholeN G N xs l (i + 1)).length (wholeN G N xs l (i + 1))) → ∃ i' : Nat, Value.int IntKind.i64 ((i : Int) + 1) = .int .i64 i' ∧ i' ≤ l.length ∧ Ext W2 wz ∧ Hid (OwnR wz W2.heap.size vz (wholeN G N xs l i').length (wholeN G N xs l i')) := fun _ _ h1 h2 => ⟨i + 1, by go_num, by omega, h1, h2⟩
      have HF := Lib.hid hfin
      clear hcbi hcv hcw hat hfin
      by_cases hcb1 : cb = true
      · have hc24 : 0 < cv := hpos.2 hcb1
        have hd24 : decide (0 < cv) = true := decide_eq_true hc24
        rw [if_pos hcb1] at hst2
        clear hpos
        go_wp2_with (first
          | (at_builtin; refine push_i32 rfl _ _ rfl _ rfl hE6 (by simp [go_sem]) (by have := ext_size hE6; omega) hO6.out rfl (N + ((x.toNat : Int) - 48)) ⟨_, 0, none⟩ 1 rfl (by simp [go_sem, rV]) (by omega) ?_; intro v7 w7 hE7 hO7)
          | (at_builtin; refine push_i32 rfl _ _ rfl _ rfl hE (by simp [go_sem]) (by omega) hO.out rfl (G) ⟨_, 0, none⟩ 1 rfl (by simp [go_sem, rV]) (by omega) ?_; intro v6 w6 hE6 hO6; obtain ⟨s0, s1, s2, s3, s4, sl⟩ := bxf.out _ (ext_trans hE02.out hE6)))
        go_roundw
        case rel => exact HF.out _ _ hE7 (by show OwnR _ _ _ _ _; rw [hst2.out]; simpa using hO7.out)
        case measure => simp [intOf]; omega
      · have hc24 : ¬ 0 < cv := fun h => hcb1 (hpos.1 h)
        have hd24 : decide (0 < cv) = false := decide_eq_false hc24
        rw [if_neg hcb1] at hst2
        clear hpos
        go_wp2_with (first
          | (at_builtin; refine push_i32 rfl _ _ rfl _ rfl hE (by simp [go_sem]) (by omega) hO.out rfl (N + ((x.toNat : Int) - 48)) ⟨_, 0, none⟩ 1 rfl (by simp [go_sem, rV]) (by omega) ?_; intro v7 w7 hE7 hO7))
        go_roundw
        case rel => exact HF.out _ _ hE7 (by show OwnR _ _ _ _ _; rw [hst2.out]; simpa using hO7.out)
        case measure => simp [intOf]; omega
    · obtain rfl : i = l.length := by omega
      have hfw : Ext w wr := ext_trans e1.out (ext_trans hE02.out hE)
      have hsz0 := ext_size hE02.out
      rw [hb1] at hsz0
      go_wp2
      refine bodyPost_ret (v := _) ?h rfl ⟨_, rfl, hfw, own_base hO.out (by omega)⟩
      case h => simp [results, Tryz.results27, go_sem]
end Go.Proofs.YtgedpfbokkambaaGreatDoor
end
section
/- Marks: errors at a place; what is ready. -/
namespace Go.Proofs.YtgedpfbokkambaaGreatDoor
open Go.RowKit
attribute [local go_sem] bs_size bs_extract bs_get bs_append bs_toList const_get
set_option maxHeartbeats 4000000
set_option maxRecDepth 100000
attribute [local irreducible] Calls
/-- An error of the program's. -/
abbrev errV (b : Nat) : Value := .iface 82 (.pointer (some ⟨b, 0, none⟩))
/-- An error lies here: a code, a place. -/
structure IsErr (w : World) (b : Nat) (code at_ : Int) : Prop where
  lt : b < w.heap.size
  c0 : w.cell? ⟨b, 0, none⟩ = some (.int .i64 code)
  c1 : w.cell? ⟨b, 1, none⟩ = some (.int .i64 at_)
theorem IsErr.ext {w w' : World} {b : Nat} {code at_ : Int} (h : IsErr w b code at_) (he : Ext w w') : IsErr w' b code at_ :=
  ⟨Nat.lt_of_lt_of_le h.lt he.size, (Below.cell (p := ⟨b, 0, none⟩) he h.lt).trans h.c0, (Below.cell (p := ⟨b, 1, none⟩) he h.lt).trans h.c1⟩
/-- What an error value is: none, or one that lies there. -/
def ErrIs (w : World) (v : Value) (code at_ : Int) : Prop := (code = 0 ∧ v = .nilIface) ∨ (code ≠ 0 ∧ ∃ b, v = errV b ∧ IsErr w b code at_)
theorem ErrIs.ext {w w' : World} {v : Value} {code at_ : Int} (h : ErrIs w v code at_) (he : Ext w w') : ErrIs w' v code at_ := by
  rcases h with h | ⟨h1, b, h2, h3⟩
  · exact .inl h
  · exact .inr ⟨h1, b, h2, h3.ext he⟩
theorem mk_no (code at_ : Int) (h0 : code ≠ 0) (w : World) : Calls Tryz.prog 26 #[.int .i64 code, .int .i64 at_] w fun e w' => ∃ v, e = .returned v ∧ Ext w w' ∧ Hid (ErrIs w' v code at_) := by
  go_enter Tryz.func26, Tryz.ntmps26
  go_wp2
  refine bodyPost_ret (v := errV w.heap.size) ?h rfl ⟨_, rfl, ?_, .inr ⟨h0, w.heap.size, rfl, ?_, ?_, ?_⟩⟩
  case h => simp [results, Tryz.results26, go_sem]
  · skip
    repeat (first | exact ext_refl _ | assumption | refine ext_setCell ?_ (by simp; try omega) _ | refine ext_alloc ?_ _ | refine ext_drew ?_ | refine ext_drewN ?_ _ | refine ext_trans ?_ (Aft.use _) | refine ext_trans ?_ (by assumption))
  · simp [go_sem]
  · simp [go_sem]
  · simp [go_sem]
/-- Is a text ready? -/
def rdy (P G M N : Int) (xs : List Int) (n : Nat) : Int := if ckv P G M N xs ≠ 0 then ckv P G M N xs else if 65536 < n then 3 else 0
theorem mk_ready (P G M N : Int) (A : Option Addr) (k c : Nat) (xs : List Int) (l : List UInt8) (w : World) (hA : RdI w A k c xs) :
    Calls Tryz.prog 22 #[mkV P G M N A k c, .string (bs l)] w fun e w' => ∃ v, e = .returned v ∧ Ext w w' ∧ Hid (ErrIs w' v (rdy P G M N xs l.length) 0) := by
  have e1 : Hid (Ext w (w.alloc (.cells #[.int .i32 P, .int .i32 G, .int .i32 M, .int .i32 N, .slice A k c] 24))) := ext_alloc (ext_refl w) _
  have kc := Lib.hid (mk_Check P G M N A k c xs _ (hA.ext e1.out))
  obtain ⟨ck, hck⟩ : ∃ ck, ckv P G M N xs = ck := ⟨_, rfl⟩
  rw [hck] at kc
  have hr : rdy P G M N xs l.length = if ck ≠ 0 then ck else if 65536 < l.length then 3 else 0 := by unfold rdy; rw [hck]
  rw [hr]
  clear hr hck hA
  by_cases h0 : ck = 0
  · by_cases hlen : 65536 < l.length
    · have hlen' : (65536 : Int) < (l.length : Int) := by omega
      rw [if_neg (by omega), if_pos hlen]
      subst h0
      go_enter Tryz.func22, Tryz.ntmps22
      go_wp2_with (first
        | (go_at_call 19; (with_reducible refine (kc.out).mono ?_); rintro e w1 ⟨rfl, hE1⟩)
        | (go_at_call 26; (with_reducible refine (mk_no 3 0 (by decide) _).mono ?_); rintro e w2 ⟨v, rfl, hE2, hV⟩))
      refine bodyPost_ret (v := _) ?h rfl ⟨_, rfl, ext_trans e1.out (ext_trans hE1 hE2), hV⟩
      case h => simp [results, Tryz.results22, go_sem]
    · have hlen' : ¬ (65536 : Int) < (l.length : Int) := by omega
      rw [if_neg (by omega), if_neg hlen]
      subst h0
      go_enter Tryz.func22, Tryz.ntmps22
      go_wp2_with (first
        | (go_at_call 19; (with_reducible refine (kc.out).mono ?_); rintro e w1 ⟨rfl, hE1⟩))
      refine bodyPost_ret (v := .nilIface) ?h rfl ⟨_, rfl, ext_trans e1.out hE1, .inl ⟨rfl, rfl⟩⟩
      case h => simp [results, Tryz.results22, go_sem]
  · have hb : (ck != 0) = true := by simpa using h0
    rw [if_pos h0]
    go_enter Tryz.func22, Tryz.ntmps22
    go_wp2_with (first
      | (go_at_call 19; (with_reducible refine (kc.out).mono ?_); rintro e w1 ⟨rfl, hE1⟩)
      | (go_at_call 26; (with_reducible refine (mk_no ck 0 h0 _).mono ?_); rintro e w2 ⟨v, rfl, hE2, hV⟩))
    refine bodyPost_ret (v := _) ?h rfl ⟨_, rfl, ext_trans e1.out (ext_trans hE1 hE2), hV⟩
    case h => simp [results, Tryz.results22, go_sem]
end Go.Proofs.YtgedpfbokkambaaGreatDoor
end
section
/- Marks: what a plain text's bytes are; rows of runes that grow beside an iterator. -/
namespace Go.Proofs.YtgedpfbokkambaaGreatDoor
open Go.RowKit
set_option maxHeartbeats 4000000
/-- A byte of a plain text behind its whole part. -/
def PlB (b : UInt8) : Prop := b = 46 ∨ b = 45 ∨ b = 101 ∨ isD b = true
theorem take_isD : ∀ (l : List UInt8) (x : UInt8), x ∈ l.takeWhile isD → isD x = true
  | [], x, h => by simp at h
  | y :: t, x, h => by
    by_cases hy : isD y = true
    · rw [List.takeWhile_cons_of_pos hy] at h
      rcases List.mem_cons.1 h with rfl | h
      · exact hy
      · exact take_isD t x h
    · rw [List.takeWhile_cons_of_neg hy] at h
      cases h
theorem rowN_at (l : List UInt8) (a i : Nat) (h1 : a ≤ i) (h2 : i < a + rowN l a) : isD (l.getD i 0) = true := by
  unfold rowN at h2
  have hi : i - a < ((l.drop a).takeWhile isD).length := by omega
  have hm := List.getElem_mem hi
  have hp : isD (((l.drop a).takeWhile isD)[i - a]) = true := take_isD _ _ hm
  have e : ((l.drop a).takeWhile isD)[i - a] = l.getD i 0 := by
    have hpre := List.takeWhile_prefix (p := isD) (l := l.drop a)
    have hlen := hpre.length_le
    have h3 : (l.drop a)[i - a]'(by omega) = ((l.drop a).takeWhile isD)[i - a] := (hpre.getElem hi).symm
    rw [← h3, List.getElem_drop]
    have hl : i < l.length := by rw [List.length_drop] at hlen; omega
    rw [List.getD_eq_getElem?_getD]
    rw [List.getElem?_eq_getElem hl]
    show _ = l[i]
    congr 1
    omega
  rw [← e]; exact hp
theorem ptS_ok {l : List UInt8} {a p : Nat} (h : ptS l a = (p, false)) : a ≤ p ∧ ∀ i, a ≤ i → i < p → PlB (l.getD i 0) := by
  unfold ptS at h
  split at h
  · rename_i hd
    simp only [Prod.mk.injEq] at h
    obtain ⟨rfl, _⟩ := h
    refine ⟨by omega, fun i h1 h2 => ?_⟩
    rcases (by omega : i = a ∨ a + 1 ≤ i) with rfl | h3
    · left; rw [List.getD_eq_getElem?_getD, hd]; rfl
    · exact .inr (.inr (.inr (rowN_at l (a + 1) i h3 h2)))
  · simp only [Prod.mk.injEq] at h
    obtain ⟨rfl, _⟩ := h
    exact ⟨Nat.le_refl _, fun i h1 h2 => by omega⟩
theorem exS_ok {l : List UInt8} {a p : Nat} (h : exS l a = (p, false)) : a ≤ p ∧ ∀ i, a ≤ i → i < p → PlB (l.getD i 0) := by
  unfold exS at h
  split at h
  · rename_i hd
    simp only [Prod.mk.injEq] at h
    split at h
    · rename_i hm
      obtain ⟨rfl, _⟩ := h
      refine ⟨by omega, fun i h1 h2 => ?_⟩
      rcases (by omega : i = a ∨ i = a + 1 ∨ a + 2 ≤ i) with rfl | rfl | h3
      · right; right; left; rw [List.getD_eq_getElem?_getD, hd]; rfl
      · right; left; rw [List.getD_eq_getElem?_getD, hm]; rfl
      · exact .inr (.inr (.inr (rowN_at l (a + 2) i h3 h2)))
    · obtain ⟨rfl, _⟩ := h
      refine ⟨by omega, fun i h1 h2 => ?_⟩
      rcases (by omega : i = a ∨ a + 1 ≤ i) with rfl | h3
      · right; right; left; rw [List.getD_eq_getElem?_getD, hd]; rfl
      · exact .inr (.inr (.inr (rowN_at l (a + 1) i h3 h2)))
  · simp only [Prod.mk.injEq] at h
    obtain ⟨rfl, _⟩ := h
    exact ⟨Nat.le_refl _, fun i h1 h2 => by omega⟩
/-- What a text is that has a shape. -/
theorem shp_ok {l : List UInt8} {f e : Nat} (h : shpB l = (-1, f, e)) : f ≤ 1 ∧ f < e ∧ e ≤ l.length ∧ ((l[0]? = some 45 ∧ f = 1) ∨ (l[0]? ≠ some 45 ∧ f = 0)) ∧ (∀ i, f ≤ i → i < e → isD (l.getD i 0) = true) ∧ (∀ i, e ≤ i → i < l.length → PlB (l.getD i 0)) := by
  obtain ⟨f0, hf0⟩ : ∃ f0 : Nat, (if l[0]? = some 45 then 1 else 0) = f0 := ⟨_, rfl⟩
  obtain ⟨p, pb, hp⟩ : ∃ p pb, ptS l (f0 + rowN l f0) = (p, pb) := ⟨_, _, rfl⟩
  obtain ⟨q, qb, hq⟩ : ∃ q qb, exS l p = (q, qb) := ⟨_, _, rfl⟩
  unfold shpB at h
  simp only [hf0, hp, hq] at h
  split at h
  · simp only [Prod.mk.injEq] at h; omega
  rename_i hn0
  split at h
  · simp only [Prod.mk.injEq] at h; omega
  rename_i hpb
  split at h
  · simp only [Prod.mk.injEq] at h; omega
  rename_i hqb
  split at h
  · simp only [Prod.mk.injEq] at h; omega
  rename_i hql
  simp only [Prod.mk.injEq, true_and] at h
  obtain ⟨rfl, rfl⟩ := h
  have hpb' : pb = false := by simpa using hpb
  have hqb' : qb = false := by simpa using hqb
  subst hpb' hqb'
  obtain ⟨p1, p2⟩ := ptS_ok hp
  obtain ⟨q1, q2⟩ := exS_ok hq
  have hfl : f0 ≤ l.length := by
    rw [← hf0]
    split
    · rename_i h; have := (List.getElem?_eq_some_iff.1 h).1; omega
    · omega
  refine ⟨by rw [← hf0]; split <;> omega, by omega, rowN_le l f0 hfl, ?_, fun i h1 h2 => rowN_at l f0 i h1 h2, fun i h1 h2 => ?_⟩
  · rw [← hf0]
    split
    · rename_i h; exact .inl ⟨h, rfl⟩
    · rename_i h; exact .inr ⟨h, rfl⟩
  · rcases Nat.lt_or_ge i p with h3 | h3
    · exact p2 i h1 h3
    · exact q2 i h3 (by omega)
theorem push_i32g {ops : Array Oper} {rest : List Oper} {o : Oper} {a : Act} {Q : Exit → Act → World → Prop} {w : World} (hgd : o.guard = none) (s x : Operand)
    (ho : o.op = .call { callee := .builtin .append, args := #[s, x], argTypes := #[54, 54] })
    {W : World} {w0 : World} (ob : Obj) (hw : w = w0.alloc ob) (hW : Ext W w0) {base : Nat} (hbase : W.heap.size ≤ base) (hsz0 : base ≤ w0.heap.size) {v : Value} {n : Nat} {xs : List Int} (hown : OwnR w0 base v n xs) (hs : a.eval s = v)
    (y : Int) (ad : Addr) (c : Nat) (hx : a.eval x = .slice (some ad) 1 c) (hnew : w.cell? ad = some (rV y)) (hn : n ≤ 1000000000)
    (h : ∀ v' w', Ext W w' → Hid (OwnR w' base v' (n + 1) (xs ++ [y])) → Hid (∀ k q, w0.heap[k]? = some q → v.ownBlock ≠ some k → w'.heap[k]? = some q) → wpList Tryz.prog ops Q rest (a.put o.dst v') w') : wpList Tryz.prog ops Q (o :: rest) a w := by
  obtain ⟨i, hi, hz, hsz, hby⟩ := info_parts i32_info
  subst hw
  refine wpList_append_own_at _ hgd s x _ ho base 21 i _ 1 4 i32_under hi hz hsz hby rfl (by decide) v n _ hs (hown.alloc _) ad 1 c [rV y] hx rfl ?_ ?_ ?_ ?_ ?_ ?_
  · intro j u hj
    match j, hj with
    | 0, hj => simp at hj; subst hj; simpa [Addr.add] using hnew
  · intro u hu; simp at hu; subst hu; rfl
  · unfold maxLen; omega
  · omega
  · simp; omega
  · intro v' w' ho' hg _ hat
    refine h v' w' (ext_grown (ext_alloc hW _) (hown.alloc _) hbase hg) ?_ ?_
    · show World.ownsRow _ _ _ _ _ _ _
      simpa using ho'
    · intro k q hk hne
      have hlt : k < w0.heap.size := (Array.getElem?_eq_some_iff.1 hk).1
      rw [hg.block k (by simp; omega) (fun e => hne e.symm)]
      rw [(ext_alloc (ext_refl w0) ob).block k hlt]
      exact hk
/-- A whole row of one's own is put behind another one. -/
theorem push_all {ops : Array Oper} {rest : List Oper} {o : Oper} {a : Act} {Q : Exit → Act → World → Prop} {w : World} (hgd : o.guard = none) (s x : Operand)
    (ho : o.op = .call { callee := .builtin .append, args := #[s, x], argTypes := #[54, 54] })
    {W : World} (hW : Ext W w) {base : Nat} (hbase : W.heap.size ≤ base) (hsz0 : base ≤ w.heap.size) {v : Value} {n : Nat} {xs : List Int} (hown : OwnR w base v n xs) (hs : a.eval s = v)
    {g m c base2 : Nat} {ys : List Int} (hrow : OwnR w base2 (.slice (some ⟨g, 0, none⟩) m c) m ys) (hx : a.eval x = .slice (some ⟨g, 0, none⟩) m c) (hn : n + m ≤ 1000000000)
    (h : ∀ v' w', Ext W w' → Hid (OwnR w' base v' (n + m) (xs ++ ys)) → wpList Tryz.prog ops Q rest (a.put o.dst v') w') : wpList Tryz.prog ops Q (o :: rest) a w := by
  obtain ⟨i, hi, hz, hsz, hby⟩ := info_parts i32_info
  have hl : ys.length = m := by have := hrow.1; simpa using this
  refine wpList_append_own_at _ hgd s x _ ho base 21 i _ 1 4 i32_under hi hz hsz hby rfl (by decide) v n _ hs hown ⟨g, 0, none⟩ m c (ys.map rV) hx (by simp [hl]) ?_ ?_ ?_ ?_ ?_ ?_
  · exact fun j u hj => hrow.cells rfl j u hj
  · intro u hu
    obtain ⟨z, _, rfl⟩ := List.mem_map.1 hu
    rfl
  · unfold maxLen; omega
  · omega
  · exact hsz0
  · intro v' w' ho' hg _ hat
    refine h v' w' (ext_grown hW hown hbase hg) ?_
    show World.ownsRow _ _ _ _ _ _ _
    rw [List.map_append]
    exact ho'
/-- An iterator that moves on leaves a row of one's own. -/
theorem own_iter {w : World} {base : Nat} {e : TypeId} {size n : Nat} {v : Value} {xs : List Value} (h : w.ownsRow base e size v n xs) {k : Nat} {s : ByteArray} {p : Nat} (hk : w.heap[k]? = some (.stringIter s p)) (p' : Nat) : (w.iterAt k s p').ownsRow base e size v n xs := by
  obtain ⟨h1, h2⟩ := h
  refine ⟨h1, ?_⟩
  rcases h2 with h2 | ⟨g, cap, cur, he, h0, h3, r⟩
  · exact .inl h2
  · refine .inr ⟨g, cap, cur, he, h0, ?_, r⟩
    rw [Lib.iterAt_other _ _ _ _ _ (fun e => by subst e; rw [hk] at h3; cases h3)]
    exact h3
theorem own_not_iter {w : World} {base : Nat} {e : TypeId} {size n : Nat} {v : Value} {xs : List Value} (h : w.ownsRow base e size v n xs) {k : Nat} {s : ByteArray} {p : Nat} (hk : w.heap[k]? = some (.stringIter s p)) : v.ownBlock ≠ some k := by
  obtain ⟨h1, h2⟩ := h
  rcases h2 with ⟨rfl, _⟩ | ⟨g, cap, cur, rfl, h0, h3, r⟩
  · intro e; cases e
  · intro e
    have : g = k := by simpa [Value.ownBlock] using e
    subst this
    rw [hk] at h3; cases h3
end Go.Proofs.YtgedpfbokkambaaGreatDoor
end
section
/- Marks: Put of the program. -/
namespace Go.Proofs.YtgedpfbokkambaaGreatDoor
open Go.RowKit
attribute [local go_sem] bs_size bs_extract bs_get bs_append bs_toList const_get
set_option maxHeartbeats 4000000
set_option maxRecDepth 100000
attribute [local irreducible] Calls
/-- A sign of a plain text, as marks have it. -/
def markB (P M N : Int) (b : UInt8) : Int := if b = 46 then P else if b = 45 then M else if b = 101 then 101 else (b.toNat : Int) + (N - 48)
/-- The runes of a text with marks. -/
def putL (P G M N : Int) (xs : List Int) (l : List UInt8) (f e : Nat) : List Int :=
  (if 0 < f then [M] else []) ++ wholeN G N xs ((l.take e).drop f) ((l.take e).drop f).length ++ (l.drop e).map (markB P M N)
/-- The text, or the fault and its place. -/
def putV (P G M N : Int) (xs : List Int) (l : List UInt8) : List UInt8 × Int × Int :=
  if rdy P G M N xs l.length ≠ 0 then ([], rdy P G M N xs l.length, 0) else if 0 ≤ (shpB l).1 then ([], 12, (shpB l).1) else
    if 65536 < (runesBytes (putL P G M N xs l (shpB l).2.1 (shpB l).2.2)).data.toList.length then ([], 4, 0) else ((runesBytes (putL P G M N xs l (shpB l).2.1 (shpB l).2.2)).data.toList, 0, 0)
abbrev BoxM (P G M N : Int) (A : Option Addr) (k c : Nat) : Obj := .cells #[.int .i32 P, .int .i32 G, .int .i32 M, .int .i32 N, .slice A k c] 24
/-- Marks lie in a block. -/
structure MkAt (W : World) (b : Nat) (P G M N : Int) (A : Option Addr) (k c : Nat) : Prop where
  c0 : W.cell? ⟨b, 0, none⟩ = some (.int .i32 P)
  c1 : W.cell? ⟨b, 1, none⟩ = some (.int .i32 G)
  c2 : W.cell? ⟨b, 2, none⟩ = some (.int .i32 M)
  c3 : W.cell? ⟨b, 3, none⟩ = some (.int .i32 N)
  c4 : W.cell? ⟨b, 4, none⟩ = some (.slice A k c)
  lt : b < W.heap.size
theorem MkAt.ext {w w' : World} {b : Nat} {P G M N : Int} {A : Option Addr} {k c : Nat} (h : MkAt w b P G M N A k c) (he : Ext w w') : MkAt w' b P G M N A k c :=
  ⟨(Below.cell (p := ⟨b, 0, none⟩) he h.lt).trans h.c0, (Below.cell (p := ⟨b, 1, none⟩) he h.lt).trans h.c1, (Below.cell (p := ⟨b, 2, none⟩) he h.lt).trans h.c2, (Below.cell (p := ⟨b, 3, none⟩) he h.lt).trans h.c3, (Below.cell (p := ⟨b, 4, none⟩) he h.lt).trans h.c4, Nat.lt_of_lt_of_le h.lt he.size⟩
theorem MkAt.made (w : World) (P G M N : Int) (A : Option Addr) (k c : Nat) : MkAt (w.alloc (BoxM P G M N A k c)) w.heap.size P G M N A k c := ⟨by simp [go_sem], by simp [go_sem], by simp [go_sem], by simp [go_sem], by simp [go_sem], by simp⟩
theorem errV_of {w : World} {v : Value} {code at_ : Int} (h : ErrIs w v code at_) (h0 : code ≠ 0) : ∃ b, v = errV b ∧ IsErr w b code at_ := by
  rcases h with ⟨h1, _⟩ | ⟨_, b, h2, h3⟩
  · exact absurd h1 h0
  · exact ⟨b, h2, h3⟩
theorem errV_no {w : World} {v : Value} {at_ : Int} (h : ErrIs w v 0 at_) : v = .nilIface := by
  rcases h with ⟨_, h2⟩ | ⟨h1, _⟩
  · exact h2
  · exact absurd rfl h1
theorem mk_Put_early (P G M N : Int) (A : Option Addr) (k c : Nat) (xs : List Int) (l : List UInt8) (w : World) (hA : RdI w A k c xs) (h : rdy P G M N xs l.length ≠ 0 ∨ 0 ≤ (shpB l).1) :
    Calls Tryz.prog 18 #[mkV P G M N A k c, .string (bs l)] w fun e w' => ∃ v, e = .returned (.tuple #[.string (bs (putV P G M N xs l).1), v]) ∧ Ext w w' ∧ Hid (ErrIs w' v (putV P G M N xs l).2.1 (putV P G M N xs l).2.2) := by
  have e1 : Hid (Ext w (w.alloc (BoxM P G M N A k c))) := ext_alloc (ext_refl w) _
  have kr := Lib.hid (mk_ready P G M N A k c xs l _ (hA.ext e1.out))
  by_cases h0 : rdy P G M N xs l.length = 0
  · have hb : 0 ≤ (shpB l).1 := h.resolve_left (fun q => q h0)
    have hl : l.length ≤ 65536 := by
      unfold rdy at h0
      split at h0
      · rename_i q; exact absurd h0 q
      · split at h0
        · cases h0
        · omega
    have ks := Lib.hid (fun w' => mk_shape l (by omega) w')
    obtain ⟨bad, f, e, hs⟩ : ∃ bad f e, shpB l = (bad, f, e) := ⟨_, _, _, rfl⟩
    have hp : putV P G M N xs l = ([], 12, bad) := by unfold putV; rw [if_neg (fun q => q h0), if_pos hb, hs]
    rw [hp]
    rw [h0] at kr
    rw [hs] at ks hb
    clear hp hs h h0
    go_enter Tryz.func18, Tryz.ntmps18
    go_wp2_with (first
      | (go_at_call 22; (with_reducible refine (kr.out).mono ?_); rintro e1 w1 ⟨v, rfl, hE1, hV⟩; obtain rfl := errV_no hV.out)
      | (go_at_call 25; (with_reducible refine (ks.out _).mono ?_); rintro e2 w2 ⟨rfl, hE2⟩)
      | (go_at_call 26; (with_reducible refine (mk_no 12 bad (by decide) _).mono ?_); rintro e3 w3 ⟨v3, rfl, hE3, hV3⟩))
    refine bodyPost_ret (v := .tuple #[.string (bs []), _]) ?h rfl ⟨_, rfl, ext_trans e1.out (ext_trans hE1 (ext_trans hE2 hE3)), hV3⟩
    case h => simp [results, Tryz.results18, go_sem]; rfl
  · obtain ⟨r, hr⟩ : ∃ r, rdy P G M N xs l.length = r := ⟨_, rfl⟩
    have hp : putV P G M N xs l = ([], r, 0) := by unfold putV; rw [if_pos h0, hr]
    rw [hp]
    rw [hr] at kr h0
    clear hp hr h
    go_enter Tryz.func18, Tryz.ntmps18
    go_wp2_with (first
      | (go_at_call 22; (with_reducible refine (kr.out).mono ?_); rintro e1 w1 ⟨v, rfl, hE1, hV⟩; obtain ⟨b, rfl, hIs⟩ := errV_of hV.out h0))
    refine bodyPost_ret (v := .tuple #[.string (bs []), _]) ?h rfl ⟨_, rfl, ext_trans e1.out hE1, hV⟩
    case h => simp [results, Tryz.results18, go_sem]; rfl
end Go.Proofs.YtgedpfbokkambaaGreatDoor
end
section
/- Marks: Put of the program, a text that is written. -/
namespace Go.Proofs.YtgedpfbokkambaaGreatDoor
open Go.RowKit
attribute [local go_sem] bs_size bs_extract bs_get bs_append bs_toList const_get
attribute [local go_sem] sz2 sz3 sz4 sz5 sz6 sz7 sz8
attribute [local go_sem] D2.Oper.detAt D2.detUpon D2.relUpon
set_option maxHeartbeats 4000000
set_option maxRecDepth 100000
attribute [local irreducible] Calls
theorem i32_kind : Tryz.prog.underlying 21 = some (.int .i32) := by kernel_rfl
/-- A row of runes somewhere behind N. -/
def RRow (N : Nat) (L : List Int) : List Value → Value → World → Prop := fun _ v w => OwnR w N v L.length L
theorem stays_rrow (N : Nat) (L : List Int) : D2.Stays (RRow N L) := fun _ _ _ _ h he => own_ext h he
theorem rel_rrow {N : Nat} {L : List Int} {vals : List Value} {f : FuncId} {args : Array Value} {w : World} (hN : N ≤ w.heap.size) (h : Calls Tryz.prog f args w fun e w' => ∃ v, e = .returned v ∧ Ext w w' ∧ Hid (OwnR w' w.heap.size v L.length L)) :
    Calls Tryz.prog f args w fun e w' => ∃ v, e = .returned v ∧ Ext w w' ∧ D2.Fresh w v w' ∧ RRow N L vals v w' :=
  by
  refine h.mono ?_
  rintro e w' ⟨v, h1, h2, h3⟩
  refine ⟨v, h1, h2, ?_, own_base h3.out hN⟩
  intro b hb
  rcases h3.out.2 with ⟨rfl, _⟩ | ⟨g, cap, cur, rfl, _⟩
  · cases hb
  · cases hb
theorem drop_isD {l : List UInt8} {f e : Nat} (h : ∀ i, f ≤ i → i < e → isD (l.getD i 0) = true) (he : e ≤ l.length) : ∀ b ∈ (l.take e).drop f, isD b = true := by
  intro b hb
  obtain ⟨i, hi, rfl⟩ := List.mem_iff_getElem.1 hb
  rw [List.getElem_drop, List.getElem_take]
  have hi2 : f + i < e := by rw [List.length_drop, List.length_take] at hi; omega
  have := h (f + i) (by omega) hi2
  rwa [List.getD_eq_getElem?_getD, List.getElem?_eq_getElem (by omega : f + i < l.length)] at this
theorem own_shape {w : World} {base : Nat} {e : TypeId} {size n : Nat} {v : Value} {xs : List Value} (h : w.ownsRow base e size v n xs) : ∃ A c, v = .slice A n c := by
  rcases h.2 with ⟨rfl, rfl⟩ | ⟨g, cap, _, rfl, _⟩
  · exact ⟨none, 0, rfl⟩
  · exact ⟨_, _, rfl⟩
theorem mk_Put_main (P G M N : Int) (A : Option Addr) (k c : Nat) (xs : List Int) (l : List UInt8) (w : World) (hA : RdI w A k c xs) (hr0 : rdy P G M N xs l.length = 0) (f e : Nat) (hsh : shpB l = (-1, f, e)) :
    Calls Tryz.prog 18 #[mkV P G M N A k c, .string (bs l)] w fun r w' => ∃ v, r = .returned (.tuple #[.string (bs (putV P G M N xs l).1), v]) ∧ Ext w w' ∧ Hid (ErrIs w' v (putV P G M N xs l).2.1 (putV P G M N xs l).2.2) := by
  obtain ⟨hf1, hfe, hel, hm, hdg, hpl⟩ := shp_ok hsh
  have hl : l.length ≤ 65536 ∧ ckv P G M N xs = 0 := by
    unfold rdy at hr0
    split at hr0
    · rename_i q; exact absurd hr0 q
    · rename_i q
      split at hr0
      · cases hr0
      · exact ⟨by omega, by omega⟩
  obtain ⟨hN, hall, -, hso⟩ := szOk_of hA.len hl.2
  have hl1 := hl.1
  have e1 : Hid (Ext w (w.alloc (BoxM P G M N A k c))) := ext_alloc (ext_refl w) _
  have b1 := Lib.hid (MkAt.made w P G M N A k c)
  have kr := Lib.hid (mk_ready P G M N A k c xs l _ (hA.ext e1.out))
  have ks := Lib.hid (fun w' => mk_shape l (by omega) w')
  rw [hr0] at kr
  rw [hsh] at ks
  obtain ⟨d, hd⟩ : ∃ d, (l.take e).drop f = d := ⟨_, rfl⟩
  have hdd := drop_isD hdg hel
  rw [hd] at hdd
  have hdl : d.length = e - f := by rw [← hd, List.length_drop, List.length_take]; omega
  have kw := Lib.hid (fun w' h => mk_whole P G M N A k c xs d w' (hA.ext h) hso hN (by omega) hdd)
  have hpv : Hid (putV P G M N xs l = if 65536 < (runesBytes ((if 0 < f then [M] else []) ++ wholeN G N xs d d.length ++ (l.drop e).map (markB P M N))).data.toList.length then ([], 4, 0) else ((runesBytes ((if 0 < f then [M] else []) ++ wholeN G N xs d d.length ++ (l.drop e).map (markB P M N))).data.toList, 0, 0)) := by
    show _ = _
    unfold putV
    rw [if_neg (fun q => q hr0), hsh, if_neg (by show ¬ (0 : Int) ≤ -1; decide)]
    simp only [putL, hd]
  have hwl := wholeN_len G N xs d d.length
  have HN := Lib.hid hN
  have hb0 : (w.alloc (BoxM P G M N A k c)).heap.size = w.heap.size + 1 := by simp
  clear hA hr0 hsh hdd hall hso hdg
  go_enter Tryz.func18, Tryz.ntmps18
  go_upto_if 31 with (first
    | (go_at_call 22; (with_reducible refine (kr.out).mono ?_); rintro e1 w1 ⟨v, rfl, hE1, hV⟩; obtain rfl := errV_no hV.out)
    | (go_at_call 25; (with_reducible refine (ks.out _).mono ?_); rintro e2 w2 ⟨rfl, hE2⟩))
  have hE3 := Lib.hid (ext_trans hE1 hE2)
  have b3 := b1.out.ext hE3.out
  have hs3 := ext_size hE3.out
  obtain ⟨p0, p1, p2, p3, p4, pl⟩ := b3
  clear hV hE1 hE2
  obtain ⟨L0, hL0⟩ : ∃ L0 : List Int, (if 0 < f then [M] else []) = L0 := ⟨_, rfl⟩
  have hL0l : L0.length ≤ 1 := by rw [← hL0]; split <;> simp
  go_cut [10] (fun v10 wx => Hid (OwnR wx w2.heap.size v10 L0.length L0) ∧ Hid (Ext w2 wx))
  case first =>
    by_cases hf0 : 0 < f
    · obtain rfl : f = 1 := by omega
      rw [if_pos (by decide)] at hL0
      subst hL0
      have O0 : OwnR w2 w2.heap.size (.slice none 0 0) 0 [] := ⟨rfl, .inl ⟨rfl, rfl⟩⟩
      go_wp2_with (first
        | (at_builtin; refine push_i32 rfl _ _ rfl _ rfl (ext_refl _) (Nat.le_refl _) (Nat.le_refl _) O0 rfl M ⟨_, 0, none⟩ 1 rfl (by simp [go_sem, rV]) (by omega) ?_; intro v7 w7 hE7 hO7))
      go_meet
      case rel => exact ⟨hO7, hE7⟩
    · obtain rfl : f = 0 := by omega
      rw [if_neg (by decide)] at hL0
      subst hL0
      go_wp2
      go_meet
      case rel => exact ⟨⟨rfl, .inl ⟨rfl, rfl⟩⟩, ext_refl _⟩
  case rest =>
    obtain ⟨hO, hE4⟩ := hcut
    rename ∀ (a : Act) (w : World), Code.wp _ _ _ a w → _ => hK5
    refine hK5 _ _ ?_
    clear hK5
    clear p0 p1 p2 p3 p4 pl
    have hEc := Lib.hid (ext_trans hE3.out hE4.out)
    have bc := b1.out.ext hEc.out
    have lb := bc.lt
    have hwf : ∀ (n : Aft wc), Ext w n.out := fun n => ext_trans e1.out (ext_trans hEc.out n.use)
    obtain ⟨Lw, hLw⟩ : ∃ Lw, wholeN G N xs d d.length = Lw := ⟨_, rfl⟩
    have kw2 : Hid (∀ w', Ext w w' → Calls Tryz.prog 27 #[mkV P G M N A k c, .string (bs d)] w' fun e w'' => ∃ v, e = .returned v ∧ Ext w' w'' ∧ Hid (OwnR w'' w'.heap.size v Lw.length Lw)) := by rw [← hLw]; exact kw.out
    rw [hLw] at hwl
    have hpv2 := hpv.out
    rw [hL0, hLw] at hpv2
    have HPV := Lib.hid hpv2
    have hexd : (bs l).extract f e = bs d := by rw [bs_extract, hd]
    clear hpv hpv2 kw
    obtain ⟨A0, c0, hv0⟩ := own_shape hO.out
    subst hv0
    go_upto_region 10 with fail
    refine D2.wp_drawn_tail 7 (D2.tab [(6, RRow wc.heap.size Lw)]) (by kernel_rfl) (by kernel_rfl) (by kernel_rfl) (D2.tab_stays (by simp [stays_rrow])) (fun hq hqf => ?_)
    simp only [List.take_succ_cons, List.take_zero, List.drop_succ_cons, List.drop_zero]
    have p0 := bc.c0
    have p1 := bc.c1
    have p2 := bc.c2
    have p3 := bc.c3
    have p4 := bc.c4
    have hfe2 : f ≤ e := by omega
    iterate 6
      (refine D2.wpK_det rfl (fun K hK => ?_)
       go_simp
       first
         | (refine hK _ ?_; clear hK K)
         | (apply Exists.intro; refine ⟨fun x => ?_, hK _ ?_⟩; (first | rfl | (simp [p0, p1, p2, p3, p4]; done) | (simp [p0, p1, p2, p3, p4]; rfl)); clear hK K))
    refine D2.wpK_rel _ rfl rfl ?_ ?_
    · rintro _ ⟨nn, rfl⟩ _
      unfold D2.Oper.relAt
      go_simp
      exact rel_rrow (ext_size nn.use) (kw2.out _ (hwf nn))
    rintro v ⟨_, ⟨nn, rfl⟩, hr⟩
    have hr2 : OwnR nn.out wc.heap.size v Lw.length Lw := hr
    have hlw0 : 0 < Lw.length := by
      rw [← hLw]
      obtain ⟨j, hj⟩ : ∃ j, d.length = j + 1 := ⟨d.length - 1, by omega⟩
      rw [hj, wholeN]; simp; omega
    obtain ⟨gw, cw, rfl, -, -⟩ := hr2.form hlw0
    clear nn hr hr2
    refine D2.wpK_nil ?_
    intro nq hG
    have r6 : RRow wc.heap.size Lw [] (.slice (some ⟨gw, 0, none⟩) Lw.length cw) nq.out := by have := hG.fact 6; simp [D2.Facts.put] at this; exact this
    have hRw : OwnR nq.out wc.heap.size (.slice (some ⟨gw, 0, none⟩) Lw.length cw) Lw.length Lw := r6
    have hO1 : OwnR nq.out w2.heap.size (.slice A0 L0.length c0) L0.length L0 := own_ext hO.out nq.use
    have hE5 := Lib.hid (ext_trans hE4.out nq.use)
    have hs5 := ext_size hE5.out
    clear r6 hG
    have hstr := str_kind
    go_wp2_with (first
      | (at_builtin; refine push_all rfl _ _ rfl hE5.out (Nat.le_refl _) (by omega) hO1 rfl hRw rfl (by omega) ?_; intro v6 w6 hE6 hO6))
    obtain ⟨r, hr⟩ : ∃ r, l.drop e = r := ⟨_, rfl⟩
    have hrl : r.length ≤ 65536 := by rw [← hr, List.length_drop]; omega
    have hrp : ∀ i, i < r.length → PlB (r.getD i 0) := fun i hi => by
      rw [← hr, List.length_drop] at hi
      have := hpl (e + i) (by omega) (by omega)
      rw [← hr, List.getD_eq_getElem?_getD, List.getElem?_drop, ← List.getD_eq_getElem?_getD]
      exact this
    have HRP := Lib.hid hrp
    obtain ⟨L6, hL6⟩ : ∃ L6, L0 ++ Lw = L6 := ⟨_, rfl⟩
    have hL6l : L6.length = L0.length + Lw.length := by rw [← hL6, List.length_append]
    have hpv6 := HPV.out
    rw [hL6, hr] at hpv6
    have HPV6 := Lib.hid hpv6
    rw [hL6] at hO6
    have hO6' : Hid (OwnR w6 w2.heap.size v6 L6.length L6) := by rw [hL6l]; exact hO6.out
    have hE26 := hE6
    have hs6 := ext_size hE6
    have hlt0 : 0 < L6.length := by omega
    clear HPV hpv6 hO6 hrp hpl hRw hO1 hq hqf
    try rw [hr]
    go_loopg [10] r.length (fun gk v10 wr => ∃ i : Nat, gk = r.length - i ∧ i ≤ r.length ∧ Hid (wr.heap[w6.heap.size]? = some (.stringIter (bs r) i)) ∧ Hid (OwnR wr w2.heap.size v10 (L6.length + i) (L6 ++ (r.take i).map (markB P M N))) ∧ Hid (Ext w2 wr))
    case atStart => exact ⟨0, rfl, Nat.zero_le _, World.iter_heap w6 (bs r) 0, by
      have h1 := hO6'.out
      show World.ownsRow _ _ _ _ _ _ _
      have h2 := h1.alloc (.stringIter (bs r) 0)
      rw [List.take_zero, List.map_nil, List.append_nil, Nat.add_zero]
      exact h2, ext_alloc hE26 _⟩
    case round =>
      obtain ⟨i, rfl, hi, hit, hO7, hE7⟩ := hrel
      have hsz7 := ext_size hE7.out
      by_cases hlt : i < r.length
      · obtain ⟨x, hx⟩ : ∃ x, r.getD i 0 = x := ⟨_, rfl⟩
        have hxp := HRP.out i hlt
        rw [hx] at hxp
        have hx128 : x.toNat < 128 := by
          rcases hxp with rfl | rfl | rfl | h
          · decide
          · decide
          · decide
          · have : 48 ≤ x.toNat ∧ x.toNat ≤ 57 := by simpa [isD] using h
            omega
        obtain ⟨W8, hW8⟩ : ∃ W8, W8 = wr.iterAt w6.heap.size (bs r) (i + 1) := ⟨_, rfl⟩
        have hxg : r[i] = x := by rw [← hx, List.getD_eq_getElem?_getD, List.getElem?_eq_getElem hlt]; rfl
        have hnx : ∀ ty, (Instr.next (.pointer (some ⟨w6.heap.size, 0, none⟩)) true ty).run Tryz.prog wr = .ok (.tuple #[.bool true, .int .i64 i, .int .i32 x.toNat]) W8 := fun ty => by
          have := Lib.run_next_ascii_at (P := Tryz.prog) wr w6.heap.size (bs r) i ty hit.out (by rw [bs_size]; exact hlt) (by rw [bs_get, hxg]; exact hx128)
          rw [bs_get, hxg] at this
          rw [hW8]; exact this
        have hit8 : Hid (W8.heap[w6.heap.size]? = some (.stringIter (bs r) (i + 1))) := by rw [hW8]; exact Lib.iterAt_heap _ _ _ _ _ hit.out
        have hO8 : Hid (OwnR W8 w2.heap.size u10 (L6.length + i) (L6 ++ (r.take i).map (markB P M N))) := by rw [hW8]; exact own_iter hO7.out hit.out _
        have hE8 : Hid (Ext w2 W8) := by rw [hW8]; exact Lib.below_iterAt hE7.out hs6 _ _
        have hs8 := ext_size hE8.out
        obtain ⟨p0, p1, p2, p3, p4, pl⟩ := (b1.out.ext hE3.out).ext hE8.out
        have hfin : ∀ (v9 : Value) (w9 : World) (y : Int), y = markB P M N x → Ext w2 w9 → Hid (OwnR w9 w2.heap.size v9 (L6.length + i + 1) (L6 ++ (r.take i).map (markB P M N) ++ [y])) → w9.heap[w6.heap.size]? = some (.stringIter (bs r) (i + 1)) →
            ∃ i' : Nat, r.length - (i + 1) = r.length - i' ∧ i' ≤ r.length ∧ Hid (w9.heap[w6.heap.size]? = some (.stringIter (bs r) i')) ∧ Hid (OwnR w9 w2.heap.size v9 (L6.length + i') (L6 ++ (r.take i').map (markB P M N))) ∧ Hid (Ext w2 w9) := fun v9 w9 y h1 h2 h3 h4 =>
          ⟨i + 1, rfl, by omega, h4, by
            have h5 := h3.out
            rw [h1, List.append_assoc] at h5
            show World.ownsRow _ _ _ _ _ _ _
            have e5 : (r.take (i + 1)).map (markB P M N) = (r.take i).map (markB P M N) ++ [markB P M N x] := by rw [List.take_succ_eq_append_getElem hlt, hxg, List.map_append]; rfl
            rw [e5]
            exact h5, h2⟩
        have HF := Lib.hid hfin
        clear hW8 hfin hit hO7 hE7 hx hxg
        by_cases h46 : x = 46
        · have hmk : Hid (P = markB P M N x) := by show _ = _; unfold markB; rw [if_pos h46]
          have q46 : ((x.toNat : Int) == 46) = true := by subst h46; rfl
          go_wp2_with (first
            | (at_builtin; refine push_i32g rfl _ _ rfl _ rfl hE8.out (Nat.le_refl _) (by omega) hO8.out rfl (P) ⟨_, 0, none⟩ 1 rfl (by simp [go_sem, rV]) (by omega) ?_; intro v9 w9 hE9 hO9 hK9))
          go_roundg (r.length - (i + 1))
          case measure => omega
          case rel => exact HF.out _ _ (P) hmk.out hE9 hO9 (hK9.out _ _ hit8.out (own_not_iter hO8.out hit8.out))
        · by_cases h45 : x = 45
          · have hmk : Hid (M = markB P M N x) := by show _ = _; unfold markB; rw [if_neg h46, if_pos h45]
            have q46 : ((x.toNat : Int) == 46) = false := by subst h45; rfl
            have q45 : ((x.toNat : Int) == 45) = true := by subst h45; rfl
            go_wp2_with (first
              | (at_builtin; refine push_i32g rfl _ _ rfl _ rfl hE8.out (Nat.le_refl _) (by omega) hO8.out rfl (M) ⟨_, 0, none⟩ 1 rfl (by simp [go_sem, rV]) (by omega) ?_; intro v9 w9 hE9 hO9 hK9))
            go_roundg (r.length - (i + 1))
            case measure => omega
            case rel => exact HF.out _ _ (M) hmk.out hE9 hO9 (hK9.out _ _ hit8.out (own_not_iter hO8.out hit8.out))
          · by_cases h101 : x = 101
            · have hmk : Hid (101 = markB P M N x) := by show _ = _; unfold markB; rw [if_neg h46, if_neg h45, if_pos h101]
              have q46 : ((x.toNat : Int) == 46) = false := by subst h101; rfl
              have q45 : ((x.toNat : Int) == 45) = false := by subst h101; rfl
              have q101 : ((x.toNat : Int) == 101) = true := by subst h101; rfl
              go_wp2_with (first
                | (at_builtin; refine push_i32g rfl _ _ rfl _ rfl hE8.out (Nat.le_refl _) (by omega) hO8.out rfl (101) ⟨_, 0, none⟩ 1 rfl (by simp [go_sem, rV]) (by omega) ?_; intro v9 w9 hE9 hO9 hK9))
              go_roundg (r.length - (i + 1))
              case measure => omega
              case rel => exact HF.out _ _ (101) hmk.out hE9 hO9 (hK9.out _ _ hit8.out (own_not_iter hO8.out hit8.out))
            · have hmk : Hid ((x.toNat : Int) + (N - 48) = markB P M N x) := by show _ = _; unfold markB; rw [if_neg h46, if_neg h45, if_neg h101]
              have hd9 : 48 ≤ x.toNat ∧ x.toNat ≤ 57 := by
                rcases hxp with h | h | h | h
                · exact absurd h h46
                · exact absurd h h45
                · exact absurd h h101
                · simpa [isD] using h
              have q46 : ((x.toNat : Int) == 46) = false := by simp; omega
              have q45 : ((x.toNat : Int) == 45) = false := by
                have : x.toNat ≠ 45 := by omega
                simp; omega
              have q101 : ((x.toNat : Int) == 101) = false := by simp; omega
              go_wp2_with (first
                | (at_builtin; refine push_i32g rfl _ _ rfl _ rfl hE8.out (Nat.le_refl _) (by omega) hO8.out rfl ((x.toNat : Int) + (N - 48)) ⟨_, 0, none⟩ 1 rfl (by simp [go_sem, rV]) (by omega) ?_; intro v9 w9 hE9 hO9 hK9))
              go_roundg (r.length - (i + 1))
              case measure => omega
              case rel => exact HF.out _ _ ((x.toNat : Int) + (N - 48)) hmk.out hE9 hO9 (hK9.out _ _ hit8.out (own_not_iter hO8.out hit8.out))
      · obtain rfl : i = r.length := by omega
        have hnx := fun ty => Lib.run_next_end_at (P := Tryz.prog) wr w6.heap.size (bs r) r.length ty hit.out (by rw [bs_size]; omega)
        obtain ⟨Lz, hLz⟩ : ∃ Lz, L6 ++ r.map (markB P M N) = Lz := ⟨_, rfl⟩
        have hLzl : Lz.length = L6.length + r.length := by rw [← hLz]; simp
        have hOz : OwnR wr w2.heap.size u10 Lz.length Lz := by
          have h1 := hO7.out
          rw [List.take_of_length_le (Nat.le_refl _), hLz] at h1
          rw [hLzl]; exact h1
        obtain ⟨g9, c9, hv9, -, -⟩ := hOz.form (by omega)
        subst hv9
        obtain ⟨tb, htb⟩ := bs_of (runesBytes Lz)
        have hconv : ∀ ty : Unit, (convert 54 9 (.slice (some ⟨g9, 0, none⟩) Lz.length c9)).run Tryz.prog wr = .ok (.string (bs tb)) wr := fun _ => by
          have := run_convert_runes (P := Tryz.prog) wr 54 9 21 ⟨g9, 0, none⟩ Lz.length c9 Lz (Nat.le_refl _) i32_under i32_kind str_kind (fun j hj => hOz.cells rfl j _ (by
            rw [List.getElem?_map, List.getElem?_eq_getElem hj, List.getD_eq_getElem?_getD, List.getElem?_eq_getElem hj]; rfl))
          rw [List.take_of_length_le (Nat.le_refl _), htb] at this
          exact this
        have hcv := hconv ()
        have hpz := HPV6.out
        rw [hLz, htb, bs_data] at hpz
        have HPZ := Lib.hid hpz
        have hfw : Ext w wr := ext_trans e1.out (ext_trans hE3.out hE7.out)
        clear hconv hpz hOz HPV6 hLzl hLz hL6l hL6 htb
        by_cases hbig : 65536 < tb.length
        · have hbig' : (65536 : Int) < (tb.length : Int) := by omega
          have hpe := HPZ.out
          rw [if_pos hbig] at hpe
          have HPE := Lib.hid hpe
          clear hpe
          go_wp2_with (first
            | (go_at_call 26; (with_reducible refine (mk_no 4 0 (by decide) _).mono ?_); rintro e3 w3 ⟨v3, rfl, hE9, hV3⟩))
          refine bodyPost_ret (v := .tuple #[.string (bs []), v3]) ?h rfl ⟨v3, by rw [HPE.out], ext_trans hfw hE9, by rw [HPE.out]; exact hV3⟩
          case h => simp [results, Tryz.results18, go_sem]; rfl
        · have hbig' : ¬ (65536 : Int) < (tb.length : Int) := by omega
          have hpe := HPZ.out
          rw [if_neg hbig] at hpe
          have HPE := Lib.hid hpe
          clear hpe
          go_wp2
          refine bodyPost_ret (v := .tuple #[.string (bs tb), .nilIface]) ?h rfl ⟨.nilIface, by rw [HPE.out], hfw, by rw [HPE.out]; exact .inl ⟨rfl, rfl⟩⟩
          case h => simp [results, Tryz.results18, go_sem]
theorem mk_Put (P G M N : Int) (A : Option Addr) (k c : Nat) (xs : List Int) (l : List UInt8) (w : World) (hA : RdI w A k c xs) :
    Calls Tryz.prog 18 #[mkV P G M N A k c, .string (bs l)] w fun r w' => ∃ v, r = .returned (.tuple #[.string (bs (putV P G M N xs l).1), v]) ∧ Ext w w' ∧ Hid (ErrIs w' v (putV P G M N xs l).2.1 (putV P G M N xs l).2.2) := by
  by_cases h0 : rdy P G M N xs l.length = 0
  · by_cases h1 : 0 ≤ (shpB l).1
    · exact mk_Put_early P G M N A k c xs l w hA (.inr h1)
    · obtain ⟨f, e, hs⟩ : ∃ f e, shpB l = (-1, f, e) := by
        obtain ⟨f0, hf0⟩ : ∃ f0 : Nat, (if l[0]? = some 45 then 1 else 0) = f0 := ⟨_, rfl⟩
        obtain ⟨p, pb, hp⟩ : ∃ p pb, ptS l (f0 + rowN l f0) = (p, pb) := ⟨_, _, rfl⟩
        obtain ⟨q, qb, hq⟩ : ∃ q qb, exS l p = (q, qb) := ⟨_, _, rfl⟩
        unfold shpB at h1 ⊢
        simp only [hf0, hp, hq] at h1 ⊢
        split at h1
        · exact (h1 (Int.natCast_nonneg _)).elim
        rename_i q1
        rw [if_neg q1]
        split at h1
        · exact (h1 (Int.natCast_nonneg _)).elim
        rename_i q2
        rw [if_neg q2]
        split at h1
        · exact (h1 (Int.natCast_nonneg _)).elim
        rename_i q3
        rw [if_neg q3]
        split at h1
        · exact (h1 (Int.natCast_nonneg _)).elim
        rename_i q4
        rw [if_neg q4]
        exact ⟨_, _, rfl⟩
      exact mk_Put_main P G M N A k c xs l w hA h0 f e hs
  · exact mk_Put_early P G M N A k c xs l w hA (.inl h0)
end Go.Proofs.YtgedpfbokkambaaGreatDoor
end
section
/- Marks: the document's answer: rows of runes; digits that stand in a row. -/
namespace Go.Proofs.YtgedpfbokkambaaGreatDoor
open Go.RowKit
attribute [local irreducible] Calls
set_option maxHeartbeats 4000000
set_option maxRecDepth 100000
/-- A rune as a byte: one that is none reads as no sign of a number. -/
def encB (z : Int) : UInt8 := if 0 ≤ z ∧ z < 256 then UInt8.ofNat z.toNat else 120
theorem encB_toNat {z : Int} (h : 0 ≤ z ∧ z < 256) : ((encB z).toNat : Int) = z := by
  unfold encB; rw [if_pos h]; simp; omega
theorem encB_isD (z : Int) : isD (encB z) = decide (48 ≤ z ∧ z ≤ 57) := by
  rw [Bool.eq_iff_iff, decide_eq_true_iff]
  by_cases h : 0 ≤ z ∧ z < 256
  · have h1 := encB_toNat h
    simp only [isD, Bool.and_eq_true, decide_eq_true_eq, UInt8.le_iff_toNat_le]
    have e1 : (48 : UInt8).toNat = 48 := rfl
    have e2 : (57 : UInt8).toNat = 57 := rfl
    omega
  · unfold encB; rw [if_neg h]
    constructor
    · intro q; exact absurd q (by decide)
    · intro q; omega
theorem encB_eq (z : Int) (c : UInt8) (hc : c ≠ 120) : encB z = c ↔ z = (c.toNat : Int) := by
  by_cases h : 0 ≤ z ∧ z < 256
  · have h1 := encB_toNat h
    constructor
    · rintro rfl; omega
    · intro q; apply UInt8.toNat_inj.1; omega
  · unfold encB; rw [if_neg h]
    have := c.toNat_lt
    constructor
    · intro q; exact absurd q.symm hc
    · intro q; omega
theorem encB_byte (b : UInt8) : encB (b.toNat : Int) = b := by
  have := b.toNat_lt
  unfold encB
  rw [if_pos (by omega)]; simp
/-- A slice that reads as these runes. -/
structure RdR (w : World) (A : Option Addr) (n c : Nat) (xs : List Int) : Prop where
  len : xs.length = n
  cap : n ≤ c
  mx : c ≤ 9223372036854775807
  none_ : A = none → c = 0
  at_ : ∀ a, A = some a → a.spot = none
  cells : ∀ b off, A = some ⟨b, off, none⟩ → ∀ i, i < n → b < w.heap.size ∧ w.cell? ⟨b, off + i, none⟩ = some (.int .i32 (xs.getD i 0))
theorem RdR.shape {w : World} {A : Option Addr} {n c : Nat} {xs : List Int} (h : RdR w A n c xs) : (A = none ∧ n = 0 ∧ c = 0 ∧ xs = []) ∨ ∃ b off, A = some ⟨b, off, none⟩ := by
  cases A with
  | none =>
    have h1 := h.none_ rfl
    have h2 := h.cap
    have h3 := h.len
    refine .inl ⟨rfl, by omega, h1, List.eq_nil_of_length_eq_zero (by omega)⟩
  | some a =>
    have := h.at_ a rfl
    obtain ⟨b, off, s⟩ := a
    simp only at this
    subst this
    exact .inr ⟨b, off, rfl⟩
theorem RdR.ext {w w' : World} {A : Option Addr} {n c : Nat} {xs : List Int} (h : RdR w A n c xs) (he : Ext w w') : RdR w' A n c xs :=
  ⟨h.len, h.cap, h.mx, h.none_, h.at_, fun b off hA i hi => by
    obtain ⟨h1, h2⟩ := h.cells b off hA i hi
    exact ⟨Nat.lt_of_lt_of_le h1 he.size, (Below.cell (p := ⟨b, off + i, none⟩) he h1).trans h2⟩⟩
theorem RdR.nil (w : World) : RdR w none 0 0 [] := ⟨rfl, Nat.le_refl _, by omega, fun _ => rfl, (fun _ h => by cases h), (fun _ _ h => by cases h)⟩
theorem RdR.own {w : World} {base n : Nat} {A : Option Addr} {m c : Nat} {xs : List Int} (h : OwnR w base (.slice A m c) n xs) : RdR w A m c xs ∧ m = n := by
  have hx := h.1
  rcases h.2 with ⟨e, rfl⟩ | ⟨g, cap, cur, e, hb, hh, hc, hm, _, _⟩
  · cases e
    have : xs = [] := by simpa using hx
    subst this
    exact ⟨RdR.nil w, rfl⟩
  · cases e
    have hl : xs.length = n := by simpa using hx
    refine ⟨⟨hl, hc, by simpa [maxLen] using hm, (fun e => by cases e), (fun a e => by cases e; rfl), fun b off e i hi => ?_⟩, rfl⟩
    cases e
    refine ⟨(Array.getElem?_eq_some_iff.1 hh).1, ?_⟩
    have := h.cellAt i (by omega)
    rw [Nat.zero_add, this, List.getElem?_map, List.getElem?_eq_getElem (by omega), List.getD_eq_getElem?_getD, List.getElem?_eq_getElem (by omega)]; rfl
/-- A part of the slice. -/
theorem RdR.sub {w : World} {b off n c : Nat} {xs : List Int} (h : RdR w (some ⟨b, off, none⟩) n c xs) (i j : Nat) (hij : i ≤ j) (hj : j ≤ n) : RdR w (some ⟨b, off + i, none⟩) (j - i) (c - i) ((xs.take j).drop i) := by
  have h1 := h.len
  have h2 := h.cap
  have h3 := h.mx
  refine ⟨by rw [List.length_drop, List.length_take]; omega, by omega, by omega, (fun e => by cases e), (fun a e => by cases e; rfl), fun b' off' e k hk => ?_⟩
  cases e
  obtain ⟨g1, g2⟩ := h.cells b off rfl (i + k) (by omega)
  refine ⟨g1, ?_⟩
  rw [Nat.add_assoc, g2, List.getD_eq_getElem?_getD, List.getD_eq_getElem?_getD, List.getElem?_drop, List.getElem?_take, if_pos (by omega)]
theorem tw_lt (p : UInt8 → Bool) : ∀ (l : List UInt8) (j : Nat), j ≤ (l.takeWhile p).length → (j < (l.takeWhile p).length ↔ j < l.length ∧ p (l.getD j 0) = true)
  | [], j, h => by simp
  | x :: l, j, h => by
    cases hx : p x with
    | false =>
      rw [List.takeWhile_cons_of_neg (by simp [hx])] at h ⊢
      have : j = 0 := by simpa using h
      subst this
      simp [hx]
    | true =>
      rw [List.takeWhile_cons_of_pos hx] at h ⊢
      cases j with
      | zero => simp [hx]
      | succ j =>
        have := tw_lt p l j (by simpa using h)
        simp only [List.length_cons, Nat.add_lt_add_iff_right, List.getD_cons_succ]
        exact this
theorem map_at (xs : List Int) (a : Nat) : (xs.map encB)[a]? = if a < xs.length then some (encB (xs.getD a 0)) else none := by
  split
  · rename_i h
    rw [List.getElem?_map, List.getElem?_eq_getElem h, List.getD_eq_getElem?_getD, List.getElem?_eq_getElem h]; rfl
  · rw [List.getElem?_map, List.getElem?_eq_none (by omega)]; rfl
theorem row_lt (xs : List Int) (a j : Nat) (h : j ≤ rowN (xs.map encB) a) : j < rowN (xs.map encB) a ↔ (a + j < xs.length ∧ 48 ≤ xs.getD (a + j) 0 ∧ xs.getD (a + j) 0 ≤ 57) := by
  unfold rowN at h ⊢
  rw [tw_lt isD _ j h, List.length_drop, List.length_map, List.getD_eq_getElem?_getD, List.getElem?_drop, map_at]
  by_cases h1 : a + j < xs.length
  · rw [if_pos h1]
    simp only [Option.getD_some]
    rw [encB_isD, decide_eq_true_iff]
    constructor
    · rintro ⟨_, h2⟩; exact ⟨h1, h2⟩
    · rintro ⟨_, h2⟩; exact ⟨by omega, h2⟩
  · constructor
    · rintro ⟨h2, _⟩; omega
    · rintro ⟨h2, _⟩; omega
theorem md_row (A : Option Addr) (n c : Nat) (xs : List Int) (a : Nat) (ha : a ≤ n) (w : World) (hA : RdR w A n c xs) :
    Calls Tryz.prog 52 #[.slice A n c, .int .i64 a] w fun e w' => e = .returned (.int .i64 ((a + rowN (xs.map encB) a : Nat) : Int)) ∧ Ext w w' := by
  have hlen := hA.len
  have hmx := hA.mx
  have hcap := hA.cap
  have hle := rowN_le (xs.map encB) a (by rw [List.length_map]; omega)
  rw [List.length_map, hlen] at hle
  obtain ⟨m, hm⟩ : ∃ m, rowN (xs.map encB) a = m := ⟨_, rfl⟩
  have HR := Lib.hid (fun j (hj : j ≤ m) => show j < m ↔ (a + j < n ∧ 48 ≤ xs.getD (a + j) 0 ∧ xs.getD (a + j) 0 ≤ 57) from by have := row_lt xs a j (by omega); rw [hm, hlen] at this; exact this)
  rw [hm] at hle ⊢
  have HA := Lib.hid hA
  clear hA hm
  go_enter Tryz.func52, Tryz.ntmps52
  go_wp2
  go_loopw [1] (fun v wr => ∃ j : Nat, j ≤ m ∧ v = .int .i64 ((a + j : Nat) : Int) ∧ Hid (Ext w wr)) (fun v _ => n - (intOf v).toNat)
  case atStart => exact ⟨0, Nat.zero_le _, rfl, ext_refl _⟩
  case round =>
    obtain ⟨j, hj, rfl, hE⟩ := hrel
    have hr := HR.out j hj
    by_cases h0 : a + j < n
    · rcases HA.out.shape with ⟨_, h1, _⟩ | ⟨b, off, rfl⟩
      · omega
      · obtain ⟨hb, hc⟩ := (HA.out.ext hE.out).cells b off rfl (a + j) h0
        obtain ⟨x, hx⟩ : ∃ x, xs.getD (a + j) 0 = x := ⟨_, rfl⟩
        rw [hx] at hc hr
        obtain ⟨i, hi⟩ : ∃ i, a + j = i := ⟨_, rfl⟩
        rw [hi] at hc h0 hr ⊢
        have q0 : decide ((i : Int) < (n : Int)) = true := decide_eq_true (by omega)
        by_cases h1 : 48 ≤ x
        · have q1 : decide (48 ≤ x) = true := decide_eq_true h1
          by_cases h2 : x ≤ 57
          · have q2 : decide (x ≤ 57) = true := decide_eq_true h2
            have hjm : j < m := hr.2 ⟨h0, h1, h2⟩
            clear hr hx h1 h2
            go_wp2
            exact ⟨⟨j + 1, by omega, by congr 1; omega, hE⟩, by simp [intOf]; omega⟩
          · have q2 : decide (x ≤ 57) = false := decide_eq_false h2
            have hjm : j = m := by have : ¬ j < m := fun q => h2 (hr.1 q).2.2; omega
            clear hr hx h1 h2
            go_wp2
            refine bodyPost_ret (v := .int .i64 ↑i) ?h rfl ⟨by rw [← hi, hjm], hE.out⟩
            case h => simp [results, Tryz.results52, go_sem]
        · have q1 : decide (48 ≤ x) = false := decide_eq_false h1
          have hjm : j = m := by have : ¬ j < m := fun q => h1 (hr.1 q).2.1; omega
          clear hr hx h1
          go_wp2
          refine bodyPost_ret (v := .int .i64 ↑i) ?h rfl ⟨by rw [← hi, hjm], hE.out⟩
          case h => simp [results, Tryz.results52, go_sem]
    · have hjm : j = m := by have : ¬ j < m := fun q => h0 (hr.1 q).1; omega
      have q0 : decide (((a + j : Nat) : Int) < (n : Int)) = false := decide_eq_false (by omega)
      obtain ⟨i, hi⟩ : ∃ i, a + j = i := ⟨_, rfl⟩
      rw [hi] at q0 ⊢
      clear hr
      go_wp2
      refine bodyPost_ret (v := .int .i64 ↑i) ?h rfl ⟨by rw [← hi, hjm], hE.out⟩
      case h => simp [results, Tryz.results52, go_sem]
end Go.Proofs.YtgedpfbokkambaaGreatDoor
end
