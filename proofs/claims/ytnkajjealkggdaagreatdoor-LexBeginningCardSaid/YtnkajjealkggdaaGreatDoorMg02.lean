/- Lemmas of this proof, laid together: LxP, LxE, LxF. -/
import Derived.Test.YtnkajjealkggdaaGreatDoorMg01
import Derived.Lib.DecodeN
import Derived.Lib.TrimU
import Derived.Lib.TrimUEq
import Derived.Lib.MapLaws
set_option linter.unusedSimpArgs false
set_option linter.unusedVariables false
section
/- Lex, the plain part: what a text says, as a function of its bytes. -/
namespace Go.Proofs.YtnkajjealkggdaaGreatDoor
open Go.RowKit
/-! ## digits -/
/-- The runes of the scripts' digits 0. -/
def zeroL : List Nat := [48, 1632, 1776, 1984, 2406, 2534, 2662, 3664, 6112, 65296, 66720, 120782]
def digIn (r : Int) : List Nat → Option Nat
  | [] => none
  | z :: zs => if (z : Int) ≤ r ∧ r ≤ z + 9 then some (r - z).toNat else digIn r zs
def digR (r : Int) : Option Nat := digIn r zeroL
/-- The digit of some script that stands first: its worth, its bytes (none: no bytes). -/
def tenB (l : List UInt8) : Nat × Nat :=
  if l = [] then (0, 0) else match digR ((Lib.decodeL l).1 : Int) with
    | some d => (d, (Lib.decodeL l).2)
    | none => (0, 0)
def hexD (c : UInt8) : Option Nat :=
  if 48 ≤ c.toNat ∧ c.toNat ≤ 57 then some (c.toNat - 48) else if 97 ≤ c.toNat ∧ c.toNat ≤ 102 then some (c.toNat - 87) else if 65 ≤ c.toNat ∧ c.toNat ≤ 70 then some (c.toNat - 55) else none
def sixB : List UInt8 → Nat × Nat
  | [] => (0, 0)
  | c :: _ => match hexD c with
    | some d => (d, 1)
    | none => (0, 0)
/-! ## what goes through a text: what is ahead, the first fault -/
abbrev PS (α : Type) := List UInt8 → Nat → α × List UInt8 × Nat
def PS.bind {α β : Type} (f : PS α) (g : α → PS β) : PS β := fun l c => g (f l c).1 (f l c).2.1 (f l c).2.2
def PS.pure {α : Type} (a : α) : PS α := fun l c => (a, l, c)
/-- Is the first one a broken byte? -/
def broken (l : List UInt8) : Bool := decide (l ≠ []) && decide (Lib.decodeL l = (65533, 1))
def failS (e : Nat) : PS Unit := fun l c => if c = 0 then ((), l, if broken l = true then 114 else e) else ((), l, c)
def hasS (t : List UInt8) : PS Bool := fun l c => if c = 0 ∧ l.take t.length = t then (true, l.drop t.length, c) else (false, l, c)
def lowB (c : UInt8) : UInt8 := if 65 ≤ c.toNat ∧ c.toNat ≤ 90 then UInt8.ofNat (c.toNat + 32) else c
def foldS (t : List UInt8) : PS Bool := fun l c => if c = 0 ∧ (l.take t.length).map lowB = t then (true, l.drop t.length, c) else (false, l, c)
/-- An underscore that may not stand here. -/
def underS : PS Bool := fun l c => if c = 0 ∧ l.head? = some 95 then (true, l, 112) else (false, l, c)
/-- The digits of a row, what is behind them, whether an underscore is amiss. -/
def rowF (dig : List UInt8 → Nat × Nat) : Nat → List UInt8 → List UInt8 × List UInt8 × Bool
  | 0, l => ([], l, false)
  | f + 1, l => if (dig l).2 = 0 then ([], l, false) else
      if (l.drop (dig l).2).head? = some 95 then
        if (dig (l.drop (dig l).2).tail).2 = 0 then ([UInt8.ofNat (dig l).1], l.drop (dig l).2, true)
        else (UInt8.ofNat (dig l).1 :: (rowF dig f (l.drop (dig l).2).tail).1, (rowF dig f (l.drop (dig l).2).tail).2)
      else (UInt8.ofNat (dig l).1 :: (rowF dig f (l.drop (dig l).2)).1, (rowF dig f (l.drop (dig l).2)).2)
def rowG (dig : List UInt8 → Nat × Nat) : PS (List UInt8) := fun l c => if c = 0 then ((rowF dig l.length l).1, (rowF dig l.length l).2.1, if (rowF dig l.length l).2.2 = true then 112 else 0) else ([], l, c)
def rowS (dig : List UInt8 → Nat × Nat) : PS (List UInt8) := underS.bind fun _ => rowG dig
def mustS (dig : List UInt8 → Nat × Nat) : PS (List UInt8) := (rowS dig).bind fun x => if x = [] then (failS 111).bind fun _ => .pure x else .pure x
def minusS : PS Bool := (hasS [43]).bind fun p => if p = true then .pure false else (hasS [45]).bind fun m => if m = true then .pure true else hasS [226, 136, 146]
def mantB (dig : List UInt8 → Nat × Nat) (a : List UInt8) : PS (List UInt8 × Nat) := (rowS dig).bind fun b => if a.length + b.length = 0 then (failS 111).bind fun _ => .pure (a ++ b, b.length) else .pure (a ++ b, b.length)
def mantT (dig : List UInt8 → Nat × Nat) (a : List UInt8) : PS (List UInt8 × Nat) := (hasS [46]).bind fun p =>
  if p = true then mantB dig a else if a = [] then (failS 111).bind fun _ => .pure (a, 0) else .pure (a, 0)
def mantS (dig : List UInt8 → Nat × Nat) : PS (List UInt8 × Nat) := (rowS dig).bind (mantT dig)
/-- The ends of an exponent: the program's, the document's. -/
def endE (doc : Bool) : Nat := if doc = true then 1099511627776 else 68719476736
def expV (doc : Bool) (l : List UInt8) : Nat := l.foldl (fun a b => min (10 * a + b.toNat) (endE doc)) 0
def expS (doc : Bool) (letter : UInt8) : PS Int := (foldS [letter]).bind fun b =>
  if b = true then minusS.bind fun neg => (mustS tenB).bind fun l => .pure (if neg = true then -(expV doc l : Int) else (expV doc l : Int)) else .pure 0
/-! ## numbers -/
structure Num where
  kind : Nat
  neg : Bool
  dneg : Bool
  digits : List UInt8
  dexp : Int
  hneg : Bool
  mant : List Nat
  hexp : Int
  payload : Nat
  deriving DecidableEq
def num0 : Num := ⟨0, false, false, [], 0, false, [], 0, 0⟩
def clipE (n : Int) : Int := max (-1073741824) (min n 1073741824)
/-- Noughts ahead left out; noughts behind left out. -/
def headZ (l : List UInt8) : List UInt8 := l.dropWhile (· == 0)
def tailZ (l : List UInt8) : List UInt8 := (l.reverse.dropWhile (· == 0)).reverse
def chr (l : List UInt8) : List UInt8 := l.map fun d => UInt8.ofNat (d.toNat + 48)
def decN (neg : Bool) (l : List UInt8) (exp : Int) : Num :=
  { num0 with kind := 1, neg := neg, dneg := neg, digits := chr (tailZ (headZ l)), dexp := if tailZ (headZ l) = [] then 0 else clipE (exp + (headZ l).length - (tailZ (headZ l)).length) }
def hval (l : List UInt8) : Nat := l.foldl (fun a b => 16 * a + b.toNat) 0
/-- How many bits 0 stand last. -/
def tzF : Nat → Nat → Nat
  | 0, _ => 0
  | f + 1, n => if n = 0 ∨ n % 2 = 1 then 0 else tzF f (n / 2) + 1
def tzN (n : Nat) : Nat := tzF n n
def hexN (neg : Bool) (l : List UInt8) (exp : Int) : Num :=
  if hval l = 0 then { num0 with kind := 2, neg := neg }
  else { num0 with kind := 2, neg := neg, hneg := neg, mant := lim (hval l / 2 ^ tzN (hval l)), hexp := clipE (exp + (tzN (hval l) : Nat)) }
def decT (doc neg : Bool) (m : List UInt8 × Nat) : PS Num := (expS doc 101).bind fun e => .pure (decN neg m.1 (e - m.2))
def decS (doc neg : Bool) : PS Num := (mantS tenB).bind (decT doc neg)
def hexT (doc neg : Bool) (m : List UInt8 × Nat) : PS Num := (expS doc 112).bind fun e => .pure (hexN neg m.1 (e - 4 * m.2))
def hexS (doc neg : Bool) : PS Num := (mantS sixB).bind (hexT doc neg)
def maxPay : Nat := 2251799813685247
def payIn (doc : Bool) : PS Nat := fun l c => if c = 0 then
    if l.takeWhile isD = [] then (0, (failS 111 l c).2)
    else if maxPay < dval (l.takeWhile isD) then (0, l, 115)
    else if (l.dropWhile isD).head? = some 41 then (dval (l.takeWhile isD), (l.dropWhile isD).tail, c)
    else (if doc = true then 0 else dval (l.takeWhile isD), (failS 113 (l.dropWhile isD) c).2)
  else (0, l, c)
def payS (doc : Bool) : PS Nat := (hasS [40]).bind fun b => if b = true then payIn doc else .pure 0
/-- Does a decimal stand here? -/
def decB (l : List UInt8) : Bool := decide (0 < (tenB l).2) || decide (l.head? = some 46)
def decO (doc neg : Bool) (k : PS Num) : PS Num := fun l c => if c = 0 ∧ decB l = true then decS doc neg l c else k l c
def wInfinity : List UInt8 := [105, 110, 102, 105, 110, 105, 116, 121]
def wInf : List UInt8 := [105, 110, 102]
def wNan : List UInt8 := [110, 97, 110]
def infS : PS Bool := (foldS wInfinity).bind fun b => if b = true then .pure true else foldS wInf
def nanS (doc neg : Bool) : PS Num := (foldS wNan).bind fun b =>
  if b = true then (payS doc).bind fun p => .pure { num0 with kind := 4, neg := neg, payload := p } else (failS 110).bind fun _ => .pure num0
def namS (doc neg : Bool) : PS Num := infS.bind fun b => if b = true then .pure { num0 with kind := 3, neg := neg } else nanS doc neg
def numS (doc : Bool) : PS Num := minusS.bind fun neg => underS.bind fun u => if u = true then .pure num0 else
  (foldS [48, 120]).bind fun h => if h = true then hexS doc neg else decO doc neg (namS doc neg)
/-- What a text says: a number; or none, the fault and its place. -/
def endS : PS Unit := fun l c => if c = 0 ∧ l ≠ [] then failS 113 l c else ((), l, c)
def readV (doc : Bool) (l : List UInt8) : Num × Nat × Nat :=
  if 65536 < l.length then (num0, 3, 0) else
    if (endS (numS doc l 0).2.1 (numS doc l 0).2.2).2.2 = 0 then ((numS doc l 0).1, 0, 0)
    else (num0, (endS (numS doc l 0).2.1 (numS doc l 0).2.2).2.2, l.length - (numS doc l 0).2.1.length)
/-- The longest of the beginnings of at most so many bytes that says a number. -/
def fromV (doc : Bool) (l : List UInt8) : Nat → Num × Nat
  | 0 => (num0, 0)
  | k + 1 => if (readV doc (l.take (k + 1))).2.1 = 0 then ((readV doc (l.take (k + 1))).1, k + 1) else fromV doc l k
def beginP (l : List UInt8) : Num × Nat :=
  let m := l.take 65536
  let x := numS false m 0
  if x.2.2 = 0 then (x.1, m.length - x.2.1.length) else fromV false m (m.length - x.2.1.length)
def beginD (l : List UInt8) : Num × Nat :=
  let m := l.take 65536
  let x := numS true m 0
  fromV true m (m.length - x.2.1.length)
end Go.Proofs.YtnkajjealkggdaaGreatDoor
end
section
/- Lex, the plain part: what is read of a text is read of every longer one, but for its end. -/
namespace Go.Proofs.YtnkajjealkggdaaGreatDoor
open Go.RowKit
/-- f goes ahead, stays where there is a fault, and says the same of a longer text, unless it comes to the text's end. -/
structure LOk {α : Type} (f : PS α) : Prop where
  stay : ∀ l c, c ≠ 0 → (f l c).2 = (l, c)
  const : ∀ l m c, c ≠ 0 → (f l c).1 = (f m c).1
  suf : ∀ l c, ∃ p, l = p ++ (f l c).2.1
  ext : ∀ q r, f (q ++ r) 0 = ((f q 0).1, (f q 0).2.1 ++ r, (f q 0).2.2) ∨
    (((f q 0).2.1.length < 8 ∨ (f q 0).2.2 = 115) ∧ ((f (q ++ r) 0).2.1.length < r.length ∨ ((f (q ++ r) 0).2.2 ≠ 0 ∧ ((f q 0).2.2 = 0 → (f (q ++ r) 0).2.1.length ≤ r.length))))
theorem LOk.le {α : Type} {f : PS α} (h : LOk f) (l : List UInt8) (c : Nat) : (f l c).2.1.length ≤ l.length := by
  obtain ⟨p, hp⟩ := h.suf l c
  have := congrArg List.length hp
  rw [List.length_append] at this; omega
theorem ok_pure {α : Type} (a : α) : LOk (PS.pure a) := ⟨fun _ _ _ => rfl, fun _ _ _ _ => rfl, fun _ _ => ⟨[], rfl⟩, fun _ _ => .inl rfl⟩
theorem ok_bind {α β : Type} {f : PS α} {g : α → PS β} (hf : LOk f) (hg : ∀ a, LOk (g a)) : LOk (f.bind g) := by
  have hstay : ∀ l c, c ≠ 0 → (f.bind g l c).2 = (l, c) := fun l c hc => by
    have h1 := hf.stay l c hc
    show (g (f l c).1 (f l c).2.1 (f l c).2.2).2 = _
    rw [h1]
    exact (hg _).stay l c hc
  refine ⟨hstay, fun l m c hc => ?_, fun l c => ?_, fun q r => ?_⟩
  · show (g (f l c).1 (f l c).2.1 (f l c).2.2).1 = (g (f m c).1 (f m c).2.1 (f m c).2.2).1
    rw [hf.stay l c hc, hf.stay m c hc, hf.const l m c hc]
    exact (hg _).const l m c hc
  · obtain ⟨p, hp⟩ := hf.suf l c
    obtain ⟨p2, hp2⟩ := (hg (f l c).1).suf (f l c).2.1 (f l c).2.2
    refine ⟨p ++ p2, ?_⟩
    show l = p ++ p2 ++ (g (f l c).1 (f l c).2.1 (f l c).2.2).2.1
    rw [List.append_assoc, ← hp2]
    exact hp
  · show g (f (q ++ r) 0).1 (f (q ++ r) 0).2.1 (f (q ++ r) 0).2.2 = ((g (f q 0).1 (f q 0).2.1 (f q 0).2.2).1, (g (f q 0).1 (f q 0).2.1 (f q 0).2.2).2.1 ++ r, (g (f q 0).1 (f q 0).2.1 (f q 0).2.2).2.2) ∨
      (((g (f q 0).1 (f q 0).2.1 (f q 0).2.2).2.1.length < 8 ∨ (g (f q 0).1 (f q 0).2.1 (f q 0).2.2).2.2 = 115) ∧
       ((g (f (q ++ r) 0).1 (f (q ++ r) 0).2.1 (f (q ++ r) 0).2.2).2.1.length < r.length ∨ ((g (f (q ++ r) 0).1 (f (q ++ r) 0).2.1 (f (q ++ r) 0).2.2).2.2 ≠ 0 ∧ ((g (f q 0).1 (f q 0).2.1 (f q 0).2.2).2.2 = 0 → (g (f (q ++ r) 0).1 (f (q ++ r) 0).2.1 (f (q ++ r) 0).2.2).2.1.length ≤ r.length))))
    rcases hf.ext q r with h | ⟨h1, h2⟩
    · rw [h]
      by_cases hc : (f q 0).2.2 = 0
      · simp only [hc]
        exact (hg _).ext _ r
      · left
        have e1 := (hg (f q 0).1).stay (f q 0).2.1 (f q 0).2.2 hc
        have e2 := (hg (f q 0).1).stay ((f q 0).2.1 ++ r) (f q 0).2.2 hc
        have e3 := (hg (f q 0).1).const ((f q 0).2.1 ++ r) (f q 0).2.1 (f q 0).2.2 hc
        simp only
        rw [Prod.ext_iff]
        exact ⟨e3, by rw [e2, e1]⟩
    · right
      have l1 := (hg (f q 0).1).le (f q 0).2.1 (f q 0).2.2
      have l2 := (hg (f (q ++ r) 0).1).le (f (q ++ r) 0).2.1 (f (q ++ r) 0).2.2
      constructor
      · rcases h1 with h1 | h1
        · left; omega
        · right
          have := (hg (f q 0).1).stay (f q 0).2.1 (f q 0).2.2 (by omega)
          rw [this]; exact h1
      · rcases h2 with h2 | ⟨h2, h3⟩
        · left; omega
        · right
          have e2 := (hg (f (q ++ r) 0).1).stay (f (q ++ r) 0).2.1 (f (q ++ r) 0).2.2 h2
          refine ⟨by rw [e2]; exact h2, fun hx => ?_⟩
          rw [e2]
          by_cases hc : (f q 0).2.2 = 0
          · exact h3 hc
          · exfalso
            have := (hg (f q 0).1).stay (f q 0).2.1 (f q 0).2.2 hc
            rw [this] at hx
            exact hc hx
theorem ok_ite {α : Type} {f g : PS α} (p : Prop) [Decidable p] (hf : LOk f) (hg : LOk g) : LOk (if p then f else g) := by split <;> assumption
/-! ## digits at a text's end -/
theorem dN_up {n m b0 b1 b2 b3 c1 c2 c3 : Nat} (h1 : 1 < n → b1 = c1) (h2 : 2 < n → b2 = c2) (h3 : 3 < n → b3 = c3) (hnm : n ≤ m) (hv : Lib.decodeN n b0 b1 b2 b3 ≠ (65533, 1)) : Lib.decodeN m b0 c1 c2 c3 = Lib.decodeN n b0 b1 b2 b3 := by
  rcases Lib.decodeN_shape n b0 b1 b2 b3 with ⟨c, e⟩ | ⟨d1, d2, d3, cv, e⟩ | ⟨d1, d2, d3, d4, cv, cs, e⟩ | ⟨d1, d2, d3, d4, d5, cv, cw, e⟩ | e
  · rw [e]; unfold Lib.decodeN; rw [if_pos c]
  · obtain rfl := h1 d2
    rw [e]; unfold Lib.decodeN
    rw [if_neg (by omega), if_pos ⟨d1, by omega, d3⟩, if_pos cv]
  · obtain rfl := h1 (by omega)
    obtain rfl := h2 d2
    rw [e]; unfold Lib.decodeN
    rw [if_neg (by omega), if_neg (by omega), if_pos ⟨d1, ⟨by omega, d3⟩, by omega, d4⟩, if_pos ⟨cv, by omega⟩]
  · obtain rfl := h1 (by omega)
    obtain rfl := h2 (by omega)
    obtain rfl := h3 d2
    rw [e]; unfold Lib.decodeN
    rw [if_neg (by omega), if_neg (by omega), if_neg (by omega), if_pos ⟨d1, ⟨by omega, d3⟩, ⟨by omega, d4⟩, by omega, d5⟩, if_pos ⟨cv, by omega⟩]
  · exact absurd e hv
theorem dN_down {n m b0 b1 b2 b3 c1 c2 c3 : Nat} (h0 : 0 < n) (h1 : 1 < n → b1 = c1) (h2 : 2 < n → b2 = c2) (h3 : 3 < n → b3 = c3) (hv : Lib.decodeN m b0 c1 c2 c3 ≠ (65533, 1)) (hl : (Lib.decodeN m b0 c1 c2 c3).2 ≤ n) : Lib.decodeN m b0 c1 c2 c3 = Lib.decodeN n b0 b1 b2 b3 := by
  rcases Lib.decodeN_shape m b0 c1 c2 c3 with ⟨c, e⟩ | ⟨d1, d2, d3, cv, e⟩ | ⟨d1, d2, d3, d4, cv, cs, e⟩ | ⟨d1, d2, d3, d4, d5, cv, cw, e⟩ | e
  · rw [e]; unfold Lib.decodeN; rw [if_pos c]
  · rw [e] at hl; dsimp only at hl
    obtain rfl := h1 (by omega)
    rw [e]; unfold Lib.decodeN
    rw [if_neg (by omega), if_pos ⟨d1, by omega, d3⟩, if_pos cv]
  · rw [e] at hl; dsimp only at hl
    obtain rfl := h1 (by omega)
    obtain rfl := h2 (by omega)
    rw [e]; unfold Lib.decodeN
    rw [if_neg (by omega), if_neg (by omega), if_pos ⟨d1, ⟨by omega, d3⟩, by omega, d4⟩, if_pos ⟨cv, by omega⟩]
  · rw [e] at hl; dsimp only at hl
    obtain rfl := h1 (by omega)
    obtain rfl := h2 (by omega)
    obtain rfl := h3 (by omega)
    rw [e]; unfold Lib.decodeN
    rw [if_neg (by omega), if_neg (by omega), if_neg (by omega), if_pos ⟨d1, ⟨by omega, d3⟩, ⟨by omega, d4⟩, by omega, d5⟩, if_pos ⟨cv, by omega⟩]
  · exact absurd e hv
theorem getD_app {q r : List UInt8} {i : Nat} (h : i < q.length) : q.getD i 0 = (q ++ r).getD i 0 := by
  rw [List.getD_eq_getElem?_getD, List.getD_eq_getElem?_getD, List.getElem?_append_left h]
theorem decL_up (q r : List UInt8) (hne : q ≠ []) (hv : Lib.decodeL q ≠ (65533, 1)) : Lib.decodeL (q ++ r) = Lib.decodeL q := by
  have h0 : 0 < q.length := List.length_pos_iff.2 hne
  rw [Lib.decodeL_N] at hv
  rw [Lib.decodeL_N, Lib.decodeL_N, ← getD_app h0]
  exact dN_up (fun h => by rw [getD_app h]) (fun h => by rw [getD_app h]) (fun h => by rw [getD_app h]) (by rw [List.length_append]; omega) hv
theorem decL_down (q r : List UInt8) (hne : q ≠ []) (hv : Lib.decodeL (q ++ r) ≠ (65533, 1)) (hl : (Lib.decodeL (q ++ r)).2 ≤ q.length) : Lib.decodeL (q ++ r) = Lib.decodeL q := by
  have h0 : 0 < q.length := List.length_pos_iff.2 hne
  rw [Lib.decodeL_N] at hv hl
  rw [← getD_app h0] at hv hl
  rw [Lib.decodeL_N, Lib.decodeL_N, ← getD_app h0]
  exact dN_down h0 (fun h => by rw [getD_app h]) (fun h => by rw [getD_app h]) (fun h => by rw [getD_app h]) hv hl
theorem decL_four (l : List UInt8) : (Lib.decodeL l).2 ≤ 4 := by
  rw [Lib.decodeL_N]
  rcases Lib.decodeN_shape l.length (l.getD 0 0).toNat (l.getD 1 0).toNat (l.getD 2 0).toNat (l.getD 3 0).toNat with ⟨_, e⟩ | ⟨_, _, _, _, e⟩ | ⟨_, _, _, _, _, _, e⟩ | ⟨_, _, _, _, _, _, _, e⟩ | e <;> rw [e] <;> (dsimp only; omega)
theorem broken_long (q r : List UInt8) (h : 4 ≤ q.length) : broken (q ++ r) = broken q := by
  have hq : q ≠ [] := fun e => by rw [e] at h; simp at h
  have hr : q ++ r ≠ [] := by simp [hq]
  have h4 := decL_four (q ++ r)
  unfold broken
  rw [decide_eq_true hq, decide_eq_true hr, Bool.true_and, Bool.true_and, decide_eq_decide]
  constructor
  · intro e
    by_cases hv : Lib.decodeL q = (65533, 1)
    · exact hv
    · rw [← decL_up q r hq hv]; exact e
  · intro e
    by_cases hv : Lib.decodeL (q ++ r) = (65533, 1)
    · exact hv
    · rw [decL_down q r hq hv (by omega)]; exact e
structure DigOk (dig : List UInt8 → Nat × Nat) : Prop where
  nil : (dig []).2 = 0
  le : ∀ l, (dig l).2 ≤ l.length
  four : ∀ l, (dig l).2 ≤ 4
  under : ∀ l, l.head? = some 95 → (dig l).2 = 0
  up : ∀ q r, (dig q).2 ≠ 0 → dig (q ++ r) = dig q
  down : ∀ q r, (dig q).2 = 0 → (dig (q ++ r)).2 = 0 ∨ q.length < (dig (q ++ r)).2
theorem tenB_some {l : List UInt8} (h : (tenB l).2 ≠ 0) : l ≠ [] ∧ ∃ d, digR ((Lib.decodeL l).1 : Int) = some d ∧ tenB l = (d, (Lib.decodeL l).2) := by
  unfold tenB at h ⊢
  by_cases hl : l = []
  · rw [if_pos hl] at h; exact absurd rfl h
  · rw [if_neg hl] at h ⊢
    cases hd : digR ((Lib.decodeL l).1 : Int) with
    | none => rw [hd] at h; exact absurd rfl h
    | some d => exact ⟨hl, d, rfl, rfl⟩
theorem digR_err : digR 65533 = none := by decide
theorem tenB_valid {l : List UInt8} (h : (tenB l).2 ≠ 0) : Lib.decodeL l ≠ (65533, 1) := fun e => by
  obtain ⟨_, d, hd, _⟩ := tenB_some h
  rw [e] at hd
  have : digR 65533 = some d := hd
  rw [digR_err] at this; cases this
theorem tenB_of {l : List UInt8} (hl : l ≠ []) {d : Nat} (h : digR ((Lib.decodeL l).1 : Int) = some d) : tenB l = (d, (Lib.decodeL l).2) := by
  unfold tenB; rw [if_neg hl, h]
theorem ten_ok : DigOk tenB := by
  refine ⟨rfl, fun l => ?_, fun l => ?_, fun l h => ?_, fun q r h => ?_, fun q r h => ?_⟩
  · by_cases h : (tenB l).2 = 0
    · omega
    · obtain ⟨hl, d, _, e⟩ := tenB_some h
      rw [e]; exact Lib.decodeL_le l hl
  · by_cases h : (tenB l).2 = 0
    · omega
    · obtain ⟨hl, d, _, e⟩ := tenB_some h
      rw [e]; exact decL_four l
  · match l, h with
    | x :: t, h =>
      obtain rfl : x = 95 := by simpa using h
      have e : Lib.decodeL (95 :: t) = (95, 1) := by
        rw [Lib.decodeL_N]; unfold Lib.decodeN
        simp
      unfold tenB
      rw [if_neg (by simp), e]
      rfl
  · obtain ⟨hq, d, hd, e⟩ := tenB_some h
    have e2 := decL_up q r hq (tenB_valid h)
    rw [e, tenB_of (d := d) (by simp [hq]) (by rw [e2]; exact hd), e2]
  · by_cases h2 : (tenB (q ++ r)).2 = 0
    · exact .inl h2
    · right
      obtain ⟨hqr, d, hd, e⟩ := tenB_some h2
      rw [e]
      rcases Nat.lt_or_ge q.length (Lib.decodeL (q ++ r)).2 with h3 | h3
      · exact h3
      · exfalso
        have hq : q ≠ [] := fun e => by
          subst e
          have := Lib.decodeL_width r; rw [List.nil_append] at h3; simp at h3; omega
        have e2 := decL_down q r hq (tenB_valid h2) h3
        rw [e2] at hd
        rw [tenB_of hq hd] at h
        have := Lib.decodeL_width q
        dsimp only at h; omega
theorem six_ok : DigOk sixB := by
  refine ⟨rfl, fun l => ?_, fun l => ?_, fun l h => ?_, fun q r h => ?_, fun q r h => ?_⟩
  · cases l with
    | nil => exact Nat.le_refl _
    | cons c t => unfold sixB; cases h : hexD c <;> simp [h]
  · cases l with
    | nil => exact Nat.zero_le _
    | cons c t => unfold sixB; cases h : hexD c <;> simp [h]
  · match l, h with
    | x :: t, h => obtain rfl : x = 95 := by simpa using h
                   rfl
  · cases q with
    | nil => exact absurd rfl h
    | cons c t => rfl
  · cases q with
    | nil =>
      by_cases h2 : (sixB ([] ++ r)).2 = 0
      · exact .inl h2
      · exact .inr (by simp only [List.length_nil]; omega)
    | cons c t => exact .inl h
/-! ## rows -/
theorem rowF_suf {dig : List UInt8 → Nat × Nat} : ∀ f l, ∃ p, l = p ++ (rowF dig f l).2.1
  | 0, l => ⟨[], rfl⟩
  | f + 1, l => by
    rw [rowF]
    split
    · exact ⟨[], rfl⟩
    · split
      · rename_i h
        split
        · exact ⟨l.take (dig l).2, (List.take_append_drop _ _).symm⟩
        · obtain ⟨p, hp⟩ := rowF_suf (dig := dig) f (l.drop (dig l).2).tail
          obtain ⟨t, ht⟩ : ∃ t, l.drop (dig l).2 = 95 :: t := by
            cases e : l.drop (dig l).2 with
            | nil => rw [e] at h; cases h
            | cons x t => rw [e] at h; simp at h; exact ⟨t, by rw [h]⟩
          rw [ht] at hp ⊢
          refine ⟨l.take (dig l).2 ++ (95 :: p), ?_⟩
          dsimp only [List.tail_cons] at hp ⊢
          rw [List.append_assoc, List.cons_append, ← hp, ← ht, List.take_append_drop]
      · obtain ⟨p, hp⟩ := rowF_suf (dig := dig) f (l.drop (dig l).2)
        refine ⟨l.take (dig l).2 ++ p, ?_⟩
        dsimp only
        rw [List.append_assoc, ← hp, List.take_append_drop]
theorem rowF_le {dig : List UInt8 → Nat × Nat} (f : Nat) (l : List UInt8) : (rowF dig f l).2.1.length ≤ l.length := by
  obtain ⟨p, hp⟩ := rowF_suf (dig := dig) f l
  have := congrArg List.length hp
  rw [List.length_append] at this; omega
/-- A row goes over its first digit. -/
theorem rowF_one {dig : List UInt8 → Nat × Nat} (hd : DigOk dig) (f : Nat) (l : List UInt8) : (rowF dig (f + 1) l).2.1.length + (dig l).2 ≤ l.length := by
  have h1 := hd.le l
  have h2 : (l.drop (dig l).2).length = l.length - (dig l).2 := List.length_drop
  rw [rowF]
  split
  · dsimp only; omega
  · split
    · split
      · dsimp only; omega
      · have := rowF_le (dig := dig) f (l.drop (dig l).2).tail
        have h3 : (l.drop (dig l).2).tail.length = (l.drop (dig l).2).length - 1 := List.length_tail
        dsimp only; omega
    · have := rowF_le (dig := dig) f (l.drop (dig l).2)
      dsimp only; omega
theorem rowF_none {dig : List UInt8 → Nat × Nat} (f : Nat) (l : List UInt8) (h : (dig l).2 = 0) : rowF dig f l = ([], l, false) := by
  cases f with
  | zero => rfl
  | succ f => rw [rowF, if_pos h]
theorem rowF_ext {dig : List UInt8 → Nat × Nat} (hd : DigOk dig) : ∀ (f g : Nat) (q r : List UInt8), q.length ≤ f → (q ++ r).length ≤ g →
    rowF dig g (q ++ r) = ((rowF dig f q).1, (rowF dig f q).2.1 ++ r, (rowF dig f q).2.2) ∨
    ((rowF dig f q).2.1.length < 8 ∧ ((rowF dig g (q ++ r)).2.1.length < r.length ∨ ((rowF dig g (q ++ r)).2.2 = true ∧ ((rowF dig f q).2.2 = false → (rowF dig g (q ++ r)).2.1.length ≤ r.length)))) := by
  intro f
  induction f with
  | zero =>
    intro g q r hf hg
    obtain rfl : q = [] := List.eq_nil_of_length_eq_zero (by omega)
    rw [List.nil_append] at hg ⊢
    by_cases h0 : (dig r).2 = 0
    · left; rw [rowF_none g r h0]; rfl
    · right
      refine ⟨Nat.lt_of_le_of_lt (rowF_le 0 []) (by decide), .inl ?_⟩
      have h1 := hd.le r
      obtain ⟨g2, rfl⟩ : ∃ g2, g = g2 + 1 := ⟨g - 1, by omega⟩
      have := rowF_one hd g2 r
      omega
  | succ f ih =>
    intro g q r hf hg
    rw [List.length_append] at hg
    by_cases h0 : (dig q).2 = 0
    · rw [rowF_none _ q h0]
      rcases hd.down q r h0 with h1 | h1
      · left; rw [rowF_none _ _ h1]
      · right
        have h2 := hd.four (q ++ r)
        have h3 := hd.le (q ++ r)
        rw [List.length_append] at h3
        obtain ⟨g2, rfl⟩ : ∃ g2, g = g2 + 1 := ⟨g - 1, by omega⟩
        have := rowF_one hd g2 (q ++ r)
        rw [List.length_append] at this
        refine ⟨?_, .inl ?_⟩
        · dsimp only; omega
        · omega
    · have hle := hd.le q
      have hup := hd.up q r h0
      obtain ⟨g, rfl⟩ : ∃ g2, g = g2 + 1 := ⟨g - 1, by omega⟩
      have hdr : (q ++ r).drop (dig q).2 = q.drop (dig q).2 ++ r := List.drop_append_of_le_length hle
      have hq1 : (q.drop (dig q).2).length = q.length - (dig q).2 := List.length_drop
      rw [rowF, rowF, hup, if_neg h0, if_neg h0, hdr]
      obtain ⟨n, hn⟩ : ∃ n, (dig q).2 = n := ⟨_, rfl⟩
      obtain ⟨d, hdd⟩ : ∃ d, UInt8.ofNat (dig q).1 = d := ⟨_, rfl⟩
      rw [hn] at hq1 h0 hle ⊢
      rw [hdd]
      obtain ⟨q1, hq⟩ : ∃ q1, q.drop n = q1 := ⟨_, rfl⟩
      rw [hq] at hq1 ⊢
      clear hup hdr
      match q1, hq1 with
      | [], hq1 =>
        rw [rowF_none f [] hd.nil]
        by_cases h5 : r.head? = some 95
        · obtain ⟨t, rfl⟩ : ∃ t, r = 95 :: t := by
            match r, h5 with
            | x :: t, h5 => exact ⟨t, by simp at h5; rw [h5]⟩
          right
          refine ⟨by simp, ?_⟩
          rw [List.nil_append, if_pos h5, List.tail_cons]
          by_cases h6 : (dig t).2 = 0
          · rw [if_pos h6]
            exact .inr ⟨rfl, fun _ => Nat.le_refl _⟩
          · rw [if_neg h6]
            have := rowF_le (dig := dig) g t
            left; dsimp only; simp only [List.length_cons]; omega
        · have hih := ih g [] r (Nat.zero_le _) (by rw [List.nil_append]; omega)
          rw [rowF_none f [] hd.nil] at hih
          rw [List.nil_append] at hih ⊢
          rw [if_neg h5]
          simp only [List.head?_nil, reduceCtorEq, if_false]
          rcases hih with h | ⟨h1, h2⟩
          · left; rw [h]; rfl
          · right
            refine ⟨h1, ?_⟩
            rcases h2 with h2 | ⟨h2, h3⟩
            · exact .inl h2
            · exact .inr ⟨h2, fun _ => h3 rfl⟩
      | b :: t, hq1 =>
        simp only [List.length_cons] at hq1
        rw [List.cons_append, List.head?_cons, List.head?_cons, List.tail_cons, List.tail_cons]
        by_cases hb : (some b) = some (95 : UInt8)
        · rw [if_pos hb, if_pos hb]
          by_cases h6 : (dig t).2 = 0
          · rw [if_pos h6]
            rcases hd.down t r h6 with h7 | h7
            · rw [if_pos h7]; left; rfl
            · rw [if_neg (by omega)]
              right
              have h8 := hd.four (t ++ r)
              have h9 := hd.le (t ++ r)
              rw [List.length_append] at h9
              obtain ⟨g2, rfl⟩ : ∃ g2, g = g2 + 1 := ⟨g - 1, by omega⟩
              have := rowF_one hd g2 (t ++ r)
              rw [List.length_append] at this
              refine ⟨?_, .inl ?_⟩
              · simp only [List.length_cons]; omega
              · dsimp only; omega
          · have h7 := hd.up t r h6
            rw [if_neg h6, h7, if_neg h6]
            rcases ih g t r (by omega) (by rw [List.length_append]; omega) with h | ⟨h1, h2⟩
            · left; rw [h]
            · right; exact ⟨h1, h2⟩
        · rw [if_neg hb, if_neg hb]
          rcases ih g (b :: t) r (by simp only [List.length_cons]; omega) (by rw [List.length_append]; simp only [List.length_cons]; omega) with h | ⟨h1, h2⟩
          · left; rw [List.cons_append] at h; rw [h]
          · right; rw [List.cons_append] at h2; exact ⟨h1, h2⟩
/-! ## the pieces -/
theorem ok_fail {e : Nat} (he : e ≠ 0) : LOk (failS e) := by
  have stay : ∀ l c, c ≠ 0 → (failS e l c).2 = (l, c) := fun l c hc => by unfold failS; rw [if_neg hc]
  have st : ∀ l c, (failS e l c).2.1 = l := fun l c => by unfold failS; split <;> rfl
  refine ⟨stay, fun _ _ _ _ => rfl, fun l c => ⟨[], by rw [st]; rfl⟩, fun q r => ?_⟩
  have h1 : ∀ l, failS e l 0 = ((), l, if broken l = true then 114 else e) := fun l => by unfold failS; rw [if_pos rfl]
  rw [h1, h1]
  by_cases h : q.length < 4
  · right
    refine ⟨.inl (by dsimp only; omega), .inr ⟨?_, fun hx => ?_⟩⟩
    · dsimp only; split <;> omega
    · dsimp only at hx; split at hx <;> omega
  · left
    rw [broken_long q r (by omega)]
theorem hasS_yes {t l : List UInt8} (h : l.take t.length = t) : hasS t l 0 = (true, l.drop t.length, 0) := if_pos ⟨rfl, h⟩
theorem hasS_no {t l : List UInt8} (h : ¬ l.take t.length = t) : hasS t l 0 = (false, l, 0) := if_neg (fun q => h q.2)
theorem hasS_err (t l : List UInt8) {c : Nat} (h : c ≠ 0) : hasS t l c = (false, l, c) := if_neg (fun q => h q.1)
theorem ok_has (t : List UInt8) (ht : t.length ≤ 8) : LOk (hasS t) := by
  refine ⟨fun l c hc => by rw [hasS_err t l hc], fun l m c hc => by rw [hasS_err t l hc, hasS_err t m hc], fun l c => ?_, fun q r => ?_⟩
  · unfold hasS; split
    · exact ⟨l.take t.length, (List.take_append_drop _ _).symm⟩
    · exact ⟨[], rfl⟩
  · by_cases h1 : q.take t.length = t
    · have hl : t.length ≤ q.length := by
        have := congrArg List.length h1
        rw [List.length_take] at this; omega
      have h2 : (q ++ r).take t.length = t := by rw [List.take_append_of_le_length hl]; exact h1
      left
      rw [hasS_yes h1, hasS_yes h2, List.drop_append_of_le_length hl]
    · rw [hasS_no h1]
      by_cases h2 : (q ++ r).take t.length = t
      · right
        rw [hasS_yes h2]
        have hl : q.length < t.length := by
          rcases Nat.lt_or_ge q.length t.length with h | h
          · exact h
          · rw [List.take_append_of_le_length h] at h2; exact absurd h2 h1
        have h3 := congrArg List.length h2
        rw [List.length_take, List.length_append] at h3
        refine ⟨.inl (by dsimp only; omega), .inl ?_⟩
        dsimp only
        rw [List.length_drop, List.length_append]; omega
      · left; rw [hasS_no h2]
theorem foldS_yes {t l : List UInt8} (h : (l.take t.length).map lowB = t) : foldS t l 0 = (true, l.drop t.length, 0) := if_pos ⟨rfl, h⟩
theorem foldS_no {t l : List UInt8} (h : ¬ (l.take t.length).map lowB = t) : foldS t l 0 = (false, l, 0) := if_neg (fun q => h q.2)
theorem foldS_err (t l : List UInt8) {c : Nat} (h : c ≠ 0) : foldS t l c = (false, l, c) := if_neg (fun q => h q.1)
theorem ok_fold (t : List UInt8) (ht : t.length ≤ 8) : LOk (foldS t) := by
  refine ⟨fun l c hc => by rw [foldS_err t l hc], fun l m c hc => by rw [foldS_err t l hc, foldS_err t m hc], fun l c => ?_, fun q r => ?_⟩
  · unfold foldS; split
    · exact ⟨l.take t.length, (List.take_append_drop _ _).symm⟩
    · exact ⟨[], rfl⟩
  · by_cases h1 : (q.take t.length).map lowB = t
    · have hl : t.length ≤ q.length := by
        have := congrArg List.length h1
        rw [List.length_map, List.length_take] at this; omega
      have h2 : ((q ++ r).take t.length).map lowB = t := by rw [List.take_append_of_le_length hl]; exact h1
      left
      rw [foldS_yes h1, foldS_yes h2, List.drop_append_of_le_length hl]
    · rw [foldS_no h1]
      by_cases h2 : ((q ++ r).take t.length).map lowB = t
      · right
        rw [foldS_yes h2]
        have hl : q.length < t.length := by
          rcases Nat.lt_or_ge q.length t.length with h | h
          · exact h
          · rw [List.take_append_of_le_length h] at h2; exact absurd h2 h1
        have h3 := congrArg List.length h2
        rw [List.length_map, List.length_take, List.length_append] at h3
        refine ⟨.inl (by dsimp only; omega), .inl ?_⟩
        dsimp only
        rw [List.length_drop, List.length_append]; omega
      · left; rw [foldS_no h2]
theorem under_yes {l : List UInt8} (h : l.head? = some 95) : underS l 0 = (true, l, 112) := if_pos ⟨rfl, h⟩
theorem under_no {l : List UInt8} (h : ¬ l.head? = some 95) : underS l 0 = (false, l, 0) := if_neg (fun q => h q.2)
theorem under_err (l : List UInt8) {c : Nat} (h : c ≠ 0) : underS l c = (false, l, c) := if_neg (fun q => h q.1)
theorem under_l (l : List UInt8) (c : Nat) : (underS l c).2.1 = l := by unfold underS; split <;> rfl
theorem ok_under : LOk underS := by
  refine ⟨fun l c hc => by rw [under_err l hc], fun l m c hc => by rw [under_err l hc, under_err m hc], fun l c => ⟨[], by rw [under_l]; rfl⟩, fun q r => ?_⟩
  cases q with
  | nil =>
    rw [List.nil_append, under_no (l := []) (fun h => by simp at h)]
    by_cases h : r.head? = some 95
    · right
      rw [under_yes h]
      exact ⟨.inl (Nat.zero_lt_succ _), .inr ⟨(fun q => nomatch q), fun _ => Nat.le_refl _⟩⟩
    · left
      rw [under_no h]
      rfl
  | cons b t =>
    left
    by_cases h : (b :: t).head? = some 95
    · rw [under_yes h, under_yes (l := b :: t ++ r) h]
    · rw [under_no h, under_no (l := b :: t ++ r) h]
theorem rowG_ok (dig : List UInt8 → Nat × Nat) (l : List UInt8) : rowG dig l 0 = ((rowF dig l.length l).1, (rowF dig l.length l).2.1, if (rowF dig l.length l).2.2 = true then 112 else 0) := if_pos rfl
theorem rowG_err (dig : List UInt8 → Nat × Nat) (l : List UInt8) {c : Nat} (h : c ≠ 0) : rowG dig l c = ([], l, c) := if_neg h
theorem ok_rowG {dig : List UInt8 → Nat × Nat} (hd : DigOk dig) : LOk (rowG dig) := by
  refine ⟨fun l c hc => ?_, fun l m c hc => ?_, fun l c => ?_, fun q r => ?_⟩
  · unfold rowG; rw [if_neg hc]
  · unfold rowG; rw [if_neg hc, if_neg hc]
  · unfold rowG; split
    · exact rowF_suf _ _
    · exact ⟨[], rfl⟩
  · unfold rowG
    rw [if_pos rfl, if_pos rfl]
    rcases rowF_ext hd q.length (q ++ r).length q r (Nat.le_refl _) (Nat.le_refl _) with h | ⟨h1, h2⟩
    · left; rw [h]
    · right
      refine ⟨.inl h1, ?_⟩
      rcases h2 with h2 | ⟨h2, h3⟩
      · exact .inl h2
      · right
        dsimp only
        rw [if_pos h2]
        refine ⟨by decide, fun hx => h3 ?_⟩
        cases he : (rowF dig q.length q).2.2 with
        | false => rfl
        | true => rw [he, if_pos rfl] at hx; cases hx
theorem ok_row {dig : List UInt8 → Nat × Nat} (hd : DigOk dig) : LOk (rowS dig) := ok_bind ok_under fun _ => ok_rowG hd
theorem ok_must {dig : List UInt8 → Nat × Nat} (hd : DigOk dig) : LOk (mustS dig) := ok_bind (ok_row hd) fun _ => ok_ite _ (ok_bind (ok_fail (by decide)) fun _ => ok_pure _) (ok_pure _)
theorem ok_minus : LOk minusS := ok_bind (ok_has _ (by decide)) fun _ => ok_ite _ (ok_pure _) (ok_bind (ok_has _ (by decide)) fun _ => ok_ite _ (ok_pure _) (ok_has _ (by decide)))
theorem ok_mantB {dig : List UInt8 → Nat × Nat} (hd : DigOk dig) (a : List UInt8) : LOk (mantB dig a) := ok_bind (ok_row hd) fun _ => ok_ite _ (ok_bind (ok_fail (by decide)) fun _ => ok_pure _) (ok_pure _)
theorem ok_mantT {dig : List UInt8 → Nat × Nat} (hd : DigOk dig) (a : List UInt8) : LOk (mantT dig a) := ok_bind (ok_has _ (by decide)) fun _ =>
  ok_ite _ (ok_mantB hd a) (ok_ite _ (ok_bind (ok_fail (by decide)) fun _ => ok_pure _) (ok_pure _))
theorem ok_mant {dig : List UInt8 → Nat × Nat} (hd : DigOk dig) : LOk (mantS dig) := ok_bind (ok_row hd) fun _ => ok_mantT hd _
theorem ok_exp (doc : Bool) (x : UInt8) : LOk (expS doc x) := ok_bind (ok_fold _ (by simp)) fun _ => ok_ite _ (ok_bind ok_minus fun _ => ok_bind (ok_must ten_ok) fun _ => ok_pure _) (ok_pure _)
theorem ok_decT (doc neg : Bool) (m : List UInt8 × Nat) : LOk (decT doc neg m) := ok_bind (ok_exp _ _) fun _ => ok_pure _
theorem ok_dec (doc neg : Bool) : LOk (decS doc neg) := ok_bind (ok_mant ten_ok) fun _ => ok_decT _ _ _
theorem ok_hex (doc neg : Bool) : LOk (hexS doc neg) := ok_bind (ok_mant six_ok) fun _ => ok_bind (ok_exp _ _) fun _ => ok_pure _
theorem span_app {p : UInt8 → Bool} (q r : List UInt8) (h : q.dropWhile p ≠ []) : (q ++ r).takeWhile p = q.takeWhile p ∧ (q ++ r).dropWhile p = q.dropWhile p ++ r := by
  induction q with
  | nil => exact absurd rfl h
  | cons b t ih =>
    rw [List.cons_append]
    by_cases hb : p b = true
    · rw [List.dropWhile_cons_of_pos hb] at h
      rw [List.takeWhile_cons_of_pos hb, List.takeWhile_cons_of_pos hb, List.dropWhile_cons_of_pos hb, List.dropWhile_cons_of_pos hb, (ih h).1, (ih h).2]
      exact ⟨rfl, rfl⟩
    · rw [List.takeWhile_cons_of_neg hb, List.takeWhile_cons_of_neg hb, List.dropWhile_cons_of_neg hb, List.dropWhile_cons_of_neg hb]
      exact ⟨rfl, rfl⟩
theorem span_all {p : UInt8 → Bool} (q r : List UInt8) (h : q.dropWhile p = []) : q.takeWhile p = q ∧ (q ++ r).takeWhile p = q ++ r.takeWhile p ∧ (q ++ r).dropWhile p = r.dropWhile p := by
  induction q with
  | nil => exact ⟨rfl, rfl, rfl⟩
  | cons b t ih =>
    rw [List.cons_append]
    by_cases hb : p b = true
    · rw [List.dropWhile_cons_of_pos hb] at h
      rw [List.takeWhile_cons_of_pos hb, List.takeWhile_cons_of_pos hb, List.dropWhile_cons_of_pos hb, (ih h).1, (ih h).2.1, (ih h).2.2]
      exact ⟨rfl, rfl, rfl⟩
    · rw [List.dropWhile_cons_of_neg hb] at h; cases h
theorem fail_suf (e : Nat) (l : List UInt8) (c : Nat) : (failS e l c).2.1 = l := by unfold failS; split <;> rfl
theorem fail_ne {e : Nat} (he : e ≠ 0) (l : List UInt8) (c : Nat) : (failS e l c).2.2 ≠ 0 := by
  unfold failS
  split
  · dsimp only; split <;> omega
  · assumption
theorem ok_pay (doc : Bool) : LOk (payIn doc) := by
  have hsuf : ∀ l c, ∃ p, l = p ++ (payIn doc l c).2.1 := fun l c => by
    unfold payIn
    split
    · split
      · exact ⟨[], by rw [fail_suf]; rfl⟩
      · split
        · exact ⟨[], rfl⟩
        · split
          · rename_i h
            obtain ⟨t, ht⟩ : ∃ t, l.dropWhile isD = 41 :: t := by
              cases e : l.dropWhile isD with
              | nil => rw [e] at h; cases h
              | cons x t => rw [e] at h; simp at h; exact ⟨t, by rw [h]⟩
            refine ⟨l.takeWhile isD ++ [41], ?_⟩
            dsimp only
            rw [ht, List.tail_cons, List.append_assoc, List.singleton_append, ← ht, List.takeWhile_append_dropWhile]
          · exact ⟨l.takeWhile isD, by dsimp only; rw [fail_suf, List.takeWhile_append_dropWhile]⟩
    · exact ⟨[], rfl⟩
  refine ⟨fun l c hc => ?_, fun l m c hc => ?_, hsuf, fun q r => ?_⟩
  · unfold payIn; rw [if_neg hc]
  · unfold payIn; rw [if_neg hc, if_neg hc]
  · have hone : ∀ l, (payIn doc l 0).2.2 ≠ 0 ∨ (payIn doc l 0).2.1.length < l.length - (l.takeWhile isD).length := fun l => by
      unfold payIn
      rw [if_pos rfl]
      split
      · exact .inl (fail_ne (by decide) _ _)
      · split
        · exact .inl (by dsimp only; decide)
        · split
          · rename_i h
            right
            have h1 : (l.takeWhile isD).length + (l.dropWhile isD).length = l.length := by rw [← List.length_append, List.takeWhile_append_dropWhile]
            have h2 : 0 < (l.dropWhile isD).length := by
              cases e : l.dropWhile isD with
              | nil => rw [e] at h; cases h
              | cons x t => simp
            dsimp only
            rw [List.length_tail]; omega
          · exact .inl (fail_ne (by decide) _ _)
    by_cases hq1 : q.dropWhile isD = []
    · obtain ⟨e1, e2, e3⟩ := span_all (p := isD) q r hq1
      have hy : (payIn doc (q ++ r) 0).2.1.length < r.length ∨ (payIn doc (q ++ r) 0).2.2 ≠ 0 := by
        rcases hone (q ++ r) with h | h
        · exact .inr h
        · left; rw [e2, List.length_append, List.length_append] at h; omega
      have hx : (payIn doc q 0).2.2 ≠ 0 ∧ ((payIn doc q 0).2.1.length < 8 ∨ (payIn doc q 0).2.2 = 115) := by
        unfold payIn
        rw [if_pos rfl, e1, hq1]
        split
        · rename_i h0
          exact ⟨fail_ne (by decide) _ _, .inl (by dsimp only; rw [fail_suf, h0]; decide)⟩
        · split
          · exact ⟨by dsimp only; decide, .inr rfl⟩
          · rw [if_neg (by simp)]
            exact ⟨fail_ne (by decide) _ _, .inl (by dsimp only; rw [fail_suf]; decide)⟩
      right
      refine ⟨hx.2, ?_⟩
      rcases hy with h | h
      · exact .inl h
      · exact .inr ⟨h, fun h2 => absurd h2 hx.1⟩
    · obtain ⟨e1, e2⟩ := span_app (p := isD) q r hq1
      unfold payIn
      rw [if_pos rfl, if_pos rfl, e1, e2]
      obtain ⟨b, t, hbt⟩ := List.exists_cons_of_ne_nil hq1
      rw [hbt]
      split
      · rcases (ok_fail (e := 111) (by decide)).ext q r with h | ⟨h1, h2⟩
        · left; rw [h]
        · right; exact ⟨h1, h2⟩
      · split
        · left; rfl
        · rw [List.cons_append, List.head?_cons, List.head?_cons]
          split
          · left; rfl
          · rcases (ok_fail (e := 113) (by decide)).ext (b :: t) r with h | ⟨h1, h2⟩
            · left; rw [List.cons_append] at h; rw [h]
            · right; rw [List.cons_append] at h2; exact ⟨h1, h2⟩
theorem ok_payS (doc : Bool) : LOk (payS doc) := ok_bind (ok_has _ (by decide)) fun _ => ok_ite _ (ok_pay doc) (ok_pure _)
theorem ok_inf : LOk infS := ok_bind (ok_fold _ (by decide)) fun _ => ok_ite _ (ok_pure _) (ok_fold _ (by decide))
theorem ok_nan (doc neg : Bool) : LOk (nanS doc neg) := ok_bind (ok_fold _ (by decide)) fun _ => ok_ite _ (ok_bind (ok_payS doc) fun _ => ok_pure _) (ok_bind (ok_fail (by decide)) fun _ => ok_pure _)
theorem ok_nam (doc neg : Bool) : LOk (namS doc neg) := ok_bind ok_inf fun _ => ok_ite _ (ok_pure _) (ok_nan doc neg)
/-- A row goes over its first digit. -/
theorem rowS_one {dig : List UInt8 → Nat × Nat} (hd : DigOk dig) (l : List UInt8) : (rowS dig l 0).2.1.length + (dig l).2 ≤ l.length := by
  show (rowG dig (underS l 0).2.1 (underS l 0).2.2).2.1.length + _ ≤ _
  by_cases h : l.head? = some 95
  · rw [under_yes h, hd.under l h, rowG_err dig l (c := 112) (fun q => by cases q)]
    exact Nat.le_refl _
  · rw [under_no h, rowG_ok]
    cases l with
    | nil => rw [hd.nil]; exact Nat.le_refl _
    | cons b t => exact rowF_one hd _ _
theorem mantS_eq (dig : List UInt8 → Nat × Nat) (l : List UInt8) (c : Nat) : mantS dig l c = mantT dig (rowS dig l c).1 (rowS dig l c).2.1 (rowS dig l c).2.2 := rfl
theorem mantT_eq (dig : List UInt8 → Nat × Nat) (a l : List UInt8) (c : Nat) : mantT dig a l c = (if (hasS [46] l c).1 = true then mantB dig a else if a = [] then (failS 111).bind fun _ => .pure (a, 0) else .pure (a, 0) : PS (List UInt8 × Nat)) (hasS [46] l c).2.1 (hasS [46] l c).2.2 := rfl
theorem decS_le (doc neg : Bool) (l : List UInt8) (c : Nat) : (decS doc neg l c).2.1.length ≤ (mantS tenB l c).2.1.length := (ok_decT doc neg (mantS tenB l c).1).le (mantS tenB l c).2.1 (mantS tenB l c).2.2
/-- A decimal that stands here is gone over. -/
theorem dec_one (doc neg : Bool) (l : List UInt8) : (decS doc neg l 0).2.1.length + (tenB l).2 ≤ l.length := by
  have h1 := rowS_one ten_ok l
  have h2 : (mantS tenB l 0).2.1.length ≤ (rowS tenB l 0).2.1.length := (ok_mantT ten_ok (rowS tenB l 0).1).le (rowS tenB l 0).2.1 (rowS tenB l 0).2.2
  have h3 := decS_le doc neg l 0
  omega
theorem rowS_none {dig : List UInt8 → Nat × Nat} {l : List UInt8} (h : ¬ l.head? = some 95) (h0 : (dig l).2 = 0) : rowS dig l 0 = ([], l, 0) := by
  show rowG dig (underS l 0).2.1 (underS l 0).2.2 = _
  rw [under_no h, rowG_ok, rowF_none _ _ h0]
  rfl
theorem dec_dot (doc neg : Bool) (t : List UInt8) : (decS doc neg (46 :: t) 0).2.1.length ≤ t.length := by
  have h0 : (tenB (46 :: t)).2 = 0 := by
    have e : Lib.decodeL (46 :: t) = (46, 1) := by
      rw [Lib.decodeL_N]; unfold Lib.decodeN
      simp
    unfold tenB
    rw [if_neg (by simp), e]
    rfl
  have h1 : rowS tenB (46 :: t) 0 = ([], 46 :: t, 0) := rowS_none (by simp) h0
  have h2 : hasS [46] (46 :: t) 0 = (true, t, 0) := hasS_yes rfl
  have h3 : (mantS tenB (46 :: t) 0).2.1.length ≤ t.length := by
    rw [mantS_eq, h1]
    dsimp only
    rw [mantT_eq, h2, if_pos rfl]
    exact (ok_mantB ten_ok []).le t 0
  exact Nat.le_trans (decS_le doc neg (46 :: t) 0) h3
theorem decO_yes {doc neg : Bool} {k : PS Num} {l : List UInt8} (h : decB l = true) : decO doc neg k l 0 = decS doc neg l 0 := if_pos ⟨rfl, h⟩
theorem decO_no {doc neg : Bool} {k : PS Num} {l : List UInt8} (h : ¬ decB l = true) : decO doc neg k l 0 = k l 0 := if_neg (fun q => h q.2)
theorem decO_err {doc neg : Bool} {k : PS Num} {l : List UInt8} {c : Nat} (h : c ≠ 0) : decO doc neg k l c = k l c := if_neg (fun q => h q.1)
theorem ok_decO (doc neg : Bool) {k : PS Num} (hk : LOk k) : LOk (decO doc neg k) := by
  refine ⟨fun l c hc => ?_, fun l m c hc => ?_, fun l c => ?_, fun q r => ?_⟩
  · rw [decO_err hc]; exact hk.stay l c hc
  · rw [decO_err hc, decO_err hc]; exact hk.const l m c hc
  · unfold decO; split
    · exact (ok_dec doc neg).suf l c
    · exact hk.suf l c
  · by_cases h1 : decB q = true
    · have h2 : decB (q ++ r) = true := by
        unfold decB at h1 ⊢
        rw [Bool.or_eq_true, decide_eq_true_eq, decide_eq_true_eq] at h1 ⊢
        rcases h1 with h | h
        · left; rw [ten_ok.up q r (by omega)]; exact h
        · right
          cases q with
          | nil => cases h
          | cons b t => exact h
      rw [decO_yes h1, decO_yes h2]
      exact (ok_dec doc neg).ext q r
    · rw [decO_no h1]
      by_cases h2 : decB (q ++ r) = true
      · rw [decO_yes h2]
        right
        have hle := hk.le q 0
        unfold decB at h1 h2
        rw [Bool.or_eq_true, decide_eq_true_eq, decide_eq_true_eq] at h1 h2
        have h10 : (tenB q).2 = 0 := by omega
        by_cases h3 : 0 < (tenB (q ++ r)).2
        · rcases ten_ok.down q r h10 with h4 | h4
          · omega
          · have h5 := ten_ok.four (q ++ r)
            have h6 := dec_one doc neg (q ++ r)
            rw [List.length_append] at h6
            exact ⟨.inl (by omega), .inl (by omega)⟩
        · have h4 := h2.resolve_left h3
          cases q with
          | cons b t => exact absurd (.inr h4) h1
          | nil =>
            obtain ⟨t, rfl⟩ : ∃ t, r = 46 :: t := by
              match r, h4 with
              | x :: t, h4 => exact ⟨t, by simp at h4; rw [h4]⟩
            have h6 := dec_dot doc neg t
            refine ⟨.inl (by simp only [List.length_nil] at hle; omega), .inl ?_⟩
            rw [List.nil_append, List.length_cons]; omega
      · rw [decO_no h2]
        exact hk.ext q r
theorem ok_num (doc : Bool) : LOk (numS doc) := ok_bind ok_minus fun _ => ok_bind ok_under fun _ => ok_ite _ (ok_pure _) (ok_bind (ok_fold _ (by decide)) fun _ => ok_ite _ (ok_hex doc _) (ok_decO doc _ (ok_nam doc _)))
end Go.Proofs.YtnkajjealkggdaaGreatDoor
end
section
/- Lex, the plain part: what follows for Read and Begin. -/
namespace Go.Proofs.YtnkajjealkggdaaGreatDoor
open Go.RowKit
/-! ## the program's ends of exponents and the document's -/
theorem bind_eq {α β : Type} (f : PS α) (g : α → PS β) (l : List UInt8) (c : Nat) : f.bind g l c = g (f l c).1 (f l c).2.1 (f l c).2.2 := rfl
/-- Two exponents: the same, or both beyond all ends on one side. -/
def Far (a b : Int) : Prop := a = b ∨ (68719476736 ≤ a ∧ 68719476736 ≤ b) ∨ (a ≤ -68719476736 ∧ b ≤ -68719476736)
theorem expV_far (l : List UInt8) : expV true l = expV false l ∨ (68719476736 ≤ expV true l ∧ 68719476736 ≤ expV false l) := by
  have h : ∀ (l : List UInt8) (a b : Nat), (a = b ∨ (68719476736 ≤ a ∧ 68719476736 ≤ b)) →
      (l.foldl (fun a b => min (10 * a + b.toNat) 1099511627776) a = l.foldl (fun a b => min (10 * a + b.toNat) 68719476736) b ∨
        (68719476736 ≤ l.foldl (fun a b => min (10 * a + b.toNat) 1099511627776) a ∧ 68719476736 ≤ l.foldl (fun a b => min (10 * a + b.toNat) 68719476736) b)) := by
    intro l
    induction l with
    | nil => intro a b h; exact h
    | cons x t ih =>
      intro a b h
      rw [List.foldl_cons, List.foldl_cons]
      refine ih _ _ ?_
      omega
  exact h l 0 0 (.inl rfl)
theorem far_if (neg : Bool) {a b : Nat} (h : a = b ∨ (68719476736 ≤ a ∧ 68719476736 ≤ b)) : Far (if neg = true then -(a : Int) else (a : Int)) (if neg = true then -(b : Int) else (b : Int)) := by
  unfold Far
  cases neg
  · simp only [Bool.false_eq_true, if_false]; omega
  · simp only [if_true]; omega
theorem exp_far (x : UInt8) (l : List UInt8) (c : Nat) : (expS true x l c).2 = (expS false x l c).2 ∧ Far (expS true x l c).1 (expS false x l c).1 := by
  unfold expS
  rw [bind_eq, bind_eq]
  split
  · rw [bind_eq, bind_eq, bind_eq, bind_eq]
    exact ⟨rfl, far_if _ (expV_far _)⟩
  · exact ⟨rfl, .inl rfl⟩
theorem clip_far {a b x : Int} (h : Far a b) (hx : -2147483648 ≤ x ∧ x ≤ 2147483648) : clipE (a + x) = clipE (b + x) := by
  unfold Far at h; unfold clipE; omega
theorem headZ_len (l : List UInt8) : (headZ l).length ≤ l.length := by
  unfold headZ
  have := congrArg List.length (List.takeWhile_append_dropWhile (p := (· == (0 : UInt8))) (l := l))
  rw [List.length_append] at this; omega
theorem tailZ_len (l : List UInt8) : (tailZ l).length ≤ l.length := by
  unfold tailZ
  rw [List.length_reverse]
  have := congrArg List.length (List.takeWhile_append_dropWhile (p := (· == (0 : UInt8))) (l := l.reverse))
  rw [List.length_append, List.length_reverse] at this; omega
theorem decN_far (neg : Bool) (l : List UInt8) (a b : Int) (k : Nat) (h : Far a b) (hl : l.length ≤ 1000000) (hk : k ≤ l.length) : decN neg l (a - k) = decN neg l (b - k) := by
  have h1 := headZ_len l
  have h2 := tailZ_len (headZ l)
  have : clipE (a - k + (headZ l).length - (tailZ (headZ l)).length) = clipE (b - k + (headZ l).length - (tailZ (headZ l)).length) := by
    have := clip_far (x := (headZ l).length - (tailZ (headZ l)).length - k) h (by omega)
    rw [show a - k + (headZ l).length - (tailZ (headZ l)).length = a + ((headZ l).length - (tailZ (headZ l)).length - k) by omega,
      show b - k + (headZ l).length - (tailZ (headZ l)).length = b + ((headZ l).length - (tailZ (headZ l)).length - k) by omega]
    exact this
  unfold decN
  rw [this]
theorem tzF_spec : ∀ f n, n ≠ 0 → n ≤ f → ∃ m, n = 2 ^ tzF f n * (2 * m + 1)
  | 0, n, h, hf => absurd (Nat.le_zero.1 hf) h
  | f + 1, n, h, hf => by
    rw [tzF]
    by_cases h1 : n = 0 ∨ n % 2 = 1
    · rw [if_pos h1]
      exact ⟨n / 2, by simp; omega⟩
    · rw [if_neg h1]
      obtain ⟨m, hm⟩ := tzF_spec f (n / 2) (by omega) (by omega)
      refine ⟨m, ?_⟩
      rw [Nat.pow_succ, Nat.mul_comm (2 ^ _) 2, Nat.mul_assoc, ← hm]; omega
theorem tzN_spec {n : Nat} (h : n ≠ 0) : ∃ m, n = 2 ^ tzN n * (2 * m + 1) := tzF_spec n n h (Nat.le_refl _)
theorem tzN_le {n k : Nat} (h : n < 2 ^ k) : tzN n ≤ k := by
  by_cases h0 : n = 0
  · subst h0; simp [tzN, tzF]
  · obtain ⟨m, hm⟩ := tzN_spec h0
    have h1 : 2 ^ tzN n ≤ n := Nat.le_of_dvd (by omega) ⟨_, hm⟩
    exact Nat.le_of_lt ((Nat.pow_lt_pow_iff_right (by decide)).1 (Nat.lt_of_le_of_lt h1 h))
theorem hval_lt : ∀ (l : List UInt8), (∀ x ∈ l, x.toNat < 16) → hval l < 2 ^ (4 * l.length) := by
  have h : ∀ (l : List UInt8) (a k : Nat), (∀ x ∈ l, x.toNat < 16) → a < 2 ^ k → l.foldl (fun a b => 16 * a + b.toNat) a < 2 ^ (k + 4 * l.length) := by
    intro l
    induction l with
    | nil => intro a k _ h; exact h
    | cons x t ih =>
      intro a k hx h
      rw [List.foldl_cons, List.length_cons, show k + 4 * (t.length + 1) = (k + 4) + 4 * t.length by omega]
      refine ih _ _ (fun y hy => hx y (List.mem_cons_of_mem _ hy)) ?_
      have := hx x (List.mem_cons_self ..)
      rw [Nat.pow_add]
      omega
  intro l hl
  have := h l 0 0 hl (by decide)
  rw [Nat.zero_add] at this
  exact this
theorem hexN_far (neg : Bool) (l : List UInt8) (a b : Int) (k : Nat) (h : Far a b) (hx : ∀ x ∈ l, x.toNat < 16) (hl : l.length ≤ 1000000) (hk : k ≤ l.length) : hexN neg l (a - 4 * k) = hexN neg l (b - 4 * k) := by
  unfold hexN
  split
  · rfl
  · have h1 := tzN_le (hval_lt l hx)
    have := clip_far (x := (tzN (hval l) : Nat) - 4 * (k : Int)) h (by omega)
    rw [show a - 4 * (k : Int) + (tzN (hval l) : Nat) = a + ((tzN (hval l) : Nat) - 4 * (k : Int)) by omega, show b - 4 * (k : Int) + (tzN (hval l) : Nat) = b + ((tzN (hval l) : Nat) - 4 * (k : Int)) by omega, this]
/-! ## rows: how long, of what -/
theorem rowF_dig {dig : List UInt8 → Nat × Nat} (hd : DigOk dig) {B : Nat} (hB : ∀ l, (dig l).1 < B) (hB2 : B ≤ 256) : ∀ f l, (rowF dig f l).1.length + (rowF dig f l).2.1.length ≤ l.length ∧ ∀ x ∈ (rowF dig f l).1, x.toNat < B
  | 0, l => ⟨by simp [rowF], by simp [rowF]⟩
  | f + 1, l => by
    have hle := hd.le l
    have hb : ∀ m, (UInt8.ofNat (dig m).1).toNat < B := fun m => by
      have := hB m
      rw [UInt8.toNat_ofNat', Nat.mod_eq_of_lt (by omega)]; exact this
    have hdr : (l.drop (dig l).2).length = l.length - (dig l).2 := List.length_drop
    rw [rowF]
    split
    · exact ⟨by simp, by simp⟩
    · split
      · split
        · refine ⟨by simp only [List.length_singleton]; omega, ?_⟩
          intro x hx
          obtain rfl := List.mem_singleton.1 hx
          exact hb l
        · obtain ⟨h1, h2⟩ := rowF_dig hd hB hB2 f (l.drop (dig l).2).tail
          rw [List.length_tail] at h1
          refine ⟨by simp only [List.length_cons]; omega, ?_⟩
          intro x hx
          rcases List.mem_cons.1 hx with rfl | hx
          · exact hb l
          · exact h2 x hx
      · obtain ⟨h1, h2⟩ := rowF_dig hd hB hB2 f (l.drop (dig l).2)
        refine ⟨by simp only [List.length_cons]; omega, ?_⟩
        intro x hx
        rcases List.mem_cons.1 hx with rfl | hx
        · exact hb l
        · exact h2 x hx
theorem digIn_lt {r : Int} : ∀ {L : List Nat} {d : Nat}, digIn r L = some d → d < 10
  | [], _, h => by cases h
  | z :: zs, d, h => by
    rw [digIn] at h
    split at h
    · rename_i hz
      simp only [Option.some.injEq] at h
      omega
    · exact digIn_lt h
theorem tenB_lt (l : List UInt8) : (tenB l).1 < 10 := by
  unfold tenB
  split
  · decide
  · cases h : digR ((Lib.decodeL l).1 : Int) with
    | none => exact Nat.zero_lt_succ _
    | some d => exact digIn_lt h
theorem hexD_lt {c : UInt8} {d : Nat} (h : hexD c = some d) : d < 16 := by
  unfold hexD at h
  split at h
  · simp only [Option.some.injEq] at h; omega
  · split at h
    · simp only [Option.some.injEq] at h; omega
    · split at h
      · simp only [Option.some.injEq] at h; omega
      · cases h
theorem sixB_lt (l : List UInt8) : (sixB l).1 < 16 := by
  cases l with
  | nil => decide
  | cons c t =>
    show (match hexD c with | some d => (d, 1) | none => (0, 0) : Nat × Nat).1 < 16
    cases h : hexD c with
    | none => exact Nat.zero_lt_succ _
    | some d => exact hexD_lt h
theorem rowS_dig {dig : List UInt8 → Nat × Nat} (hd : DigOk dig) {B : Nat} (hB : ∀ l, (dig l).1 < B) (hB2 : B ≤ 256) (l : List UInt8) (c : Nat) : (rowS dig l c).1.length + (rowS dig l c).2.1.length ≤ l.length ∧ ∀ x ∈ (rowS dig l c).1, x.toNat < B := by
  show (rowG dig (underS l c).2.1 (underS l c).2.2).1.length + (rowG dig (underS l c).2.1 (underS l c).2.2).2.1.length ≤ _ ∧ ∀ x ∈ (rowG dig (underS l c).2.1 (underS l c).2.2).1, _
  have hu : (underS l c).2.1 = l := by unfold underS; split <;> rfl
  rw [hu]
  unfold rowG
  split
  · exact rowF_dig hd hB hB2 _ _
  · exact ⟨by simp, by simp⟩
theorem mant_dig {dig : List UInt8 → Nat × Nat} (hd : DigOk dig) {B : Nat} (hB : ∀ l, (dig l).1 < B) (hB2 : B ≤ 256) (l : List UInt8) (c : Nat) :
    (mantS dig l c).1.1.length + (mantS dig l c).2.1.length ≤ l.length ∧ (mantS dig l c).1.2 ≤ (mantS dig l c).1.1.length ∧ ∀ x ∈ (mantS dig l c).1.1, x.toNat < B := by
  obtain ⟨a1, a2⟩ := rowS_dig hd hB hB2 l c
  rw [mantS_eq, mantT_eq]
  have h1 := (ok_has [46] (by decide)).le (rowS dig l c).2.1 (rowS dig l c).2.2
  split
  · obtain ⟨b1, b2⟩ := rowS_dig hd hB hB2 (hasS [46] (rowS dig l c).2.1 (rowS dig l c).2.2).2.1 (hasS [46] (rowS dig l c).2.1 (rowS dig l c).2.2).2.2
    unfold mantB
    rw [bind_eq]
    split
    · rw [bind_eq]
      simp only [PS.pure, fail_suf, List.length_append]
      refine ⟨by omega, by omega, ?_⟩
      intro x hx
      rcases List.mem_append.1 hx with h | h
      · exact a2 x h
      · exact b2 x h
    · simp only [PS.pure, List.length_append]
      refine ⟨by omega, by omega, ?_⟩
      intro x hx
      rcases List.mem_append.1 hx with h | h
      · exact a2 x h
      · exact b2 x h
  · split
    · rw [bind_eq]
      simp only [PS.pure, fail_suf]
      exact ⟨by omega, by omega, a2⟩
    · simp only [PS.pure]
      exact ⟨by omega, by omega, a2⟩
theorem dec_doc (neg : Bool) (l : List UInt8) (c : Nat) (hl : l.length ≤ 1000000) : decS true neg l c = decS false neg l c := by
  obtain ⟨m1, m2, m3⟩ := mant_dig ten_ok tenB_lt (by decide) l c
  unfold decS
  rw [bind_eq, bind_eq]
  unfold decT
  rw [bind_eq, bind_eq]
  have h := exp_far 101 (mantS tenB l c).2.1 (mantS tenB l c).2.2
  rw [h.1]
  simp only [PS.pure]
  rw [decN_far neg (mantS tenB l c).1.1 _ _ (mantS tenB l c).1.2 h.2 (by omega) m2]
theorem hex_doc (neg : Bool) (l : List UInt8) (c : Nat) (hl : l.length ≤ 1000000) : hexS true neg l c = hexS false neg l c := by
  obtain ⟨m1, m2, m3⟩ := mant_dig six_ok sixB_lt (by decide) l c
  unfold hexS
  rw [bind_eq, bind_eq]
  unfold hexT
  rw [bind_eq, bind_eq]
  have h := exp_far 112 (mantS sixB l c).2.1 (mantS sixB l c).2.2
  rw [h.1]
  simp only [PS.pure]
  rw [hexN_far neg (mantS sixB l c).1.1 _ _ (mantS sixB l c).1.2 h.2 m3 (by omega) m2]
theorem pay_doc (l : List UInt8) (c : Nat) : (payS true l c).2 = (payS false l c).2 ∧ ((payS false l c).2.2 = 0 → (payS true l c).1 = (payS false l c).1) := by
  unfold payS
  rw [bind_eq, bind_eq]
  split
  · unfold payIn
    split
    · split
      · exact ⟨rfl, fun _ => rfl⟩
      · split
        · exact ⟨rfl, fun _ => rfl⟩
        · split
          · exact ⟨rfl, fun _ => rfl⟩
          · exact ⟨rfl, fun h => absurd h (fail_ne (by decide) _ _)⟩
    · exact ⟨rfl, fun _ => rfl⟩
  · exact ⟨rfl, fun _ => rfl⟩
theorem num_doc (l : List UInt8) (c : Nat) (hl : l.length ≤ 1000000) : (numS true l c).2 = (numS false l c).2 ∧ ((numS false l c).2.2 = 0 → (numS true l c).1 = (numS false l c).1) := by
  unfold numS
  rw [bind_eq, bind_eq, bind_eq, bind_eq]
  have l1 := ok_minus.le l c
  obtain ⟨neg, hneg⟩ : ∃ neg, (minusS l c).1 = neg := ⟨_, rfl⟩
  obtain ⟨l2, hl2⟩ : ∃ l2, (minusS l c).2.1 = l2 := ⟨_, rfl⟩
  obtain ⟨c2, hc2⟩ : ∃ c2, (minusS l c).2.2 = c2 := ⟨_, rfl⟩
  rw [hl2] at l1
  rw [hneg, hl2, hc2]
  have l3 := ok_under.le l2 c2
  split
  · exact ⟨rfl, fun _ => rfl⟩
  · obtain ⟨l4, hl4⟩ : ∃ l4, (underS l2 c2).2.1 = l4 := ⟨_, rfl⟩
    obtain ⟨c4, hc4⟩ : ∃ c4, (underS l2 c2).2.2 = c4 := ⟨_, rfl⟩
    rw [hl4] at l3
    rw [hl4, hc4, bind_eq, bind_eq]
    have l5 := (ok_fold [48, 120] (by decide)).le l4 c4
    obtain ⟨l6, hl6⟩ : ∃ l6, (foldS [48, 120] l4 c4).2.1 = l6 := ⟨_, rfl⟩
    obtain ⟨c6, hc6⟩ : ∃ c6, (foldS [48, 120] l4 c4).2.2 = c6 := ⟨_, rfl⟩
    rw [hl6] at l5
    rw [hl6, hc6]
    split
    · rw [hex_doc neg l6 c6 (by omega)]
      exact ⟨rfl, fun _ => rfl⟩
    · unfold decO
      split
      · rw [dec_doc neg l6 c6 (by omega)]
        exact ⟨rfl, fun _ => rfl⟩
      · unfold namS
        rw [bind_eq, bind_eq]
        split
        · exact ⟨rfl, fun _ => rfl⟩
        · unfold nanS
          rw [bind_eq, bind_eq]
          split
          · rw [bind_eq, bind_eq]
            have h := pay_doc (foldS wNan (infS l6 c6).2.1 (infS l6 c6).2.2).2.1 (foldS wNan (infS l6 c6).2.1 (infS l6 c6).2.2).2.2
            refine ⟨h.1, fun hx => ?_⟩
            simp only [PS.pure]
            rw [h.2 hx]
          · exact ⟨rfl, fun _ => rfl⟩
/-! ## Read -/
theorem read_le (doc : Bool) {l : List UInt8} (h : l.length ≤ 65536) : readV doc l = if (endS (numS doc l 0).2.1 (numS doc l 0).2.2).2.2 = 0 then ((numS doc l 0).1, 0, 0)
    else (num0, (endS (numS doc l 0).2.1 (numS doc l 0).2.2).2.2, l.length - (numS doc l 0).2.1.length) := by unfold readV; rw [if_neg (by omega)]
theorem read_gt (doc : Bool) {l : List UInt8} (h : 65536 < l.length) : readV doc l = (num0, 3, 0) := by unfold readV; rw [if_pos h]
theorem end_zero {l : List UInt8} {c : Nat} (h : (endS l c).2.2 = 0) : l = [] ∧ c = 0 := by
  unfold endS at h
  by_cases hx : c = 0 ∧ l ≠ []
  · rw [if_pos hx] at h; exact absurd h (fail_ne (by decide) _ _)
  · rw [if_neg hx] at h
    refine ⟨?_, h⟩
    rcases Classical.em (l = []) with q | q
    · exact q
    · exact absurd ⟨h, q⟩ hx
theorem end_nil : endS [] 0 = ((), [], 0) := rfl
theorem end_err (l : List UInt8) {c : Nat} (h : c ≠ 0) : endS l c = ((), l, c) := if_neg (fun q => h q.1)
theorem end_more {l : List UInt8} (h : l ≠ []) : endS l 0 = failS 113 l 0 := if_pos ⟨rfl, h⟩
theorem read_doc (l : List UInt8) : readV true l = readV false l := by
  by_cases hl : 65536 < l.length
  · rw [read_gt _ hl, read_gt _ hl]
  · have h := num_doc l 0 (by omega)
    rw [read_le _ (by omega), read_le _ (by omega), h.1]
    by_cases hc : (endS (numS false l 0).2.1 (numS false l 0).2.2).2.2 = 0
    · rw [h.2 (end_zero hc).2]
    · rw [if_neg hc, if_neg hc]
/-- A text is read: just if all of it is a number's. -/
theorem read_ok {doc : Bool} {l : List UInt8} {n : Num} (hl : l.length ≤ 65536) (h : numS doc l 0 = (n, [], 0)) : readV doc l = (n, 0, 0) := by
  rw [read_le _ hl, h]
  rfl
theorem read_inv {doc : Bool} {l : List UInt8} (h : (readV doc l).2.1 = 0) : l.length ≤ 65536 ∧ numS doc l 0 = ((readV doc l).1, [], 0) := by
  by_cases hl : 65536 < l.length
  · rw [read_gt _ hl] at h; cases h
  · rw [read_le _ (by omega)] at h ⊢
    by_cases hc : (endS (numS doc l 0).2.1 (numS doc l 0).2.2).2.2 = 0
    · rw [if_pos hc]
      obtain ⟨h1, h2⟩ := end_zero hc
      exact ⟨by omega, Prod.ext rfl (Prod.ext h1 h2)⟩
    · rw [if_neg hc] at h; exact absurd h hc
theorem read_err {doc : Bool} {l : List UInt8} (h : (readV doc l).2.1 ≠ 0) : (readV doc l).1 = num0 ∧ (readV doc l).2.2 ≤ l.length := by
  by_cases hl : 65536 < l.length
  · rw [read_gt _ hl]; exact ⟨rfl, Nat.zero_le _⟩
  · rw [read_le _ (by omega)] at h ⊢
    by_cases hc : (endS (numS doc l 0).2.1 (numS doc l 0).2.2).2.2 = 0
    · rw [if_pos hc] at h; exact absurd rfl h
    · rw [if_neg hc]; exact ⟨rfl, Nat.sub_le _ _⟩
theorem read_at {doc : Bool} {l : List UInt8} (h : (readV doc l).2.1 = 0) : (readV doc l).2.2 = 0 := by
  by_cases hl : 65536 < l.length
  · rw [read_gt _ hl]
  · rw [read_le _ (by omega)] at h ⊢
    by_cases hc : (endS (numS doc l 0).2.1 (numS doc l 0).2.2).2.2 = 0
    · rw [if_pos hc]
    · rw [if_neg hc] at h; exact absurd h hc
theorem num_nil (doc : Bool) : numS doc [] 0 = (num0, [], 110) := by cases doc <;> decide
/-- A number's text is one wherever it ends. -/
theorem num_cut {doc : Bool} {q r : List UInt8} {n : Num} (h : numS doc (q ++ r) 0 = (n, r, 0)) : numS doc q 0 = (n, [], 0) := by
  rcases (ok_num doc).ext q r with e | ⟨_, e⟩
  · rw [h] at e
    simp only [Prod.mk.injEq] at e
    obtain ⟨e1, e2, e3⟩ := e
    have : (numS doc q 0).2.1 = [] := by
      have := congrArg List.length e2
      rw [List.length_append] at this
      exact List.eq_nil_of_length_eq_zero (by omega)
    rw [e1, ← this]
    exact Prod.ext rfl (Prod.ext rfl e3.symm)
  · rw [h] at e
    exfalso
    rcases e with e | ⟨e, _⟩
    · exact Nat.lt_irrefl _ e
    · exact e rfl
/-- What is a number goes on at least so far. -/
theorem num_far {doc : Bool} {q r : List UInt8} {n : Num} (h : numS doc q 0 = (n, [], 0)) : (numS doc (q ++ r) 0).2.1.length ≤ r.length := by
  rcases (ok_num doc).ext q r with e | ⟨_, e⟩
  · rw [e, h]; exact Nat.le_refl _
  · rw [h] at e
    rcases e with e | ⟨_, e⟩
    · omega
    · exact e rfl
/-! ## Begin -/
theorem fromV_doc (l : List UInt8) : ∀ k, fromV true l k = fromV false l k
  | 0 => rfl
  | k + 1 => by rw [fromV, fromV, read_doc, fromV_doc l k]
theorem beg_doc (l : List UInt8) : beginD l = beginP l := by
  have hm : (l.take 65536).length ≤ 65536 := by rw [List.length_take]; omega
  unfold beginD beginP
  obtain ⟨m, hme⟩ : ∃ m, l.take 65536 = m := ⟨_, rfl⟩
  rw [hme] at hm ⊢
  dsimp only
  have h := num_doc m 0 (by omega)
  rw [h.1, fromV_doc]
  by_cases hc : (numS false m 0).2.2 = 0
  · rw [if_pos hc]
    obtain ⟨p, hp⟩ := (ok_num false).suf m 0
    have hpl : m.length - (numS false m 0).2.1.length = p.length := by
      have := congrArg List.length hp
      rw [List.length_append] at this; omega
    have hpt : m.take p.length = p := by
      have h9 := List.take_left (l₁ := p) (l₂ := (numS false m 0).2.1)
      rwa [← hp] at h9
    have hn : numS false p 0 = ((numS false m 0).1, [], 0) := by
      refine num_cut (r := (numS false m 0).2.1) ?_
      rw [← hp]
      exact Prod.ext rfl (Prod.ext rfl hc)
    have hp1 := congrArg List.length hpt
    rw [List.length_take] at hp1
    have hr := read_ok (l := p) (by omega) hn
    rw [hpl]
    cases hk : p.length with
    | zero =>
      exfalso
      have : p = [] := List.eq_nil_of_length_eq_zero hk
      rw [this, num_nil] at hn
      simp at hn
    | succ k =>
      rw [hk] at hpt
      rw [fromV, hpt, hr]
      rfl
  · rw [if_neg hc]
theorem fromV_spec (doc : Bool) (l : List UInt8) : ∀ k, (fromV doc l k).2 ≤ k ∧ ((fromV doc l k).2 = 0 → (fromV doc l k).1 = num0) ∧ (0 < (fromV doc l k).2 → readV doc (l.take (fromV doc l k).2) = ((fromV doc l k).1, 0, 0)) ∧
    ∀ i, (fromV doc l k).2 < i → i ≤ k → (readV doc (l.take i)).2.1 ≠ 0
  | 0 => ⟨Nat.le_refl _, fun _ => rfl, fun h => absurd h (Nat.lt_irrefl _), fun i h1 h2 => by simp [fromV] at h1; omega⟩
  | k + 1 => by
    rw [fromV]
    by_cases h : (readV doc (l.take (k + 1))).2.1 = 0
    · rw [if_pos h]
      refine ⟨Nat.le_refl _, fun q => by simp at q, fun _ => ?_, fun i h1 h2 => by dsimp only at h1; omega⟩
      exact Prod.ext rfl (Prod.ext h (read_at h))
    · rw [if_neg h]
      obtain ⟨h1, h2, h3, h4⟩ := fromV_spec doc l k
      refine ⟨by omega, h2, h3, fun i q1 q2 => ?_⟩
      by_cases hi : i = k + 1
      · subst hi; exact h
      · exact h4 i q1 (by omega)
/-- What Begin tells: a beginning that is read, and no longer one is. -/
theorem beg_spec (l : List UInt8) (hl : l.length ≤ 65536) : (beginP l).2 ≤ l.length ∧ ((beginP l).2 = 0 → (beginP l).1 = num0) ∧ (0 < (beginP l).2 → readV false (l.take (beginP l).2) = ((beginP l).1, 0, 0)) ∧
    ∀ i, (beginP l).2 < i → i ≤ l.length → (readV false (l.take i)).2.1 ≠ 0 := by
  have hb := beg_doc l
  have hm : l.take 65536 = l := List.take_of_length_le hl
  have h0 : beginP l = fromV false l (l.length - (numS true l 0).2.1.length) := by
    rw [← hb]; unfold beginD
    rw [hm]
    dsimp only
    rw [fromV_doc]
  rw [h0]
  obtain ⟨h1, h2, h3, h4⟩ := fromV_spec false l (l.length - (numS true l 0).2.1.length)
  refine ⟨by omega, h2, h3, fun i q1 q2 q3 => ?_⟩
  by_cases hi : i ≤ l.length - (numS true l 0).2.1.length
  · exact h4 i q1 hi q3
  · obtain ⟨_, hn⟩ := read_inv q3
    have := num_far (r := l.drop i) hn
    rw [List.take_append_drop, List.length_drop] at this
    have e := (num_doc l 0 (by omega)).1
    rw [e] at hi
    omega
/-! ## a fault that does not hang on the text's end -/
end Go.Proofs.YtnkajjealkggdaaGreatDoor
end
