/- Lemmas of this proof, laid together: MlA, MlB, MlC. -/
import Derived.Test.YtebgmicpecekgaaDoorMg15
import Derived.Lib.MapLaws
set_option linter.unusedSimpArgs false
set_option linter.unusedVariables false
section
/- Marks: runes that are written are read again. -/
namespace Go.Proofs.YtebgmicpecekgaaDoor
open Go.RowKit Go.Maps
set_option maxHeartbeats 4000000
set_option maxRecDepth 100000
/-- A rune's bytes. -/
def encL (r : Int) : List UInt8 := (Utf8.encode r).data.toList
theorem fold_enc (L : List Int) : ∀ s : ByteArray, (L.foldl (fun r n => r ++ Utf8.encode n) s).data.toList = s.data.toList ++ L.flatMap encL := by
  induction L with
  | nil => intro s; simp
  | cons r L ih => intro s; rw [List.foldl_cons, ih]; simp [encL]
theorem rb_flat (L : List Int) : (runesBytes L).data.toList = L.flatMap encL := by
  unfold runesBytes
  rw [fold_enc]; simp
theorem dec_enc (r : Int) (h : stdR r) (t : List UInt8) : Lib.decodeL (encL r ++ t) = (r.toNat, (encL r).length) := by
  obtain ⟨n, rfl⟩ : ∃ n : Nat, r = n := ⟨r.toNat, by unfold stdR at h; omega⟩
  have h1 : 0 < n ∧ n ≤ 1114111 ∧ (n < 55296 ∨ 57343 < n) := by unfold stdR at h; omega
  clear h
  rw [Lib.decodeL_N]
  have hv : Utf8.valid (n : Int) = true := by unfold Utf8.valid; simp; omega
  unfold encL Utf8.encode
  simp only [hv, if_true, Int.toNat_natCast]
  by_cases a1 : n < 128
  · have e : n % 256 = n := Nat.mod_eq_of_lt (by omega)
    simp [a1, Lib.decodeN, e]
  by_cases a2 : n < 2048
  · simp [a1, a2, Lib.decodeN]
    rw [if_neg (by omega), if_pos (by omega), if_pos (by omega)]
    simp; omega
  by_cases a3 : n < 65536
  · simp [a1, a2, a3, Lib.decodeN]
    rw [if_neg (by omega), if_neg (by omega), if_pos (by omega), if_pos (by omega)]
    simp; omega
  · simp [a1, a2, a3, Lib.decodeN]
    rw [if_neg (by omega), if_neg (by omega), if_neg (by omega), if_pos (by omega), if_pos (by omega)]
    simp; omega
theorem encL_len (r : Int) : 1 ≤ (encL r).length ∧ (encL r).length ≤ 4 := by
  unfold encL Utf8.encode
  simp only
  repeat' split
  all_goals simp
/-- The runes of a text, each with its width; U+FFFD of one byte: a broken one. -/
def rnsF : Nat → List UInt8 → List (Int × Nat)
  | 0, _ => []
  | f + 1, l => if l = [] then [] else (((Lib.decodeL l).1 : Int), (Lib.decodeL l).2) :: rnsF f (l.drop (Lib.decodeL l).2)
def rns (l : List UInt8) : List (Int × Nat) := rnsF l.length l
theorem rnsF_nil : ∀ f, rnsF f [] = []
  | 0 => rfl
  | _ + 1 => by simp [rnsF]
theorem rnsF_fuel : ∀ (f g : Nat) (l : List UInt8), l.length ≤ f → l.length ≤ g → rnsF f l = rnsF g l
  | 0, g, l, h, _ => by
    have : l = [] := List.eq_nil_of_length_eq_zero (by omega)
    subst this; rw [rnsF_nil, rnsF_nil]
  | f + 1, 0, l, _, h => by
    have : l = [] := List.eq_nil_of_length_eq_zero (by omega)
    subst this; rw [rnsF_nil, rnsF_nil]
  | f + 1, g + 1, l, h1, h2 => by
    by_cases h : l = []
    · subst h; rw [rnsF_nil, rnsF_nil]
    · have hw := Lib.decodeL_width l
      have hl : 0 < l.length := List.length_pos_iff.2 h
      simp only [rnsF, if_neg h]
      rw [rnsF_fuel f g _ (by rw [List.length_drop]; omega) (by rw [List.length_drop]; omega)]
theorem rns_nil : rns [] = [] := rfl
theorem rns_cons (l : List UInt8) (h : l ≠ []) : rns l = (((Lib.decodeL l).1 : Int), (Lib.decodeL l).2) :: rns (l.drop (Lib.decodeL l).2) := by
  have hw := Lib.decodeL_width l
  have hl : 0 < l.length := List.length_pos_iff.2 h
  unfold rns
  obtain ⟨n, hn⟩ : ∃ n, l.length = n + 1 := ⟨l.length - 1, by omega⟩
  rw [hn]
  simp only [rnsF, if_neg h]
  rw [rnsF_fuel n (l.drop (Lib.decodeL l).2).length _ (by rw [List.length_drop]; omega) (Nat.le_refl _)]
/-- The walk by the runes. -/
def tkR (P G M N : Int) : List (Int × Nat) → Nat → TS → TS
  | [], _, s => s
  | (r, n) :: R, i, s => tkR P G M N R (i + n) (tkStep P G M N s i r n)
theorem tkRun_rns {P G M N : Int} (l : List UInt8) : ∀ f i s, i ≤ l.length → l.length - i ≤ f → tkRun P G M N l f i s = tkR P G M N (rns (l.drop i)) i s
  | 0, i, s, h1, h2 => by
    rw [List.drop_of_length_le (by omega), rns_nil]; rfl
  | f + 1, i, s, h1, h2 => by
    rw [tkRun]
    split
    · rename_i hlt
      have hne : l.drop i ≠ [] := fun e => by
        have := congrArg List.length e
        rw [List.length_drop] at this; simp at this; omega
      have h3 := Lib.decodeL_width (l.drop i)
      have h4 := Lib.decodeL_le (l.drop i) hne
      rw [List.length_drop] at h4
      rw [tkRun_rns l f _ _ (by omega) (by omega), rns_cons _ hne, tkR, List.drop_drop]
    · rw [List.drop_of_length_le (by omega), rns_nil]; rfl
theorem tkV_rns (P G M N : Int) (l : List UInt8) : tkV P G M N l = tkR P G M N (rns l) 0 tk0 := by
  unfold tkV
  rw [tkRun_rns l _ _ _ (Nat.zero_le _) (by omega), List.drop_zero]
theorem tkR_append {P G M N : Int} : ∀ (R S : List (Int × Nat)) (i : Nat) (s : TS), tkR P G M N (R ++ S) i s = tkR P G M N S (i + (R.map Prod.snd).sum) (tkR P G M N R i s)
  | [], S, i, s => by simp [tkR]
  | (r, n) :: R, S, i, s => by
    rw [List.cons_append, tkR, tkR_append R S, tkR]
    simp [Nat.add_assoc]
/-- The runes of a text that was written. -/
theorem rns_enc : ∀ L : List Int, (∀ r ∈ L, stdR r) → rns (L.flatMap encL) = L.map (fun r => (r, (encL r).length))
  | [], _ => rfl
  | r :: L, h => by
    have hr : stdR r := h r (by simp)
    have hd := dec_enc r hr (L.flatMap encL)
    have hl := encL_len r
    have hne : encL r ++ L.flatMap encL ≠ [] := fun e => by
      have := congrArg List.length e
      rw [List.length_append] at this
      have h9 : (([] : List UInt8)).length = 0 := rfl
      omega
    have h0 : 0 ≤ r := by unfold stdR at hr; omega
    rw [List.flatMap_cons, rns_cons _ hne, hd]
    dsimp only
    rw [List.drop_left, rns_enc L (fun x hx => h x (by simp [hx])), List.map_cons, Int.toNat_of_nonneg h0]
theorem enc_decode (l : List UInt8) (hne : l ≠ []) (hv : ¬ ((Lib.decodeL l).1 = 65533 ∧ (Lib.decodeL l).2 = 1)) : encL ((Lib.decodeL l).1 : Int) = l.take (Lib.decodeL l).2 := by
  have hl : 0 < l.length := List.length_pos_iff.2 hne
  have hd := Lib.decodeL_N l
  have k0 := (l.getD 0 0).toNat_lt
  have k1 := (l.getD 1 0).toNat_lt
  have k2 := (l.getD 2 0).toNat_lt
  have k3 := (l.getD 3 0).toNat_lt
  have eqb : ∀ (n : Nat) (x : UInt8), n = x.toNat → UInt8.ofNat n = x := fun n x h => by subst h; simp
  rw [hd] at hv ⊢
  unfold encL Utf8.encode
  rcases Lib.decodeN_shape l.length (l.getD 0 0).toNat (l.getD 1 0).toNat (l.getD 2 0).toNat (l.getD 3 0).toNat with ⟨c, e⟩ | ⟨c1, c2, c3, cv, e⟩ | ⟨c1, c2, c3, c4, cv, cs, e⟩ | ⟨c1, c2, c3, c4, c5, cv, cw, e⟩ | e
  · rw [e]
    dsimp only
    have hv2 : Utf8.valid (((l.getD 0 0).toNat : Nat) : Int) = true := by unfold Utf8.valid; simp only [Bool.or_eq_true, Bool.and_eq_true, decide_eq_true_eq]; omega
    rw [Lib.takeA l hl]
    simp only [hv2, if_true, Int.toNat_natCast]
    rw [if_pos c, eqb _ (l.getD 0 0) rfl]
  · rw [e]
    dsimp only
    have hv2 : Utf8.valid (((l.getD 0 0).toNat % 32 * 64 + (l.getD 1 0).toNat % 64 : Nat) : Int) = true := by unfold Utf8.valid; simp only [Bool.or_eq_true, Bool.and_eq_true, decide_eq_true_eq]; omega
    rw [Lib.takeB l c2]
    simp only [hv2, if_true, Int.toNat_natCast]
    rw [if_neg (by omega), if_pos (by omega), eqb _ (l.getD 0 0) (by omega), eqb _ (l.getD 1 0) (by omega)]
  · rw [e]
    dsimp only
    have hv2 : Utf8.valid (((l.getD 0 0).toNat % 16 * 4096 + (l.getD 1 0).toNat % 64 * 64 + (l.getD 2 0).toNat % 64 : Nat) : Int) = true := by unfold Utf8.valid; simp only [Bool.or_eq_true, Bool.and_eq_true, decide_eq_true_eq]; omega
    rw [Lib.takeC l c2]
    simp only [hv2, if_true, Int.toNat_natCast]
    rw [if_neg (by omega), if_neg (by omega), if_pos (by omega), eqb _ (l.getD 0 0) (by omega), eqb _ (l.getD 1 0) (by omega), eqb _ (l.getD 2 0) (by omega)]
  · rw [e]
    dsimp only
    have hv2 : Utf8.valid (((l.getD 0 0).toNat % 8 * 262144 + (l.getD 1 0).toNat % 64 * 4096 + (l.getD 2 0).toNat % 64 * 64 + (l.getD 3 0).toNat % 64 : Nat) : Int) = true := by unfold Utf8.valid; simp only [Bool.or_eq_true, Bool.and_eq_true, decide_eq_true_eq]; omega
    rw [Lib.takeD l c2]
    simp only [hv2, if_true, Int.toNat_natCast]
    rw [if_neg (by omega), if_neg (by omega), if_neg (by omega), eqb _ (l.getD 0 0) (by omega), eqb _ (l.getD 1 0) (by omega), eqb _ (l.getD 2 0) (by omega), eqb _ (l.getD 3 0) (by omega)]
  · rw [e] at hv
    exact absurd ⟨rfl, rfl⟩ hv
/-- A text without broken bytes is what its runes write. -/
theorem enc_rnsF : ∀ (f : Nat) (l : List UInt8), l.length ≤ f → (∀ p ∈ rns l, ¬ (p.1 = 65533 ∧ p.2 = 1)) → ((rns l).map Prod.fst).flatMap encL = l
  | 0, l, h, _ => by
    have : l = [] := List.eq_nil_of_length_eq_zero (by omega)
    subst this; rfl
  | f + 1, l, h, hb => by
    by_cases hn : l = []
    · subst hn; rfl
    · have hw := Lib.decodeL_width l
      have hl : 0 < l.length := List.length_pos_iff.2 hn
      rw [rns_cons l hn] at hb ⊢
      rw [List.map_cons, List.flatMap_cons, enc_rnsF f _ (by rw [List.length_drop]; omega) (fun p hp => hb p (by simp [hp]))]
      rw [enc_decode l hn (fun q => hb (((Lib.decodeL l).1 : Int), (Lib.decodeL l).2) (by simp) ⟨by simp only; omega, q.2⟩)]
      exact List.take_append_drop _ _
theorem enc_rns (l : List UInt8) (h : ∀ p ∈ rns l, ¬ (p.1 = 65533 ∧ p.2 = 1)) : ((rns l).map Prod.fst).flatMap encL = l := enc_rnsF _ _ (Nat.le_refl _) h
end Go.Proofs.YtebgmicpecekgaaDoor
end
section
/- Marks: what is put is taken back. -/
namespace Go.Proofs.YtebgmicpecekgaaDoor
open Go.RowKit Go.Maps
set_option maxHeartbeats 4000000
set_option maxRecDepth 100000
abbrev cl (P G M N : Int) (p : Int × Nat) : UInt8 := clsC P G M N p.1 p.2
theorem tkR_pre {P G M N : Int} : ∀ (R : List (Int × Nat)) (i : Nat) (s : TS), (∀ p ∈ R, isD (cl P G M N p) = false) → s.begun = false →
    (tkR P G M N R i s).plain = s.plain ++ R.map (cl P G M N) ∧ (tkR P G M N R i s).runes = s.runes ∧ (tkR P G M N R i s).begun = false ∧ (tkR P G M N R i s).inside = s.inside
  | [], i, s, _, hb => by simp [tkR, hb]
  | (r, n) :: R, i, s, h, hb => by
    have hd := h (r, n) (by simp)
    rw [tkR, tkDn (s := s) (i := i) (r := r) (n := n) rfl hd rfl (by rw [hb]; rfl)]
    obtain ⟨h1, h2, h3, h4⟩ := tkR_pre R (i + n) ⟨s.plain ++ [clsC P G M N r n], s.places ++ [(i : Int)], s.runes, s.ats, if r = 65533 ∧ n = 1 then s.broken ++ [i] else s.broken, s.begun, s.inside⟩ (fun p hp => h p (by simp [hp])) hb
    exact ⟨by rw [h1]; simp, h2, h3, h4⟩
theorem tkR_in {P G M N : Int} : ∀ (R : List (Int × Nat)) (i : Nat) (s : TS), (∀ p ∈ R, isD (cl P G M N p) = true ∨ cl P G M N p = 103) → s.begun = true → s.inside = true →
    (tkR P G M N R i s).plain = s.plain ++ (R.map (cl P G M N)).filter isD ∧ (tkR P G M N R i s).runes = s.runes ++ R.map Prod.fst ∧ (tkR P G M N R i s).begun = true ∧ (tkR P G M N R i s).inside = true
  | [], i, s, _, hb, hi => by simp [tkR, hb, hi]
  | (r, n) :: R, i, s, h, hb, hi => by
    rcases h (r, n) (by simp) with hd | hg
    · rw [tkR, tkB (s := s) (i := i) (r := r) (n := n) rfl hd rfl hi]
      obtain ⟨h1, h2, h3, h4⟩ := tkR_in R (i + n) ⟨s.plain ++ [clsC P G M N r n], s.places ++ [(i : Int)], s.runes ++ [r], s.ats ++ [(i : Int)], if r = 65533 ∧ n = 1 then s.broken ++ [i] else s.broken, true, true⟩ (fun p hp => h p (by simp [hp])) rfl rfl
      refine ⟨?_, ?_, h3, h4⟩
      · rw [h1, List.map_cons, List.filter_cons_of_pos hd]; simp
      · rw [h2]; simp
    · rw [tkR, tkA (s := s) (i := i) (r := r) (n := n) hg rfl hb hi]
      obtain ⟨h1, h2, h3, h4⟩ := tkR_in R (i + n) ⟨s.plain, s.places, s.runes ++ [r], s.ats ++ [(i : Int)], if r = 65533 ∧ n = 1 then s.broken ++ [i] else s.broken, true, true⟩ (fun p hp => h p (by simp [hp])) rfl rfl
      refine ⟨?_, ?_, h3, h4⟩
      · rw [h1, List.map_cons, List.filter_cons_of_neg (by rw [hg]; decide)]
      · rw [h2]; simp
theorem tkR_out {P G M N : Int} : ∀ (R : List (Int × Nat)) (i : Nat) (s : TS), s.inside = false →
    (tkR P G M N R i s).plain = s.plain ++ R.map (cl P G M N) ∧ (tkR P G M N R i s).runes = s.runes
  | [], i, s, _ => by simp [tkR]
  | (r, n) :: R, i, s, hi => by
    rw [tkR, tkD (s := s) (i := i) (r := r) (n := n) rfl rfl (by rw [hi, Bool.and_false])]
    obtain ⟨h1, h2⟩ := tkR_out R (i + n) ⟨s.plain ++ [clsC P G M N r n], s.places ++ [(i : Int)], s.runes, s.ats, if r = 65533 ∧ n = 1 then s.broken ++ [i] else s.broken, s.begun || isD (clsC P G M N r n), s.inside⟩ hi
    exact ⟨by rw [h1]; simp, h2⟩
/-- The walk's plain text and whole part, by the runes' classes. -/
theorem tk_form {P G M N : Int} (A : List (Int × Nat)) (c : Int × Nat) (C D : List (Int × Nat)) (hA : ∀ p ∈ A, isD (cl P G M N p) = false) (hc : isD (cl P G M N c) = true) (hC : ∀ p ∈ C, isD (cl P G M N p) = true ∨ cl P G M N p = 103)
    (hD : ∀ p E, D = p :: E → isD (cl P G M N p) = false ∧ cl P G M N p ≠ 103) :
    (tkR P G M N (A ++ (c :: C) ++ D) 0 tk0).plain = A.map (cl P G M N) ++ ((c :: C).map (cl P G M N)).filter isD ++ D.map (cl P G M N) ∧ (tkR P G M N (A ++ (c :: C) ++ D) 0 tk0).runes = (c :: C).map Prod.fst := by
  rw [tkR_append, tkR_append]
  obtain ⟨a1, a2, a3, a4⟩ := tkR_pre A 0 tk0 hA rfl
  generalize tkR P G M N A 0 tk0 = s at *
  obtain ⟨r, n⟩ := c
  rw [tkR, tkB (s := s) (r := r) (n := n) rfl hc rfl a4]
  obtain ⟨b1, b2, b3, b4⟩ := tkR_in C (0 + (A.map Prod.snd).sum + n) ⟨s.plain ++ [clsC P G M N r n], s.places ++ [((0 + (A.map Prod.snd).sum : Nat) : Int)], s.runes ++ [r], s.ats ++ [((0 + (A.map Prod.snd).sum : Nat) : Int)], if r = 65533 ∧ n = 1 then s.broken ++ [0 + (A.map Prod.snd).sum] else s.broken, true, true⟩ hC rfl rfl
  generalize tkR P G M N C _ _ = s2 at *
  have e1 : s2.plain = A.map (cl P G M N) ++ (((r, n) :: C).map (cl P G M N)).filter isD := by
    rw [b1, List.map_cons, List.filter_cons_of_pos hc, a1]; simp [tk0]
  have e2 : s2.runes = ((r, n) :: C).map Prod.fst := by rw [b2, a2]; simp [tk0]
  cases D with
  | nil => simp only [tkR, List.map_nil, List.append_nil]; exact ⟨e1, e2⟩
  | cons p E =>
    obtain ⟨q1, q2⟩ := hD p E rfl
    obtain ⟨r3, n3⟩ := p
    rw [tkR, tkC (s := s2) (r := r3) (n := n3) rfl q1 q2 rfl b3 b4]
    obtain ⟨c1, c2⟩ := tkR_out (P := P) (G := G) (M := M) (N := N) E (0 + ((A ++ (r, n) :: C).map Prod.snd).sum + n3) ⟨s2.plain ++ [clsC P G M N r3 n3], s2.places ++ [((0 + ((A ++ (r, n) :: C).map Prod.snd).sum : Nat) : Int)], s2.runes, s2.ats ++ [((0 + ((A ++ (r, n) :: C).map Prod.snd).sum : Nat) : Int)], if r3 = 65533 ∧ n3 = 1 then s2.broken ++ [0 + ((A ++ (r, n) :: C).map Prod.snd).sum] else s2.broken, true, false⟩ rfl
    refine ⟨?_, ?_⟩
    · rw [c1]; dsimp only; rw [e1]; simp
    · rw [c2]; exact e2
theorem tk_none {P G M N : Int} (R : List (Int × Nat)) (h : ∀ p ∈ R, isD (cl P G M N p) = false) : (tkR P G M N R 0 tk0).plain = R.map (cl P G M N) ∧ (tkR P G M N R 0 tk0).runes = [] := by
  obtain ⟨a1, a2, _, _⟩ := tkR_pre R 0 tk0 h rfl
  exact ⟨by rw [a1]; simp [tk0], by rw [a2]; simp [tk0]⟩
theorem span_at {α : Type} (p : α → Bool) : ∀ R : List α, ∃ A D, R = A ++ D ∧ (∀ x ∈ A, p x = true) ∧ ∀ x E, D = x :: E → p x = false
  | [] => ⟨[], [], rfl, by simp, by simp⟩
  | x :: R => by
    obtain ⟨A, D, h1, h2, h3⟩ := span_at p R
    cases hx : p x with
    | true => exact ⟨x :: A, D, by rw [h1]; rfl, by simpa [hx] using h2, h3⟩
    | false => exact ⟨[], x :: R, rfl, by simp, by intro y E he; simp at he; rw [← he.1]; exact hx⟩
theorem tk_split (P G M N : Int) (R : List (Int × Nat)) : (∀ p ∈ R, isD (cl P G M N p) = false) ∨ ∃ A c C D, R = A ++ (c :: C) ++ D ∧ (∀ p ∈ A, isD (cl P G M N p) = false) ∧ isD (cl P G M N c) = true ∧ (∀ p ∈ C, isD (cl P G M N p) = true ∨ cl P G M N p = 103) ∧
    (∀ p E, D = p :: E → isD (cl P G M N p) = false ∧ cl P G M N p ≠ 103) := by
  obtain ⟨A, B, rfl, h2, h3⟩ := span_at (fun p => !isD (cl P G M N p)) R
  have hA : ∀ p ∈ A, isD (cl P G M N p) = false := fun p hp => by simpa using h2 p hp
  cases B with
  | nil => exact .inl (by simpa using hA)
  | cons c B =>
    obtain ⟨C, D, rfl, h5, h6⟩ := span_at (fun p => isD (cl P G M N p) || decide (cl P G M N p = 103)) B
    refine .inr ⟨A, c, C, D, by simp, hA, by simpa using h3 c _ rfl, fun p hp => by simpa using h5 p hp, fun p E he => by simpa using h6 p E he⟩
/-- Marks that may be. -/
structure GoodM (P G M N : Int) : Prop where
  pm : P ≠ M
  p1 : P ≠ 101
  m1 : M ≠ 101
  nd : ∀ k : Nat, k < 10 → N + k ≠ P ∧ N + k ≠ M ∧ N + k ≠ 101
  g : G ≠ 0 → G ≠ P ∧ G ≠ M ∧ G ≠ 101 ∧ ∀ k : Nat, k < 10 → N + k ≠ G
  sP : stdR P
  sM : stdR M
  sG : G ≠ 0 → stdR G
  sN : ∀ k : Nat, k < 10 → stdR (N + k)
theorem goodM {P G M N : Int} (h1 : ∀ r ∈ allR P G M N, stdR r) (h2 : (allR P G M N).Nodup) : GoodM P G M N := by
  unfold allR at h1 h2
  by_cases hG : G = 0
  · rw [if_pos hG] at h1 h2
    simp only [List.cons_append, List.nil_append, List.append_nil, List.nodup_cons, List.mem_cons, List.mem_map, List.mem_range, not_or, List.not_mem_nil, false_or] at h1 h2
    refine ⟨fun e => h2.2.1.1 e, fun e => h2.1.1 e.symm, fun e => h2.1.2.1 e.symm, fun k hk => ⟨fun e => h2.2.1.2 ⟨k, hk, e⟩, fun e => h2.2.2.1 ⟨k, hk, e⟩, fun e => h2.1.2.2 ⟨k, hk, e⟩⟩, fun h => absurd hG h, h1 _ (by simp), h1 _ (by simp), fun h => absurd hG h, fun k hk => h1 _ (.inr (.inr (.inr ⟨k, hk, rfl⟩)))⟩
  · rw [if_neg hG] at h1 h2
    simp only [List.cons_append, List.nil_append, List.append_nil, List.nodup_cons, List.mem_cons, List.mem_map, List.mem_range, not_or, List.not_mem_nil, false_or] at h1 h2
    refine ⟨fun e => h2.2.1.1 e, fun e => h2.1.1 e.symm, fun e => h2.1.2.1 e.symm, fun k hk => ⟨fun e => h2.2.1.2.2 ⟨k, hk, e⟩, fun e => h2.2.2.1.2 ⟨k, hk, e⟩, fun e => h2.1.2.2.2 ⟨k, hk, e⟩⟩,
      fun h => ⟨fun e => h2.2.1.2.1 e.symm, fun e => h2.2.2.1.1 e.symm, fun e => h2.1.2.2.1 e.symm, fun k hk e => h2.2.2.2.1 ⟨k, hk, e⟩⟩, h1 _ (by simp), h1 _ (by simp), fun h => h1 _ (by simp), fun k hk => h1 _ (.inr (.inr (.inr (.inr ⟨k, hk, rfl⟩))))⟩
theorem good_of {P G M N : Int} {xs : List Int} (h : ckv P G M N xs = 0) : GoodM P G M N := by
  obtain ⟨_, h1, h2, _⟩ := szOk_of (k := xs.length) rfl h
  exact goodM h1 h2
theorem isD_iff (b : UInt8) : isD b = true ↔ 48 ≤ b.toNat ∧ b.toNat ≤ 57 := by simp [isD]
theorem broken_no {r : Int} : ¬ (r = 65533 ∧ (encL r).length = 1) := by
  rintro ⟨rfl, h⟩
  revert h; decide
theorem markB_dig {P M N : Int} {b : UInt8} (h : isD b = true) : markB P M N b = N + ((b.toNat : Int) - 48) := by
  have h2 := (isD_iff b).1 h
  unfold markB
  rw [if_neg (fun e => by subst e; revert h2; decide), if_neg (fun e => by subst e; revert h2; decide), if_neg (fun e => by subst e; revert h2; decide)]
  omega
theorem cl_dig {P G M N : Int} (hg : GoodM P G M N) {b : UInt8} (h : isD b = true) {n : Nat} (hn : ¬ (N + ((b.toNat : Int) - 48) = 65533 ∧ n = 1)) : clsC P G M N (N + ((b.toNat : Int) - 48)) n = b := by
  have h2 := (isD_iff b).1 h
  obtain ⟨k, hk⟩ : ∃ k : Nat, b.toNat = 48 + k := ⟨b.toNat - 48, by omega⟩
  have hr : N + ((b.toNat : Int) - 48) = N + k := by omega
  rw [hr] at hn ⊢
  obtain ⟨q1, q2, q3⟩ := hg.nd k (by omega)
  unfold clsC
  rw [if_neg hn, if_neg q2, if_neg q1, if_neg q3, if_pos (by omega)]
  apply UInt8.toNat_inj.1
  rw [show (N + (k : Int) - N).toNat = k by omega, ← hk]
  simp
theorem cl_mark {P G M N : Int} (hg : GoodM P G M N) {b : UInt8} (h : PlB b) {n : Nat} (hn : ¬ (markB P M N b = 65533 ∧ n = 1)) : clsC P G M N (markB P M N b) n = b := by
  rcases h with rfl | rfl | rfl | h
  · have e : markB P M N 46 = P := rfl
    rw [e] at hn ⊢
    unfold clsC
    rw [if_neg hn, if_neg hg.pm, if_pos rfl]
  · have e : markB P M N 45 = M := rfl
    rw [e] at hn ⊢
    unfold clsC
    rw [if_neg hn, if_pos rfl]
  · have e : markB P M N 101 = 101 := rfl
    rw [e] at hn ⊢
    unfold clsC
    rw [if_neg hn, if_neg (fun q => hg.m1 q.symm), if_neg (fun q => hg.p1 q.symm), if_pos rfl]
  · rw [markB_dig h] at hn ⊢
    exact cl_dig hg h hn
theorem cl_G {P G M N : Int} (hg : GoodM P G M N) (h : G ≠ 0) {n : Nat} (hn : ¬ (G = 65533 ∧ n = 1)) : clsC P G M N G n = 103 := by
  obtain ⟨q1, q2, q3, q4⟩ := hg.g h
  unfold clsC
  rw [if_neg hn, if_neg q2, if_neg q1, if_neg q3, if_neg (fun q => q4 (G - N).toNat (by omega) (by omega)), if_pos ⟨h, rfl⟩]
/-- What a class says of its rune. -/
theorem cl_inv {P G M N : Int} {r : Int} {n : Nat} (h : clsC P G M N r n ≠ 120) : ¬ (r = 65533 ∧ n = 1) ∧ (clsC P G M N r n = 103 → r = G ∧ G ≠ 0) ∧ (clsC P G M N r n ≠ 103 → PlB (clsC P G M N r n) ∧ r = markB P M N (clsC P G M N r n)) := by
  obtain ⟨c, hc⟩ : ∃ c, clsC P G M N r n = c := ⟨_, rfl⟩
  rw [hc] at h ⊢
  unfold clsC at hc
  split at hc
  · exact absurd hc.symm h
  rename_i h0
  refine ⟨h0, ?_⟩
  split at hc
  · rename_i h1; subst h1; subst hc; exact ⟨fun e => absurd e (by decide), fun _ => ⟨.inr (.inl rfl), rfl⟩⟩
  split at hc
  · rename_i h2; subst h2; subst hc; exact ⟨fun e => absurd e (by decide), fun _ => ⟨.inl rfl, rfl⟩⟩
  split at hc
  · rename_i h3; subst h3; subst hc; exact ⟨fun e => absurd e (by decide), fun _ => ⟨.inr (.inr (.inl rfl)), rfl⟩⟩
  split at hc
  · rename_i h4
    have hz : c.toNat = 48 + (r - N).toNat := by rw [← hc]; simp; omega
    have hd : isD c = true := by rw [isD_iff, hz]; omega
    refine ⟨fun e => by rw [e] at hd; exact absurd hd (by decide), fun _ => ⟨.inr (.inr (.inr hd)), ?_⟩⟩
    rw [markB_dig hd, hz]; omega
  split at hc
  · rename_i h5; exact ⟨fun _ => ⟨h5.2, h5.1⟩, fun e => absurd hc.symm e⟩
  · exact absurd hc.symm h
end Go.Proofs.YtebgmicpecekgaaDoor
end
section
/- Marks: what is put is taken back; what is taken is put again: the plain laws. -/
namespace Go.Proofs.YtebgmicpecekgaaDoor
open Go.RowKit Go.Maps
set_option maxHeartbeats 4000000
set_option maxRecDepth 100000
/-- A whole part ends where its digits end. -/
theorem shp_row {l : List UInt8} {f e : Nat} (h : shpB l = (-1, f, e)) : e = f + rowN l f := by
  obtain ⟨f0, hf0⟩ : ∃ f0 : Nat, (if l[0]? = some 45 then 1 else 0) = f0 := ⟨_, rfl⟩
  unfold shpB at h
  simp only [hf0] at h
  split at h
  · simp only [Prod.mk.injEq] at h; omega
  split at h
  · simp only [Prod.mk.injEq] at h; omega
  split at h
  · simp only [Prod.mk.injEq] at h; omega
  split at h
  · simp only [Prod.mk.injEq] at h; omega
  simp only [Prod.mk.injEq, true_and] at h
  obtain ⟨rfl, h2⟩ := h
  exact h2.symm
theorem takeWhile_stop : ∀ (l : List UInt8), (l.takeWhile isD).length < l.length → isD (l.getD (l.takeWhile isD).length 0) = false
  | [], h => by simp at h
  | x :: t, h => by
    cases hx : isD x with
    | false => rw [List.takeWhile_cons_of_neg (by simp [hx])]; simpa using hx
    | true =>
      rw [List.takeWhile_cons_of_pos hx] at h ⊢
      rw [List.length_cons, List.length_cons] at h
      rw [List.length_cons, List.getD_cons_succ]
      exact takeWhile_stop t (by omega)
theorem shp_stop {l : List UInt8} {f e : Nat} (h : shpB l = (-1, f, e)) (he : e < l.length) : isD (l.getD e 0) = false := by
  have h1 := shp_row h
  obtain ⟨_, h2, _⟩ := shp_ok h
  unfold rowN at h1
  have h3 := takeWhile_stop (l.drop f) (by rw [List.length_drop]; omega)
  rw [List.getD_eq_getElem?_getD, List.getElem?_drop, ← List.getD_eq_getElem?_getD] at h3
  rwa [← h1] at h3
theorem PlB_not {b : UInt8} (h : PlB b) : b ≠ 103 ∧ b ≠ 120 := by
  rcases h with rfl | rfl | rfl | h
  · decide
  · decide
  · decide
  · exact ⟨fun e => by subst e; revert h; decide, fun e => by subst e; revert h; decide⟩
theorem cutB_zero (G : Int) (xs : List Int) (n : Nat) : cutB G xs n 0 = false := by unfold cutB; simp
theorem mem_getD {l : List UInt8} {P : UInt8 → Prop} (h : ∀ i, i < l.length → P (l.getD i 0)) : ∀ b ∈ l, P b := by
  intro b hb
  obtain ⟨i, hi, rfl⟩ := List.mem_iff_getElem.1 hb
  have := h i hi
  rwa [List.getD_eq_getElem?_getD, List.getElem?_eq_getElem hi] at this
/-- The whole part's runes, by their classes. -/
theorem whole_cl {P G M N : Int} (hg : GoodM P G M N) (xs : List Int) (d : List UInt8) (hd : ∀ b ∈ d, isD b = true) : ∀ i, i ≤ d.length →
    (∀ r ∈ wholeN G N xs d i, isD (clsC P G M N r (encL r).length) = true ∨ clsC P G M N r (encL r).length = 103) ∧ ((wholeN G N xs d i).map (fun r => clsC P G M N r (encL r).length)).filter isD = d.take i ∧ (∀ r ∈ wholeN G N xs d i, stdR r)
  | 0, _ => by simp [wholeN]
  | i + 1, hi => by
    obtain ⟨h1, h2, h3⟩ := whole_cl hg xs d hd i (by omega)
    have hx : isD (d.getD i 0) = true := by
      rw [List.getD_eq_getElem?_getD, List.getElem?_eq_getElem (by omega : i < d.length)]; exact hd _ (List.getElem_mem _)
    obtain ⟨x, hxx⟩ : ∃ x, d.getD i 0 = x := ⟨_, rfl⟩
    rw [wholeN, hxx]
    rw [hxx] at hx
    have hc := cl_dig hg hx (n := (encL (N + ((x.toNat : Int) - 48))).length) broken_no
    have hs : stdR (N + ((x.toNat : Int) - 48)) := by
      have h4 := (isD_iff x).1 hx
      have := hg.sN (x.toNat - 48) (by omega)
      rwa [show N + ((x.toNat - 48 : Nat) : Int) = N + ((x.toNat : Int) - 48) by omega] at this
    have ht : d.take (i + 1) = d.take i ++ [x] := by
      rw [List.take_add_one, List.getElem?_eq_getElem (by omega : i < d.length)]
      rw [List.getD_eq_getElem?_getD, List.getElem?_eq_getElem (by omega : i < d.length)] at hxx
      simp only [Option.getD_some] at hxx
      rw [hxx]; rfl
    by_cases hcut : cutB G xs d.length i = true
    · have hG : G ≠ 0 := by unfold cutB at hcut; simp at hcut; exact hcut.1.1
      have hcg := cl_G hg hG (n := (encL G).length) broken_no
      rw [if_pos hcut]
      refine ⟨?_, ?_, ?_⟩
      · intro r hr
        simp only [List.mem_append, List.mem_singleton] at hr
        rcases hr with (hr | rfl) | rfl
        · exact h1 r hr
        · exact .inr hcg
        · exact .inl (by rw [hc]; exact hx)
      · simp only [List.map_append, List.filter_append, h2, List.map_cons, List.map_nil, hcg, hc, ht]
        rw [List.filter_cons_of_neg (by decide), List.filter_cons_of_pos hx]; simp
      · intro r hr
        simp only [List.mem_append, List.mem_singleton] at hr
        rcases hr with (hr | rfl) | rfl
        · exact h3 r hr
        · exact hg.sG hG
        · exact hs
    · rw [if_neg hcut, List.append_nil]
      refine ⟨?_, ?_, ?_⟩
      · intro r hr
        simp only [List.mem_append, List.mem_singleton] at hr
        rcases hr with hr | rfl
        · exact h1 r hr
        · exact .inl (by rw [hc]; exact hx)
      · simp only [List.map_append, List.filter_append, h2, List.map_cons, List.map_nil, hc, ht]
        rw [List.filter_cons_of_pos hx]; simp
      · intro r hr
        simp only [List.mem_append, List.mem_singleton] at hr
        rcases hr with hr | rfl
        · exact h3 r hr
        · exact hs
theorem whole_head {G N : Int} (xs : List Int) (d : List UInt8) : ∀ i, wholeN G N xs d (i + 1) = (N + (((d.getD 0 0).toNat : Int) - 48)) :: (wholeN G N xs d (i + 1)).tail
  | 0 => by simp only [wholeN, cutB_zero]; rfl
  | i + 1 => by
    rw [wholeN, whole_head xs d i]; simp
theorem std_101 : stdR 101 := by unfold stdR; omega
theorem std_mark {P G M N : Int} (hg : GoodM P G M N) {b : UInt8} (h : PlB b) : stdR (markB P M N b) := by
  rcases h with rfl | rfl | rfl | h
  · exact hg.sP
  · exact hg.sM
  · exact std_101
  · rw [markB_dig h]
    have h4 := (isD_iff b).1 h
    have := hg.sN (b.toNat - 48) (by omega)
    rwa [show N + ((b.toNat - 48 : Nat) : Int) = N + ((b.toNat : Int) - 48) by omega] at this
theorem shp_split {l : List UInt8} {f e : Nat} (h : shpB l = (-1, f, e)) : l = (if 0 < f then [45] else []) ++ (l.take e).drop f ++ l.drop e := by
  obtain ⟨h1, h2, h3, h4, _⟩ := shp_ok h
  have e1 : l = l.take f ++ ((l.take e).drop f ++ l.drop e) := by
    have e2 : (l.take e).drop f ++ l.drop e = l.drop f := by
      have := congrArg (List.drop f) (List.take_append_drop e l)
      rw [List.drop_append_of_le_length (by rw [List.length_take]; omega)] at this
      exact this
    rw [e2, List.take_append_drop]
  have e3 : l.take f = if 0 < f then [45] else [] := by
    rcases h4 with ⟨h5, rfl⟩ | ⟨_, rfl⟩
    · cases l with
      | nil => simp at h5
      | cons a t => simp at h5; subst h5; simp
    · simp
  rw [e3] at e1
  rw [List.append_assoc]
  exact e1
/-- What the walk takes of a text that was put. -/
theorem tk_put {P G M N : Int} (hg : GoodM P G M N) (xs : List Int) {l : List UInt8} {f e : Nat} (hs : shpB l = (-1, f, e)) :
    (tkV P G M N ((putL P G M N xs l f e).flatMap encL)).plain = l ∧ (tkV P G M N ((putL P G M N xs l f e).flatMap encL)).runes = wholeN G N xs ((l.take e).drop f) ((l.take e).drop f).length := by
  obtain ⟨h1, h2, h3, h4, h5, h6⟩ := shp_ok hs
  have hsp := shp_split hs
  have hst := fun q => shp_stop hs q
  have hdd := drop_isD h5 h3
  have hdl : ((l.take e).drop f).length = e - f := by rw [List.length_drop, List.length_take]; omega
  have hpd : ∀ b ∈ l.drop e, PlB b := mem_getD (fun i hi => by
    rw [List.length_drop] at hi
    rw [List.getD_eq_getElem?_getD, List.getElem?_drop, ← List.getD_eq_getElem?_getD]
    exact h6 (e + i) (by omega) (by omega))
  unfold putL
  generalize (l.take e).drop f = d at *
  obtain ⟨j, hj⟩ : ∃ j, d.length = j + 1 := ⟨d.length - 1, by omega⟩
  obtain ⟨w1, w2, w3⟩ := whole_cl hg xs d hdd d.length (Nat.le_refl _)
  rw [List.take_of_length_le (Nat.le_refl _)] at w2
  have hhd := whole_head (G := G) (N := N) xs d j
  rw [← hj] at hhd
  obtain ⟨W, hW⟩ : ∃ W, wholeN G N xs d d.length = W := ⟨_, rfl⟩
  rw [hW] at w1 w2 w3 hhd ⊢
  obtain ⟨x, hx⟩ : ∃ x, d.getD 0 0 = x := ⟨_, rfl⟩
  have hxd : isD x = true := by
    rw [← hx, List.getD_eq_getElem?_getD, List.getElem?_eq_getElem (by omega : 0 < d.length)]; exact hdd _ (List.getElem_mem _)
  rw [hx] at hhd
  obtain ⟨r0, hr0⟩ : ∃ r0, N + ((x.toNat : Int) - 48) = r0 := ⟨_, rfl⟩
  have hc0 : isD (clsC P G M N r0 (encL r0).length) = true := by rw [← hr0, cl_dig hg hxd broken_no]; exact hxd
  rw [hr0] at hhd
  obtain ⟨T, hT⟩ : ∃ T, W.tail = T := ⟨_, rfl⟩
  rw [hT] at hhd
  subst hhd
  have hA : ∀ r ∈ (if 0 < f then [M] else []), stdR r ∧ isD (clsC P G M N r (encL r).length) = false := by
    intro r hr
    split at hr
    · rw [List.mem_singleton] at hr; subst hr
      have := cl_mark hg (b := 45) (.inr (.inl rfl)) (n := (encL r).length) broken_no
      exact ⟨hg.sM, by rw [show markB P r N 45 = r from rfl] at this; rw [this]; decide⟩
    · cases hr
  have hstd : ∀ r ∈ (if 0 < f then [M] else []) ++ (r0 :: T) ++ (l.drop e).map (markB P M N), stdR r := by
    intro r hr
    rcases List.mem_append.1 hr with hr | hr
    · rcases List.mem_append.1 hr with hr | hr
      · exact (hA r hr).1
      · exact w3 r hr
    · obtain ⟨b, hb, rfl⟩ := List.mem_map.1 hr
      exact std_mark hg (hpd b hb)
  rw [tkV_rns, rns_enc _ hstd]
  have hf := tk_form (P := P) (G := G) (M := M) (N := N) ((if 0 < f then [M] else []).map (fun r => (r, (encL r).length))) (r0, (encL r0).length) (T.map (fun r => (r, (encL r).length))) (((l.drop e).map (markB P M N)).map (fun r => (r, (encL r).length)))
    (by intro p hp; obtain ⟨r, hr, rfl⟩ := List.mem_map.1 hp; exact (hA r hr).2) hc0
    (by intro p hp; obtain ⟨r, hr, rfl⟩ := List.mem_map.1 hp; exact w1 r (List.mem_cons_of_mem _ hr))
    (by
      intro p E hE
      cases hq : l.drop e with
      | nil => rw [hq] at hE; simp at hE
      | cons b t =>
        rw [hq] at hE hpd
        simp only [List.map_cons, List.cons.injEq] at hE
        obtain ⟨rfl, _⟩ := hE
        have hb := hpd b (by simp)
        have hel : e < l.length := by
          have := congrArg List.length hq
          rw [List.length_drop] at this; simp at this; omega
        have hbe : l.getD e 0 = b := by
          have := congrArg (fun z => z.getD 0 0) hq
          simpa using this
        show isD (clsC P G M N (markB P M N b) _) = false ∧ clsC P G M N (markB P M N b) _ ≠ 103
        rw [cl_mark hg hb broken_no]
        exact ⟨by rw [← hbe]; exact hst hel, (PlB_not hb).1⟩)
  rw [List.map_append, List.map_append, List.map_cons]
  refine ⟨?_, ?_⟩
  · rw [hf.1]
    have e1 : List.map (cl P G M N) ((if 0 < f then [M] else []).map (fun r => (r, (encL r).length))) = if 0 < f then [45] else [] := by
      split
      · have := cl_mark hg (b := 45) (.inr (.inl rfl)) (n := (encL M).length) broken_no
        rw [show markB P M N 45 = M from rfl] at this
        simp [this]
      · rfl
    have e2 : (List.map (cl P G M N) ((r0, (encL r0).length) :: T.map (fun r => (r, (encL r).length)))).filter isD = d := by
      have := w2
      rw [List.map_cons] at this
      rw [List.map_cons, List.map_map]
      exact this
    have e3 : List.map (cl P G M N) (((l.drop e).map (markB P M N)).map (fun r => (r, (encL r).length))) = l.drop e := by
      rw [List.map_map, List.map_map]
      conv => rhs; rw [← List.map_id (l.drop e)]
      refine List.map_congr_left (fun b hb => ?_)
      exact cl_mark hg (hpd b hb) broken_no
    rw [e1, e2, e3]
    exact hsp.symm
  · rw [hf.2, List.map_cons, List.map_map]
    congr 1
    conv => rhs; rw [← List.map_id T]
    rfl
theorem misN_refl : ∀ (s : List Int) (i : Nat), misN s s i = none
  | [], _ => rfl
  | a :: s, i => by rw [misN, if_pos rfl, misN_refl]
theorem misN_none : ∀ (s t : List Int) (i : Nat), misN s t i = none → s = t
  | [], [], _, _ => rfl
  | [], _ :: _, _, h => by simp [misN] at h
  | _ :: _, [], _, h => by simp [misN] at h
  | a :: s, b :: t, i, h => by
    rw [misN] at h
    split at h
    · rename_i e; rw [e, misN_none s t _ h]
    · cases h
/-- What was put: its parts. -/
theorem put_parts {P G M N : Int} {xs : List Int} {l t : List UInt8} {z : Int} (h : putV P G M N xs l = (t, 0, z)) : ckv P G M N xs = 0 ∧ l.length ≤ 65536 ∧ ∃ f e, shpB l = (-1, f, e) ∧ t = (putL P G M N xs l f e).flatMap encL ∧ t.length ≤ 65536 ∧ z = 0 := by
  unfold putV at h
  split at h
  · rename_i q; simp only [Prod.mk.injEq] at h; exact absurd h.2.1 q
  rename_i q
  have q2 : rdy P G M N xs l.length = 0 := by simpa using q
  obtain ⟨h1, h2⟩ := rdy_ok q2
  split at h
  · simp only [Prod.mk.injEq] at h; omega
  rename_i q3
  split at h
  · simp only [Prod.mk.injEq] at h; omega
  rename_i q4
  simp only [Prod.mk.injEq, true_and] at h
  obtain ⟨h3, h4⟩ := h
  have hm := shpB_m1 l
  refine ⟨h1, h2, (shpB l).2.1, (shpB l).2.2, ?_, by rw [← h3, rb_flat], by rw [← h3]; omega, h4.symm⟩
  apply Prod.ext
  · show (shpB l).1 = -1
    omega
  · rfl
theorem put_of {P G M N : Int} {xs : List Int} {l : List UInt8} {f e : Nat} (h1 : ckv P G M N xs = 0) (h2 : l.length ≤ 65536) (h3 : shpB l = (-1, f, e)) (h4 : ((putL P G M N xs l f e).flatMap encL).length ≤ 65536) : putV P G M N xs l = ((putL P G M N xs l f e).flatMap encL, 0, 0) := by
  have hr : rdy P G M N xs l.length = 0 := by unfold rdy; rw [if_neg (fun q => q h1), if_neg (by omega)]
  unfold putV
  rw [if_neg (fun q => q hr), h3]
  dsimp only
  rw [if_neg (by decide), rb_flat, if_neg (by omega)]
/-- What is put is taken back. -/
theorem take_put {P G M N : Int} {xs : List Int} {l t : List UInt8} {z : Int} (h : putV P G M N xs l = (t, 0, z)) : takeV P G M N xs t = (l, 0, 0) := by
  obtain ⟨h1, h2, f, e, h3, h4, h5, _⟩ := put_parts h
  have hg := good_of h1
  obtain ⟨t1, t2⟩ := tk_put hg xs h3
  rw [← h4] at t1 t2
  have hr : rdy P G M N xs t.length = 0 := by unfold rdy; rw [if_neg (fun q => q h1), if_neg (by omega)]
  unfold takeV
  rw [if_neg (fun q => q hr), t1, t2, h3]
  dsimp only
  rw [if_neg (by decide)]
  split
  · rw [misN_refl]; rfl
  · rfl
end Go.Proofs.YtebgmicpecekgaaDoor
end
