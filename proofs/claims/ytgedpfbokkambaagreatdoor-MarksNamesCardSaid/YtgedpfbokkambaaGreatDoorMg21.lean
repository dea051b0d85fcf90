/- Lemmas of this proof, laid together: MdH, MdI, MdJ, MdK, MdL. -/
import Derived.Test.YtgedpfbokkambaaGreatDoorMg18
import Derived.Test.YtgedpfbokkambaaGreatDoorMg20
import Derived.Deep.QuietTactic
import Derived.BigQuiet
import Derived.Test.YtgedpfbokkambaaGreatDoorMg15
set_option linter.unusedSimpArgs false
set_option linter.unusedVariables false
section
/- Marks: the document's answer: what a rune stands for; the state of a text that is gone through. -/
namespace Go.Proofs.YtgedpfbokkambaaGreatDoor
open Go.RowKit
attribute [local irreducible] Calls
set_option maxHeartbeats 4000000
set_option maxRecDepth 100000
/-- What a rune of marks stands for; -2: a Group; -3: nothing. -/
def rdI (P G M N : Int) (r : Int) : Int :=
  if r < 0 then -3 else if r = M then 45 else if r = P then 46 else if r = 101 then 101 else if G ≠ 0 ∧ r = G then -2 else if N ≤ r ∧ r ≤ N + 9 then 48 + r - N else -3
theorem md_read (P G M N : Int) (A : Option Addr) (k c : Nat) (r : Int) (hr : -1 ≤ r ∧ r ≤ 1114111) (hN : 0 ≤ N ∧ N + 9 ≤ 1114111) (w : World) :
    Calls Tryz.prog 32 #[mkV P G M N A k c, .int .i32 r] w fun e w' => e = .returned (.int .i32 (rdI P G M N r)) ∧ Ext w w' := by
  obtain ⟨y, hy⟩ : ∃ y, rdI P G M N r = y := ⟨_, rfl⟩
  rw [hy]
  unfold rdI at hy
  by_cases h0 : r < 0
  · rw [if_pos h0] at hy
    have q0 : decide (r < 0) = true := decide_eq_true h0
    subst hy
    go_enter Tryz.func32, Tryz.ntmps32
    go_wp2
    refine bodyPost_ret (v := .int .i32 (-3)) ?h rfl ⟨rfl, ?_⟩
    case h => simp [results, Tryz.results32, go_sem]
    repeat (first | exact ext_refl _ | assumption | refine ext_setCell ?_ (by simp; try omega) _ | refine ext_alloc ?_ _ | refine ext_drew ?_ | refine ext_drewN ?_ _ | refine ext_trans ?_ (Aft.use _) | refine ext_trans ?_ (by assumption))
  rw [if_neg h0] at hy
  have q0 : decide (r < 0) = false := decide_eq_false h0
  by_cases h1 : r = M
  · rw [if_pos h1] at hy
    subst h1 hy
    go_enter Tryz.func32, Tryz.ntmps32
    go_wp2
    refine bodyPost_ret (v := .int .i32 45) ?h rfl ⟨rfl, ?_⟩
    case h => simp [results, Tryz.results32, go_sem]
    repeat (first | exact ext_refl _ | assumption | refine ext_setCell ?_ (by simp; try omega) _ | refine ext_alloc ?_ _ | refine ext_drew ?_ | refine ext_drewN ?_ _ | refine ext_trans ?_ (Aft.use _) | refine ext_trans ?_ (by assumption))
  rw [if_neg h1] at hy
  have q1 : (r == M) = false := by simpa using h1
  by_cases h2 : r = P
  · rw [if_pos h2] at hy
    subst h2 hy
    clear h1
    go_enter Tryz.func32, Tryz.ntmps32
    go_wp2
    refine bodyPost_ret (v := .int .i32 46) ?h rfl ⟨rfl, ?_⟩
    case h => simp [results, Tryz.results32, go_sem]
    repeat (first | exact ext_refl _ | assumption | refine ext_setCell ?_ (by simp; try omega) _ | refine ext_alloc ?_ _ | refine ext_drew ?_ | refine ext_drewN ?_ _ | refine ext_trans ?_ (Aft.use _) | refine ext_trans ?_ (by assumption))
  rw [if_neg h2] at hy
  have q2 : (r == P) = false := by simpa using h2
  by_cases h3 : r = 101
  · rw [if_pos h3] at hy
    subst h3 hy
    clear h1 h2 h0
    go_enter Tryz.func32, Tryz.ntmps32
    go_wp2
    refine bodyPost_ret (v := .int .i32 101) ?h rfl ⟨rfl, ?_⟩
    case h => simp [results, Tryz.results32, go_sem]
    repeat (first | exact ext_refl _ | assumption | refine ext_setCell ?_ (by simp; try omega) _ | refine ext_alloc ?_ _ | refine ext_drew ?_ | refine ext_drewN ?_ _ | refine ext_trans ?_ (Aft.use _) | refine ext_trans ?_ (by assumption))
  rw [if_neg h3] at hy
  have q3 : (r == 101) = false := by simpa using h3
  by_cases h4 : G ≠ 0 ∧ r = G
  · rw [if_pos h4] at hy
    obtain ⟨h5, rfl⟩ := h4
    have q4 : (r != 0) = true := by simpa using h5
    have q4' : (r == 0) = false := by simpa using h5
    subst hy
    clear h1 h2 h3
    go_enter Tryz.func32, Tryz.ntmps32
    go_wp2
    refine bodyPost_ret (v := .int .i32 (-2)) ?h rfl ⟨rfl, ?_⟩
    case h => simp [results, Tryz.results32, go_sem]
    repeat (first | exact ext_refl _ | assumption | refine ext_setCell ?_ (by simp; try omega) _ | refine ext_alloc ?_ _ | refine ext_drew ?_ | refine ext_drewN ?_ _ | refine ext_trans ?_ (Aft.use _) | refine ext_trans ?_ (by assumption))
  rw [if_neg h4] at hy
  have hG : G = 0 ∨ (G ≠ 0 ∧ r ≠ G) := by by_cases q : G = 0; exact .inl q; exact .inr ⟨q, fun e => h4 ⟨q, e⟩⟩
  have HY := Lib.hid hy
  clear hy h4 h1 h2 h3
  have fin : ∀ (g1 g2 : Bool), (G != 0) = g1 → (r == G) = g2 → (g1 && g2) = false → Calls Tryz.prog 32 #[mkV P G M N A k c, .int .i32 r] w fun e w' => e = .returned (.int .i32 y) ∧ Ext w w' := by
    intro g1 g2 e1 e2 e3
    by_cases h5 : N ≤ r
    · have q5 : decide (N ≤ r) = true := decide_eq_true h5
      by_cases h6 : r ≤ N + 9
      · have q6 : decide (r ≤ N + 9) = true := decide_eq_true h6
        have hv : y = 48 + r - N := by rw [← HY.out, if_pos ⟨h5, h6⟩]
        have hb : 0 ≤ r - N ∧ r - N ≤ 9 := by omega
        cases g1 <;> cases g2 <;> first | (cases e3; done) | skip
        all_goals
          go_enter Tryz.func32, Tryz.ntmps32
          go_wp2
          refine bodyPost_ret (v := .int .i32 (48 + r - N)) ?h rfl ⟨by first | rfl | rw [hv], ?_⟩
          case h => simp [results, Tryz.results32, go_sem]
          repeat (first | exact ext_refl _ | assumption | refine ext_setCell ?_ (by simp; try omega) _ | refine ext_alloc ?_ _ | refine ext_drew ?_ | refine ext_drewN ?_ _ | refine ext_trans ?_ (Aft.use _) | refine ext_trans ?_ (by assumption))
      · have q6 : decide (r ≤ N + 9) = false := decide_eq_false h6
        have hv : y = -3 := by rw [← HY.out, if_neg (fun q => h6 q.2)]
        cases g1 <;> cases g2 <;> first | (cases e3; done) | skip
        all_goals
          go_enter Tryz.func32, Tryz.ntmps32
          go_wp2
          refine bodyPost_ret (v := .int .i32 (-3)) ?h rfl ⟨by first | rfl | rw [hv], ?_⟩
          case h => simp [results, Tryz.results32, go_sem]
          repeat (first | exact ext_refl _ | assumption | refine ext_setCell ?_ (by simp; try omega) _ | refine ext_alloc ?_ _ | refine ext_drew ?_ | refine ext_drewN ?_ _ | refine ext_trans ?_ (Aft.use _) | refine ext_trans ?_ (by assumption))
    · have q5 : decide (N ≤ r) = false := decide_eq_false h5
      have hv : y = -3 := by rw [← HY.out, if_neg (fun q => h5 q.1)]
      cases g1 <;> cases g2 <;> first | (cases e3; done) | skip
      all_goals
        go_enter Tryz.func32, Tryz.ntmps32
        go_wp2
        refine bodyPost_ret (v := .int .i32 (-3)) ?h rfl ⟨by first | rfl | rw [hv], ?_⟩
        case h => simp [results, Tryz.results32, go_sem]
        repeat (first | exact ext_refl _ | assumption | refine ext_setCell ?_ (by simp; try omega) _ | refine ext_alloc ?_ _ | refine ext_drew ?_ | refine ext_drewN ?_ _ | refine ext_trans ?_ (Aft.use _) | refine ext_trans ?_ (by assumption))
  rcases hG with rfl | ⟨h5, h6⟩
  · exact fin false (r == 0) rfl rfl rfl
  · exact fin true false (by simpa using h5) (by simpa using h6) rfl
/-- What the document gathers of a text's runes. -/
structure DS where
  out : List Int
  own : List Int
  bg : Bool
  wh : Bool
  fr : Nat
  en : Nat
  gr : Bool
def dsStep (s : DS) (t : Nat) (r : Int) : DS :=
  let dg := decide (48 ≤ r ∧ r ≤ 57)
  let fr := if (dg && !s.bg) = true then t else s.fr
  let en0 := if (dg && !s.bg) = true then t else s.en
  let bg := s.bg || dg
  let c := bg && s.wh && (dg || decide (r = -2))
  let en := if c = true then t + 1 else en0
  let wh := if c = true then s.wh else if bg = true then false else s.wh
  if (decide (r = -2) && bg && wh) = true then ⟨s.out, s.own, bg, wh, fr, en, true⟩ else ⟨s.out ++ [r], s.own ++ [(t : Int)], bg, wh, fr, en, s.gr⟩
def dsR : List Int → Nat → DS → DS
  | [], _, s => s
  | r :: R, t, s => dsR R (t + 1) (dsStep s t r)
def ds0 : DS := ⟨[], [], false, true, 0, 0, false⟩
theorem dsR_app : ∀ (R S : List Int) (t : Nat) (s : DS), dsR (R ++ S) t s = dsR S (t + R.length) (dsR R t s)
  | [], S, t, s => by simp [dsR]
  | r :: R, S, t, s => by rw [List.cons_append, dsR, dsR, dsR_app R S, List.length_cons, show t + (R.length + 1) = t + 1 + R.length by omega]
theorem dsR_succ {R : List Int} {i : Nat} (h : i < R.length) (s : DS) : dsR (R.take (i + 1)) 0 s = dsStep (dsR (R.take i) 0 s) i R[i] := by
  rw [List.take_succ_eq_append_getElem h, dsR_app, List.length_take, Nat.zero_add, Nat.min_eq_left (by omega)]; rfl
/-- How great a state is. -/
structure DsLe (s : DS) (t : Nat) : Prop where
  a : s.out.length ≤ t
  b : s.own.length = s.out.length
  c : s.fr ≤ t
  d : s.en ≤ t
theorem dsStep_le {s : DS} {t : Nat} (r : Int) (h : DsLe s t) : DsLe (dsStep s t r) (t + 1) := by
  obtain ⟨h1, h2, h3, h4⟩ := h
  simp only [dsStep]
  repeat' split
  all_goals constructor
  all_goals (try simp only [List.length_append, List.length_singleton])
  all_goals omega
theorem dsR_le : ∀ (R : List Int) (t : Nat) (s : DS), DsLe s t → DsLe (dsR R t s) (t + R.length)
  | [], _, _, h => h
  | r :: R, t, s, h => by
    have := dsR_le R (t + 1) (dsStep s t r) (dsStep_le r h)
    rw [dsR, List.length_cons, show t + (R.length + 1) = t + 1 + R.length by omega]; exact this
end Go.Proofs.YtgedpfbokkambaaGreatDoor
end
section
/- Marks: the document's answer: what Take gathers, and what it answers; the early faults. -/
namespace Go.Proofs.YtgedpfbokkambaaGreatDoor
open Go.RowKit
attribute [local go_sem] bs_size bs_extract bs_get bs_append bs_toList const_get
attribute [local irreducible] Calls
set_option maxHeartbeats 4000000
set_option maxRecDepth 100000
theorem rnsF_ok : ∀ (f : Nat) (l : List UInt8), l.length ≤ f → (rns l).length ≤ l.length ∧ ∀ p ∈ rns l, 0 ≤ p.1 ∧ p.1 ≤ 1114111
  | 0, l, h => by
    have : l = [] := List.length_eq_zero_iff.1 (by omega)
    subst this
    rw [rns_nil]; simp
  | f + 1, l, h => by
    by_cases hne : l = []
    · subst hne
      rw [rns_nil]; simp
    · have hw := Lib.decodeL_width l
      have hl : 0 < l.length := List.length_pos_iff.2 hne
      have hd : (l.drop (Lib.decodeL l).2).length = l.length - (Lib.decodeL l).2 := List.length_drop
      obtain ⟨h1, h2⟩ := rnsF_ok f (l.drop (Lib.decodeL l).2) (by omega)
      rw [rns_cons l hne, List.length_cons]
      refine ⟨by omega, fun p hp => ?_⟩
      rcases List.mem_cons.1 hp with rfl | hp
      · have := Lib.decodeL_rune l
        dsimp only
        omega
      · exact h2 p hp
theorem rns_le (l : List UInt8) : (rns l).length ≤ l.length := (rnsF_ok _ l (Nat.le_refl _)).1
theorem zR_range (l : List UInt8) : ∀ z ∈ (rns l).map zR, -1 ≤ z ∧ z ≤ 1114111 := by
  intro z hz
  obtain ⟨p, hp, rfl⟩ := List.mem_map.1 hz
  have := (rnsF_ok _ l (Nat.le_refl _)).2 p hp
  unfold zR
  split <;> omega
/-- A state's bounds that are seen over the whole way. -/
structure DsIn (s : DS) (t : Nat) : Prop where
  le : DsLe s t
  fe : s.fr ≤ s.en
  own : ∀ x ∈ s.own, 0 ≤ x ∧ x < (t : Int)
theorem dsStep_in {s : DS} {t : Nat} (r : Int) (h : DsIn s t) : DsIn (dsStep s t r) (t + 1) := by
  refine ⟨dsStep_le r h.le, ?_, ?_⟩
  · have h1 := h.fe
    have h2 := h.le.c
    simp only [dsStep]
    repeat' split
    all_goals (try dsimp only)
    all_goals omega
  · have h3 : ∀ x ∈ s.own ++ [(t : Int)], 0 ≤ x ∧ x < ((t + 1 : Nat) : Int) := by
      intro x hx
      rcases List.mem_append.1 hx with hx | hx
      · have := h.own x hx; omega
      · rw [List.mem_singleton] at hx; omega
    have h4 : ∀ x ∈ s.own, 0 ≤ x ∧ x < ((t + 1 : Nat) : Int) := fun x hx => h3 x (List.mem_append_left _ hx)
    simp only [dsStep]
    repeat' split
    all_goals first
      | exact h4
      | exact h3
theorem ds0_in : DsIn ds0 0 := ⟨⟨Nat.le_refl _, rfl, Nat.le_refl _, Nat.le_refl _⟩, Nat.le_refl _, fun x hx => by cases hx⟩
theorem dsR_in {R : List Int} : ∀ i, i ≤ R.length → DsIn (dsR (R.take i) 0 ds0) i
  | 0, _ => ds0_in
  | i + 1, h => by
    rw [dsR_succ (by omega : i < R.length)]
    exact dsStep_in _ (dsR_in i (by omega))
/-- What the document's Take gathers of a text. -/
def dsV (P G M N : Int) (l : List UInt8) : DS := dsR (((rns l).map zR).map (rdI P G M N)) 0 ds0
/-- The runes of the whole part without the Groups. -/
def dgL (G : Int) (Z : List Int) (f e : Nat) : List Int := ((Z.take e).drop f).filter (fun z => decide (z ≠ G))
/-- The answer, by what was gathered. -/
def dtS (G : Int) (xs : List Int) (Z pl : List Int) (s : DS) : List UInt8 × Int × Int :=
  if 0 ≤ (shpB (s.out.map encB)).1 then
    ([], (if Z[((s.own ++ [(Z.length : Int)]).getD (shpB (s.out.map encB)).1.toNat 0).toNat]? = some (-1) then 114 else 12), pl.getD ((s.own ++ [(Z.length : Int)]).getD (shpB (s.out.map encB)).1.toNat 0).toNat 0)
  else if s.gr = true then misA (misN ((Z.take s.en).drop s.fr) (grpN G xs (dgL G Z s.fr s.en) (dgL G Z s.fr s.en).length) 0) (pl.drop s.fr) (s.out.flatMap encL)
  else (s.out.flatMap encL, 0, 0)
/-- What the document's Take answers. -/
def dtV (P G M N : Int) (xs : List Int) (l : List UInt8) : List UInt8 × Int × Int :=
  if rdy P G M N xs l.length ≠ 0 then ([], rdy P G M N xs l.length, 0) else dtS G xs ((rns l).map zR) (posL (rns l) 0 ++ [(l.length : Int)]) (dsV P G M N l)
theorem md_Take_early (P G M N : Int) (A : Option Addr) (k c : Nat) (xs : List Int) (l : List UInt8) (w : World) (hA : RdI w A k c xs) (hNb : -2147483648 ≤ N ∧ N ≤ 2147483647) (h : rdy P G M N xs l.length ≠ 0) :
    Calls Tryz.prog 11 #[mkV P G M N A k c, .string (bs l)] w fun e w' => e = .returned (.tuple #[.string (bs (dtV P G M N xs l).1), .agg #[.int .i64 (dtV P G M N xs l).2.1, .int .i64 (dtV P G M N xs l).2.2]]) ∧ Ext w w' := by
  have e0 := Lib.hid (fx_ext w P G M N A k c)
  have b1 := Lib.hid (fx_marks w P G M N A k c)
  have fx := Lib.hid (fx_made w P G M N A k c)
  have kc := Lib.hid (fun w' (h : Ext w w') => md_Check P G M N A k c xs w' (hA.ext h) hNb)
  have hv : dtV P G M N xs l = ([], rdy P G M N xs l.length, 0) := by unfold dtV; rw [if_pos h]
  rw [hv]
  unfold rdy at h ⊢
  obtain ⟨ck, hck⟩ : ∃ ck, ckv P G M N xs = ck := ⟨_, rfl⟩
  rw [hck] at kc h ⊢
  clear hv hck hA hNb
  by_cases h0 : ck = 0
  · subst h0
    have hlen : 65536 < l.length := by
      rcases Nat.lt_or_ge 65536 l.length with q | q
      · exact q
      · exfalso; apply h; rw [if_neg (fun q => q rfl), if_neg (by omega)]
    have hlen' : (65536 : Int) < (l.length : Int) := by omega
    rw [if_neg (fun q => q rfl), if_pos hlen]
    clear h
    go_enter Tryz.func11, Tryz.ntmps11
    go_wp2_with (first
      | (go_at_call 29; (with_reducible refine (kc.out _ (by (repeat (first | exact ext_refl _ | assumption | refine ext_setCell ?_ (by simp; try omega) _ | refine ext_alloc ?_ _ | refine ext_drew ?_ | refine ext_drewN ?_ _ | refine ext_trans ?_ (Aft.use _) | refine ext_trans ?_ (by assumption))))).mono ?_); rintro e w1 ⟨rfl, hE1⟩; have hX1 := hE1)
      | (go_at_call 30; (with_reducible refine (md_no 3 0 _).mono ?_); rintro e w2 ⟨rfl, hE2⟩; have hX2 := ext_trans hX1 hE2; obtain ⟨r0, r1, f0, f1, rl⟩ := fx.out.ext hX2))
    refine bodyPost_ret (v := .tuple #[.string (bs []), .agg #[.int .i64 3, .int .i64 0]]) ?h rfl ⟨rfl, fx_set hX2 _ _⟩
    case h => simp [results, Tryz.results11, go_sem, r0, r1]; rfl
  · have hb : (ck != 0) = true := by simpa using h0
    rw [if_pos h0]
    clear h
    go_enter Tryz.func11, Tryz.ntmps11
    go_wp2_with (first
      | (go_at_call 29; (with_reducible refine (kc.out _ (by (repeat (first | exact ext_refl _ | assumption | refine ext_setCell ?_ (by simp; try omega) _ | refine ext_alloc ?_ _ | refine ext_drew ?_ | refine ext_drewN ?_ _ | refine ext_trans ?_ (Aft.use _) | refine ext_trans ?_ (by assumption))))).mono ?_); rintro e w1 ⟨rfl, hE1⟩; have hX1 := hE1)
      | (go_at_call 30; (with_reducible refine (md_no ck 0 _).mono ?_); rintro e w2 ⟨rfl, hE2⟩; have hX2 := ext_trans hX1 hE2; obtain ⟨r0, r1, f0, f1, rl⟩ := fx.out.ext hX2))
    refine bodyPost_ret (v := .tuple #[.string (bs []), .agg #[.int .i64 ck, .int .i64 0]]) ?h rfl ⟨rfl, fx_set hX2 _ _⟩
    case h => simp [results, Tryz.results11, go_sem, r0, r1]; rfl
end Go.Proofs.YtgedpfbokkambaaGreatDoor
end
section
/- Marks: the document's answer: Take: the walk. -/
namespace Go.Proofs.YtgedpfbokkambaaGreatDoor
open Go.RowKit
attribute [local go_sem] bs_size bs_extract bs_get bs_append bs_toList const_get
attribute [local irreducible] Calls
set_option maxHeartbeats 4000000
set_option maxRecDepth 100000
theorem dgL_zero (G : Int) (Z : List Int) (f : Nat) : dgL G Z f f = [] := by
  unfold dgL
  rw [List.drop_of_length_le (by rw [List.length_take]; omega)]; rfl
theorem dgL_succ {G : Int} {Z : List Int} {f i : Nat} (hf : f ≤ i) (h : i < Z.length) : dgL G Z f (i + 1) = dgL G Z f i ++ (if Z[i] ≠ G then [Z[i]] else []) := by
  unfold dgL
  rw [List.take_succ_eq_append_getElem h, List.drop_append_of_le_length (by rw [List.length_take]; omega), List.filter_append]
  congr 1
  split <;> simp [*]
theorem dgL_len (G : Int) (Z : List Int) (f i : Nat) : (dgL G Z f i).length ≤ i := by
  unfold dgL
  refine Nat.le_trans (List.length_filter_le _ _) ?_
  rw [List.length_drop, List.length_take]; omega
theorem md_Take_main (P G M N : Int) (A : Option Addr) (k c : Nat) (xs : List Int) (l : List UInt8) (w : World) (hT : LwT w) (hA : RdI w A k c xs) (hNb : -2147483648 ≤ N ∧ N ≤ 2147483647) (h : rdy P G M N xs l.length = 0) :
    Calls Tryz.prog 11 #[mkV P G M N A k c, .string (bs l)] w fun e w' => e = .returned (.tuple #[.string (bs (dtV P G M N xs l).1), .agg #[.int .i64 (dtV P G M N xs l).2.1, .int .i64 (dtV P G M N xs l).2.2]]) ∧ Ext w w' := by
  obtain ⟨hck, hl⟩ := rdy_ok h
  obtain ⟨hN, hall, -, hso⟩ := szOk_of hA.len hck
  have h9 := (good_of hck).sN 9 (by omega)
  have hv : dtV P G M N xs l = dtS G xs ((rns l).map zR) (posL (rns l) 0 ++ [(l.length : Int)]) (dsV P G M N l) := by unfold dtV; rw [if_neg (fun q => q h)]
  have hrl := rns_le l
  have hzr := zR_range l
  have kr := Lib.hid (fun w' (h : Ext w w') => md_runes l (by omega) w' (hT.ext h))
  have hZl : ((rns l).map zR).length = (rns l).length := List.length_map ..
  have hPl : (posL (rns l) 0 ++ [(l.length : Int)]).length = (rns l).length + 1 := by rw [List.length_append, posL_len]; rfl
  unfold dsV at hv
  generalize (rns l).map zR = Z at *
  generalize posL (rns l) 0 ++ [(l.length : Int)] = pl at *
  generalize (rns l).length = n at *
  generalize dtV P G M N xs l = V at *
  obtain ⟨S, hS0, hSn, hSi, hSf⟩ : ∃ S : Nat → DS, S 0 = ds0 ∧ (∀ i (hi : i < n), S (i + 1) = dsStep (S i) i (rdI P G M N (Z[i]'(by omega)))) ∧ (∀ i, i ≤ n → DsIn (S i) i) ∧ dsR (Z.map (rdI P G M N)) 0 ds0 = S n := by
    have hml : (Z.map (rdI P G M N)).length = n := by rw [List.length_map]; exact hZl
    refine ⟨fun i => dsR ((Z.map (rdI P G M N)).take i) 0 ds0, rfl, fun i hi => ?_, fun i hi => dsR_in i (by omega), ?_⟩
    · dsimp only
      rw [dsR_succ (by omega : i < (Z.map (rdI P G M N)).length), List.getElem_map]
    · dsimp only
      rw [List.take_of_length_le (by omega)]
  rw [hSf] at hv
  have HV := Lib.hid hv
  have e0 := Lib.hid (fx_ext w P G M N A k c)
  have b1 := Lib.hid (fx_marks w P G M N A k c)
  have fx := Lib.hid (fx_made w P G M N A k c)
  have kc := Lib.hid (fun w' (h : Ext w w') => md_Check P G M N A k c xs w' (hA.ext h) hNb)
  rw [hck] at kc
  have kd := Lib.hid (fun (z : Int) (hz : -1 ≤ z ∧ z ≤ 1114111) (w' : World) => md_read P G M N A k c z hz ⟨hN.1, by unfold stdR at h9; omega⟩ w')
  have HA := Lib.hid hA
  have HSO := Lib.hid hso
  have HN := Lib.hid hN
  have hl2 : ¬ (65536 : Int) < (l.length : Int) := by omega
  have HZR := Lib.hid hzr
  have HSn := Lib.hid hSn
  have HSi := Lib.hid hSi
  clear hck hA hNb h hso hall hN hv hSf hT h9 hzr hSn hSi
  go_enter Tryz.func11, Tryz.ntmps11
  go_wp2_with (first
    | (go_at_call 29; (with_reducible refine (kc.out _ (by (repeat (first | exact ext_refl _ | assumption | refine ext_setCell ?_ (by simp; try omega) _ | refine ext_alloc ?_ _ | refine ext_drew ?_ | refine ext_drewN ?_ _ | refine ext_trans ?_ (Aft.use _) | refine ext_trans ?_ (by assumption))))).mono ?_); rintro e w1 ⟨rfl, hE1⟩; have hX1 := hE1)
    | (go_at_call 31; (with_reducible refine (kr.out _ (by (repeat (first | exact ext_refl _ | assumption | refine ext_setCell ?_ (by simp; try omega) _ | refine ext_alloc ?_ _ | refine ext_drew ?_ | refine ext_drewN ?_ _ | refine ext_trans ?_ (Aft.use _) | refine ext_trans ?_ (by assumption))))).mono ?_); rintro e w2 ⟨v1, v2, rfl, hE2, hO2, hC2⟩; have hX2 := ext_trans hX1 hE2; obtain ⟨A1, c1, rfl⟩ := own_shape hO2.out; obtain ⟨A2, c2, rfl⟩ := own_shape hC2.out))
  have HX2 := Lib.hid hX2
  clear kc kr hE1 hX1 hE2 hX2
  go_loopw [9, 10, 11, 12, 13, 14, 15, 16] (fun vo vc vb vw vf ve vg vi wr => ∃ i : Nat, i ≤ n ∧ vi = .int .i64 i ∧ vb = .bool (S i).bg ∧ vw = .bool (S i).wh ∧ vf = .int .i64 ((S i).fr : Nat) ∧ ve = .int .i64 ((S i).en : Nat) ∧ vg = .bool (S i).gr ∧ Hid (OwnR wr w2.heap.size vo (S i).out.length (S i).out) ∧ Hid (OwnI wr w2.heap.size vc (S i).out.length (S i).own) ∧ Hid (Ext w2 wr)) (fun _ _ _ _ _ _ _ vi _ => n - (intOf vi).toNat)
  case atStart =>
    refine ⟨0, Nat.zero_le _, rfl, ?_⟩
    rw [hS0]
    exact ⟨rfl, rfl, rfl, rfl, rfl, ⟨rfl, .inl ⟨rfl, rfl⟩⟩, ⟨rfl, .inl ⟨rfl, rfl⟩⟩, ext_refl _⟩
  case round =>
    obtain ⟨i, hi, rfl, rfl, rfl, rfl, rfl, rfl, hO, hC, hE⟩ := hrel
    have hsz := ext_size hE.out
    have hdi := HSi.out i hi
    by_cases hlt : i < n
    · have hlt2 : (i : Int) < (n : Int) := by omega
      have hd0 : decide ((i : Int) < (n : Int)) = true := decide_eq_true hlt2
      have hsn := HSn.out i hlt
      have hzi : i < Z.length := by omega
      obtain ⟨z, hz⟩ : ∃ z, Z[i]'hzi = z := ⟨_, rfl⟩
      have hzq := HZR.out z (by rw [← hz]; exact List.getElem_mem _)
      rw [hz] at hsn
      have kz := Lib.hid (kd.out z hzq)
      obtain ⟨y, hy⟩ : ∃ y, rdI P G M N z = y := ⟨_, rfl⟩
      rw [hy] at hsn kz
      obtain ⟨g1, rfl⟩ : ∃ g, A1 = some ⟨g, 0, none⟩ := by
        obtain ⟨g, c', hv, _⟩ := own_get hO2.out (by omega)
        cases hv; exact ⟨g, rfl⟩
      have hol := hdi.le.a
      obtain ⟨s, hs⟩ : ∃ s, S i = s := ⟨_, rfl⟩
      rw [hs] at hsn hO hC hdi hol ⊢
      obtain ⟨out, own, bg, wh, fr, en, gr⟩ := s
      dsimp only at hsn hO hC hol ⊢
      have hcz : w2.cell? ⟨g1, i, none⟩ = some (.int .i32 z) := by
        rw [hO2.out.cellAt i (by omega), List.getElem?_map, List.getElem?_eq_getElem hzi, hz]; rfl
      have hgl := own_lt (own_zero hO2.out) rfl
      have hcr : wr.cell? ⟨g1, i, none⟩ = some (.int .i32 z) := (Below.cell (p := ⟨g1, i, none⟩) hE.out hgl).trans hcz
      have hgr : g1 < wr.heap.size := Nat.lt_of_lt_of_le hgl (ext_size hE.out)
      obtain ⟨m0, m1, m2, m3, m4, ml⟩ := b1.out.ext (ext_trans HX2.out hE.out)
      clear hs hz hy hdi
      have HL1 := Lib.hid (fun (w9 : World) (v : Value) (yy : Int) (h : Hid (OwnR w9 w2.heap.size v (out.length + 1) (out ++ [yy]))) => show Hid (OwnR w9 w2.heap.size v (out ++ [yy]).length (out ++ [yy])) from by rw [List.length_append]; exact h)
      have HL2 := Lib.hid (fun (w9 : World) (v : Value) (yy : Int) (h : Hid (OwnI w9 w2.heap.size v (out.length + 1) (own ++ [(i : Int)]))) => show Hid (OwnI w9 w2.heap.size v (out ++ [yy]).length (own ++ [(i : Int)])) from by rw [List.length_append]; exact h)
      rcases Decidable.em (48 ≤ y ∧ y ≤ 57) with hdg | hdg
      · have p1 : decide (48 ≤ y ∧ y ≤ 57) = true := decide_eq_true hdg
        obtain ⟨hdg1, hdg2⟩ := hdg
        have p2 : decide (48 ≤ y) = true := decide_eq_true hdg1
        have p3 : decide (y ≤ 57) = true := decide_eq_true hdg2
        have p4 : decide (y = -2) = false := decide_eq_false (by omega)
        have p5 : (y == -2) = false := by simpa using p4
        cases bg <;> cases wh
        all_goals simp [dsStep, p1, p4] at hsn
        all_goals go_wp2
        all_goals go_region_with (first
          | (go_at_call 32; (with_reducible refine (kz.out _).mono ?_); rintro e w3 ⟨rfl, hE3q⟩; have hE3 : Ext wr w3 := (by have q := hE3q; (repeat (first | exact ext_refl _ | assumption | refine ext_setCell ?_ (by simp; try omega) _ | refine ext_alloc ?_ _ | refine ext_drew ?_ | refine ext_drewN ?_ _ | refine ext_trans ?_ (Aft.use _) | refine ext_trans ?_ (by assumption)))); have hX3 := ext_trans hE.out hE3; have hs3 := ext_size hX3; have hO3 := own_ext hO.out hE3; have hC3 := own_ext hC.out hE3))
        all_goals go_wp2_with (first
          | (at_builtin; refine push_i32h rfl _ _ rfl _ rfl hX3 (Nat.le_refl _) hs3 hO3 rfl y ⟨_, 0, none⟩ 1 rfl (by simp [go_sem, rV]; done) (by omega) ?_; intro v4 w4 hE4 hO4 hK4 _; have hs4 := ext_size hE4; have hC4 := keep_i hO3 hC3 hK4.out)
          | (at_builtin; refine push_intg rfl _ _ rfl _ rfl hE4 (Nat.le_refl _) hs4 hC4 rfl (i : Int) ⟨_, 0, none⟩ 1 rfl (by simp [go_sem, iV]; done) (by omega) ?_; intro v5 w5 hE5 hC5 hK5 _; have hO5 := Lib.hid (keep_r hO4.out hC4 hK5.out)))
        all_goals refine ⟨⟨i + 1, by omega, by go_num, ?_⟩, by simp [intOf] <;> omega⟩
        all_goals rw [hsn]
        all_goals first
          | exact ⟨rfl, rfl, rfl, by first | rfl | go_num, rfl, HL1.out _ _ _ hO5, HL2.out _ _ _ hC5, hE5⟩
          | exact ⟨rfl, rfl, rfl, by first | rfl | go_num, rfl, Lib.hid hO3, Lib.hid hC3, Lib.hid hX3⟩
      · have p1 : decide (48 ≤ y ∧ y ≤ 57) = false := decide_eq_false hdg
        by_cases hy2 : y = -2
        · subst hy2
          cases bg <;> cases wh
          all_goals simp [dsStep] at hsn
          all_goals clear p1 hdg
          all_goals go_wp2
          all_goals go_region_with (first
            | (go_at_call 32; (with_reducible refine (kz.out _).mono ?_); rintro e w3 ⟨rfl, hE3q⟩; have hE3 : Ext wr w3 := (by have q := hE3q; (repeat (first | exact ext_refl _ | assumption | refine ext_setCell ?_ (by simp; try omega) _ | refine ext_alloc ?_ _ | refine ext_drew ?_ | refine ext_drewN ?_ _ | refine ext_trans ?_ (Aft.use _) | refine ext_trans ?_ (by assumption)))); have hX3 := ext_trans hE.out hE3; have hs3 := ext_size hX3; have hO3 := own_ext hO.out hE3; have hC3 := own_ext hC.out hE3))
          all_goals go_wp2_with (first
            | (at_builtin; refine push_i32h rfl _ _ rfl _ rfl hX3 (Nat.le_refl _) hs3 hO3 rfl (-2) ⟨_, 0, none⟩ 1 rfl (by simp [go_sem, rV]; done) (by omega) ?_; intro v4 w4 hE4 hO4 hK4 _; have hs4 := ext_size hE4; have hC4 := keep_i hO3 hC3 hK4.out)
            | (at_builtin; refine push_intg rfl _ _ rfl _ rfl hE4 (Nat.le_refl _) hs4 hC4 rfl (i : Int) ⟨_, 0, none⟩ 1 rfl (by simp [go_sem, iV]; done) (by omega) ?_; intro v5 w5 hE5 hC5 hK5 _; have hO5 := Lib.hid (keep_r hO4.out hC4 hK5.out)))
          all_goals refine ⟨⟨i + 1, by omega, by go_num, ?_⟩, by simp [intOf] <;> omega⟩
          all_goals rw [hsn]
          all_goals first
            | exact ⟨rfl, rfl, rfl, by first | rfl | go_num, rfl, HL1.out _ _ _ hO5, HL2.out _ _ _ hC5, hE5⟩
            | exact ⟨rfl, rfl, rfl, by first | rfl | go_num, rfl, Lib.hid hO3, Lib.hid hC3, Lib.hid hX3⟩
        · have p4 : decide (y = -2) = false := decide_eq_false hy2
          have p5 : (y == -2) = false := by simpa using p4
          by_cases hlo : 48 ≤ y
          · have hhi : ¬ y ≤ 57 := fun q => hdg ⟨hlo, q⟩
            have p2 : decide (48 ≤ y) = true := decide_eq_true hlo
            have p3 : decide (y ≤ 57) = false := decide_eq_false hhi
            cases bg <;> cases wh
            all_goals simp [dsStep, p1, p4] at hsn
            all_goals clear p1 hdg hy2
            all_goals go_wp2
            all_goals go_region_with (first
              | (go_at_call 32; (with_reducible refine (kz.out _).mono ?_); rintro e w3 ⟨rfl, hE3q⟩; have hE3 : Ext wr w3 := (by have q := hE3q; (repeat (first | exact ext_refl _ | assumption | refine ext_setCell ?_ (by simp; try omega) _ | refine ext_alloc ?_ _ | refine ext_drew ?_ | refine ext_drewN ?_ _ | refine ext_trans ?_ (Aft.use _) | refine ext_trans ?_ (by assumption)))); have hX3 := ext_trans hE.out hE3; have hs3 := ext_size hX3; have hO3 := own_ext hO.out hE3; have hC3 := own_ext hC.out hE3))
            all_goals go_wp2_with (first
              | (at_builtin; refine push_i32h rfl _ _ rfl _ rfl hX3 (Nat.le_refl _) hs3 hO3 rfl y ⟨_, 0, none⟩ 1 rfl (by simp [go_sem, rV]; done) (by omega) ?_; intro v4 w4 hE4 hO4 hK4 _; have hs4 := ext_size hE4; have hC4 := keep_i hO3 hC3 hK4.out)
              | (at_builtin; refine push_intg rfl _ _ rfl _ rfl hE4 (Nat.le_refl _) hs4 hC4 rfl (i : Int) ⟨_, 0, none⟩ 1 rfl (by simp [go_sem, iV]; done) (by omega) ?_; intro v5 w5 hE5 hC5 hK5 _; have hO5 := Lib.hid (keep_r hO4.out hC4 hK5.out)))
            all_goals refine ⟨⟨i + 1, by omega, by go_num, ?_⟩, by simp [intOf] <;> omega⟩
            all_goals rw [hsn]
            all_goals first
              | exact ⟨rfl, rfl, rfl, by first | rfl | go_num, rfl, HL1.out _ _ _ hO5, HL2.out _ _ _ hC5, hE5⟩
              | exact ⟨rfl, rfl, rfl, by first | rfl | go_num, rfl, Lib.hid hO3, Lib.hid hC3, Lib.hid hX3⟩
          · have p2 : decide (48 ≤ y) = false := decide_eq_false hlo
            cases bg <;> cases wh
            all_goals simp [dsStep, p1, p4] at hsn
            all_goals clear p1 hdg hy2
            all_goals go_wp2
            all_goals go_region_with (first
              | (go_at_call 32; (with_reducible refine (kz.out _).mono ?_); rintro e w3 ⟨rfl, hE3q⟩; have hE3 : Ext wr w3 := (by have q := hE3q; (repeat (first | exact ext_refl _ | assumption | refine ext_setCell ?_ (by simp; try omega) _ | refine ext_alloc ?_ _ | refine ext_drew ?_ | refine ext_drewN ?_ _ | refine ext_trans ?_ (Aft.use _) | refine ext_trans ?_ (by assumption)))); have hX3 := ext_trans hE.out hE3; have hs3 := ext_size hX3; have hO3 := own_ext hO.out hE3; have hC3 := own_ext hC.out hE3))
            all_goals go_wp2_with (first
              | (at_builtin; refine push_i32h rfl _ _ rfl _ rfl hX3 (Nat.le_refl _) hs3 hO3 rfl y ⟨_, 0, none⟩ 1 rfl (by simp [go_sem, rV]; done) (by omega) ?_; intro v4 w4 hE4 hO4 hK4 _; have hs4 := ext_size hE4; have hC4 := keep_i hO3 hC3 hK4.out)
              | (at_builtin; refine push_intg rfl _ _ rfl _ rfl hE4 (Nat.le_refl _) hs4 hC4 rfl (i : Int) ⟨_, 0, none⟩ 1 rfl (by simp [go_sem, iV]; done) (by omega) ?_; intro v5 w5 hE5 hC5 hK5 _; have hO5 := Lib.hid (keep_r hO4.out hC4 hK5.out)))
            all_goals refine ⟨⟨i + 1, by omega, by go_num, ?_⟩, by simp [intOf] <;> omega⟩
            all_goals rw [hsn]
            all_goals first
              | exact ⟨rfl, rfl, rfl, by first | rfl | go_num, rfl, HL1.out _ _ _ hO5, HL2.out _ _ _ hC5, hE5⟩
              | exact ⟨rfl, rfl, rfl, by first | rfl | go_num, rfl, Lib.hid hO3, Lib.hid hC3, Lib.hid hX3⟩
    · have hin : n = i := by omega
      subst hin
      have hd0 : decide ((n : Int) < (n : Int)) = false := decide_eq_false (by omega)
      have hlt3 : ¬ (n : Int) < (n : Int) := by omega
      have hv := HV.out
      obtain ⟨s, hs⟩ : ∃ s, S n = s := ⟨_, rfl⟩
      rw [hs] at hO hC hdi hv ⊢
      obtain ⟨out, own, bg, wh, fr, en, gr⟩ := s
      have hol := hdi.le.a
      have how := hdi.le.b
      have hfe := hdi.fe
      have hen := hdi.le.d
      have hoi := hdi.own
      dsimp only at hO hC hol how hfe hen hoi ⊢
      unfold dtS at hv
      dsimp only at hv
      obtain ⟨B, d, rfl⟩ := own_shape hO.out
      obtain ⟨m, hm⟩ : ∃ m, out.length = m := ⟨_, rfl⟩
      rw [hm] at hO hC hol how ⊢
      have kp := Lib.hid (fun (w' : World) (h : RdR w' B m d out) => md_plain B m d out w' h)
      obtain ⟨bad, f, e, hsq⟩ : ∃ bad f e, shpB (out.map encB) = (bad, f, e) := ⟨_, _, _, rfl⟩
      have hm1 := shpB_m1 (out.map encB)
      have hle := shpB_le (out.map encB)
      rw [hsq, List.length_map, hm] at hle
      rw [hsq] at kp hv hm1
      dsimp only at kp hv hm1 hle
      have hcl : ∀ w', Ext w2 w' → ∀ j (hj : j < n), ∃ g1, A1 = some ⟨g1, 0, none⟩ ∧ g1 < w'.heap.size ∧ w'.cell? ⟨g1, j, none⟩ = some (.int .i32 (Z[j]'(by omega))) := fun w' hw j hj => by
        obtain ⟨g, c', hv, _⟩ := own_get hO2.out (by omega)
        cases hv
        have hgl := own_lt (own_zero hO2.out) rfl
        refine ⟨g, rfl, Nat.lt_of_lt_of_le hgl (ext_size hw), (Below.cell (p := ⟨g, j, none⟩) hw hgl).trans ?_⟩
        rw [hO2.out.cellAt j (by omega), List.getElem?_map, List.getElem?_eq_getElem (by omega : j < Z.length)]; rfl
      obtain ⟨g2, hA2, hcp⟩ : ∃ g2, A2 = some ⟨g2, 0, none⟩ ∧ ∀ w', Ext w2 w' → ∀ j, j ≤ n → g2 < w'.heap.size ∧ w'.cell? ⟨g2, j, none⟩ = some (.int .i64 (pl.getD j 0)) := by
        obtain ⟨g, c', hv, _⟩ := own_get hC2.out (by omega)
        cases hv
        have hgl := own_lt (own_zero hC2.out) rfl
        refine ⟨g, rfl, fun w' hw j hj => ⟨Nat.lt_of_lt_of_le hgl (ext_size hw), (Below.cell (p := ⟨g, j, none⟩) hw hgl).trans ?_⟩⟩
        rw [hC2.out.cellAt j (by omega), List.getElem?_map, List.getElem?_eq_getElem (by omega : j < pl.length), List.getD_eq_getElem?_getD, List.getElem?_eq_getElem (by omega : j < pl.length)]; rfl
      subst hA2
      have HCL := Lib.hid hcl
      have HCP := Lib.hid hcp
      have HV2 := Lib.hid hv
      have HOI := Lib.hid hoi
      have hm0 : bad = -1 → 0 < m := fun q => by
        subst q
        obtain ⟨_, h2, h3, _⟩ := shp_ok hsq
        rw [List.length_map, hm] at h3
        omega
      clear hcl hcp hv HV hs hsq hoi kd HSn HSi hdi HZR
      by_cases hb : 0 ≤ bad
      · obtain ⟨bn, rfl⟩ : ∃ bn : Nat, bad = bn := ⟨bad.toNat, by omega⟩
        have hb2 : decide ((0 : Int) ≤ (bn : Int)) = true := decide_eq_true hb
        have hv := HV2.out
        rw [if_pos hb, Int.toNat_natCast] at hv
        have hpl : bn < (own ++ [(n : Int)]).length := by rw [List.length_append]; simp; omega
        obtain ⟨t, ht⟩ : ∃ t : Nat, (own ++ [(Z.length : Int)]).getD bn 0 = (t : Int) ∧ t ≤ n := by
          rw [hZl]
          have := List.getElem_mem hpl
          rw [List.getD_eq_getElem?_getD, List.getElem?_eq_getElem hpl]
          simp only [Option.getD_some]
          rcases List.mem_append.1 this with hx | hx
          · have := HOI.out _ hx
            exact ⟨(own ++ [(n : Int)])[bn].toNat, by omega, by omega⟩
          · rw [List.mem_singleton] at hx
            exact ⟨n, hx, by omega⟩
        obtain ⟨ht1, ht2⟩ := ht
        rw [ht1, Int.toNat_natCast] at hv
        have HT3 : Hid (((own ++ [(n : Int)]).map iV)[bn]? = some (iV (t : Int))) := Lib.hid (by
          rw [hZl, List.getD_eq_getElem?_getD, List.getElem?_eq_getElem hpl] at ht1
          rw [List.getElem?_map, List.getElem?_eq_getElem hpl, ← ht1]; rfl)
        obtain ⟨pz, hpz⟩ : ∃ pz, pl.getD t 0 = pz := ⟨_, rfl⟩
        have HP3 := Lib.hid (fun (w' : World) (hw : Ext w2 w') => show g2 < w'.heap.size ∧ w'.cell? ⟨g2, t, none⟩ = some (.int .i64 pz) from hpz ▸ HCP.out w' hw t ht2)
        rw [hpz] at hv
        clear HV2 HOI HCP hpz
        by_cases htn : t < n
        · have htn2 : (t : Int) < (n : Int) := by omega
          have q1 : decide ((t : Int) < (n : Int)) = true := decide_eq_true htn2
          have htz : t < Z.length := by omega
          rw [List.getElem?_eq_getElem htz] at hv
          obtain ⟨z, hz⟩ : ∃ z, Z[t]'htz = z := ⟨_, rfl⟩
          have HC1 := Lib.hid (fun w' hw => HCL.out w' hw t htn)
          simp only [hz] at HC1
          rw [hz] at hv
          obtain ⟨g1, hA1, -, -⟩ := HC1.out w2 (ext_refl _)
          subst hA1
          have HC3 := Lib.hid (fun (w' : World) (hw : Ext w2 w') => show g1 < w'.heap.size ∧ w'.cell? ⟨g1, t, none⟩ = some (.int .i32 z) from by
            obtain ⟨g, hg, h1, h2⟩ := HC1.out w' hw
            cases hg; exact ⟨h1, h2⟩)
          clear HC1 HCL hz ht1
          by_cases hz1 : z = -1
          · subst hz1
            have hv3 : V = ([], 114, pz) := by rw [hv, if_pos rfl]
            have HV3 := Lib.hid hv3
            clear hv hv3
            go_wp2_with (first
              | (at_builtin; refine push_intg rfl _ _ rfl _ rfl hE.out (Nat.le_refl _) hsz hC.out rfl (n : Int) ⟨_, 0, none⟩ 1 rfl (by simp [go_sem, iV]; done) (by omega) ?_; intro v3 w3 hE3 hC3 hK3 _; have hO3 := keep_r hO.out hC.out hK3.out; obtain ⟨g3, c3, rfl, hb3, hl3, hc3⟩ := own_get hC3.out (by omega); have hq3 := hc3 bn (iV t) HT3.out)
              | (go_at_call 33; (with_reducible refine (kp.out _ (RdR.own hO3).1).mono ?_); rintro e w4 ⟨rfl, hE4⟩; have hX4 := ext_trans hE3 hE4; have hq4 := (Below.cell (p := ⟨g3, bn, none⟩) hE4 hl3).trans hq3; have hl4 := Nat.lt_of_lt_of_le hl3 (ext_size hE4); obtain ⟨p0, p1, p2, p3, p4, plx⟩ := b1.out.ext (ext_trans HX2.out hX4); obtain ⟨s1, s2⟩ := HC3.out _ hX4; obtain ⟨s3, s4⟩ := HP3.out _ hX4)
              | (go_at_call 30; (with_reducible refine (md_no 114 pz _).mono ?_); rintro e w5 ⟨rfl, hE5⟩; have hX5 := ext_trans HX2.out (ext_trans hX4 hE5); obtain ⟨r0, r1, f0, f1, rl⟩ := fx.out.ext hX5))
            refine bodyPost_ret (v := .tuple #[.string (bs []), .agg #[.int .i64 114, .int .i64 pz]]) ?h rfl ⟨by rw [HV3.out], fx_set hX5 _ _⟩
            case h => simp [results, Tryz.results11, go_sem, r0, r1]; rfl
          · have q2 : (z == -1) = false := by simpa using hz1
            have hv3 : V = ([], 12, pz) := by rw [hv, if_neg (fun q => hz1 (Option.some.inj q))]
            have HV3 := Lib.hid hv3
            clear hv hv3 hz1
            go_wp2_with (first
              | (at_builtin; refine push_intg rfl _ _ rfl _ rfl hE.out (Nat.le_refl _) hsz hC.out rfl (n : Int) ⟨_, 0, none⟩ 1 rfl (by simp [go_sem, iV]; done) (by omega) ?_; intro v3 w3 hE3 hC3 hK3 _; have hO3 := keep_r hO.out hC.out hK3.out; obtain ⟨g3, c3, rfl, hb3, hl3, hc3⟩ := own_get hC3.out (by omega); have hq3 := hc3 bn (iV t) HT3.out)
              | (go_at_call 33; (with_reducible refine (kp.out _ (RdR.own hO3).1).mono ?_); rintro e w4 ⟨rfl, hE4⟩; have hX4 := ext_trans hE3 hE4; have hq4 := (Below.cell (p := ⟨g3, bn, none⟩) hE4 hl3).trans hq3; have hl4 := Nat.lt_of_lt_of_le hl3 (ext_size hE4); obtain ⟨p0, p1, p2, p3, p4, plx⟩ := b1.out.ext (ext_trans HX2.out hX4); obtain ⟨s1, s2⟩ := HC3.out _ hX4; obtain ⟨s3, s4⟩ := HP3.out _ hX4)
              | (go_at_call 30; (with_reducible refine (md_no 12 pz _).mono ?_); rintro e w5 ⟨rfl, hE5⟩; have hX5 := ext_trans HX2.out (ext_trans hX4 hE5); obtain ⟨r0, r1, f0, f1, rl⟩ := fx.out.ext hX5))
            refine bodyPost_ret (v := .tuple #[.string (bs []), .agg #[.int .i64 12, .int .i64 pz]]) ?h rfl ⟨by rw [HV3.out], fx_set hX5 _ _⟩
            case h => simp [results, Tryz.results11, go_sem, r0, r1]; rfl
        · obtain rfl : t = n := by omega
          have q1 : decide ((t : Int) < (t : Int)) = false := hd0
          rw [List.getElem?_eq_none (by omega : Z.length ≤ t)] at hv
          have hv3 : V = ([], 12, pz) := by rw [hv, if_neg (by simp)]
          have HV3 := Lib.hid hv3
          clear HCL hv hv3 ht1
          go_wp2_with (first
            | (at_builtin; refine push_intg rfl _ _ rfl _ rfl hE.out (Nat.le_refl _) hsz hC.out rfl (t : Int) ⟨_, 0, none⟩ 1 rfl (by simp [go_sem, iV]; done) (by omega) ?_; intro v3 w3 hE3 hC3 hK3 _; have hO3 := keep_r hO.out hC.out hK3.out; obtain ⟨g3, c3, rfl, hb3, hl3, hc3⟩ := own_get hC3.out (by omega); have hq3 := hc3 bn (iV t) HT3.out)
            | (go_at_call 33; (with_reducible refine (kp.out _ (RdR.own hO3).1).mono ?_); rintro e w4 ⟨rfl, hE4⟩; have hX4 := ext_trans hE3 hE4; have hq4 := (Below.cell (p := ⟨g3, bn, none⟩) hE4 hl3).trans hq3; have hl4 := Nat.lt_of_lt_of_le hl3 (ext_size hE4); obtain ⟨p0, p1, p2, p3, p4, plx⟩ := b1.out.ext (ext_trans HX2.out hX4); obtain ⟨s3, s4⟩ := HP3.out _ hX4)
            | (go_at_call 30; (with_reducible refine (md_no 12 pz _).mono ?_); rintro e w5 ⟨rfl, hE5⟩; have hX5 := ext_trans HX2.out (ext_trans hX4 hE5); obtain ⟨r0, r1, f0, f1, rl⟩ := fx.out.ext hX5))
          refine bodyPost_ret (v := .tuple #[.string (bs []), .agg #[.int .i64 12, .int .i64 pz]]) ?h rfl ⟨by rw [HV3.out], fx_set hX5 _ _⟩
          case h => simp [results, Tryz.results11, go_sem, r0, r1]; rfl
      · have hm0' := hm0 (by omega)
        obtain rfl : bad = -1 := by omega
        have hv := HV2.out
        rw [if_neg hb] at hv
        obtain ⟨TT, hTT⟩ : ∃ TT, out.flatMap encL = TT := ⟨_, rfl⟩
        rw [hTT] at hv
        have HCV := Lib.hid (fun (w9 : World) (ho : OwnR w9 w2.heap.size (.slice B m d) m out) => show (convert 54 9 (.slice B m d)).run Tryz.prog w9 = .ok (.string (bs TT)) w9 from by
          obtain ⟨g9, c9, hv9, -, -⟩ := own_get ho hm0'
          cases hv9
          have hcr := (RdR.own ho).1
          have := run_convert_runes (P := Tryz.prog) w9 54 9 21 ⟨g9, 0, none⟩ m d out (by omega) i32_under i32_kind str_kind (fun j hj => ho.cells rfl j _ (by
            rw [List.getElem?_map, List.getElem?_eq_getElem (by omega), List.getD_eq_getElem?_getD, List.getElem?_eq_getElem (by omega)]; rfl))
          rw [List.take_of_length_le (by omega)] at this
          rw [this]
          obtain ⟨tb, htb⟩ := bs_of (runesBytes out)
          have h2 := rb_flat out
          rw [htb, bs_data, hTT] at h2
          rw [htb, h2])
        clear hb hle hm1 HV2 HOI hm0 hTT
        cases gr with
        | false =>
          have hv3 : V = (TT, 0, 0) := by rw [hv, if_neg (by simp)]
          have HV3 := Lib.hid hv3
          clear hv hv3 HCP HCL
          go_wp2_with (first
            | (at_builtin; refine push_intg rfl _ _ rfl _ rfl hE.out (Nat.le_refl _) hsz hC.out rfl (n : Int) ⟨_, 0, none⟩ 1 rfl (by simp [go_sem, iV]; done) (by omega) ?_; intro v3 w3 hE3 hC3 hK3 _; have hO3 := keep_r hO.out hC.out hK3.out; obtain ⟨g3, c3, rfl, hb3, hl3, hc3⟩ := own_get hC3.out (by omega))
            | (go_at_call 33; (with_reducible refine (kp.out _ (RdR.own hO3).1).mono ?_); rintro e w4 ⟨rfl, hE4⟩; have hX4 := ext_trans hE3 hE4; have hX5 := ext_trans HX2.out hX4; have hcv := HCV.out _ (own_ext hO3 hE4); obtain ⟨r0, r1, f0, f1, rl⟩ := fx.out.ext hX5))
          refine bodyPost_ret (v := .tuple #[.string (bs TT), .agg #[.int .i64 0, .int .i64 0]]) ?h rfl ⟨by rw [HV3.out], fx_set hX5 _ _⟩
          case h => simp [results, Tryz.results11, go_sem, r0, r1]
        | true =>
          rw [if_pos rfl] at hv
          have HV3 := Lib.hid hv
          clear hv
          go_wp2_with (first
            | (at_builtin; refine push_intg rfl _ _ rfl _ rfl hE.out (Nat.le_refl _) hsz hC.out rfl (n : Int) ⟨_, 0, none⟩ 1 rfl (by simp [go_sem, iV]; done) (by omega) ?_; intro v3 w3 hE3 hC3 hK3 _; have hO3 := keep_r hO.out hC.out hK3.out; obtain ⟨g3, c3, rfl, hb3, hl3, hc3⟩ := own_get hC3.out (by omega))
            | (go_at_call 33; (with_reducible refine (kp.out _ (RdR.own hO3).1).mono ?_); rintro e w4 ⟨rfl, hE4⟩; have hX4 := ext_trans hE3 hE4; have hO4 := Lib.hid (own_ext hO3 hE4)))
          have HX4 := Lib.hid hX4
          clear hE3 hC3 hK3 hO3 hc3 hE4 hO hC hE kp hX4
          go_loopw [23, 24] (fun vd vi wr => ∃ i : Nat, fr ≤ i ∧ i ≤ en ∧ vi = .int .i64 i ∧ Hid (OwnR wr w4.heap.size vd (dgL G Z fr i).length (dgL G Z fr i)) ∧ Hid (Ext w4 wr)) (fun _ vi _ => en - (intOf vi).toNat)
          case atStart => exact ⟨fr, Nat.le_refl _, hfe, rfl, by rw [dgL_zero]; exact ⟨rfl, .inl ⟨rfl, rfl⟩⟩, ext_refl _⟩
          case round =>
            obtain ⟨i, hi1, hi2, rfl, hD, hE⟩ := hrel
            have hsz := ext_size hE.out
            by_cases hlt : i < en
            · have hlt2 : (i : Int) < (en : Int) := by omega
              have hd1 : decide ((i : Int) < (en : Int)) = true := decide_eq_true hlt2
              have hzi : i < Z.length := by omega
              obtain ⟨z, hz⟩ : ∃ z, Z[i]'hzi = z := ⟨_, rfl⟩
              have hds := dgL_succ (G := G) (f := fr) hi1 hzi
              have hdl := dgL_len G Z fr i
              obtain ⟨g1, hA1, s1, s2⟩ := HCL.out wr (ext_trans HX4.out hE.out) i (by omega)
              subst hA1
              rw [hz] at hds s2
              obtain ⟨p0, p1, p2, p3, p4, plx⟩ := b1.out.ext (ext_trans HX2.out (ext_trans HX4.out hE.out))
              obtain ⟨D, hDq⟩ : ∃ D, dgL G Z fr i = D := ⟨_, rfl⟩
              rw [hDq] at hds hD hdl
              have HDS := Lib.hid hds
              clear hz hds hDq
              by_cases hgz : z = G
              · have q1 : (G != z) = false := by simp [hgz]
                rw [if_neg (fun q => q hgz), List.append_nil] at HDS
                go_wp2
                go_region
                all_goals go_wp2
                all_goals exact ⟨⟨i + 1, by omega, by omega, by go_num, by rw [HDS]; exact Lib.hid (own_ext hD.out (ext_drew (ext_refl _))), Lib.hid (ext_drew hE.out)⟩, by simp [intOf] <;> omega⟩
              · have q1 : (G != z) = true := by simp; exact fun q => hgz q.symm
                rw [if_pos hgz] at HDS
                have hEd := ext_drew hE.out
                have hszd := ext_size hEd
                have hDd := own_ext hD.out (ext_drew (ext_refl wr))
                go_wp2
                go_region
                all_goals go_wp2_with (first
                  | (at_builtin; refine push_i32h rfl _ _ rfl _ rfl hEd (Nat.le_refl _) hszd hDd rfl z ⟨_, 0, none⟩ 1 rfl (by simp [go_sem, rV]; done) (by omega) ?_; intro v5 w5 hE5 hD5 hK5 _))
                all_goals exact ⟨⟨i + 1, by omega, by omega, by go_num, by rw [HDS, List.length_append]; exact hD5, hE5⟩, by simp [intOf] <;> omega⟩
            · have hin : en = i := by omega
              subst hin
              have hd1 : decide ((en : Int) < (en : Int)) = false := decide_eq_false (by omega)
              have hlt4 : ¬ (en : Int) < (en : Int) := by omega
              have hdl := dgL_len G Z fr en
              obtain ⟨D, hDq⟩ : ∃ D, dgL G Z fr en = D := ⟨_, rfl⟩
              rw [hDq] at hD hdl HV3
              obtain ⟨B5, c5, rfl⟩ := own_shape hD.out
              obtain ⟨dn, hdn⟩ : ∃ dn, D.length = dn := ⟨_, rfl⟩
              rw [hdn] at hD hdl HV3 ⊢
              have kg := Lib.hid (md_grouped P G M N A k c xs B5 dn c5 D wr (HA.out.ext (ext_trans e0.out (ext_trans HX2.out (ext_trans HX4.out hE.out)))) HSO.out (RdR.own hD.out).1 (by omega))
              obtain ⟨p0, p1, p2, p3, p4, plx⟩ := b1.out.ext (ext_trans HX2.out (ext_trans HX4.out hE.out))
              have hgl := grp_len G xs D dn
              obtain ⟨Y, hY⟩ : ∃ Y, grpN G xs D dn = Y := ⟨_, rfl⟩
              rw [hY] at kg HV3 hgl
              obtain ⟨X, hX⟩ : ∃ X, (Z.take en).drop fr = X := ⟨_, rfl⟩
              rw [hX] at HV3
              have hXl : X.length = en - fr := by rw [← hX, List.length_drop, List.length_take]; omega
              have hXi : ∀ j (h : j < X.length), ∃ h2 : fr + j < Z.length, X[j] = Z[fr + j]'h2 := fun j h => by
                refine ⟨by omega, ?_⟩
                subst hX
                rw [List.getElem_drop, List.getElem_take]
              have HXI := Lib.hid hXi
              clear hDq hY hX hXi
              go_wp2_with (first
                | (go_at_call 34; (with_reducible refine (kg.out).mono ?_); rintro e w6 ⟨A6, n6, c6, rfl, hE6, hR6⟩; have hX6 := ext_trans HX4.out (ext_trans hE.out hE6)))
              have HX6 := Lib.hid hX6
              have HX46 := Lib.hid (ext_trans hE.out hE6)
              have hn6 := hR6.out.len
              have hc6 := hR6.out.cap
              clear kg hE hD hE6 hX6
              go_loopw [26] (fun vi wr => ∃ i : Nat, i ≤ Y.length ∧ i ≤ X.length ∧ vi = .int .i64 i ∧ Hid (misN X Y 0 = misN (X.drop i) (Y.drop i) i) ∧ Hid (Ext w6 wr)) (fun vi _ => X.length - (intOf vi).toNat)
              case atStart => exact ⟨0, Nat.zero_le _, Nat.zero_le _, rfl, rfl, ext_refl _⟩
              case round =>
                obtain ⟨i, hi1, hi2, rfl, hM, hE⟩ := hrel
                have hR7 := hR6.out.ext hE.out
                have hXE := ext_trans HX2.out (ext_trans HX6.out hE.out)
                obtain ⟨r0, r1, f0, f1, rl⟩ := fx.out.ext hXE
                obtain ⟨pz, hpz⟩ : ∃ pz, pl.getD (fr + i) 0 = pz := ⟨_, rfl⟩
                have hrs := Lib.hid (fun (hj : misN X Y 0 = some i) => show (Value.tuple #[.string (bs []), .agg #[.int .i64 231, .int .i64 pz]]) = Value.tuple #[.string (bs V.1), .agg #[.int .i64 V.2.1, .int .i64 V.2.2]] from by
                  rw [HV3.out, hj]
                  show _ = Value.tuple #[.string (bs []), .agg #[.int .i64 231, .int .i64 ((pl.drop fr).getD i 0)]]
                  rw [← hpz, List.getD_eq_getElem?_getD, List.getD_eq_getElem?_getD, List.getElem?_drop])
                obtain ⟨s3, s4⟩ := HCP.out wr (ext_trans HX6.out hE.out) (fr + i) (by omega)
                rw [hpz] at s4
                rcases Nat.lt_or_ge i Y.length with hy | hy
                · have c1 : (i : Int) < (n6 : Int) := by omega
                  have d1 : decide ((i : Int) < (n6 : Int)) = true := decide_eq_true c1
                  have c2 : ¬ (n6 : Int) ≤ (i : Int) := by omega
                  have d2 : decide ((n6 : Int) ≤ (i : Int)) = false := decide_eq_false c2
                  have e2 : decide (n6 ≤ i) = false := decide_eq_false (by omega)
                  rcases Nat.lt_or_ge i X.length with hx | hx
                  · have c3 : (i : Int) < (en : Int) - (fr : Int) := by omega
                    have d3 : decide ((i : Int) < (en : Int) - (fr : Int)) = true := decide_eq_true c3
                    have c4 : ¬ (en : Int) - (fr : Int) ≤ (i : Int) := by omega
                    have d4 : decide ((en : Int) - (fr : Int) ≤ (i : Int)) = false := decide_eq_false c4
                    obtain ⟨b7, o7, hA7⟩ := rd_some hR7 (by omega)
                    subst hA7
                    obtain ⟨t1, t2⟩ := hR7.cells b7 o7 rfl i (by omega)
                    obtain ⟨g1, hA1, s1, s2⟩ := HCL.out wr (ext_trans HX6.out hE.out) (fr + i) (by omega)
                    subst hA1
                    obtain ⟨_, hxi⟩ := HXI.out i hx
                    have hmd := misN_drop X Y i hx hy
                    rw [← hM.out] at hmd
                    rw [← hxi] at s2
                    rw [List.getD_eq_getElem?_getD, List.getElem?_eq_getElem hy, Option.getD_some] at t2
                    obtain ⟨x, hxx⟩ : ∃ x, X[i]'hx = x := ⟨_, rfl⟩
                    obtain ⟨y, hyy⟩ : ∃ y, Y[i]'hy = y := ⟨_, rfl⟩
                    rw [hxx] at s2 hmd
                    rw [hyy] at t2 hmd
                    have HMD := Lib.hid hmd
                    clear hmd hxx hyy hxi hpz
                    by_cases hxy : x = y
                    · have hmis := Lib.hid (HMD.out.trans (if_pos hxy))
                      clear HMD
                      subst hxy
                      go_wp2_with fail
                      go_quiet (fail)
                      go_wp2
                      exact ⟨⟨i + 1, by omega, by omega, by go_num, hmis, Lib.hid (ext_drewN hE.out _)⟩, by simp [intOf] <;> omega⟩
                    · have q1 : (x != y) = true := by simpa using hxy
                      have hmis := HMD.out.trans (if_neg hxy)
                      clear HMD hxy
                      go_wp2_with fail
                      go_quiet (fail)
                      go_wp2_with (first
                        | (go_at_call 30; (with_reducible refine (md_no 231 pz _).mono ?_); rintro e w9 ⟨rfl, hE9⟩; have hX9 := ext_trans (ext_drewN hXE _) hE9; obtain ⟨r0, r1, f0, f1, rl⟩ := fx.out.ext hX9))
                      refine bodyPost_ret (v := .tuple #[.string (bs []), .agg #[.int .i64 231, .int .i64 pz]]) ?h rfl ⟨congrArg Ending.returned (hrs.out hmis), fx_set hX9 _ _⟩
                      case h => simp [results, Tryz.results11, go_sem, r0, r1]; rfl
                  · have c3 : ¬ (i : Int) < (en : Int) - (fr : Int) := by omega
                    have d3 : decide ((i : Int) < (en : Int) - (fr : Int)) = false := decide_eq_false c3
                    have c4 : (en : Int) - (fr : Int) ≤ (i : Int) := by omega
                    have d4 : decide ((en : Int) - (fr : Int) ≤ (i : Int)) = true := decide_eq_true c4
                    have hmis : misN X Y 0 = some i := by
                      rw [hM.out, List.drop_of_length_le hx, List.drop_eq_getElem_cons hy, misN]
                    clear hpz
                    go_wp2_with fail
                    go_quiet (fail)
                    go_wp2_with (first
                      | (go_at_call 30; (with_reducible refine (md_no 231 pz _).mono ?_); rintro e w9 ⟨rfl, hE9⟩; have hX9 := ext_trans (ext_drewN hXE _) hE9; obtain ⟨r0, r1, f0, f1, rl⟩ := fx.out.ext hX9))
                    refine bodyPost_ret (v := .tuple #[.string (bs []), .agg #[.int .i64 231, .int .i64 pz]]) ?h rfl ⟨congrArg Ending.returned (hrs.out hmis), fx_set hX9 _ _⟩
                    case h => simp [results, Tryz.results11, go_sem, r0, r1]; rfl
                · have c1 : ¬ (i : Int) < (n6 : Int) := by omega
                  have d1 : decide ((i : Int) < (n6 : Int)) = false := decide_eq_false c1
                  have c2 : (n6 : Int) ≤ (i : Int) := by omega
                  have d2 : decide ((n6 : Int) ≤ (i : Int)) = true := decide_eq_true c2
                  have e2 : decide (n6 ≤ i) = true := decide_eq_true (by omega)
                  rcases Nat.lt_or_ge i X.length with hx | hx
                  · have c3 : (i : Int) < (en : Int) - (fr : Int) := by omega
                    have d3 : decide ((i : Int) < (en : Int) - (fr : Int)) = true := decide_eq_true c3
                    have hmis : misN X Y 0 = some i := by
                      rw [hM.out, misN_short X Y i hx hy]
                    clear hpz
                    go_wp2_with fail
                    go_quiet (fail)
                    go_wp2_with (first
                      | (go_at_call 30; (with_reducible refine (md_no 231 pz _).mono ?_); rintro e w9 ⟨rfl, hE9⟩; have hX9 := ext_trans (ext_drewN hXE _) hE9; obtain ⟨r0, r1, f0, f1, rl⟩ := fx.out.ext hX9))
                    refine bodyPost_ret (v := .tuple #[.string (bs []), .agg #[.int .i64 231, .int .i64 pz]]) ?h rfl ⟨congrArg Ending.returned (hrs.out hmis), fx_set hX9 _ _⟩
                    case h => simp [results, Tryz.results11, go_sem, r0, r1]; rfl
                  · have c3 : ¬ (i : Int) < (en : Int) - (fr : Int) := by omega
                    have d3 : decide ((i : Int) < (en : Int) - (fr : Int)) = false := decide_eq_false c3
                    have hmis : misN X Y 0 = none := by
                      rw [hM.out, List.drop_of_length_le hx, List.drop_of_length_le hy, misN]
                    have hv4 : V = (TT, 0, 0) := by rw [HV3.out, hmis]; rfl
                    have HV4 := Lib.hid hv4
                    have hcv := HCV.out wr (own_ext hO4.out (ext_trans HX46.out hE.out))
                    clear hpz hmis hv4
                    go_wp2
                    refine bodyPost_ret (v := .tuple #[.string (bs TT), .agg #[.int .i64 0, .int .i64 0]]) ?h rfl ⟨by rw [HV4.out], fx_set hXE _ _⟩
                    case h => simp [results, Tryz.results11, go_sem, r0, r1]
end Go.Proofs.YtgedpfbokkambaaGreatDoor
end
section
/- Marks: the program's Take and the document's gather the same: the plain law. -/
namespace Go.Proofs.YtgedpfbokkambaaGreatDoor
open Go.RowKit Go.Maps
set_option maxHeartbeats 4000000
set_option maxRecDepth 100000
/-- A Group is no sign of a plain text. -/
def fixB (c : UInt8) : UInt8 := if c = 103 then 120 else c
theorem fix_eq {b c : UInt8} (h1 : c ≠ 103) (h2 : c ≠ 120) : fixB b = c ↔ b = c := by
  unfold fixB
  split
  · rename_i h; subst h
    exact ⟨fun e => absurd e.symm h2, fun e => absurd e.symm h1⟩
  · exact Iff.rfl
theorem fix_isD (b : UInt8) : isD (fixB b) = isD b := by
  unfold fixB
  split
  · rename_i h; subst h; decide
  · rfl
theorem fix_at (l : List UInt8) (a : Nat) {c : UInt8} (h1 : c ≠ 103) (h2 : c ≠ 120) : (l.map fixB)[a]? = some c ↔ l[a]? = some c := by
  rw [List.getElem?_map]
  cases l[a]? with
  | none => simp
  | some b => simp only [Option.map_some, Option.some.injEq]; exact fix_eq h1 h2
theorem fix_tw : ∀ l : List UInt8, ((l.map fixB).takeWhile isD).length = (l.takeWhile isD).length
  | [] => rfl
  | b :: l => by
    rw [List.map_cons]
    cases h : isD b with
    | true => rw [List.takeWhile_cons_of_pos h, List.takeWhile_cons_of_pos (by rw [fix_isD]; exact h), List.length_cons, List.length_cons, fix_tw l]
    | false =>
      have h1 : ¬ isD b = true := by rw [h]; decide
      have h2 : ¬ isD (fixB b) = true := by rw [fix_isD, h]; decide
      rw [List.takeWhile_cons_of_neg h1, List.takeWhile_cons_of_neg h2]
theorem fix_row (l : List UInt8) (a : Nat) : rowN (l.map fixB) a = rowN l a := by
  unfold rowN
  rw [← List.map_drop, fix_tw]
theorem fix_pt (l : List UInt8) (a : Nat) : ptS (l.map fixB) a = ptS l a := by
  unfold ptS
  simp only [fix_at l _ (by decide : (46 : UInt8) ≠ 103) (by decide), fix_row]
theorem fix_ex (l : List UInt8) (a : Nat) : exS (l.map fixB) a = exS l a := by
  unfold exS
  simp only [fix_at l _ (by decide : (101 : UInt8) ≠ 103) (by decide), fix_at l _ (by decide : (45 : UInt8) ≠ 103) (by decide), fix_row]
theorem fix_shp (l : List UInt8) : shpB (l.map fixB) = shpB l := by
  unfold shpB
  simp only [fix_at l _ (by decide : (45 : UInt8) ≠ 103) (by decide), fix_row, fix_pt, fix_ex, List.length_map]
/-- What a rune stands for, to the program and to the document. -/
structure RunIs (G : Int) (r : Int) (n : Nat) (c : UInt8) (y : Int) : Prop where
  g : c = 103 → y = -2 ∧ r = G ∧ ¬ (r = 65533 ∧ n = 1)
  g' : c ≠ 103 → y ≠ -2 ∧ encB y = c
  d : decide (48 ≤ y ∧ y ≤ 57) = isD c
  d' : isD c = true → r ≠ G ∧ ¬ (r = 65533 ∧ n = 1)
theorem run_is {P G M N : Int} (hg : GoodM P G M N) {r : Int} {n : Nat} (hr : 0 ≤ r) : RunIs G r n (clsC P G M N r n) (rdI P G M N (zR (r, n))) := by
  have mk : ∀ (c : UInt8) (y : Int), c ≠ 103 → y ≠ -2 → encB y = c → (isD c = true → r ≠ G ∧ ¬ (r = 65533 ∧ n = 1)) → RunIs G r n c y := fun c y h1 h2 h3 h4 =>
    ⟨fun e => absurd e h1, fun _ => ⟨h2, h3⟩, by rw [← h3, encB_isD], h4⟩
  by_cases h0 : r = 65533 ∧ n = 1
  · have e1 : clsC P G M N r n = 120 := by unfold clsC; rw [if_pos h0]
    have e2 : zR (r, n) = -1 := by unfold zR; rw [if_pos h0]
    rw [e1, e2]
    have e3 : rdI P G M N (-1) = -3 := by unfold rdI; rw [if_pos (by omega)]
    rw [e3]
    exact mk _ _ (by decide) (by decide) (by decide) (fun q => absurd q (by decide))
  · have e2 : zR (r, n) = r := by unfold zR; rw [if_neg h0]
    rw [e2]
    unfold clsC rdI
    rw [if_neg h0, if_neg (by omega : ¬ r < 0)]
    by_cases h1 : r = M
    · rw [if_pos h1, if_pos h1]
      exact mk _ _ (by decide) (by decide) (by decide) (fun q => absurd q (by decide))
    rw [if_neg h1, if_neg h1]
    by_cases h2 : r = P
    · rw [if_pos h2, if_pos h2]
      exact mk _ _ (by decide) (by decide) (by decide) (fun q => absurd q (by decide))
    rw [if_neg h2, if_neg h2]
    by_cases h3 : r = 101
    · rw [if_pos h3, if_pos h3]
      exact mk _ _ (by decide) (by decide) (by decide) (fun q => absurd q (by decide))
    rw [if_neg h3, if_neg h3]
    by_cases h4 : N ≤ r ∧ r ≤ N + 9
    · obtain ⟨k, hk⟩ : ∃ k : Nat, r = N + k := ⟨(r - N).toNat, by omega⟩
      have hk9 : k < 10 := by omega
      have hG : r ≠ G := by
        rw [hk]
        intro e
        by_cases hz : G = 0
        · have := hg.sN k hk9
          unfold stdR at this
          omega
        · exact (hg.g hz).2.2.2 k hk9 e
      rw [if_pos h4, if_neg (fun q => hG q.2), if_pos h4]
      have e5 : (48 + r - N) = ((48 + k : Nat) : Int) := by omega
      rw [e5, show (r - N).toNat = k by omega]
      refine mk _ _ ?_ (by omega) ?_ (fun _ => ⟨hG, h0⟩)
      · intro e
        have := congrArg UInt8.toNat e
        have e1 : (103 : UInt8).toNat = 103 := rfl
        rw [e1, UInt8.toNat_ofNat'] at this
        omega
      · unfold encB
        rw [if_pos (by omega), Int.toNat_natCast]
    · rw [if_neg h4]
      by_cases h5 : G ≠ 0 ∧ r = G
      · rw [if_pos h5, if_pos h5]
        exact ⟨fun _ => ⟨rfl, h5.2, h0⟩, fun q => absurd rfl q, by decide, fun q => absurd q (by decide)⟩
      · rw [if_neg h5, if_neg h5, if_neg h4]
        exact mk _ _ (by decide) (by decide) (by decide) (fun q => absurd q (by decide))
theorem dsA {s : DS} {t : Nat} {y : Int} (hd : decide (48 ≤ y ∧ y ≤ 57) = false) (hb : s.bg = false) : dsStep s t y = ⟨s.out ++ [y], s.own ++ [(t : Int)], false, s.wh, s.fr, s.en, s.gr⟩ := by
  simp [dsStep, hd, hb]
theorem dsB {s : DS} {t : Nat} {y : Int} (hd : decide (48 ≤ y ∧ y ≤ 57) = true) (hb : s.bg = false) (hw : s.wh = true) : dsStep s t y = ⟨s.out ++ [y], s.own ++ [(t : Int)], true, true, t, t + 1, s.gr⟩ := by
  have h2 : decide (y = -2) = false := decide_eq_false (by have := of_decide_eq_true hd; omega)
  simp [dsStep, hd, hb, hw, h2]
theorem dsC {s : DS} {t : Nat} {y : Int} (hd : decide (48 ≤ y ∧ y ≤ 57) = true) (hb : s.bg = true) (hw : s.wh = true) : dsStep s t y = ⟨s.out ++ [y], s.own ++ [(t : Int)], true, true, s.fr, t + 1, s.gr⟩ := by
  have h2 : decide (y = -2) = false := decide_eq_false (by have := of_decide_eq_true hd; omega)
  simp [dsStep, hd, hb, hw, h2]
theorem dsD {s : DS} {t : Nat} (hb : s.bg = true) (hw : s.wh = true) : dsStep s t (-2) = ⟨s.out, s.own, true, true, s.fr, t + 1, true⟩ := by
  simp [dsStep, hb, hw]
theorem dsE {s : DS} {t : Nat} {y : Int} (hd : decide (48 ≤ y ∧ y ≤ 57) = false) (h2 : y ≠ -2) (hb : s.bg = true) (hw : s.wh = true) : dsStep s t y = ⟨s.out ++ [y], s.own ++ [(t : Int)], true, false, s.fr, s.en, s.gr⟩ := by
  simp [dsStep, hd, hb, hw, h2]
theorem dsF {s : DS} {t : Nat} {y : Int} (hb : s.bg = true) (hw : s.wh = false) : dsStep s t y = ⟨s.out ++ [y], s.own ++ [(t : Int)], true, false, s.fr, s.en, s.gr⟩ := by
  simp [dsStep, hb, hw]
theorem cut_succ {L : List Int} {f t : Nat} (h1 : f ≤ t) (h2 : t < L.length) : (L.take (t + 1)).drop f = (L.take t).drop f ++ [L[t]] := by
  rw [List.take_succ_eq_append_getElem h2, List.drop_append_of_le_length (by rw [List.length_take]; omega)]
/-- The two states go side by side. -/
structure Sim (G : Int) (Z pl : List Int) (s : TS) (d : DS) (t : Nat) : Prop where
  pe : d.out.map encB = s.plain.map fixB
  ow : s.places = d.own.map (fun x => pl.getD x.toNat 0)
  bg : d.bg = s.begun
  wh : d.wh = s.inside
  nb : s.begun = false → s.inside = true ∧ s.runes = [] ∧ s.ats = [] ∧ d.gr = false ∧ d.fr = 0 ∧ d.en = 0
  ru : s.begun = true → d.fr ≤ d.en ∧ s.runes = (Z.take d.en).drop d.fr
  ia : s.begun = true → s.inside = true → d.en = t ∧ s.ats = (pl.take d.en).drop d.fr
  oa : s.begun = true → s.inside = false → d.en < t ∧ s.ats = (pl.take (d.en + 1)).drop d.fr
  gr : d.gr = true ↔ ∃ r ∈ s.runes, r = G
  br : ∀ b : Nat, b ∈ s.broken ↔ ∃ j, j < t ∧ Z.getD j 0 = -1 ∧ pl.getD j 0 = (b : Int)
theorem sim_step {P G M N : Int} (hg : GoodM P G M N) {Z pl : List Int} {s : TS} {d : DS} {t i : Nat} {r : Int} {n : Nat} (h : Sim G Z pl s d t) (hr : 0 ≤ r) (hz : Z[t]? = some (zR (r, n))) (hp : pl[t]? = some (i : Int)) :
    Sim G Z pl (tkStep P G M N s i r n) (dsStep d t (rdI P G M N (zR (r, n)))) (t + 1) := by
  have hri := run_is hg (n := n) hr
  obtain ⟨htz, hz1⟩ := List.getElem?_eq_some_iff.1 hz
  obtain ⟨htp, hp1⟩ := List.getElem?_eq_some_iff.1 hp
  obtain ⟨c, hc⟩ : ∃ c, clsC P G M N r n = c := ⟨_, rfl⟩
  obtain ⟨y, hy⟩ : ∃ y, rdI P G M N (zR (r, n)) = y := ⟨_, rfl⟩
  obtain ⟨br, hbr⟩ : ∃ br, (if r = 65533 ∧ n = 1 then s.broken ++ [i] else s.broken) = br := ⟨_, rfl⟩
  rw [hc, hy] at hri
  rw [hy]
  have hpt : pl.getD t 0 = (i : Int) := by rw [List.getD_eq_getElem?_getD, hp]; rfl
  have hzt : Z.getD t 0 = zR (r, n) := by rw [List.getD_eq_getElem?_getD, hz]; rfl
  have hB : ∀ b : Nat, b ∈ br ↔ ∃ j, j < t + 1 ∧ Z.getD j 0 = -1 ∧ pl.getD j 0 = (b : Int) := by
    intro b
    have h1 := h.br b
    rw [← hbr]
    constructor
    · intro q
      by_cases h0 : r = 65533 ∧ n = 1
      · rw [if_pos h0] at q
        rcases List.mem_append.1 q with q | q
        · obtain ⟨j, j1, j2⟩ := h1.1 q
          exact ⟨j, by omega, j2⟩
        · rw [List.mem_singleton] at q; subst q
          exact ⟨t, by omega, by rw [hzt]; unfold zR; rw [if_pos h0], hpt⟩
      · rw [if_neg h0] at q
        obtain ⟨j, j1, j2⟩ := h1.1 q
        exact ⟨j, by omega, j2⟩
    · rintro ⟨j, j1, j2, j3⟩
      rcases Nat.lt_or_ge j t with q | q
      · have := h1.2 ⟨j, q, j2, j3⟩
        split
        · exact List.mem_append_left _ this
        · exact this
      · obtain rfl : j = t := by omega
        rw [hzt] at j2
        have h0 : r = 65533 ∧ n = 1 := by
          unfold zR at j2
          split at j2
          · assumption
          · omega
        rw [if_pos h0]
        rw [hpt] at j3
        exact List.mem_append_right _ (List.mem_singleton.2 (by omega))
  have hfix : c ≠ 103 → fixB c = c := fun q => by unfold fixB; rw [if_neg q]
  have hE : (d.out ++ [y]).map encB = (s.plain ++ [c]).map fixB := by
    rw [List.map_append, List.map_append, h.pe, List.map_singleton, List.map_singleton]
    congr 2
    by_cases q : c = 103
    · rw [(hri.g q).1, q]; decide
    · rw [hfix q]; exact (hri.g' q).2
  have hO : s.places ++ [(i : Int)] = (d.own ++ [(t : Int)]).map (fun x => pl.getD x.toNat 0) := by
    rw [List.map_append, ← h.ow, List.map_singleton, Int.toNat_natCast, hpt]
  have hzr : ¬ (r = 65533 ∧ n = 1) → Z[t]'htz = r := fun q => by rw [hz1]; unfold zR; rw [if_neg q]
  have hdec := hri.d
  cases hb : s.begun with
  | false =>
    obtain ⟨n1, n2, n3, n4, n5, n6⟩ := h.nb hb
    have hdb := h.bg; rw [hb] at hdb
    have hdw := h.wh; rw [n1] at hdw
    cases hd : isD c with
    | false =>
      rw [hd] at hdec
      rw [tkDn hc hd hbr (by rw [hb]; rfl), dsA hdec hdb]
      exact ⟨hE, hO, hb.symm, h.wh, fun _ => ⟨n1, n2, n3, n4, n5, n6⟩, fun q => absurd (hb.symm.trans q) (by decide), fun q => absurd (hb.symm.trans q) (by decide), fun q => absurd (hb.symm.trans q) (by decide), h.gr, hB⟩
    | true =>
      rw [hd] at hdec
      obtain ⟨g1, g2⟩ := hri.d' hd
      rw [tkB hc hd hbr n1, dsB hdec hdb hdw]
      have e1 : ∀ L : List Int, ∀ (q : t < L.length), (L.take (t + 1)).drop t = [L[t]] := fun L q => by
        rw [cut_succ (Nat.le_refl _) q, List.drop_of_length_le (by rw [List.length_take]; omega), List.nil_append]
      refine ⟨hE, hO, rfl, rfl, (fun q => by cases q), fun _ => ⟨Nat.le_succ _, ?_⟩, fun _ _ => ⟨rfl, ?_⟩, (fun _ q => by cases q), ?_, hB⟩
      · dsimp only
        rw [n2, e1 Z htz, hzr g2]; rfl
      · dsimp only
        rw [n3, e1 pl htp, hp1]; rfl
      · dsimp only
        rw [n4, n2]
        simp [g1]
  | true =>
    have hdb := h.bg; rw [hb] at hdb
    obtain ⟨r1, r2⟩ := h.ru hb
    cases hi : s.inside with
    | true =>
      have hdw := h.wh; rw [hi] at hdw
      obtain ⟨i1, i2⟩ := h.ia hb hi
      by_cases hc3 : c = 103
      · obtain ⟨g1, g2, g3⟩ := hri.g hc3
        subst g1
        rw [hc3] at hc
        rw [tkA hc hbr hb hi, dsD hdb hdw]
        refine ⟨h.pe, h.ow, rfl, rfl, (fun q => by cases q), fun _ => ⟨by dsimp only; omega, ?_⟩, fun _ _ => ⟨rfl, ?_⟩, (fun _ q => by cases q), ?_, hB⟩
        · dsimp only
          rw [r2, i1, cut_succ (by omega) htz, hzr g3]
        · dsimp only
          rw [i2, i1, cut_succ (by omega) htp, hp1]
        · dsimp only
          exact ⟨fun _ => ⟨r, by simp, g2⟩, fun _ => rfl⟩
      · cases hd : isD c with
        | true =>
          rw [hd] at hdec
          obtain ⟨g1, g2⟩ := hri.d' hd
          rw [tkB hc hd hbr hi, dsC hdec hdb hdw]
          refine ⟨hE, hO, rfl, rfl, (fun q => by cases q), fun _ => ⟨by dsimp only; omega, ?_⟩, fun _ _ => ⟨rfl, ?_⟩, (fun _ q => by cases q), ?_, hB⟩
          · dsimp only
            rw [r2, i1, cut_succ (by omega) htz, hzr g2]
          · dsimp only
            rw [i2, i1, cut_succ (by omega) htp, hp1]
          · dsimp only
            rw [h.gr]
            constructor
            · rintro ⟨x, hx, e⟩; exact ⟨x, List.mem_append_left _ hx, e⟩
            · rintro ⟨x, hx, e⟩
              rcases List.mem_append.1 hx with hx | hx
              · exact ⟨x, hx, e⟩
              · rw [List.mem_singleton] at hx; subst hx; exact absurd e g1
        | false =>
          rw [hd] at hdec
          rw [tkC hc hd hc3 hbr hb hi, dsE hdec (hri.g' hc3).1 hdb hdw]
          refine ⟨hE, hO, rfl, rfl, (fun q => by cases q), fun _ => ⟨r1, r2⟩, (fun _ q => by cases q), fun _ _ => ⟨by dsimp only; omega, ?_⟩, h.gr, hB⟩
          dsimp only
          rw [i2, i1, cut_succ (by omega) htp, hp1]
    | false =>
      have hdw := h.wh; rw [hi] at hdw
      obtain ⟨o1, o2⟩ := h.oa hb hi
      rw [tkD (s := s) (i := i) hc hbr (by rw [hi, Bool.and_false]), dsF hdb hdw, hb, hi, Bool.true_or]
      exact ⟨hE, hO, rfl, rfl, (fun q => by cases q), fun _ => ⟨r1, r2⟩, (fun _ q => by cases q), fun _ _ => ⟨by dsimp only; omega, o2⟩, h.gr, hB⟩
theorem sim0 (G : Int) (Z pl : List Int) : Sim G Z pl tk0 ds0 0 :=
  ⟨rfl, rfl, rfl, rfl, fun _ => ⟨rfl, rfl, rfl, rfl, rfl, rfl⟩, (fun q => by cases q), (fun q => by cases q), (fun q => by cases q), ⟨fun q => (by cases q), fun ⟨_, q, _⟩ => (by cases q)⟩, fun b => ⟨fun q => (by cases q), fun ⟨_, q, _⟩ => absurd q (by omega)⟩⟩
theorem posL_at (R1 : List (Int × Nat)) (p : Int × Nat) (R2 : List (Int × Nat)) (T : List Int) : (posL (R1 ++ p :: R2) 0 ++ T)[R1.length]? = some (((R1.map Prod.snd).sum : Nat) : Int) := by
  obtain ⟨r, n⟩ := p
  rw [posL_app, posL, List.append_assoc, List.getElem?_append_right (by rw [posL_len]; exact Nat.le_refl _), posL_len, Nat.sub_self, Nat.zero_add]; rfl
theorem sim_run {P G M N : Int} (hg : GoodM P G M N) (T : List Int) : ∀ (R2 R1 : List (Int × Nat)) (s : TS) (d : DS), (∀ p ∈ R2, 0 ≤ p.1) → Sim G ((R1 ++ R2).map zR) (posL (R1 ++ R2) 0 ++ T) s d R1.length →
    Sim G ((R1 ++ R2).map zR) (posL (R1 ++ R2) 0 ++ T) (tkR P G M N R2 (R1.map Prod.snd).sum s) (dsR ((R2.map zR).map (rdI P G M N)) R1.length d) (R1.length + R2.length)
  | [], R1, s, d, _, h => h
  | (r, n) :: R2, R1, s, d, h0, h => by
    have hr := h0 (r, n) (by simp)
    have hs := sim_step hg (i := (R1.map Prod.snd).sum) (n := n) h hr (by rw [List.map_append, List.getElem?_append_right (by rw [List.length_map]; exact Nat.le_refl _), List.length_map, Nat.sub_self]; rfl) (posL_at R1 (r, n) R2 T)
    have e1 : R1 ++ (r, n) :: R2 = (R1 ++ [(r, n)]) ++ R2 := by simp
    have e2 : (R1 ++ [(r, n)]).length = R1.length + 1 := by simp
    have e3 : ((R1 ++ [(r, n)]).map Prod.snd).sum = (R1.map Prod.snd).sum + n := by simp
    have := sim_run hg T R2 (R1 ++ [(r, n)]) _ _ (fun p hp => h0 p (by simp [hp])) (by rw [← e1, e2]; exact hs)
    rw [← e1, e2, e3] at this
    rw [tkR, List.map_cons, List.map_cons, dsR, List.length_cons, show R1.length + (R2.length + 1) = R1.length + 1 + R2.length by omega]
    exact this
theorem sim_all {P G M N : Int} (hg : GoodM P G M N) (l : List UInt8) : Sim G ((rns l).map zR) (posL (rns l) 0 ++ [(l.length : Int)]) (tkV P G M N l) (dsV P G M N l) (rns l).length := by
  have := sim_run hg [(l.length : Int)] (rns l) [] tk0 ds0 (fun p hp => ((rnsF_ok _ l (Nat.le_refl _)).2 p hp).1) (sim0 _ _ _)
  rw [tkV_rns]
  unfold dsV
  simpa using this
end Go.Proofs.YtgedpfbokkambaaGreatDoor
end
section
/- Marks: the program's Take answers as the document's: the plain law. -/
namespace Go.Proofs.YtgedpfbokkambaaGreatDoor
open Go.RowKit Go.Maps
set_option maxHeartbeats 4000000
set_option maxRecDepth 100000
theorem rnsF_w : ∀ (f : Nat) (l : List UInt8), l.length ≤ f → (∀ p ∈ rns l, 1 ≤ p.2) ∧ ((rns l).map Prod.snd).sum = l.length
  | 0, l, h => by
    have : l = [] := List.length_eq_zero_iff.1 (by omega)
    subst this
    rw [rns_nil]; simp
  | f + 1, l, h => by
    by_cases hne : l = []
    · subst hne
      rw [rns_nil]; simp
    · have hw := Lib.decodeL_width l
      have hle := Lib.decodeL_le l hne
      have hd : (l.drop (Lib.decodeL l).2).length = l.length - (Lib.decodeL l).2 := List.length_drop
      have hl : 0 < l.length := List.length_pos_iff.2 hne
      obtain ⟨h1, h2⟩ := rnsF_w f (l.drop (Lib.decodeL l).2) (by omega)
      rw [rns_cons l hne]
      refine ⟨fun p hp => ?_, ?_⟩
      · rcases List.mem_cons.1 hp with rfl | hp
        · exact hw
        · exact h1 p hp
      · rw [List.map_cons, List.sum_cons, h2, hd]
        dsimp only
        omega
theorem posL_get : ∀ (R : List (Int × Nat)) (i j : Nat) (T : List Int), j < R.length → (posL R i ++ T).getD j 0 = ((i + ((R.take j).map Prod.snd).sum : Nat) : Int)
  | [], _, _, _, h => absurd h (by simp)
  | (r, n) :: R, i, 0, T, _ => by simp [posL]
  | (r, n) :: R, i, j + 1, T, h => by
    rw [posL, List.cons_append, List.getD_cons_succ, posL_get R (i + n) j T (by simpa using h), List.take_succ_cons, List.map_cons, List.sum_cons]
    congr 1
    dsimp only
    omega
theorem sum_lt : ∀ (R : List (Int × Nat)) (j k : Nat), (∀ p ∈ R, 1 ≤ p.2) → j < k → k ≤ R.length → ((R.take j).map Prod.snd).sum < ((R.take k).map Prod.snd).sum
  | [], j, k, _, h1, h2 => by simp at h2; omega
  | p :: R, 0, k + 1, h, _, _ => by
    have := h p (by simp)
    rw [List.take_succ_cons, List.map_cons, List.sum_cons, List.take_zero, List.map_nil, List.sum_nil]
    omega
  | p :: R, j + 1, k + 1, h, h1, h2 => by
    have := sum_lt R j k (fun q hq => h q (by simp [hq])) (by omega) (by simpa using h2)
    rw [List.take_succ_cons, List.take_succ_cons, List.map_cons, List.map_cons, List.sum_cons, List.sum_cons]
    omega
  | _ :: _, _, 0, _, h, _ => absurd h (by omega)
theorem pl_get (l : List UInt8) (j : Nat) (hj : j ≤ (rns l).length) : (posL (rns l) 0 ++ [(l.length : Int)]).getD j 0 = ((((rns l).take j).map Prod.snd).sum : Nat) := by
  rcases Nat.lt_or_ge j (rns l).length with q | q
  · rw [posL_get _ _ _ _ q, Nat.zero_add]
  · obtain rfl : j = (rns l).length := by omega
    rw [List.take_of_length_le (Nat.le_refl _), (rnsF_w _ l (Nat.le_refl _)).2, List.getD_eq_getElem?_getD, List.getElem?_append_right (by rw [posL_len]; exact Nat.le_refl _), posL_len, Nat.sub_self]; rfl
theorem pl_inj (l : List UInt8) {j k : Nat} (hj : j ≤ (rns l).length) (hk : k ≤ (rns l).length) (h : (posL (rns l) 0 ++ [(l.length : Int)]).getD j 0 = (posL (rns l) 0 ++ [(l.length : Int)]).getD k 0) : j = k := by
  rw [pl_get l j hj, pl_get l k hk] at h
  have hw := (rnsF_w _ l (Nat.le_refl _)).1
  rcases Nat.lt_trichotomy j k with q | q | q
  · have := sum_lt _ j k hw q hk; omega
  · exact q
  · have := sum_lt _ k j hw q hj; omega
theorem misN_le : ∀ (X Y : List Int) (i j : Nat), misN X Y i = some j → i ≤ j ∧ j ≤ i + X.length
  | [], [], _, _, h => by simp [misN] at h
  | [], _ :: _, i, j, h => by simp [misN] at h; simp; omega
  | _ :: _, [], i, j, h => by simp [misN] at h; omega
  | a :: s, b :: t, i, j, h => by
    rw [misN] at h
    split at h
    · have := misN_le s t (i + 1) j h
      rw [List.length_cons]; omega
    · simp at h; omega
theorem encL_byte {b : UInt8} (h : b.toNat < 128) : encL (b.toNat : Int) = [b] := by
  have hv : Utf8.valid ((b.toNat : Nat) : Int) = true := by unfold Utf8.valid; simp only [Bool.or_eq_true, Bool.and_eq_true, decide_eq_true_eq]; omega
  unfold encL Utf8.encode
  simp only [hv, if_true, Int.toNat_natCast]
  rw [if_pos h]
  simp
theorem flat_enc : ∀ (out : List Int), (∀ b ∈ out.map encB, PlB b) → out.flatMap encL = out.map encB
  | [], _ => rfl
  | y :: out, h => by
    have hb := h (encB y) (by simp)
    have hy := (encB_eq y (encB y) (PlB_not hb).2).1 rfl
    have h128 : (encB y).toNat < 128 := by
      rcases hb with q | q | q | q
      · rw [q]; decide
      · rw [q]; decide
      · rw [q]; decide
      · have := (isD_iff _).1 q; omega
    rw [List.flatMap_cons, List.map_cons, flat_enc out (fun b hb => h b (by simp [hb]))]
    obtain ⟨b, hbq⟩ : ∃ b, encB y = b := ⟨_, rfl⟩
    rw [hbq] at hy h128 ⊢
    rw [hy, encL_byte h128]; rfl
theorem flt_dig {P G M N : Int} (hg : GoodM P G M N) : ∀ Q : List (Int × Nat), (∀ p ∈ Q, 0 ≤ p.1) → (∀ p ∈ Q, isD (cl P G M N p) = true ∨ cl P G M N p = 103) → (Q.map Prod.fst).filter (fun z => decide (z ≠ G)) = ((Q.map (cl P G M N)).filter isD).map (fun b => N + ((b.toNat : Int) - 48))
  | [], _, _ => rfl
  | (r, n) :: Q, h0, h => by
    have hri := run_is hg (n := n) (h0 (r, n) (by simp))
    have ih := flt_dig hg Q (fun p hp => h0 p (by simp [hp])) (fun p hp => h p (by simp [hp]))
    rw [List.map_cons, List.map_cons]
    rcases h (r, n) (by simp) with q | q
    · have hG := (hri.d' q).1
      rw [List.filter_cons_of_pos (by simpa using hG), List.filter_cons_of_pos q, List.map_cons, ih]
      have h3 : cl P G M N (r, n) ≠ 103 := fun e => by rw [e] at q; revert q; decide
      have h4 : cl P G M N (r, n) ≠ 120 := fun e => by rw [e] at q; revert q; decide
      have := ((cl_inv (P := P) (G := G) (M := M) (N := N) (r := r) (n := n) h4).2.2 h3).2
      congr 1
      exact this.trans (markB_dig q)
    · have hG := (hri.g q).2.1
      rw [List.filter_cons_of_neg (by simpa using hG), List.filter_cons_of_neg (by rw [q]; decide), ih]
theorem flt_lt {G : Int} : ∀ X : List Int, (∃ r ∈ X, r = G) → (X.filter (fun z => decide (z ≠ G))).length < X.length
  | [], h => by obtain ⟨_, h, _⟩ := h; cases h
  | x :: X, ⟨r, hr, e⟩ => by
    by_cases q : x = G
    · rw [List.filter_cons_of_neg (by simpa using q), List.length_cons]
      have := List.length_filter_le (fun z => decide (z ≠ G)) X
      omega
    · rw [List.filter_cons_of_pos (by simpa using q), List.length_cons, List.length_cons]
      have := flt_lt X ⟨r, by
        rcases List.mem_cons.1 hr with rfl | hr
        · exact absurd e q
        · exact hr, e⟩
      omega
theorem flt_all {G : Int} {X : List Int} (h : ¬ ∃ r ∈ X, r = G) : X.filter (fun z => decide (z ≠ G)) = X :=
  List.filter_eq_self.2 (fun x hx => decide_eq_true (fun e => h ⟨x, hx, e⟩))
theorem take_same (P G M N : Int) (xs : List Int) (l : List UInt8) : takeV P G M N xs l = dtV P G M N xs l := by
  unfold takeV dtV
  by_cases hrd : rdy P G M N xs l.length ≠ 0
  · rw [if_pos hrd, if_pos hrd]
  rw [if_neg hrd, if_neg hrd]
  have hg := good_of (rdy_ok (by simpa using hrd)).1
  have hsim := sim_all hg l
  have hdi : DsIn (dsV P G M N l) (rns l).length := by
    have hml : (((rns l).map zR).map (rdI P G M N)).length = (rns l).length := by rw [List.length_map, List.length_map]
    have := dsR_in (R := ((rns l).map zR).map (rdI P G M N)) (rns l).length (by omega)
    rw [List.take_of_length_le (by omega)] at this
    exact this
  have hZl : ((rns l).map zR).length = (rns l).length := List.length_map ..
  have hpl := pl_get l
  have hpi := @pl_inj l
  have hPl : (posL (rns l) 0 ++ [(l.length : Int)]).length = (rns l).length + 1 := by rw [List.length_append, posL_len]; rfl
  have hPt : (posL (rns l) 0 ++ [(l.length : Int)]) = (posL (rns l) 0 ++ [(l.length : Int)]).take (rns l).length ++ [(l.length : Int)] := by
    rw [List.take_append_of_le_length (by rw [posL_len]; exact Nat.le_refl _), List.take_of_length_le (by rw [posL_len]; exact Nat.le_refl _)]
  have hpn : (posL (rns l) 0 ++ [(l.length : Int)]).getD (rns l).length 0 = (l.length : Int) := by
    rw [List.getD_eq_getElem?_getD, List.getElem?_append_right (by rw [posL_len]; exact Nat.le_refl _), posL_len, Nat.sub_self]; rfl
  have htl := (tkV_len P G M N l).1
  unfold dtS
  have hsh : shpB ((dsV P G M N l).out.map encB) = shpB (tkV P G M N l).plain := by rw [hsim.pe, fix_shp]
  rw [hsh]
  have hle := shpB_le (tkV P G M N l).plain
  by_cases hb : 0 ≤ (shpB (tkV P G M N l).plain).1
  · rw [if_pos hb, if_pos hb]
    obtain ⟨b, hbb⟩ : ∃ b, (shpB (tkV P G M N l).plain).1.toNat = b := ⟨_, rfl⟩
    rw [hbb]
    have hbl : b ≤ (dsV P G M N l).own.length := by
      have := congrArg List.length hsim.ow
      rw [List.length_map] at this
      omega
    have hown : ((tkV P G M N l).places ++ [(l.length : Int)]) = ((dsV P G M N l).own ++ [(((rns l).map zR).length : Int)]).map (fun x => (posL (rns l) 0 ++ [(l.length : Int)]).getD x.toNat 0) := by
      rw [List.map_append, ← hsim.ow, hZl, List.map_singleton, Int.toNat_natCast, hpn]
    rw [hown]
    have hbL : b < ((dsV P G M N l).own ++ [(((rns l).map zR).length : Int)]).length := by rw [List.length_append]; simp; omega
    have hget : ∀ F : Int → Int, (((dsV P G M N l).own ++ [(((rns l).map zR).length : Int)]).map F).getD b 0 = F (((dsV P G M N l).own ++ [(((rns l).map zR).length : Int)]).getD b 0) := fun F => by
      rw [List.getD_eq_getElem?_getD, List.getElem?_map, List.getD_eq_getElem?_getD, List.getElem?_eq_getElem hbL]; rfl
    rw [hget]
    obtain ⟨t, ht, htn⟩ : ∃ t : Nat, ((dsV P G M N l).own ++ [(((rns l).map zR).length : Int)]).getD b 0 = (t : Int) ∧ t ≤ (rns l).length := by
      have := List.getElem_mem hbL
      rw [List.getD_eq_getElem?_getD, List.getElem?_eq_getElem hbL]
      simp only [Option.getD_some]
      rcases List.mem_append.1 this with hx | hx
      · have := hdi.own _ hx
        exact ⟨(((dsV P G M N l).own ++ [(((rns l).map zR).length : Int)])[b]).toNat, by omega, by omega⟩
      · rw [List.mem_singleton] at hx
        exact ⟨(rns l).length, by rw [hx, hZl], Nat.le_refl _⟩
    rw [ht, Int.toNat_natCast]
    have hiff : (∃ b ∈ (tkV P G M N l).broken, (b : Int) = (posL (rns l) 0 ++ [(l.length : Int)]).getD t 0) ↔ ((rns l).map zR)[t]? = some (-1) := by
      constructor
      · rintro ⟨b, hb1, hb2⟩
        obtain ⟨j, j1, j2, j3⟩ := (hsim.br b).1 hb1
        have := hpi (by omega) htn (j3.trans hb2)
        subst this
        rw [List.getD_eq_getElem?_getD, List.getElem?_eq_getElem (by omega)] at j2
        rw [List.getElem?_eq_getElem (by omega)]
        exact congrArg some j2
      · intro q
        have q2 := (List.getElem?_eq_some_iff.1 q).1
        refine ⟨_, (hsim.br _).2 ⟨t, by omega, by rw [List.getD_eq_getElem?_getD, q]; rfl, hpl t htn⟩, (hpl t htn).symm⟩
    by_cases hq : ((rns l).map zR)[t]? = some (-1)
    · rw [if_pos (hiff.2 hq), if_pos hq]
    · rw [if_neg (fun q => hq (hiff.1 q)), if_neg hq]
  · rw [if_neg hb, if_neg hb]
    have hm := shpB_m1 (tkV P G M N l).plain
    obtain ⟨bad, f, e, hs⟩ : ∃ bad f e, shpB (tkV P G M N l).plain = (bad, f, e) := ⟨_, _, _, rfl⟩
    rw [hs] at hb hm ⊢
    dsimp only at hb hm ⊢
    obtain rfl : bad = -1 := by omega
    have h0R : ∀ p ∈ rns l, 0 ≤ p.1 := fun p hp => ((rnsF_ok _ l (Nat.le_refl _)).2 p hp).1
    have htv := tkV_rns P G M N l
    rcases tk_split P G M N (rns l) with hno | ⟨A, c, C, D, hR, hA, hc, hC, hD⟩
    · exfalso
      obtain ⟨t1, _⟩ := tk_none (rns l) hno
      rw [← htv] at t1
      obtain ⟨_, k2, k3, _, k5, _⟩ := shp_ok hs
      have hd := k5 f (Nat.le_refl _) k2
      rw [List.getD_eq_getElem?_getD, List.getElem?_eq_getElem (by omega : f < (tkV P G M N l).plain.length)] at hd
      simp only [Option.getD_some] at hd
      have hm : (tkV P G M N l).plain[f] ∈ (tkV P G M N l).plain := List.getElem_mem _
      obtain ⟨b, hb⟩ : ∃ b, (tkV P G M N l).plain[f] = b := ⟨_, rfl⟩
      rw [hb] at hd hm
      rw [t1] at hm
      obtain ⟨p, hp, rfl⟩ := List.mem_map.1 hm
      rw [hno p hp] at hd; cases hd
    · obtain ⟨t1, t2⟩ := tk_form A c C D hA hc hC hD
      rw [← hR, ← htv] at t1 t2
      have hQ0 : ∀ p ∈ c :: C, 0 ≤ p.1 := fun p hp => h0R p (by rw [hR]; exact List.mem_append_left _ (List.mem_append_right _ hp))
      have hCp : ∀ p ∈ c :: C, isD (cl P G M N p) = true ∨ cl P G M N p = 103 := by
        intro p hp
        rcases List.mem_cons.1 hp with rfl | hp
        · exact .inl hc
        · exact hC p hp
      have hflt := flt_dig hg (c :: C) hQ0 hCp
      rw [← t2] at hflt
      have hrn : (tkV P G M N l).runes ≠ [] := by rw [t2]; simp
      obtain ⟨F, hF⟩ : ∃ F, ((c :: C).map (cl P G M N)).filter isD = F := ⟨_, rfl⟩
      rw [hF] at t1 hflt
      have hFd : ∀ b ∈ F, isD b = true := fun b hb => by rw [← hF] at hb; exact (List.mem_filter.1 hb).2
      have hF0 : F ≠ [] := by rw [← hF, List.map_cons, List.filter_cons_of_pos hc]; simp
      have hs2 := hs
      rw [t1] at hs2
      obtain ⟨g1, g2, g3, g4, g5⟩ := shp_parts hs2 (by intro b hb; obtain ⟨p, hp, rfl⟩ := List.mem_map.1 hb; exact hA p hp) hFd hF0
        (by
          intro b E hE
          cases D with
          | nil => cases hE
          | cons p D =>
            simp only [List.map_cons, List.cons.injEq] at hE
            rw [← hE.1]; exact (hD p D rfl).1)
      rw [← t1] at g2
      have hPlB : ∀ b ∈ (tkV P G M N l).plain, PlB b := by
        intro b hb
        rw [t1] at hb
        rcases List.mem_append.1 hb with hb | hb
        · rcases List.mem_append.1 hb with hb | hb
          · rw [g1] at hb
            split at hb
            · rw [List.mem_singleton] at hb; exact .inr (.inl hb)
            · cases hb
          · exact .inr (.inr (.inr (hFd b hb)))
        · exact g5 b hb
      have hpe : (dsV P G M N l).out.map encB = (tkV P G M N l).plain := by
        rw [hsim.pe]
        conv => rhs; rw [← List.map_id (tkV P G M N l).plain]
        refine List.map_congr_left (fun b hb => ?_)
        unfold fixB
        rw [if_neg (PlB_not (hPlB b hb)).1]; rfl
      have hout : (dsV P G M N l).out.flatMap encL = (tkV P G M N l).plain := by
        rw [flat_enc _ (by rw [hpe]; exact hPlB), hpe]
      have hbg : (tkV P G M N l).begun = true := by
        cases q : (tkV P G M N l).begun with
        | true => rfl
        | false => exact absurd (hsim.nb q).2.1 hrn
      obtain ⟨r1, r2⟩ := hsim.ru hbg
      have hgr := hsim.gr
      have hde := hdi.le.d
      have hfe := hdi.fe
      have hdg : dgL G ((rns l).map zR) (dsV P G M N l).fr (dsV P G M N l).en = (tkV P G M N l).runes.filter (fun z => decide (z ≠ G)) := by unfold dgL; rw [r2]
      rw [hdg, ← r2, hout, g2]
      have hFl : F.length = ((tkV P G M N l).runes.filter (fun z => decide (z ≠ G))).length := by rw [hflt, List.length_map]
      by_cases hq : (dsV P G M N l).gr = true
      · have h1 := flt_lt _ (hgr.1 hq)
        rw [if_pos (by omega), if_pos hq, whole_grp G N xs F F.length (Nat.le_refl _), hFl, ← hflt]
        obtain ⟨o, ho⟩ : ∃ o, misN (tkV P G M N l).runes (grpN G xs ((tkV P G M N l).runes.filter (fun z => decide (z ≠ G))) ((tkV P G M N l).runes.filter (fun z => decide (z ≠ G))).length) 0 = o := ⟨_, rfl⟩
        rw [ho]
        cases o with
        | none => rfl
        | some i =>
          have h2 := (misN_le _ _ _ _ ho).2
          have h3 : (tkV P G M N l).runes.length = (dsV P G M N l).en - (dsV P G M N l).fr := by rw [r2, List.length_drop, List.length_take]; omega
          show (([] : List UInt8), (231 : Int), _) = ([], 231, _)
          congr 2
          cases hi : (tkV P G M N l).inside with
          | true =>
            obtain ⟨i1, i2⟩ := hsim.ia hbg hi
            have : (tkV P G M N l).ats ++ [(l.length : Int)] = (posL (rns l) 0 ++ [(l.length : Int)]).drop (dsV P G M N l).fr := by
              conv => rhs; rw [hPt]
              rw [List.drop_append_of_le_length (by rw [List.length_take]; omega), i2, i1]
            rw [this]
          | false =>
            obtain ⟨o1, o2⟩ := hsim.oa hbg hi
            have h5 : i < (tkV P G M N l).ats.length := by rw [o2, List.length_drop, List.length_take]; omega
            rw [List.getD_eq_getElem?_getD, List.getElem?_append_left h5, o2, List.getElem?_drop, List.getElem?_take, if_pos (by omega), List.getD_eq_getElem?_getD, List.getElem?_drop]
      · have h1 := flt_all (fun q => hq (hgr.2 q))
        rw [h1] at hFl
        rw [if_neg (by omega), if_neg hq]
theorem take_zero (P G M N : Int) (xs : List Int) (l : List UInt8) : (takeV P G M N xs l).2.1 = 0 → (takeV P G M N xs l).2.2 = 0 := by
  unfold takeV
  split
  · intro _; rfl
  · split
    · split
      · intro h; simp at h
      · intro h; simp at h
    · split
      · unfold misA
        split
        · intro h; simp at h
        · intro _; rfl
      · intro _; rfl
end Go.Proofs.YtgedpfbokkambaaGreatDoor
end
