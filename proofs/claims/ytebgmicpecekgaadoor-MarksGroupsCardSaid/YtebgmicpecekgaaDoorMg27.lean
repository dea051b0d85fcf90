/- Lemmas of this proof, laid together: MlF. -/
import Derived.Test.YtebgmicpecekgaaDoorMg24
set_option linter.unusedSimpArgs false
set_option linter.unusedVariables false
section
/- Marks: the groups' sizes: the plain law. -/
namespace Go.Proofs.YtebgmicpecekgaaDoor
open Go.RowKit Go.Maps
set_option maxHeartbeats 4000000
set_option maxRecDepth 100000
/-- What the law gathers of a text's runes: without Groups; how many digits stood ahead of each Group. -/
structure GS where
  out : List Int
  cnt : List Int
  n : Int
  wh : Bool
def gsStep (G M N : Int) (s : GS) (r : Int) : GS :=
  if r = G then ⟨s.out, s.cnt ++ [s.n], 0, s.wh⟩
  else if s.wh = true ∧ (N ≤ r ∧ r ≤ N + 9) then ⟨s.out ++ [r], s.cnt, s.n + 1, s.wh⟩
  else if r ≠ M ∨ s.out ≠ [] then ⟨s.out ++ [r], s.cnt, s.n, false⟩ else ⟨s.out ++ [r], s.cnt, s.n, s.wh⟩
def gs0 : GS := ⟨[], [], 0, true⟩
def gsV (G M N : Int) (L : List Int) : GS := L.foldl (gsStep G M N) gs0
theorem gs_out {G M N : Int} : ∀ (R : List Int) (s : GS), (∀ r ∈ R, r ≠ G) → s.wh = false → s.out ≠ [] → R.foldl (gsStep G M N) s = ⟨s.out ++ R, s.cnt, s.n, false⟩
  | [], s, _, hw, _ => by rw [List.append_nil, ← hw]; rfl
  | r :: R, s, h, hw, ho => by
    have h1 := h r (by simp)
    have e : gsStep G M N s r = ⟨s.out ++ [r], s.cnt, s.n, false⟩ := by
      unfold gsStep
      rw [if_neg h1, if_neg (by rw [hw]; simp), if_pos (.inr ho)]
    rw [List.foldl_cons, e, gs_out R _ (fun x hx => h x (by simp [hx])) rfl (by simp)]
    simp
theorem remI_strict {xs : List Int} (h : sizesOk xs) (h0 : xs.length ≠ 0) (n : Int) (k : Nat) : ∀ m : Nat, remI xs n (k + m) ≤ remI xs n k - m
  | 0 => by simp
  | m + 1 => by
    have h1 := remI_strict h h0 n k m
    have h2 := szAt_ge h h0 (k + m)
    rw [show k + (m + 1) = k + m + 1 by omega, remI]
    omega
theorem remI_lt {xs : List Int} (h : sizesOk xs) (h0 : xs.length ≠ 0) (n : Int) {j k : Nat} (hjk : j < k) : remI xs n k + 1 ≤ remI xs n j := by
  have := remI_strict h h0 n j (k - j)
  rw [show j + (k - j) = k by omega] at this
  omega
theorem remI_mono {xs : List Int} (h : sizesOk xs) (h0 : xs.length ≠ 0) (n : Int) {j k : Nat} (hjk : j ≤ k) : remI xs n k ≤ remI xs n j := by
  have := remI_strict h h0 n j (k - j)
  rw [show j + (k - j) = k by omega] at this
  omega
theorem last_cut {xs : List Int} (h : sizesOk xs) (h0 : xs.length ≠ 0) (n : Int) : ∀ (f j : Nat), 0 < remI xs n j → remI xs n j ≤ f → ∃ K, 0 < remI xs n K ∧ remI xs n (K + 1) ≤ 0
  | 0, j, h1, h2 => by omega
  | f + 1, j, h1, h2 => by
    by_cases h3 : 0 < remI xs n (j + 1)
    · have := remI_lt h h0 n (show j < j + 1 by omega)
      exact last_cut h h0 n f (j + 1) h3 (by omega)
    · exact ⟨j, h1, by omega⟩
/-- The first q groups' digits, from the left; K Groups in all. -/
def cntK (xs : List Int) (n : Int) (K q : Nat) : List Int := (List.range q).map (fun t => if t = 0 then remI xs n K else szAt xs (K - t))
theorem cntK_succ (xs : List Int) (n : Int) (K q : Nat) : cntK xs n K (q + 1) = cntK xs n K q ++ [if q = 0 then remI xs n K else szAt xs (K - q)] := by
  unfold cntK; rw [List.range_succ, List.map_append]; rfl
theorem gs_whole {P G M N : Int} (hg : GoodM P G M N) (hG : G ≠ 0) {xs : List Int} (hx : sizesOk xs) (hx0 : xs.length ≠ 0) (d : List UInt8) (hd : ∀ b ∈ d, isD b = true) (K : Nat) (hK : 0 < remI xs d.length K) (hK1 : remI xs d.length (K + 1) ≤ 0) (s0 : GS) (h1 : s0.cnt = []) (h2 : s0.n = 0) (h3 : s0.wh = true) :
    ∀ i, i ≤ d.length → ∃ q, q ≤ K ∧ ((wholeN G N xs d i).foldl (gsStep G M N) s0).out = s0.out ++ (d.take i).map (fun b => N + ((b.toNat : Int) - 48)) ∧ ((wholeN G N xs d i).foldl (gsStep G M N) s0).wh = true ∧
      ((wholeN G N xs d i).foldl (gsStep G M N) s0).cnt = cntK xs d.length K q ∧ ((wholeN G N xs d i).foldl (gsStep G M N) s0).n = (i : Int) - (if q = 0 then 0 else remI xs d.length (K + 1 - q)) ∧
      (q = 0 ∨ remI xs d.length (K + 1 - q) < i) ∧ (i : Int) ≤ remI xs d.length (K - q)
  | 0, _ => ⟨0, by omega, by simp [wholeN], by simpa [wholeN] using h3, by simpa [wholeN, cntK] using h1, by simpa [wholeN] using h2, .inl rfl, by rw [Nat.sub_zero]; simp; omega⟩
  | i + 1, hi => by
    obtain ⟨q, q1, q2, q3, q4, q5, q6, q7⟩ := gs_whole hg hG hx hx0 d hd K hK hK1 s0 h1 h2 h3 i (by omega)
    have hxd : isD (d.getD i 0) = true := by
      rw [List.getD_eq_getElem?_getD, List.getElem?_eq_getElem (by omega : i < d.length)]; exact hd _ (List.getElem_mem _)
    obtain ⟨x, hxx⟩ : ∃ x, d.getD i 0 = x := ⟨_, rfl⟩
    have ht : (d.take (i + 1)).map (fun b => N + ((b.toNat : Int) - 48)) = (d.take i).map (fun b => N + ((b.toNat : Int) - 48)) ++ [N + ((x.toNat : Int) - 48)] := by
      rw [List.take_add_one, List.getElem?_eq_getElem (by omega : i < d.length), List.map_append]
      rw [List.getD_eq_getElem?_getD, List.getElem?_eq_getElem (by omega : i < d.length)] at hxx
      simp only [Option.getD_some] at hxx
      rw [hxx]; rfl
    rw [hxx] at hxd
    have hx9 := (isD_iff x).1 hxd
    obtain ⟨r, hr⟩ : ∃ r, N + ((x.toNat : Int) - 48) = r := ⟨_, rfl⟩
    have hrG : r ≠ G := by
      have := (hg.g hG).2.2.2 (x.toNat - 48) (by omega)
      rw [← hr]; intro e; apply this; omega
    have hrd : N ≤ r ∧ r ≤ N + 9 := by omega
    have hstep : ∀ s : GS, s.wh = true → gsStep G M N s r = ⟨s.out ++ [r], s.cnt, s.n + 1, s.wh⟩ := fun s hs => by
      unfold gsStep; rw [if_neg hrG, if_pos ⟨hs, hrd⟩]
    rw [wholeN, hxx, hr, List.foldl_append, List.foldl_append]
    rw [hr] at ht
    generalize (wholeN G N xs d i).foldl (gsStep G M N) s0 = s at *
    by_cases hcut : cutB G xs d.length i = true
    · rw [if_pos hcut]
      have hsk : szOk G xs.length xs ∨ True := .inr trivial
      have hc : 0 < (i : Int) ∧ ∃ j : Nat, 1 ≤ j ∧ remI xs d.length j = i := by
        unfold cutB at hcut
        simp only [Bool.and_eq_true, decide_eq_true_eq, List.any_eq_true, List.mem_range] at hcut
        obtain ⟨⟨_, h5⟩, j, _, h6⟩ := hcut
        exact ⟨by omega, j + 1, by omega, h6⟩
      obtain ⟨hi0, j, hj1, hj⟩ := hc
      have hjq : j = K - q := by
        rcases Nat.lt_trichotomy j (K - q) with h4 | h4 | h4
        · have := remI_lt hx hx0 (d.length : Int) h4; omega
        · exact h4
        · have := remI_mono hx hx0 (d.length : Int) (show K + 1 - q ≤ j by omega)
          rcases q6 with rfl | q6
          · rw [Nat.sub_zero] at this; omega
          · omega
      have hqK : q < K := by omega
      rw [List.foldl_cons, List.foldl_nil, List.foldl_cons, List.foldl_nil]
      have e1 : gsStep G M N s G = ⟨s.out, s.cnt ++ [s.n], 0, s.wh⟩ := by unfold gsStep; rw [if_pos rfl]
      rw [e1, hstep ⟨s.out, s.cnt ++ [s.n], 0, s.wh⟩ q3]
      refine ⟨q + 1, by omega, ?_, q3, ?_, ?_, .inr ?_, ?_⟩
      · rw [q2, ht, List.append_assoc]
      · show s.cnt ++ [s.n] = _
        rw [cntK_succ, q4, q5]
        congr 2
        by_cases h0 : q = 0
        · subst h0; rw [if_pos rfl, if_pos rfl]; rw [Nat.sub_zero] at hjq; rw [← hjq]; omega
        · rw [if_neg h0, if_neg h0]
          have : remI xs d.length (K + 1 - q) = remI xs d.length (K - q) - szAt xs (K - q) := by rw [show K + 1 - q = (K - q) + 1 by omega, remI]
          rw [this, ← hjq]; omega
      · show (0 : Int) + 1 = _
        rw [if_neg (by omega), show K + 1 - (q + 1) = j by omega, hj]; omega
      · rw [show K + 1 - (q + 1) = j by omega, hj]; omega
      · have := remI_lt hx hx0 (d.length : Int) (show K - (q + 1) < j by omega)
        omega
    · rw [if_neg hcut, List.foldl_nil, List.foldl_cons, List.foldl_nil, hstep _ q3]
      refine ⟨q, q1, ?_, q3, q4, ?_, ?_, ?_⟩
      · rw [q2, ht, List.append_assoc]
      · show s.n + 1 = _
        rw [q5]; omega
      · rcases q6 with h4 | h4
        · exact .inl h4
        · exact .inr (by omega)
      · rcases Nat.eq_zero_or_pos i with hi0 | hi0
        · subst hi0
          have := remI_mono hx hx0 (d.length : Int) (show K - q ≤ K by omega)
          omega
        · by_cases hne : remI xs d.length (K - q) = i
          · exfalso
            rcases Nat.eq_zero_or_pos (K - q) with h5 | h5
            · rw [h5] at hne
              have : remI xs (d.length : Int) 0 = d.length := rfl
              omega
            · apply hcut
              have hKn := remI_le hx hx0 (d.length : Int) (K - q)
              unfold cutB
              simp only [Bool.and_eq_true, decide_eq_true_eq, List.any_eq_true, List.mem_range]
              exact ⟨⟨hG, by omega⟩, K - q - 1, by omega, by rw [show K - q - 1 + 1 = K - q by omega]; exact hne⟩
          · omega
theorem putL_head {P G M N : Int} {xs : List Int} {l : List UInt8} {f e : Nat} : putL P G M N xs l f e = (if 0 < f then [M] else []) ++ wholeN G N xs ((l.take e).drop f) ((l.take e).drop f).length ++ (l.drop e).map (markB P M N) := rfl
/-- Without its Groups a text is the bare one; the groups have the sizes. -/
theorem groups_law {P G M N : Int} (hg : GoodM P G M N) (hG : G ≠ 0) {xs : List Int} (hx : sizesOk xs) (hx0 : xs.length ≠ 0) {l : List UInt8} {f e : Nat} (hs : shpB l = (-1, f, e)) :
    (gsV G M N (putL P G M N xs l f e)).out = putL P 0 M N [] l f e ∧ ∃ K n, (gsV G M N (putL P G M N xs l f e)).cnt ++ [(gsV G M N (putL P G M N xs l f e)).n] = cntK xs n K (K + 1) ∧ 0 < remI xs n K ∧ remI xs n (K + 1) ≤ 0 := by
  obtain ⟨h1, h2, h3, h4, h5, h6⟩ := shp_ok hs
  have hst := fun q => shp_stop hs q
  have hdd := drop_isD h5 h3
  have hdl : ((l.take e).drop f).length = e - f := by rw [List.length_drop, List.length_take]; omega
  have hpd : ∀ b ∈ l.drop e, PlB b := mem_getD (fun i hi => by
    rw [List.length_drop] at hi
    rw [List.getD_eq_getElem?_getD, List.getElem?_drop, ← List.getD_eq_getElem?_getD]
    exact h6 (e + i) (by omega) (by omega))
  have hMd : ¬ (N ≤ M ∧ M ≤ N + 9) := fun q => (hg.nd (M - N).toNat (by omega)).2.1 (by omega)
  unfold gsV
  rw [putL_head, putL_head]
  generalize (l.take e).drop f = d at *
  obtain ⟨K, hK, hK1⟩ := last_cut hx hx0 (d.length : Int) d.length 0 (by show (0 : Int) < d.length; omega) (by show (d.length : Int) ≤ _; omega)
  have e0 : ((if 0 < f then [M] else []).foldl (gsStep G M N) gs0) = ⟨if 0 < f then [M] else [], [], 0, true⟩ := by
    split
    · rw [List.foldl_cons, List.foldl_nil]
      unfold gsStep
      rw [if_neg (fun q => (hg.g hG).2.1 q.symm), if_neg (fun q => hMd q.2), if_neg (by simp [gs0])]
      rfl
    · rfl
  rw [List.foldl_append, List.foldl_append, e0]
  obtain ⟨q, q1, q2, q3, q4, q5, q6, q7⟩ := gs_whole hg hG hx hx0 d hdd K hK hK1 ⟨if 0 < f then [M] else [], [], 0, true⟩ rfl rfl rfl d.length (Nat.le_refl _)
  generalize (wholeN G N xs d d.length).foldl (gsStep G M N) ⟨if 0 < f then [M] else [], [], 0, true⟩ = s at *
  have hqK : q = K := by
    rcases Nat.lt_or_ge q K with h7 | h7
    · have := remI_lt hx hx0 (d.length : Int) (show 0 < K - q by omega)
      have h8 : remI xs (d.length : Int) 0 = d.length := rfl
      omega
    · omega
  subst hqK
  rw [List.take_of_length_le (Nat.le_refl _)] at q2
  have hso : s.out ≠ [] := by
    rw [q2]
    intro e9
    have h8 := (List.append_eq_nil_iff.1 e9).2
    rw [List.map_eq_nil_iff] at h8
    rw [h8, List.length_nil] at hdl
    omega
  have hsn : s.cnt ++ [s.n] = cntK xs d.length q (q + 1) := by
    rw [cntK_succ, q4, q5]
    congr 2
    rcases Nat.eq_zero_or_pos q with h0 | h0
    · subst h0
      rw [if_pos rfl, if_pos rfl]
      have h8 : remI xs (d.length : Int) 0 = d.length := rfl
      omega
    · rw [if_neg (by omega), if_neg (by omega), Nat.sub_self, show q + 1 - q = 0 + 1 by omega, remI]
      have h8 : remI xs (d.length : Int) 0 = d.length := rfl
      omega
  have hpost : (((l.drop e).map (markB P M N)).foldl (gsStep G M N) s).out = s.out ++ (l.drop e).map (markB P M N) ∧ (((l.drop e).map (markB P M N)).foldl (gsStep G M N) s).cnt = s.cnt ∧ (((l.drop e).map (markB P M N)).foldl (gsStep G M N) s).n = s.n := by
    have hnG : ∀ b, PlB b → markB P M N b ≠ G := by
      intro b hb
      obtain ⟨g1, g2, g3, g4⟩ := hg.g hG
      rcases hb with rfl | rfl | rfl | hb
      · exact fun q => g1 q.symm
      · exact fun q => g2 q.symm
      · exact fun q => g3 q.symm
      · rw [markB_dig hb]
        have := (isD_iff b).1 hb
        intro q; exact g4 (b.toNat - 48) (by omega) (by omega)
    cases hq : l.drop e with
    | nil => simp
    | cons b t =>
      rw [hq] at hpd
      have hb := hpd b (by simp)
      have hel : e < l.length := by
        have := congrArg List.length hq
        rw [List.length_drop] at this; simp at this; omega
      have hbe : l.getD e 0 = b := by
        have := congrArg (fun z => z.getD 0 0) hq
        simpa using this
      have hbd : isD b = false := by rw [← hbe]; exact hst hel
      have hnd : ¬ (N ≤ markB P M N b ∧ markB P M N b ≤ N + 9) := by
        rcases hb with rfl | rfl | rfl | hb
        · exact fun q => (hg.nd (P - N).toNat (by have : markB P M N 46 = P := rfl; omega)).1 (by have : markB P M N 46 = P := rfl; omega)
        · exact hMd
        · exact fun q => (hg.nd (101 - N).toNat (by have : markB P M N 101 = 101 := rfl; omega)).2.2 (by have : markB P M N 101 = 101 := rfl; omega)
        · rw [hbd] at hb; cases hb
      have e1 : gsStep G M N s (markB P M N b) = ⟨s.out ++ [markB P M N b], s.cnt, s.n, false⟩ := by
        unfold gsStep
        rw [if_neg (hnG b hb), if_neg (fun q => hnd q.2), if_pos (.inr hso)]
      rw [List.map_cons, List.foldl_cons, e1, gs_out _ _ (by intro r hr; obtain ⟨b2, hb2, rfl⟩ := List.mem_map.1 hr; exact hnG b2 (hpd b2 (by simp [hb2]))) rfl (by simp)]
      simp
  obtain ⟨p1, p2, p3⟩ := hpost
  refine ⟨?_, q, d.length, by rw [p2, p3]; exact hsn, hK, hK1⟩
  rw [p1, q2, whole_bare N d d.length (Nat.le_refl _), List.take_of_length_le (Nat.le_refl _)]
/-- What the last loop asks of the counts. -/
theorem cntK_get {xs : List Int} {n : Int} {K i : Nat} (hi : i ≤ K) : (cntK xs n K (K + 1)).getD i 0 = if i = 0 then remI xs n K else szAt xs (K - i) := by
  unfold cntK
  rw [List.getD_eq_getElem?_getD, List.getElem?_map, List.getElem?_range (by omega)]; rfl
theorem flat_filter_le {L L2 : List Int} (h : L2.Sublist L) : (L2.flatMap encL).length ≤ (L.flatMap encL).length := by
  induction h with
  | slnil => simp
  | cons a _ ih => simp only [List.flatMap_cons, List.length_append]; omega
  | cons_cons a _ ih => simp only [List.flatMap_cons, List.length_append]; omega
theorem whole_sub (G N : Int) (xs : List Int) (d : List UInt8) : ∀ i, i ≤ d.length → ((d.take i).map (fun b => N + ((b.toNat : Int) - 48))).Sublist (wholeN G N xs d i)
  | 0, _ => by simp [wholeN]
  | i + 1, hi => by
    have ih := whole_sub G N xs d i (by omega)
    rw [wholeN, List.take_add_one, List.getElem?_eq_getElem (by omega : i < d.length), List.map_append, List.getD_eq_getElem?_getD, List.getElem?_eq_getElem (by omega : i < d.length)]
    refine List.Sublist.append ?_ (List.Sublist.refl _)
    exact ih.trans (List.sublist_append_left _ _)
theorem ckv_bare {P G M N : Int} {xs : List Int} (h : ckv P G M N xs = 0) : ckv P 0 M N [] = 0 := by
  obtain ⟨hN, h1, h2, _⟩ := szOk_of (k := xs.length) rfl h
  have hsub : (allR P 0 M N).Sublist (allR P G M N) := by
    unfold allR
    rw [if_pos rfl, List.append_nil]
    refine List.Sublist.append ?_ (List.Sublist.refl _)
    exact List.sublist_append_left _ _
  rw [ckv_in hN (fun r hr => h1 r (hsub.subset hr)) (hsub.nodup h2), szv_none rfl]
theorem put_bare {P G M N : Int} {xs : List Int} {l t : List UInt8} {z : Int} (h : putV P G M N xs l = (t, 0, z)) {f e : Nat} (hs : shpB l = (-1, f, e)) : putV P 0 M N [] l = ((putL P 0 M N [] l f e).flatMap encL, 0, 0) := by
  obtain ⟨h1, h2, f', e', h3, h4, h5, _⟩ := put_parts h
  rw [hs] at h3
  simp only [Prod.mk.injEq, true_and] at h3
  obtain ⟨rfl, rfl⟩ := h3
  refine put_of (ckv_bare h1) h2 hs ?_
  rw [h4] at h5
  refine Nat.le_trans (flat_filter_le ?_) h5
  rw [putL_head, putL_head, whole_bare N _ _ (Nat.le_refl _)]
  exact List.Sublist.append (List.Sublist.append (List.Sublist.refl _) (whole_sub G N xs _ _ (Nat.le_refl _))) (List.Sublist.refl _)
end Go.Proofs.YtebgmicpecekgaaDoor
end
