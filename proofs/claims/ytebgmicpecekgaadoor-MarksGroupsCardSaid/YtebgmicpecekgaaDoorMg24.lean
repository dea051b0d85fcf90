/- Lemmas of this proof, laid together: MlD, MlE. -/
import Derived.Test.YtebgmicpecekgaaDoorMg16
set_option linter.unusedSimpArgs false
set_option linter.unusedVariables false
section
/- Marks: what is taken is put again: the plain law. -/
namespace Go.Proofs.YtebgmicpecekgaaDoor
open Go.RowKit Go.Maps
set_option maxHeartbeats 4000000
set_option maxRecDepth 100000
theorem whole_bare (N : Int) (d : List UInt8) : ∀ i, i ≤ d.length → wholeN 0 N [] d i = (d.take i).map (fun b => N + ((b.toNat : Int) - 48))
  | 0, _ => by simp [wholeN]
  | i + 1, hi => by
    have hc : ¬ (cutB 0 [] d.length i = true) := by unfold cutB; simp
    rw [wholeN, whole_bare N d i (by omega), if_neg hc, List.take_add_one, List.getElem?_eq_getElem (by omega : i < d.length), List.getD_eq_getElem?_getD, List.getElem?_eq_getElem (by omega : i < d.length), List.map_append, List.append_nil]
    rfl
theorem takeWhile_app (F D : List UInt8) (hF : ∀ b ∈ F, isD b = true) (hD : ∀ b E, D = b :: E → isD b = false) : (F ++ D).takeWhile isD = F := by
  induction F with
  | nil =>
    cases D with
    | nil => rfl
    | cons b E => rw [List.nil_append, List.takeWhile_cons_of_neg (by rw [hD b E rfl]; decide)]
  | cons x F ih =>
    rw [List.cons_append, List.takeWhile_cons_of_pos (hF x (by simp)), ih (fun b hb => hF b (by simp [hb]))]
/-- A text that is a number, in the parts of its runes. -/
theorem shp_parts {A F D : List UInt8} {f e : Nat} (hs : shpB (A ++ F ++ D) = (-1, f, e)) (hA : ∀ b ∈ A, isD b = false) (hF : ∀ b ∈ F, isD b = true) (hF0 : F ≠ []) (hD : ∀ b E, D = b :: E → isD b = false) :
    A = (if 0 < f then [45] else []) ∧ ((A ++ F ++ D).take e).drop f = F ∧ (A ++ F ++ D).drop e = D ∧ e = f + F.length ∧ ∀ b ∈ D, PlB b := by
  obtain ⟨h1, h2, h3, h4, h5, h6⟩ := shp_ok hs
  have hrow := shp_row hs
  have hF1 : 0 < F.length := List.length_pos_iff.2 hF0
  have hget : ∀ i, (A ++ F ++ D).getD i 0 = if i < A.length then A.getD i 0 else (F ++ D).getD (i - A.length) 0 := by
    intro i
    rw [List.append_assoc, List.getD_eq_getElem?_getD, List.getD_eq_getElem?_getD, List.getD_eq_getElem?_getD, List.getElem?_append]
    split <;> rfl
  have hfd := h5 f (Nat.le_refl _) h2
  have hAf : A.length ≤ f := by
    rcases Nat.lt_or_ge f A.length with q | q
    · rw [hget, if_pos q, List.getD_eq_getElem?_getD, List.getElem?_eq_getElem q] at hfd
      have := hA _ (List.getElem_mem q)
      simp only [Option.getD_some] at hfd
      rw [hfd] at this; cases this
    · exact q
  have hA45 : A = (if 0 < f then [45] else []) := by
    rcases h4 with ⟨h7, rfl⟩ | ⟨_, rfl⟩
    · cases A with
      | nil =>
        cases F with
        | nil => exact absurd rfl hF0
        | cons x F =>
          have hx := hF x (by simp)
          simp at h7
          subst h7
          exact absurd hx (by decide)
      | cons a A =>
        cases A with
        | nil => simp at h7; subst h7; simp
        | cons a2 A => simp at hAf
    · have : A = [] := List.eq_nil_of_length_eq_zero (by omega)
      rw [this]; simp
  have hAl : A.length = f := by
    rw [hA45]
    rcases h4 with ⟨_, rfl⟩ | ⟨_, rfl⟩ <;> simp
  have hdf : (A ++ F ++ D).drop f = F ++ D := by rw [← hAl, List.append_assoc, List.drop_left]
  have he : e = f + F.length := by
    unfold rowN at hrow
    rw [hdf, takeWhile_app F D hF hD] at hrow
    exact hrow
  refine ⟨hA45, ?_, ?_, he, ?_⟩
  · rw [List.drop_take, hdf, he, Nat.add_sub_cancel_left, List.take_left]
  · rw [he, ← List.drop_drop, hdf, List.drop_left]
  · refine mem_getD (fun i hi => ?_)
    have hlen : (A ++ F ++ D).length = f + F.length + D.length := by rw [List.length_append, List.length_append, hAl]
    have := h6 (e + i) (by omega) (by omega)
    have h9 : (A ++ F ++ D).drop e = D := by rw [he, ← List.drop_drop, hdf, List.drop_left]
    rw [← h9, List.getD_eq_getElem?_getD, List.getElem?_drop, ← List.getD_eq_getElem?_getD]
    exact this
/-- What Take answers where it tells no fault. -/
theorem take_parts {P G M N : Int} {xs : List Int} {s u : List UInt8} {z : Int} (h : takeV P G M N xs s = (u, 0, z)) : ckv P G M N xs = 0 ∧ s.length ≤ 65536 ∧ z = 0 ∧ u = (tkV P G M N s).plain ∧ ∃ f e, shpB u = (-1, f, e) ∧
    ((tkV P G M N s).runes = wholeN G N xs ((u.take e).drop f) ((u.take e).drop f).length ∨ (tkV P G M N s).runes.length ≤ e - f) := by
  have hm := shpB_m1 (tkV P G M N s).plain
  unfold takeV at h
  split at h
  · rename_i q; simp only [Prod.mk.injEq] at h; exact absurd h.2.1 q
  rename_i q
  have q2 : rdy P G M N xs s.length = 0 := by simpa using q
  obtain ⟨h1, h2⟩ := rdy_ok q2
  split at h
  · split at h
    · simp only [Prod.mk.injEq] at h; omega
    · simp only [Prod.mk.injEq] at h; omega
  rename_i q3
  obtain ⟨bad, f, e, hs⟩ : ∃ bad f e, shpB (tkV P G M N s).plain = (bad, f, e) := ⟨_, _, _, rfl⟩
  rw [hs] at h hm q3
  dsimp only at h hm q3
  have hb : bad = -1 := by omega
  subst hb
  split at h
  · rename_i q4
    obtain ⟨o, ho⟩ : ∃ o, misN (tkV P G M N s).runes (wholeN G N xs (((tkV P G M N s).plain.take e).drop f) (((tkV P G M N s).plain.take e).drop f).length) 0 = o := ⟨_, rfl⟩
    rw [ho] at h
    cases o with
    | some i => simp only [misA, Prod.mk.injEq] at h; omega
    | none =>
      simp only [misA, Prod.mk.injEq, true_and] at h
      obtain ⟨rfl, rfl⟩ := h
      exact ⟨h1, h2, rfl, rfl, f, e, hs, .inl (misN_none _ _ _ ho)⟩
  · rename_i q4
    simp only [Prod.mk.injEq, true_and] at h
    obtain ⟨rfl, rfl⟩ := h
    exact ⟨h1, h2, rfl, rfl, f, e, hs, .inr (by omega)⟩
theorem filter_full {α : Type} (p : α → Bool) : ∀ l : List α, l.length ≤ (l.filter p).length → ∀ x ∈ l, p x = true
  | [], _ => by simp
  | x :: l, h => by
    have h2 := List.length_filter_le p l
    cases hx : p x with
    | false =>
      rw [List.filter_cons_of_neg (by simp [hx])] at h
      simp at h; omega
    | true =>
      rw [List.filter_cons_of_pos hx] at h
      simp only [List.length_cons] at h
      intro y hy
      rcases List.mem_cons.1 hy with rfl | hy
      · exact hx
      · exact filter_full p l (by omega) y hy
/-- What is taken is what was put: with its Groups, or bare. -/
theorem put_take {P G M N : Int} {xs : List Int} {s u : List UInt8} {z : Int} (h : takeV P G M N xs s = (u, 0, z)) : ∃ f e, shpB u = (-1, f, e) ∧ (s = (putL P G M N xs u f e).flatMap encL ∨ s = (putL P 0 M N [] u f e).flatMap encL) := by
  obtain ⟨h1, h2, -, hu, f, e, hs, hr⟩ := take_parts h
  refine ⟨f, e, hs, ?_⟩
  rw [tkV_rns] at hu hr
  rcases tk_split P G M N (rns s) with hno | ⟨A, c, C, D, hR, hA, hc, hC, hD⟩
  · exfalso
    obtain ⟨t1, _⟩ := tk_none (rns s) hno
    rw [t1] at hu
    obtain ⟨_, k2, k3, _, k5, _⟩ := shp_ok hs
    have hd := k5 f (Nat.le_refl _) k2
    rw [List.getD_eq_getElem?_getD, List.getElem?_eq_getElem (by omega : f < u.length)] at hd
    simp only [Option.getD_some] at hd
    have hm : u[f] ∈ u := List.getElem_mem _
    obtain ⟨b, hb⟩ : ∃ b, u[f] = b := ⟨_, rfl⟩
    rw [hb] at hd hm
    rw [hu] at hm
    obtain ⟨p, hp, rfl⟩ := List.mem_map.1 hm
    rw [hno p hp] at hd; cases hd
  · obtain ⟨t1, t2⟩ := tk_form A c C D hA hc hC hD
    rw [← hR] at t1 t2
    rw [t1] at hu
    rw [t2] at hr
    obtain ⟨F, hF⟩ : ∃ F, ((c :: C).map (cl P G M N)).filter isD = F := ⟨_, rfl⟩
    rw [hF] at hu
    have hFd : ∀ b ∈ F, isD b = true := fun b hb => by rw [← hF] at hb; exact (List.mem_filter.1 hb).2
    have hF0 : F ≠ [] := by rw [← hF, List.map_cons, List.filter_cons_of_pos hc]; simp
    rw [hu] at hs
    obtain ⟨g1, g2, g3, g4, g5⟩ := shp_parts hs (by intro b hb; obtain ⟨p, hp, rfl⟩ := List.mem_map.1 hb; exact hA p hp) hFd hF0
      (by
        intro b E hE
        cases D with
        | nil => cases hE
        | cons p D =>
          simp only [List.map_cons, List.cons.injEq] at hE
          rw [← hE.1]; exact (hD p D rfl).1)
    rw [← hu] at hs g2 g3
    rw [g2] at hr
    have u45 : PlB 45 := .inr (.inl rfl)
    have hAp : ∀ p ∈ A, cl P G M N p = 45 := fun p hp => by
      have : cl P G M N p ∈ A.map (cl P G M N) := List.mem_map.2 ⟨p, hp, rfl⟩
      rw [g1] at this
      split at this
      · simpa using this
      · cases this
    have hDp : ∀ p ∈ D, PlB (cl P G M N p) := fun p hp => g5 _ (List.mem_map.2 ⟨p, hp, rfl⟩)
    have hCp : ∀ p ∈ c :: C, isD (cl P G M N p) = true ∨ cl P G M N p = 103 := by
      intro p hp
      rcases List.mem_cons.1 hp with rfl | hp
      · exact .inl hc
      · exact hC p hp
    have h120 : ∀ p ∈ rns s, cl P G M N p ≠ 120 := by
      intro p hp
      rw [hR] at hp
      rcases List.mem_append.1 hp with hp | hp
      · rcases List.mem_append.1 hp with hp | hp
        · rw [hAp p hp]; decide
        · rcases hCp p hp with q | q
          · intro e; rw [e] at q; revert q; decide
          · rw [q]; decide
      · exact (PlB_not (hDp p hp)).2
    have hsn := enc_rns s (fun p hp => (cl_inv (h120 p hp)).1)
    have hAm : A.map Prod.fst = if 0 < f then [M] else [] := by
      cases A with
      | nil =>
        rcases Nat.eq_zero_or_pos f with q | q
        · rw [if_neg (by omega)]; rfl
        · rw [if_pos q] at g1; cases g1
      | cons a A =>
        rcases Nat.eq_zero_or_pos f with q | q
        · rw [if_neg (by omega)] at g1; cases g1
        · rw [if_pos q] at g1 ⊢
          simp only [List.map_cons, List.cons.injEq, List.map_eq_nil_iff] at g1
          obtain ⟨g6, rfl⟩ := g1
          have := (cl_inv (P := P) (G := G) (M := M) (N := N) (r := a.1) (n := a.2) (by show cl P G M N a ≠ 120; rw [g6]; decide)).2.2 (by show cl P G M N a ≠ 103; rw [g6]; decide)
          have h9 : a.1 = markB P M N (cl P G M N a) := this.2
          rw [g6] at h9
          rw [List.map_cons, List.map_nil, h9]; rfl
    have hDm : D.map Prod.fst = (u.drop e).map (markB P M N) := by
      rw [g3, List.map_map]
      refine List.map_congr_left (fun p hp => ?_)
      have hpl := PlB_not (hDp p hp)
      exact ((cl_inv (P := P) (G := G) (M := M) (N := N) (r := p.1) (n := p.2) hpl.2).2.2 hpl.1).2
    have hall : (rns s).map Prod.fst = (if 0 < f then [M] else []) ++ (c :: C).map Prod.fst ++ (u.drop e).map (markB P M N) := by
      rw [hR, List.map_append, List.map_append, hAm, hDm]
    rcases hr with hr | hr
    · left
      rw [← hsn, hall, hr]
      unfold putL
      rw [g2]
    · right
      have hfull := filter_full isD ((c :: C).map (cl P G M N)) (by rw [hF, List.length_map]; rw [List.length_map] at hr; omega)
      have hF2 : F = (c :: C).map (cl P G M N) := by rw [← hF]; exact List.filter_eq_self.2 hfull
      rw [← hsn, hall]
      unfold putL
      rw [g2, whole_bare N F F.length (Nat.le_refl _), List.take_of_length_le (Nat.le_refl _), hF2, List.map_map]
      congr 3
      refine List.map_congr_left (fun p hp => ?_)
      have hpd := hfull _ (List.mem_map.2 ⟨p, hp, rfl⟩)
      have h3 : cl P G M N p ≠ 103 := fun e => by rw [e] at hpd; revert hpd; decide
      have h4 : cl P G M N p ≠ 120 := fun e => by rw [e] at hpd; revert hpd; decide
      have := ((cl_inv (P := P) (G := G) (M := M) (N := N) (r := p.1) (n := p.2) h4).2.2 h3).2
      rw [this]
      exact markB_dig hpd
end Go.Proofs.YtebgmicpecekgaaDoor
end
section
/- Marks: by plain marks nothing changes. -/
namespace Go.Proofs.YtebgmicpecekgaaDoor
open Go.RowKit Go.Maps
set_option maxHeartbeats 4000000
set_option maxRecDepth 100000
theorem encL_ascii (b : UInt8) (h : b.toNat < 128) : encL (b.toNat : Int) = [b] := by
  unfold encL Utf8.encode
  have hv : Utf8.valid ((b.toNat : Nat) : Int) = true := by unfold Utf8.valid; simp only [Bool.or_eq_true, Bool.and_eq_true, decide_eq_true_eq]; omega
  simp [hv, h]
theorem flat_ascii : ∀ (l : List UInt8), (∀ b ∈ l, b.toNat < 128) → (l.map (fun b => (b.toNat : Int))).flatMap encL = l
  | [], _ => rfl
  | b :: l, h => by rw [List.map_cons, List.flatMap_cons, encL_ascii b (h b (by simp)), flat_ascii l (fun x hx => h x (by simp [hx]))]; rfl
theorem PlB_ascii {b : UInt8} (h : PlB b) : b.toNat < 128 := by
  rcases h with rfl | rfl | rfl | h
  · decide
  · decide
  · decide
  · have := (isD_iff b).1 h; omega
theorem markB_plain {b : UInt8} (h : PlB b) : markB 46 45 48 b = (b.toNat : Int) := by
  rcases h with rfl | rfl | rfl | h
  · rfl
  · rfl
  · rfl
  · rw [markB_dig h]; omega
theorem shp_all {l : List UInt8} {f e : Nat} (hs : shpB l = (-1, f, e)) : ∀ b ∈ l, PlB b := by
  obtain ⟨h1, h2, h3, h4, h5, h6⟩ := shp_ok hs
  refine mem_getD (fun i hi => ?_)
  rcases Nat.lt_or_ge i f with q | q
  · rcases h4 with ⟨h7, rfl⟩ | ⟨_, rfl⟩
    · obtain rfl : i = 0 := by omega
      rw [List.getD_eq_getElem?_getD, h7]; exact .inr (.inl rfl)
    · omega
  · rcases Nat.lt_or_ge i e with q2 | q2
    · exact .inr (.inr (.inr (h5 i q q2)))
    · exact h6 i q2 hi
theorem putL_plain {l : List UInt8} {f e : Nat} (hs : shpB l = (-1, f, e)) : (putL 46 0 45 48 [] l f e).flatMap encL = l := by
  have hal := shp_all hs
  have hsp := shp_split hs
  have hdd := drop_isD (shp_ok hs).2.2.2.2.1 (shp_ok hs).2.2.1
  have e1 : putL 46 0 45 48 [] l f e = l.map (fun b => (b.toNat : Int)) := by
    unfold putL
    rw [whole_bare 48 _ _ (Nat.le_refl _), List.take_of_length_le (Nat.le_refl _)]
    conv => rhs; rw [hsp]
    rw [List.map_append, List.map_append]
    congr 1
    · congr 1
      · split <;> rfl
      · refine List.map_congr_left (fun b hb => ?_)
        have := (isD_iff b).1 (hdd b hb)
        omega
    · exact List.map_congr_left (fun b hb => markB_plain (hal b (List.mem_of_mem_drop hb)))
  rw [e1]
  exact flat_ascii l (fun b hb => PlB_ascii (hal b hb))
theorem ckv_plain : ckv 46 0 45 48 [] = 0 := by kernel_rfl
theorem put_plain {P G M N : Int} {xs : List Int} {l t : List UInt8} {z : Int} (h : putV P G M N xs l = (t, 0, z)) : putV 46 0 45 48 [] l = (l, 0, 0) := by
  obtain ⟨_, h2, f, e, h3, _⟩ := put_parts h
  have := put_of (P := 46) (G := 0) (M := 45) (N := 48) (xs := []) ckv_plain h2 h3 (by rw [putL_plain h3]; exact h2)
  rwa [putL_plain h3] at this
theorem take_plain {P G M N : Int} {xs : List Int} {l t : List UInt8} {z : Int} (h : putV P G M N xs l = (t, 0, z)) : takeV 46 0 45 48 [] l = (l, 0, 0) := take_put (put_plain h)
/-- One of the two is the text. -/
theorem again_or {P G M N : Int} {xs : List Int} {s u a b : List UInt8} {z z1 z2 : Int} (h : takeV P G M N xs s = (u, 0, z)) (h1 : putV P G M N xs u = (a, 0, z1)) (h2 : putV P 0 M N [] u = (b, 0, z2)) : a = s ∨ b = s := by
  obtain ⟨f, e, hs, hr⟩ := put_take h
  obtain ⟨_, _, f1, e1, s1, t1, _⟩ := put_parts h1
  obtain ⟨_, _, f2, e2, s2, t2, _⟩ := put_parts h2
  rw [hs] at s1 s2
  simp only [Prod.mk.injEq, true_and] at s1 s2
  obtain ⟨rfl, rfl⟩ := s1
  obtain ⟨rfl, rfl⟩ := s2
  rcases hr with hr | hr
  · exact .inl (t1.trans hr.symm)
  · exact .inr (t2.trans hr.symm)
end Go.Proofs.YtebgmicpecekgaaDoor
end
