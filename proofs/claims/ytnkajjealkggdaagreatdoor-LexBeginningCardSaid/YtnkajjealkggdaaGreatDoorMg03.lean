/- Lemmas of this proof, laid together: Reg. -/
import Derived.Tactics
import Derived.Deep.Quiet
set_option linter.unusedSimpArgs false
set_option linter.unusedVariables false
section
/- A region whose operations are drawn in some order, of which the last ones stand in a row: the first ones in whatever order, then the last ones. -/
namespace Go.Proofs.YtnkajjealkggdaaGreatDoor
/-- Operation j waits for i. -/
def waitsOn (md : Region.Mode) (ops : Array Oper) (j i : Nat) : Bool :=
  match ops[j]? with
  | some o => o.after.any fun e => Region.binds md e && e.on == i
  | none => false
theorem waitsOn_spec {md : Region.Mode} {ops : Array Oper} {j i : Nat} {o : Oper} (ho : ops[j]? = some o) (h : waitsOn md ops j i = true) : ∃ e ∈ o.after, Region.binds md e = true ∧ e.on = i := by
  unfold waitsOn at h
  rw [ho] at h
  obtain ⟨e, he, hb⟩ := Array.any_eq_true'.1 h
  simp only [Bool.and_eq_true, beq_iff_eq] at hb
  exact ⟨e, he, hb.1, hb.2⟩
section
variable {md : Region.Mode} {ops : Array Oper}
/-- i stands somewhere among what j waits for. -/
def reach (md : Region.Mode) (ops : Array Oper) : Nat → Nat → Nat → Bool
  | 0, _, _ => false
  | n + 1, j, i => match ops[j]? with
    | some o => o.after.any fun e => Region.binds md e && (e.on == i || reach md ops n e.on i)
    | none => false
def dep (md : Region.Mode) (ops : Array Oper) (j i : Nat) : Bool := reach md ops ops.size j i
def Closed (md : Region.Mode) (ops : Array Oper) (listed : Array Bool) : Prop :=
  ∀ j o, ops[j]? = some o → listed.getD j false = true → ∀ e ∈ o.after, Region.binds md e = true → listed.getD e.on false = true
theorem reach_listed {listed : Array Bool} (hc : Closed md ops listed) : ∀ (n j i : Nat) (o : Oper), ops[j]? = some o → (∀ e ∈ o.after, Region.binds md e = true → listed.getD e.on false = true) →
    reach md ops n j i = true → listed.getD i false = true
  | 0, _, _, _, _, _, h => by cases h
  | n + 1, j, i, o, ho, hall, h => by
    simp only [reach, ho] at h
    obtain ⟨e, he, hb⟩ := Array.any_eq_true'.1 h
    simp only [Bool.and_eq_true, Bool.or_eq_true, beq_iff_eq] at hb
    have hl := hall e he hb.1
    rcases hb.2 with h1 | h1
    · rw [← h1]; exact hl
    · cases ho' : ops[e.on]? with
      | none => unfold reach at h1; cases n <;> simp [reach, ho'] at h1
      | some o' => exact reach_listed hc n e.on i o' ho' (fun e' he' hb' => hc _ _ ho' hl e' he' hb') h1
theorem closed_set {listed : Array Bool} {i : Nat} (hc : Closed md ops listed) (hi : i ∈ Region.ready md ops listed) : Closed md ops (listed.setIfInBounds i true) := by
  obtain ⟨_, oi, hoi, hall⟩ := mem_ready.1 hi
  intro j o ho hl e he hb
  by_cases hij : i = j
  · subst hij
    have : o = oi := Option.some.inj (ho.symm.trans hoi)
    subst this
    exact getD_set_true (hall e he hb)
  · rw [getD_set_ne false hij] at hl
    exact getD_set_true (hc j o ho hl e he hb)
end
def backB (md : Region.Mode) (ops : Array Oper) : Bool :=
  (List.range ops.size).all fun i => match ops[i]? with
    | some o => (o.after.all fun e => !Region.binds md e || decide (e.on < i)) && (match o.guard with | some (g, _) => decide (g < i) | none => true)
    | none => true
def splitB (md : Region.Mode) (ops : Array Oper) (n : Nat) : Bool :=
  decide (n < ops.size) && backB md ops && ((List.range n).all fun i => dep md ops n i) &&
  ((List.range ops.size).all fun t => decide (t ≤ n) || waitsOn md ops t (t - 1))
section
variable {P : Program} {ops : Array Oper} {Q : Exit → Act → World → Prop} {md : Region.Mode}
theorem back_spec (h : backB md ops = true) {i : Nat} {o : Oper} (ho : ops[i]? = some o) :
    (∀ e ∈ o.after, Region.binds md e = true → e.on < i) ∧ ∀ g b, o.guard = some (g, b) → g < i := by
  have hi : i < ops.size := (Array.getElem?_eq_some_iff.1 ho).1
  have h1 := List.all_eq_true.1 h i (List.mem_range.2 hi)
  simp only [ho, Bool.and_eq_true] at h1
  refine ⟨fun e he hb => ?_, fun g b hg => ?_⟩
  · have := Array.all_eq_true_iff_forall_mem.1 h1.1 e he
    simpa [hb] using this
  · have := h1.2
    rw [hg] at this
    simpa using this
theorem getD_some {l : Array Bool} {i : Nat} {d : Bool} (h : i < l.size) : l.getD i d = l[i] := by simp [h]
theorem getD_sw {l : Array Bool} {i : Nat} (h : i < l.size) (a b : Bool) : l.getD i a = l.getD i b := by simp [h]
/-- The tail, one by one. -/
theorem tail_any (hb : backB md ops = true) {n : Nat} (hch : ∀ t, n < t → t < ops.size → waitsOn md ops t (t - 1) = true) : ∀ (l : List Oper) (k fuel : Nat) (listed : Array Bool) (a : Act) (w : World),
    n ≤ k → k + l.length = ops.size → (∀ j, l[j]? = ops[k + j]?) → listed.size = ops.size → (∀ i, i < k → listed.getD i false = true) → (∀ t, k ≤ t → t < ops.size → listed.getD t true = false) →
    l.length ≤ fuel → wpList P ops Q l a w → wpAny P md ops Q fuel listed a w
  | [], k, fuel, listed, a, w, _, hk, _, hs, hd, _, _, h => by
    refine wpAny_done ?_ h fuel
    refine List.eq_nil_iff_forall_not_mem.2 fun j hj => ?_
    obtain ⟨h0, o, ho, _⟩ := mem_ready.1 hj
    have hjs : j < ops.size := (Array.getElem?_eq_some_iff.1 ho).1
    have := hd j (by simp at hk; omega)
    rw [getD_sw (by omega) false true, h0] at this
    cases this
  | o :: l, k, fuel, listed, a, w, hn, hk, hl, hs, hd, ht, hf, h => by
    obtain ⟨f, rfl⟩ : ∃ f, fuel = f + 1 := ⟨fuel - 1, by simp at hf; omega⟩
    have h0 : ops[k]? = some o := by simpa using (hl 0).symm
    have hks : k < ops.size := (Array.getElem?_eq_some_iff.1 h0).1
    have hr : Region.ready md ops listed = [k] := by
      have hmem : ∀ j, j ∈ Region.ready md ops listed ↔ j = k := by
        intro j
        rw [mem_ready]
        constructor
        · rintro ⟨hj0, oj, hoj, hall⟩
          have hjs : j < ops.size := (Array.getElem?_eq_some_iff.1 hoj).1
          rcases Nat.lt_trichotomy j k with hlt | heq | hgt
          · have := hd j hlt
            rw [getD_sw (by omega) false true, hj0] at this; cases this
          · exact heq
          · obtain ⟨e, he, hbe, hon⟩ := waitsOn_spec hoj (hch j (by omega) hjs)
            have h1 := hall e he hbe
            have h2 := ht (j - 1) (by omega) (by omega)
            rw [hon, getD_sw (by omega) false true, h2] at h1; cases h1
        · rintro rfl
          exact ⟨ht _ (Nat.le_refl _) hks, o, h0, fun e he hbe => hd _ ((back_spec hb h0).1 e he hbe)⟩
      have hnd : (Region.ready md ops listed).Nodup := List.Nodup.sublist List.filter_sublist List.nodup_range
      have : List.Perm (Region.ready md ops listed) [k] := (List.perm_ext_iff_of_nodup hnd (by simp)).2 (fun j => by rw [hmem]; simp)
      exact List.perm_singleton.1 this
    refine ⟨fun h1 => (by rw [hr] at h1; cases h1), fun i hi => ?_⟩
    rw [hr] at hi
    obtain rfl : i = k := by simpa using hi
    have hw : wpOp P ops Q i (wpList P ops Q l) a w := by unfold wpOp; simp only [h0]; exact h
    refine wpOp_mono (fun a' w' h' => ?_) hw
    refine tail_any hb hch l (i + 1) f _ a' w' (by omega) (by simp at hk; omega) (fun j => by have := hl (j + 1); simpa [Nat.add_assoc, Nat.add_comm 1 j] using this) (by simp [hs]) ?_ ?_ (by simp at hf; omega) h'
    · intro j hj
      rcases Nat.lt_or_ge j i with hlt | hge
      · exact getD_set_true (hd j hlt)
      · obtain rfl : j = i := by omega
        simp [hs, hks]
    · intro t h1 h2
      rw [getD_set_ne true (by omega)]
      exact ht t (by omega) h2
/-- What is asked behind the first n operations. -/
def behind (P : Program) (ops : Array Oper) (Q : Exit → Act → World → Prop) (n : Nat) : Exit → Act → World → Prop := fun e a w => match e with
  | .normal => wpList P ops Q (ops.toList.drop n) a w
  | .exit i => Q (.exit i) a w
  | .goto l => Q (.goto l) a w
  | .ret => Q .ret a w
  | .panic c => Q (.panic c) a w
  | .outgrown => Q .outgrown a w
theorem wp_behind {o : Oper} {a : Act} {w : World} {K : Act → World → Prop} {n : Nat} (h : o.wp P a w K (behind P ops Q n)) : o.wp P a w K Q := by
  unfold Oper.wp at *
  generalize (execOp a.eval o).run P w = r at *
  cases r with
  | ok x w' => cases x <;> exact h
  | halt x w' => cases x <;> exact h
theorem split_any {n : Nat} (hB : splitB md ops n = true) : ∀ (f : Nat) (listed ls : Array Bool) (a : Act) (w : World), listed.size = ops.size → ls.size = n → Closed md ops listed → (∀ i, i < n → ls[i]? = listed[i]?) →
    (∀ t, n ≤ t → t < ops.size → listed.getD t true = false) →
    wpAny P md (ops.extract 0 n) (behind P ops Q n) f ls a w → wpAny P md ops Q (f + (ops.size - n)) listed a w := by
  simp only [splitB, Bool.and_eq_true, decide_eq_true_eq] at hB
  obtain ⟨⟨⟨hn, hb⟩, hsink⟩, hch0⟩ := hB
  have hch : ∀ t, n < t → t < ops.size → waitsOn md ops t (t - 1) = true := fun t h1 h2 => by
    have := List.all_eq_true.1 hch0 t (List.mem_range.2 h2)
    simp only [Bool.or_eq_true, decide_eq_true_eq] at this
    exact this.resolve_left (by omega)
  have hat : ∀ i, i < n → (ops.extract 0 n)[i]? = ops[i]? := fun i hi => by simp [Array.getElem?_extract, hi]; omega
  -- who is ready
  have hrd : ∀ (listed ls : Array Bool), listed.size = ops.size → ls.size = n → (∀ i, i < n → ls[i]? = listed[i]?) → ∀ i, i < n → (i ∈ Region.ready md ops listed ↔ i ∈ Region.ready md (ops.extract 0 n) ls) := by
    intro listed ls hs hls hsame i hi
    have e1 : ∀ j d, j < n → ls.getD j d = listed.getD j d := fun j d hj => by simp [Array.getD_eq_getD_getElem?, hsame j hj]
    rw [mem_ready, mem_ready, hat i hi, e1 i true hi]
    constructor
    · rintro ⟨h0, o, ho, hall⟩
      exact ⟨h0, o, ho, fun e he hbe => by rw [e1 _ _ (Nat.lt_trans ((back_spec hb ho).1 e he hbe) hi)]; exact hall e he hbe⟩
    · rintro ⟨h0, o, ho, hall⟩
      exact ⟨h0, o, ho, fun e he hbe => by have := hall e he hbe; rwa [e1 _ _ (Nat.lt_trans ((back_spec hb ho).1 e he hbe) hi)] at this⟩
  have hall : ∀ (listed ls : Array Bool), listed.size = ops.size → ls.size = n → (∀ i, i < n → ls[i]? = listed[i]?) → Region.ready md (ops.extract 0 n) ls = [] → ∀ i, i < n → listed.getD i false = true := by
    intro listed ls hs hls hsame hnil i
    induction i using Nat.strongRecOn with
    | _ i ih =>
      intro hi
      cases hv : listed.getD i false with
      | true => rfl
      | false =>
        exfalso
        have : i ∈ Region.ready md ops listed := by
          refine mem_ready.2 ⟨by rw [getD_sw (by omega) true false]; exact hv, ops[i]'(by omega), by simp, fun e he hbe => ?_⟩
          have hlt := (back_spec hb (i := i) (o := ops[i]'(by omega)) (by simp)).1 e he hbe
          exact ih _ hlt (by omega)
        rw [hrd listed ls hs hls hsame i hi, hnil] at this
        cases this
  have htail : ∀ (f : Nat) (listed ls : Array Bool) (a : Act) (w : World), listed.size = ops.size → ls.size = n → (∀ i, i < n → ls[i]? = listed[i]?) →
      (∀ t, n ≤ t → t < ops.size → listed.getD t true = false) → Region.ready md (ops.extract 0 n) ls = [] → behind P ops Q n .normal a w → wpAny P md ops Q (f + (ops.size - n)) listed a w := by
    intro f listed ls a w hs hls hsame ht hnil h
    exact tail_any hb hch (ops.toList.drop n) n _ listed a w (Nat.le_refl _) (by simp; omega) (fun j => by simp [List.getElem?_drop]) hs (hall listed ls hs hls hsame hnil) ht (by simp) h
  intro f
  induction f with
  | zero =>
    intro listed ls a w hs hls hcl hsame ht h
    exact htail 0 listed ls a w hs hls hsame ht h.1 h.2
  | succ f ih =>
    intro listed ls a w hs hls hcl hsame ht h
    by_cases hnil : Region.ready md (ops.extract 0 n) ls = []
    · exact htail (f + 1) listed ls a w hs hls hsame ht hnil (h.1 hnil)
    · obtain ⟨i0, hi0⟩ := List.exists_mem_of_ne_nil _ hnil
      have hi0n : i0 < n := by
        obtain ⟨_, o, ho, _⟩ := mem_ready.1 hi0
        have := (Array.getElem?_eq_some_iff.1 ho).1
        simp at this; omega
      have hi0r : i0 ∈ Region.ready md ops listed := (hrd listed ls hs hls hsame i0 hi0n).2 hi0
      have hun : listed.getD i0 true = false := (mem_ready.1 hi0r).1
      have hpre : ∀ j ∈ Region.ready md ops listed, j < n := by
        intro j hj
        rcases Nat.lt_or_ge j n with h1 | h1
        · exact h1
        · exfalso
          obtain ⟨_, o, ho, hal⟩ := mem_ready.1 hj
          have hjs := (Array.getElem?_eq_some_iff.1 ho).1
          rcases Nat.eq_or_lt_of_le h1 with h2 | h2
          · subst h2
            have h3 := reach_listed hcl _ _ _ o ho hal (List.all_eq_true.1 hsink i0 (List.mem_range.2 hi0n))
            rw [getD_sw (by omega) false true, hun] at h3; cases h3
          · obtain ⟨e, he, hbe, hon⟩ := waitsOn_spec ho (hch j h2 hjs)
            have h3 := hal e he hbe
            rw [hon, getD_sw (by omega) false true, ht (j - 1) (by omega) (by omega)] at h3; cases h3
      rw [show f + 1 + (ops.size - n) = (f + (ops.size - n)) + 1 by omega]
      refine ⟨fun h0 => (by rw [h0] at hi0r; cases hi0r), fun i hi => ?_⟩
      have hin := hpre i hi
      have h1 := h.2 i ((hrd listed ls hs hls hsame i hin).1 hi)
      have hnext : ∀ a' w', wpAny P md (ops.extract 0 n) (behind P ops Q n) f (ls.setIfInBounds i true) a' w' → wpAny P md ops Q (f + (ops.size - n)) (listed.setIfInBounds i true) a' w' := by
        intro a' w' h'
        refine ih _ _ a' w' (by simp [hs]) (by simp [hls]) (closed_set hcl hi) (fun j hj => ?_) (fun t h1 h2 => by rw [getD_set_ne true (by omega)]; exact ht t h1 h2) h'
        by_cases hij : i = j
        · subst hij
          have : i < ops.size := by omega
          simp [Array.getElem?_setIfInBounds, hls, hs, hj, this]
        · simp [Array.getElem?_setIfInBounds_ne hij, hsame j hj]
      have h2 := wpOp_mono hnext h1
      unfold wpOp at h2 ⊢
      rw [hat i hin] at h2
      cases ho : ops[i]? with
      | none => rw [ho] at h2; exact h2
      | some o =>
        rw [ho] at h2
        have hwant : Region.wanted o (yielded (ops.extract 0 n) a.tmps) = Region.wanted o (yielded ops a.tmps) := by
          unfold Region.wanted
          cases hg : o.guard with
          | none => rfl
          | some gb =>
            obtain ⟨g, b⟩ := gb
            have := (back_spec hb ho).2 g b hg
            simp only [yielded, hat g (by omega)]
        simp only [hwant] at h2
        show if Region.wanted o (yielded ops a.tmps) = true then _ else _
        split
        · rename_i hw
          rw [if_pos hw] at h2
          exact h2.imp wp_behind id
        · rename_i hw
          rw [if_neg hw] at h2
          exact h2
theorem wp_region_split {id : Nat} {a : Act} {w : World} (n : Nat) (hm : P.follows .mixedOrders = true) (hB : splitB .any ops n = true)
    (h : wpAny P .any (ops.extract 0 n) (behind P ops Q n) n (Array.replicate n false) a w.drew) : (Code.region id ops true).wp P Q a w := by
  have hn : n < ops.size := by simp only [splitB, Bool.and_eq_true, decide_eq_true_eq] at hB; exact hB.1.1.1
  refine wp_region_any hm ?_
  have hrep : ∀ i, i < n → (Array.replicate n false)[i]? = (Array.replicate ops.size false)[i]? := by
    intro i hi
    have h2 : i < ops.size := by omega
    simp [hi, h2]
  have := split_any (Q := Q) hB n (Array.replicate ops.size false) (Array.replicate n false) a w.drew (by simp) (by simp) (by intro j o ho hl; simp [Array.getD_eq_getD_getElem?, Array.getElem?_replicate] at hl; split at hl <;> simp at hl) hrep (fun t _ h2 => by simp [h2]) h
  rwa [show n + (ops.size - n) = ops.size by omega] at this
/-- The first n operations quiet in the class C, walked in the text's order; then the others, one by one. -/
theorem wp_region_quiet_tail {id : Nat} {C : World → Prop} {a : Act} {w : World} {l : List Oper} (n : Nat) (hm : P.follows .mixedOrders = true) (hB : splitB .any l.toArray n = true) (hL : Region.lexB .any (l.take n).toArray = true) (hC : C w.drew)
    (h : wpQuiet P (l.take n).toArray C (fun a' => ∀ w', C w' → wpList P l.toArray Q (l.drop n) a' w') (l.take n) a) : (Code.region id l.toArray true).wp P Q a w := by
  have hn : n < l.length := by simp only [splitB, Bool.and_eq_true, decide_eq_true_eq] at hB; simpa using hB.1.1.1
  refine wp_region_split n hm hB ?_
  have e : l.toArray.extract 0 n = (l.take n).toArray := by simp
  rw [e]
  refine wpAny_of_quiet (Q := fun a' => ∀ w', C w' → wpList P l.toArray Q (l.drop n) a' w') (fun a' w' hw' h' => h' w' hw') _ _ _ _ hC ?_
  simp only [Region.lexB, Bool.and_eq_true] at hL
  have hlen : (l.take n).toArray.size = n := by simp; omega
  have := wpAnyQ_lex (C := C) (md := .any) hL.1 (l.take n) 0 (Array.replicate n false) a (by simp) (by have := hL.2; rw [hlen] at this; simpa [Nat.min_eq_left (Nat.le_of_lt hn)] using this) h
  simpa [Nat.min_eq_left (Nat.le_of_lt hn)] using this
end
end Go.Proofs.YtnkajjealkggdaaGreatDoor
end
