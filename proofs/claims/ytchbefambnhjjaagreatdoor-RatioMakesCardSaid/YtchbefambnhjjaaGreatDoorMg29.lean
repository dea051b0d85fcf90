/- Lemmas of this proof, laid together: Flo. -/
import Derived.Test.YtchbefambnhjjaaGreatDoorMg03
set_option linter.unusedSimpArgs false
set_option linter.unusedVariables false
section
/- A drawn region's tail whose first operation need not wait for some of the extracts ahead of it ('x, e := f()' where x lies in memory). -/
namespace Go.Proofs.YtchbefambnhjjaaGreatDoor
open Go.RowKit
section
variable {P : Program} {ops : Array Oper} {Q : Exit → Act → World → Prop} {md : Region.Mode}
theorem extract_run (x : Operand) (ix : Nat) (a : Act) (o : Oper) (ho : o.op = .extract x ix) : (∃ v, ∀ w, (execOp a.eval o).run P w = .ok (.value v) w) ∨ (∀ K Q' w, ¬ o.wp P a w K Q') := by
 have e : ∀ w, (execOp a.eval o).run P w = match a.eval x with
   | .tuple vs => (match vs[ix]? with | some v => .ok (.value v) w | none => ((execOp a.eval o).run P w))
   | _ => (execOp a.eval o).run P w := by
  intro w
  cases hv : a.eval x <;> simp only []
  rename_i vs
  cases hi : vs[ix]? with
  | none => rfl
  | some v => simp [execOp, ho, Instr.extract, hv, hi]
 cases hv : a.eval x with
 | tuple vs =>
  cases hi : vs[ix]? with
  | some v => exact .inl ⟨v, fun w => by rw [e w, hv]; simp only [hi]⟩
  | none => right; intro K Q' w h; unfold Oper.wp at h; simp [execOp, ho, Instr.extract, hv, hi] at h; exact h
 | _ => right; intro K Q' w h; unfold Oper.wp at h; simp [execOp, ho, Instr.extract, hv] at h; exact h
theorem extract_asks (x : Operand) (ix : Nat) (a : Act) (w : World) (o : Oper) (ho : o.op = .extract x ix) : ¬ o.asks P a w := by
 intro h
 have h1 := h.1
 revert h1
 cases hv : a.eval x with
 | tuple vs =>
  cases hi : vs[ix]? with
  | some v => simp [execOp, ho, Instr.extract, hv, hi]; intro h; revert h; change ¬ noRoomEvent ∈ (#[] : Array _); simp
  | none => simp [execOp, ho, Instr.extract, hv, hi]; intro h; revert h; change ¬ noRoomEvent ∈ (#[] : Array _); simp
 | _ => simp [execOp, ho, Instr.extract, hv]; intro h; revert h; change ¬ noRoomEvent ∈ (#[] : Array _); simp
def isExt (o : Oper) : Bool := match o.op with | .extract _ _ => o.guard.isNone | _ => false
theorem isExt_spec {o : Oper} (h : isExt o = true) : (∃ x ix, o.op = .extract x ix) ∧ o.guard = none := by
 unfold isExt at h
 split at h
 ·rename_i x ix e; exact ⟨⟨x, ix, e⟩, by simpa using h⟩
 ·cases h
def noSel (o : Oper) : Bool := match o.op with | .select _ _ => false | _ => true
theorem noSel_spec {o : Oper} (h : noSel o = true) : ∀ cs b, o.op ≠ .select cs b := by
 intro cs b e; unfold noSel at h; rw [e] at h; cases h
def splitF (md : Region.Mode) (ops : Array Oper) (n : Nat) (fl : List Nat) : Bool :=
 decide (n < ops.size) && backB md ops && ((List.range n).all fun i => fl.contains i || dep md ops n i) &&
 ((List.range ops.size).all fun t => decide (t ≤ n + 1) || waitsOn md ops t (t - 1)) &&
 (decide (ops.size ≤ n + 1) || (List.range (n + 1)).all fun i => dep md ops (n + 1) i) &&
 (match ops[n]? with
  | some on => on.guard.isNone && noSel on && (on.after.all fun e => !Region.binds md e || !fl.contains e.on) &&
   fl.all fun p => decide (p < n) && (match ops[p]? with | some o => isExt o && o.apart ops on | none => false)
  | none => false)
def Runs (P : Program) (o : Oper) (a : Act) (w : World) (u : Value) (w2 : World) : Prop :=
 (execOp a.eval o).run P w = .ok (.value u) w2 ∨ ((execOp a.eval o).run P w = .ok .skip w2 ∧ u = undef)
theorem Runs.same {o : Oper} {a : Act} {w w2 w3 : World} {u v : Value} (h : Runs P o a w u w2) (k : Runs P o a w v w3) : u = v ∧ w2 = w3 := by
 rcases h with h | ⟨h, rfl⟩ <;> rcases k with k | ⟨k, rfl⟩ <;> rw [h] at k <;> simp at k
 ·exact k
 ·exact ⟨rfl, k⟩
def behindF (P : Program) (ops : Array Oper) (Q : Exit → Act → World → Prop) (n : Nat) (on : Oper) : Exit → Act → World → Prop := fun e a w => match e with
 | .normal => ∃ u w2, Runs P on a w u w2 ∧ wpList P ops Q (ops.toList.drop (n + 1)) (a.put on.dst u) w2
 | .exit i => Q (.exit i) a w
 | .goto l => Q (.goto l) a w
 | .ret => Q .ret a w
 | .panic c => Q (.panic c) a w
 | .outgrown => Q .outgrown a w
theorem wp_behindF {o on : Oper} {a : Act} {w : World} {K : Act → World → Prop} {n : Nat} (h : o.wp P a w K (behindF P ops Q n on)) : o.wp P a w K Q := by
 unfold Oper.wp at *
 generalize (execOp a.eval o).run P w = r at *
 cases r with
 | ok x w' => cases x <;> exact h
 | halt x w' => cases x <;> exact h
theorem set_comm {l : Array Bool} (i j : Nat) : (l.setIfInBounds i true).setIfInBounds j true = (l.setIfInBounds j true).setIfInBounds i true := by
 by_cases h : i = j
 ·subst h; rfl
 ·first | exact Array.setIfInBounds_comm _ _ h | exact (Array.setIfInBounds_comm _ _ h).symm | (apply Array.ext_getElem?; intro k; simp only [Array.getElem?_setIfInBounds, Array.size_setIfInBounds]; split <;> split <;> rfl)
section
variable {n : Nat} {fl : List Nat} {on : Oper}
theorem fin_any (hB : splitF md ops n fl = true) (hon : ops[n]? = some on) : ∀ (f : Nat) (listed ls : Array Bool) (a : Act) (w : World), listed.size = ops.size → ls.size = n → Closed md ops listed → (∀ i, i < n → ls[i]? = listed[i]?) →
  (∀ t, n ≤ t → t < ops.size → listed.getD t true = false) → (∀ i, i < n → fl.contains i = false → listed.getD i false = true) →
  wpAny P md (ops.extract 0 n) (behindF P ops Q n on) f ls a w →
  ∃ u w2, Runs P on a w u w2 ∧ wpAny P md ops Q (f + (ops.size - n - 1)) (listed.setIfInBounds n true) (a.put on.dst u) w2 := by
 simp only [splitF, Bool.and_eq_true, decide_eq_true_eq, hon] at hB
 obtain ⟨⟨⟨⟨⟨hn, hb⟩, hsink⟩, hch0⟩, hnext⟩, ⟨⟨hg, hns⟩, haft⟩, hfl⟩ := hB
 have hch : ∀ t, n + 1 < t → t < ops.size → waitsOn md ops t (t - 1) = true := fun t h1 h2 => by
  have := List.all_eq_true.1 hch0 t (List.mem_range.2 h2)
  simp only [Bool.or_eq_true, decide_eq_true_eq] at this
  exact this.resolve_left (by omega)
 have hat : ∀ i, i < n → (ops.extract 0 n)[i]? = ops[i]? := fun i hi => by simp [Array.getElem?_extract, hi]; omega
 have hrd : ∀ (listed ls : Array Bool), listed.size = ops.size → ls.size = n → (∀ i, i < n → ls[i]? = listed[i]?) → ∀ i, i < n → (i ∈ Region.ready md ops listed ↔ i ∈ Region.ready md (ops.extract 0 n) ls) := by
  intro listed ls hs hls hsame i hi
  have e1 : ∀ j d, j < n → ls.getD j d = listed.getD j d := fun j d hj => by simp [Array.getD_eq_getD_getElem?, hsame j hj]
  rw [mem_ready, mem_ready, hat i hi, e1 i true hi]
  constructor
  ·rintro ⟨h0, o, ho, hall⟩
   exact ⟨h0, o, ho, fun e he hbe => by rw [e1 _ _ (Nat.lt_trans ((back_spec hb ho).1 e he hbe) hi)]; exact hall e he hbe⟩
  ·rintro ⟨h0, o, ho, hall⟩
   exact ⟨h0, o, ho, fun e he hbe => by have := hall e he hbe; rwa [e1 _ _ (Nat.lt_trans ((back_spec hb ho).1 e he hbe) hi)] at this⟩
 have hflo : ∀ p, fl.contains p = true → ∃ o, ops[p]? = some o ∧ isExt o = true ∧ o.apart ops on = true := fun p hp => by
  have h1 := List.all_eq_true.1 hfl p (by simpa using hp)
  simp only [Bool.and_eq_true] at h1
  cases ho : ops[p]? with
  | none => rw [ho] at h1; cases h1.2
  | some o => rw [ho] at h1; exact ⟨o, rfl, by simpa using h1.2⟩
 have hnr : ∀ (listed : Array Bool), (∀ t, n ≤ t → t < ops.size → listed.getD t true = false) → (∀ i, i < n → fl.contains i = false → listed.getD i false = true) → n ∈ Region.ready md ops listed := by
  intro listed ht hnf
  refine mem_ready.2 ⟨ht n (Nat.le_refl _) hn, on, hon, fun e he hbe => ?_⟩
  have h1 := Array.all_eq_true_iff_forall_mem.1 haft e he
  simp only [hbe, Bool.not_true, Bool.false_or, Bool.not_eq_true'] at h1
  exact hnf _ ((back_spec hb hon).1 e he hbe) h1
 intro f
 induction f with
 | zero =>
  intro listed ls a w hs hls hcl hsame ht hnf h
  obtain ⟨hnil, u, w2, hr, hl⟩ := h
  have hall : ∀ i, i < n → listed.getD i false = true := by
   intro i
   induction i using Nat.strongRecOn with
   | _ i ih =>
    intro hi
    cases hv : listed.getD i false with
    | true => rfl
    | false =>
     exfalso
     have : i ∈ Region.ready md ops listed := by
      refine mem_ready.2 ⟨by rw [getD_sw (by omega) true false]; exact hv, ops[i]'(by omega), by simp, fun e he hbe => ?_⟩
      have hlt := (back_spec hb (i := i) (o := ops[i]'(by omega)) (by simp)).1 e he hbe
      exact ih _ hlt (by omega)
     rw [hrd listed ls hs hls hsame i hi, hnil] at this
     cases this
  refine ⟨u, w2, hr, tail_any hb hch (ops.toList.drop (n + 1)) (n + 1) _ _ _ w2 (Nat.le_refl _) (by simp; omega) (fun j => by simp [List.getElem?_drop]) (by simp [hs]) ?_ ?_ (by simp; omega) hl⟩
  ·intro i hi
   rcases Nat.lt_or_ge i n with h1 | h1
   ·exact getD_set_true (hall i h1)
   ·obtain rfl : i = n := by omega
    simp [hs, hn]
  ·intro t h1 h2
   rw [getD_set_ne true (by omega)]; exact ht t (by omega) h2
 | succ f ih =>
  intro listed ls a w hs hls hcl hsame ht hnf h
  by_cases hnil : Region.ready md (ops.extract 0 n) ls = []
  ·obtain ⟨u, w2, hr, hl⟩ := h.1 hnil
   have hall : ∀ i, i < n → listed.getD i false = true := by
    intro i
    induction i using Nat.strongRecOn with
    | _ i ih =>
     intro hi
     cases hv : listed.getD i false with
     | true => rfl
     | false =>
      exfalso
      have : i ∈ Region.ready md ops listed := by
       refine mem_ready.2 ⟨by rw [getD_sw (by omega) true false]; exact hv, ops[i]'(by omega), by simp, fun e he hbe => ?_⟩
       have hlt := (back_spec hb (i := i) (o := ops[i]'(by omega)) (by simp)).1 e he hbe
       exact ih _ hlt (by omega)
      rw [hrd listed ls hs hls hsame i hi, hnil] at this
      cases this
   refine ⟨u, w2, hr, tail_any hb hch (ops.toList.drop (n + 1)) (n + 1) _ _ _ w2 (Nat.le_refl _) (by simp; omega) (fun j => by simp [List.getElem?_drop]) (by simp [hs]) ?_ ?_ (by simp; omega) hl⟩
   ·intro i hi
    rcases Nat.lt_or_ge i n with h1 | h1
    ·exact getD_set_true (hall i h1)
    ·obtain rfl : i = n := by omega
     simp [hs, hn]
   ·intro t h1 h2
    rw [getD_set_ne true (by omega)]; exact ht t (by omega) h2
  ·-- one of the extracts is still to come
   have step : ∀ j ∈ Region.ready md (ops.extract 0 n) ls, j < n → ∃ oj v, ops[j]? = some oj ∧ oj.guard = none ∧ oj.apart ops on = true ∧ (∃ x ix, oj.op = .extract x ix) ∧ (∀ w', (execOp a.eval oj).run P w' = .ok (.value v) w') ∧
     ∃ u w2, Runs P on (a.put oj.dst v) w u w2 ∧ wpAny P md ops Q (f + (ops.size - n - 1)) ((listed.setIfInBounds j true).setIfInBounds n true) ((a.put oj.dst v).put on.dst u) w2 := by
    intro j hj hjn
    have hjr : j ∈ Region.ready md ops listed := (hrd listed ls hs hls hsame j hjn).2 hj
    have hun : listed.getD j true = false := (mem_ready.1 hjr).1
    have hjf : fl.contains j = true := by
     cases hc : fl.contains j with
     | true => rfl
     | false => have := hnf j hjn hc; rw [getD_sw (by omega) false true, hun] at this; cases this
    obtain ⟨oj, hoj, hext, hap⟩ := hflo j hjf
    obtain ⟨⟨x, ix, hop⟩, hgd⟩ := isExt_spec hext
    have h1 := h.2 j hj
    unfold wpOp at h1
    rw [hat j hjn, hoj] at h1
    have hw : ∀ z, Region.wanted oj z = true := fun z => by unfold Region.wanted; rw [hgd]
    simp only [hw, if_true] at h1
    rcases h1 with h1 | ⟨h1, _⟩
    ·rcases extract_run (P := P) x ix a oj hop with ⟨v, hv⟩ | hno
     ·refine ⟨oj, v, hoj, hgd, hap, ⟨x, ix, hop⟩, hv, ?_⟩
      unfold Oper.wp at h1
      rw [hv w] at h1
      refine ih _ _ _ w (by simp [hs]) (by simp [hls]) (closed_set hcl hjr) (fun k hk => ?_) (fun t h1 h2 => by rw [getD_set_ne true (by omega)]; exact ht t h1 h2) (fun i hi hc => getD_set_true (hnf i hi hc)) h1
      by_cases hjk : j = k
      ·subst hjk
       have : j < ops.size := by omega
       simp [Array.getElem?_setIfInBounds, hls, hs, hk, this]
      ·simp [Array.getElem?_setIfInBounds_ne hjk, hsame k hk]
     ·exact absurd h1 (hno _ _ _)
    ·exact absurd h1 (extract_asks x ix a w oj hop)
   have hin : ∀ j ∈ Region.ready md (ops.extract 0 n) ls, j < n := by
    intro j hj
    obtain ⟨_, o, ho, _⟩ := mem_ready.1 hj
    have := (Array.getElem?_eq_some_iff.1 ho).1
    simp at this; omega
   have runOf : ∀ (oj : Oper) v u w2, oj.apart ops on = true → Runs P on (a.put oj.dst v) w u w2 → Runs P on a w u w2 := by
    intro oj v u w2 hap hr
    unfold Runs at *
    rwa [execOp_put (ops := ops) on (noSel_spec hns) a oj.dst v (Oper.apart_spec hap).1] at hr
   obtain ⟨i0, hi0⟩ := List.exists_mem_of_ne_nil _ hnil
   have hi0n := hin i0 hi0
   obtain ⟨o0, v0, _, _, hap0, _, _, u, w2, hr0, _⟩ := step i0 hi0 hi0n
   have hr := runOf o0 v0 u w2 hap0 hr0
   refine ⟨u, w2, hr, ?_⟩
   have hi0r : i0 ∈ Region.ready md ops listed := (hrd listed ls hs hls hsame i0 hi0n).2 hi0
   have hun0 : listed.getD i0 true = false := (mem_ready.1 hi0r).1
   have hclN := closed_set hcl (hnr listed ht hnf)
   rw [show f + 1 + (ops.size - n - 1) = (f + (ops.size - n - 1)) + 1 by omega]
   refine ⟨fun h0 => ?_, fun j hj => ?_⟩
   ·have := ready_mono (i := n) hi0r (by omega)
    rw [h0] at this; cases this
   ·obtain ⟨hjl, oj', hoj', hjall⟩ := mem_ready.1 hj
    have hjs : j < ops.size := (Array.getElem?_eq_some_iff.1 hoj').1
    have hjn : j < n := by
     rcases Nat.lt_trichotomy j n with h1 | h1 | h1
     ·exact h1
     ·subst h1; simp [hs, hn] at hjl
     ·exfalso
      rcases Nat.eq_or_lt_of_le (show n + 1 ≤ j from h1) with h2 | h2
      ·subst h2
       have h3 : dep md ops (n + 1) i0 = true := by
        rcases Bool.or_eq_true _ _ ▸ hnext with h4 | h4
        ·simp at h4; omega
        ·exact List.all_eq_true.1 h4 i0 (List.mem_range.2 (by omega))
       have h5 := reach_listed hclN _ _ _ oj' hoj' hjall h3
       rw [getD_set_ne false (by omega), getD_sw (by omega) false true, hun0] at h5; cases h5
      ·obtain ⟨e, he, hbe, hone⟩ := waitsOn_spec hoj' (hch j h2 hjs)
       have h5 := hjall e he hbe
       rw [hone, getD_set_ne false (by omega), getD_sw (by omega) false true, ht (j - 1) (by omega) (by omega)] at h5; cases h5
    have hjr : j ∈ Region.ready md ops listed := by
     rw [getD_set_ne true (by omega)] at hjl
     refine mem_ready.2 ⟨hjl, oj', hoj', fun e he hbe => ?_⟩
     have := hjall e he hbe
     rwa [getD_set_ne false (by have := (back_spec hb hoj').1 e he hbe; omega)] at this
    obtain ⟨oj, v, hoj, hgd, hap, hop, hv, u', w2', hr', hk⟩ := step j ((hrd listed ls hs hls hsame j hjn).1 hjr) hjn
    obtain ⟨rfl, rfl⟩ := (runOf oj v u' w2' hap hr').same hr
    obtain ⟨x, ix, hop⟩ := hop
    have hsp := Oper.apart_spec hap
    unfold wpOp
    rw [hoj]
    have hw : ∀ z, Region.wanted oj z = true := fun z => by unfold Region.wanted; rw [hgd]
    simp only [hw, if_true]
    left
    unfold Oper.wp
    rw [execOp_put (ops := ops) oj (by intro cs b e; rw [hop] at e; cases e) a on.dst u' hsp.2.2, hv]
    show wpAny P md ops Q _ _ _ _
    rw [set_comm, Act.put_comm a v u' hsp.2.1] at hk
    exact hk
theorem splitF_any (hB : splitF md ops n fl = true) (hon : ops[n]? = some on) : ∀ (f : Nat) (listed ls : Array Bool) (a : Act) (w : World), listed.size = ops.size → ls.size = n → Closed md ops listed → (∀ i, i < n → ls[i]? = listed[i]?) →
  (∀ t, n ≤ t → t < ops.size → listed.getD t true = false) →
  wpAny P md (ops.extract 0 n) (behindF P ops Q n on) f ls a w → wpAny P md ops Q (f + (ops.size - n)) listed a w := by
 have hB0 := hB
 simp only [splitF, Bool.and_eq_true, decide_eq_true_eq, hon] at hB
 obtain ⟨⟨⟨⟨⟨hn, hb⟩, hsink⟩, hch0⟩, hnext⟩, ⟨⟨hg, hns⟩, haft⟩, hfl⟩ := hB
 have hch : ∀ t, n + 1 < t → t < ops.size → waitsOn md ops t (t - 1) = true := fun t h1 h2 => by
  have := List.all_eq_true.1 hch0 t (List.mem_range.2 h2)
  simp only [Bool.or_eq_true, decide_eq_true_eq] at this
  exact this.resolve_left (by omega)
 have hat : ∀ i, i < n → (ops.extract 0 n)[i]? = ops[i]? := fun i hi => by simp [Array.getElem?_extract, hi]; omega
 have hrd : ∀ (listed ls : Array Bool), listed.size = ops.size → ls.size = n → (∀ i, i < n → ls[i]? = listed[i]?) → ∀ i, i < n → (i ∈ Region.ready md ops listed ↔ i ∈ Region.ready md (ops.extract 0 n) ls) := by
  intro listed ls hs hls hsame i hi
  have e1 : ∀ j d, j < n → ls.getD j d = listed.getD j d := fun j d hj => by simp [Array.getD_eq_getD_getElem?, hsame j hj]
  rw [mem_ready, mem_ready, hat i hi, e1 i true hi]
  constructor
  ·rintro ⟨h0, o, ho, hall⟩
   exact ⟨h0, o, ho, fun e he hbe => by rw [e1 _ _ (Nat.lt_trans ((back_spec hb ho).1 e he hbe) hi)]; exact hall e he hbe⟩
  ·rintro ⟨h0, o, ho, hall⟩
   exact ⟨h0, o, ho, fun e he hbe => by have := hall e he hbe; rwa [e1 _ _ (Nat.lt_trans ((back_spec hb ho).1 e he hbe) hi)] at this⟩
 have hnw : ∀ z, Region.wanted on z = true := fun z => by unfold Region.wanted; rw [Option.isNone_iff_eq_none.1 hg]
 -- what is ready
 have hnot : ∀ (listed : Array Bool), listed.size = ops.size → (∀ t, n ≤ t → t < ops.size → listed.getD t true = false) → Closed md ops listed → ∀ j ∈ Region.ready md ops listed, j < n ∨ j = n := by
  intro listed hs ht hcl j hj
  obtain ⟨_, o, ho, hal⟩ := mem_ready.1 hj
  have hjs := (Array.getElem?_eq_some_iff.1 ho).1
  rcases Nat.lt_trichotomy j n with h1 | h1 | h1
  ·exact .inl h1
  ·exact .inr h1
  ·exfalso
   rcases Nat.eq_or_lt_of_le (show n + 1 ≤ j from h1) with h2 | h2
   ·subst h2
    have h3 : dep md ops (n + 1) n = true := by
     rcases Bool.or_eq_true _ _ ▸ hnext with h4 | h4
     ·simp at h4; omega
     ·exact List.all_eq_true.1 h4 n (List.mem_range.2 (by omega))
    have h5 := reach_listed hcl _ _ _ o ho hal h3
    rw [getD_sw (by omega) false true, ht n (Nat.le_refl _) hn] at h5; cases h5
   ·obtain ⟨e, he, hbe, hone⟩ := waitsOn_spec ho (hch j h2 hjs)
    have h5 := hal e he hbe
    rw [hone, getD_sw (by omega) false true, ht (j - 1) (by omega) (by omega)] at h5; cases h5
 have atN : ∀ (f : Nat) (listed ls : Array Bool) (a : Act) (w : World), listed.size = ops.size → ls.size = n → Closed md ops listed → (∀ i, i < n → ls[i]? = listed[i]?) → (∀ t, n ≤ t → t < ops.size → listed.getD t true = false) →
   (∀ i, i < n → fl.contains i = false → listed.getD i false = true) → wpAny P md (ops.extract 0 n) (behindF P ops Q n on) f ls a w →
   wpOp P ops Q n (wpAny P md ops Q (f + (ops.size - n - 1)) (listed.setIfInBounds n true)) a w := by
  intro f listed ls a w hs hls hcl hsame ht hnf h
  obtain ⟨u, w2, hr, hk⟩ := fin_any hB0 hon f listed ls a w hs hls hcl hsame ht hnf h
  unfold wpOp
  rw [hon]
  simp only [hnw, if_true]
  left
  unfold Oper.wp
  rcases hr with hr | ⟨hr, rfl⟩
  ·rw [hr]; exact hk
  ·rw [hr]; exact hk
 intro f
 induction f with
 | zero =>
  intro listed ls a w hs hls hcl hsame ht h
  have hnil := h.1
  have hall : ∀ i, i < n → listed.getD i false = true := by
   intro i
   induction i using Nat.strongRecOn with
   | _ i ih =>
    intro hi
    cases hv : listed.getD i false with
    | true => rfl
    | false =>
     exfalso
     have : i ∈ Region.ready md ops listed := by
      refine mem_ready.2 ⟨by rw [getD_sw (by omega) true false]; exact hv, ops[i]'(by omega), by simp, fun e he hbe => ?_⟩
      have hlt := (back_spec hb (i := i) (o := ops[i]'(by omega)) (by simp)).1 e he hbe
      exact ih _ hlt (by omega)
     rw [hrd listed ls hs hls hsame i hi, hnil] at this
     cases this
  have hnr : n ∈ Region.ready md ops listed := mem_ready.2 ⟨ht n (Nat.le_refl _) hn, on, hon, fun e he hbe => hall _ ((back_spec hb hon).1 e he hbe)⟩
  rw [show 0 + (ops.size - n) = (0 + (ops.size - n - 1)) + 1 by omega]
  refine ⟨fun h0 => (by rw [h0] at hnr; cases hnr), fun j hj => ?_⟩
  rcases hnot listed hs ht hcl j hj with h1 | rfl
  ·have := (hrd listed ls hs hls hsame j h1).1 hj
   rw [hnil] at this; cases this
  ·exact atN 0 listed ls a w hs hls hcl hsame ht (fun i hi _ => hall i hi) h
 | succ f ih =>
  intro listed ls a w hs hls hcl hsame ht h
  rw [show f + 1 + (ops.size - n) = (f + (ops.size - n)) + 1 by omega]
  refine ⟨fun h0 => ?_, fun i hi => ?_⟩
  ·exfalso
   have hnil : Region.ready md (ops.extract 0 n) ls = [] := by
    refine List.eq_nil_iff_forall_not_mem.2 fun j hj => ?_
    have hjn : j < n := by
     obtain ⟨_, o, ho, _⟩ := mem_ready.1 hj
     have := (Array.getElem?_eq_some_iff.1 ho).1
     simp at this; omega
    have := (hrd listed ls hs hls hsame j hjn).2 hj
    rw [h0] at this; cases this
   have hall : ∀ i, i < n → listed.getD i false = true := by
    intro i
    induction i using Nat.strongRecOn with
    | _ i ih =>
     intro hi
     cases hv : listed.getD i false with
     | true => rfl
     | false =>
      exfalso
      have : i ∈ Region.ready md ops listed := by
       refine mem_ready.2 ⟨by rw [getD_sw (by omega) true false]; exact hv, ops[i]'(by omega), by simp, fun e he hbe => ?_⟩
       have hlt := (back_spec hb (i := i) (o := ops[i]'(by omega)) (by simp)).1 e he hbe
       exact ih _ hlt (by omega)
      rw [h0] at this
      cases this
   have hnr : n ∈ Region.ready md ops listed := mem_ready.2 ⟨ht n (Nat.le_refl _) hn, on, hon, fun e he hbe => hall _ ((back_spec hb hon).1 e he hbe)⟩
   rw [h0] at hnr; cases hnr
  ·rcases hnot listed hs ht hcl i hi with hin | rfl
   ·have h1 := h.2 i ((hrd listed ls hs hls hsame i hin).1 hi)
    have hnext : ∀ a' w', wpAny P md (ops.extract 0 n) (behindF P ops Q n on) f (ls.setIfInBounds i true) a' w' → wpAny P md ops Q (f + (ops.size - n)) (listed.setIfInBounds i true) a' w' := by
     intro a' w' h'
     refine ih _ _ a' w' (by simp [hs]) (by simp [hls]) (closed_set hcl hi) (fun j hj => ?_) (fun t h1 h2 => by rw [getD_set_ne true (by omega)]; exact ht t h1 h2) h'
     by_cases hij : i = j
     ·subst hij
      have : i < ops.size := by omega
      simp [Array.getElem?_setIfInBounds, hls, hs, hj, this]
     ·simp [Array.getElem?_setIfInBounds_ne hij, hsame j hj]
    have h2 := wpOp_mono hnext h1
    unfold wpOp at h2 ⊢
    rw [hat i hin] at h2
    cases ho : ops[i]? with
    | none => rw [ho] at h2; exact h2
    | some o =>
     rw [ho] at h2
     have hwant : Region.wanted o (yielded (ops.extract 0 n) a.tmps) = Region.wanted o (yielded ops a.tmps) := by
      unfold Region.wanted
      cases hg : o.guard with
      | none => rfl
      | some gb =>
       obtain ⟨g, b⟩ := gb
       have := (back_spec hb ho).2 g b hg
       simp only [yielded, hat g (by omega)]
     simp only [hwant] at h2
     show if Region.wanted o (yielded ops a.tmps) = true then _ else _
     split
     ·rename_i hw
      rw [if_pos hw] at h2
      exact h2.imp wp_behindF id
     ·rename_i hw
      rw [if_neg hw] at h2
      exact h2
   ·obtain ⟨_, o, ho, hal⟩ := mem_ready.1 hi
    have := atN (f + 1) listed ls a w hs hls hcl hsame ht (fun k hk hc => by
     have h1 := List.all_eq_true.1 hsink k (List.mem_range.2 hk)
     simp only [hc, Bool.false_or] at h1
     exact reach_listed hcl _ _ _ o ho hal h1) h
    rwa [show f + 1 + (ops.size - i - 1) = f + (ops.size - i) by omega] at this
end
end
theorem wp_drawn_tailF {P : Program} {id : Nat} {Q : Exit → Act → World → Prop} {a : Act} {w : World} {l : List Oper} (n : Nat) (fl : List Nat) (on : Oper) (T : Table) (hm : P.follows .mixedOrders = true) (hS : splitF .any l.toArray n fl = true) (hon : l[n]? = some on) (hB : Region.lexB .any (l.take n).toArray = true)
  (hT : ∀ i R vals v w w', T i = some R → R vals v w → Ext w w' → R vals v w')
  (h : (∀ (n : Aft w) b o, b < w.heap.size → n.out.cell? ⟨b, o, none⟩ = w.cell? ⟨b, o, none⟩) → (∀ (n : Aft w) b o, b < w.heap.size → n.out.frozen? ⟨b, o, none⟩ = w.frozen? ⟨b, o, none⟩) →
   wpK P .any (l.take n).toArray (fun w' => ∃ n : Aft w, w' = n.out) T (fun a' F => ∀ m : Aft w, Good F m.out → ∃ u w2, Runs P on a' m.out u w2 ∧ wpList P l.toArray Q (l.drop (n + 1)) (a'.put on.dst u) w2) 0 (l.take n) a noFacts) : (Code.region id l.toArray true).wp P Q a w := by
 have hn : n < l.length := by simp only [splitF, Bool.and_eq_true, decide_eq_true_eq] at hS; simpa using hS.1.1.1.1.1
 refine wp_region_any hm ?_
 have e : l.toArray.extract 0 n = (l.take n).toArray := by simp
 have hrep : ∀ i, i < n → (Array.replicate n false)[i]? = (Array.replicate l.toArray.size false)[i]? := by
  intro i hi
  have h2 : i < l.length := by omega
  simp [hi, h2]
 have key := splitF_any (P := P) (Q := Q) hS (on := on) (by simpa using hon) n (Array.replicate l.toArray.size false) (Array.replicate n false) a w.drew (by simp) (by simp) (by intro j o ho hl; simp [Array.getD_eq_getD_getElem?, Array.getElem?_replicate] at hl; split at hl <;> simp at hl) hrep (fun t _ h2 => by simp at h2; simp [h2])
 rw [show n + (l.toArray.size - n) = l.toArray.size by simp; omega] at key
 refine key ?_
 clear key
 rw [e]
 simp only [Region.lexB, Bool.and_eq_true] at hB
 have hC : ∃ n : Aft w, w.drew = n.out := ⟨⟨_, jD (jR w)⟩, rfl⟩
 have hup : ∀ w' w'', (∃ n : Aft w, w' = n.out) → Ext w' w'' → ∃ n : Aft w, w'' = n.out := by
  rintro _ w'' ⟨n, rfl⟩ he
  exact ⟨⟨w'', jT n.ext he⟩, rfl⟩
 have hg := noFacts_good
 have h := h (fun n b o hb => Below.cell (p := ⟨b, o, none⟩) n.ext hb) (fun n b o hb => Below.frozen (p := ⟨b, o, none⟩) n.ext hb)
 have hlen : (l.take n).toArray.size = n := by simp; omega
 refine any_of_K (T := T) hup hT (Q := fun a' F => ∀ m : Aft w, Good F m.out → ∃ u w2, Runs P on a' m.out u w2 ∧ wpList P l.toArray Q (l.drop (n + 1)) (a'.put on.dst u) w2) ?_ _ _ _ noFacts _ hC (hg _) (fun _ _ _ _ _ => trivial) ?_
 ·rintro a F _ ⟨m, rfl⟩ hgd hq
  exact hq m hgd
 ·have := lex_K (P := P) (md := .any) (ops := (l.take n).toArray) (Q := fun a' F => ∀ m : Aft w, Good F m.out → ∃ u w2, Runs P on a' m.out u w2 ∧ wpList P l.toArray Q (l.drop (n + 1)) (a'.put on.dst u) w2) hup hT hB.1 (l.take n) 0 (Array.replicate n false) a noFacts (by simp) (by simp; omega)
   (by intro j o ho hl; simp [Array.getD_eq_getD_getElem?, Array.getElem?_replicate] at hl; split at hl <;> simp at hl) (fun _ _ => ⟨rfl, fun _ => trivial⟩) (fun _ _ _ _ _ => trivial) ⟨_, hC, hg _⟩ (by have := hB.2; rw [hlen] at this; simpa [Nat.min_eq_left (Nat.le_of_lt hn)] using this) h
  simpa [Nat.min_eq_left (Nat.le_of_lt hn)] using this
end Go.Proofs.YtchbefambnhjjaaGreatDoor
end
