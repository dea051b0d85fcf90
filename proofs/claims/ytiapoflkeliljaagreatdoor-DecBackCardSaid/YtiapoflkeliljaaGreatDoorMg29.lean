/- Lemmas of this proof, laid together: Flo2. -/
import Derived.Test.YtiapoflkeliljaaGreatDoorMg03
set_option linter.unusedSimpArgs false
set_option linter.unusedVariables false
section
/- A drawn region whose tail of plain stores and assignments need not wait for some extracts: Flo, with any number of operations in the tail. -/
namespace Go.Proofs.YtiapoflkeliljaaGreatDoor
open Go.RowKit
section
variable {P : Program} {ops : Array Oper} {Q : Exit → Act → World → Prop} {md : Region.Mode}
/-- The tail, each operation run to its end. -/
def RunsL (P : Program) (Q : Exit → Act → World → Prop) : List Oper → Act → World → Prop
  | [], a, w => Q .normal a w
  | o :: l, a, w => ∃ u w2, Runs P o a w u w2 ∧ RunsL P Q l (a.put o.dst u) w2
def behG (P : Program) (Q : Exit → Act → World → Prop) (l : List Oper) : Exit → Act → World → Prop := fun e a w => match e with
  | .normal => RunsL P Q l a w
  | .exit i => Q (.exit i) a w
  | .goto l => Q (.goto l) a w
  | .ret => Q .ret a w
  | .panic c => Q (.panic c) a w
  | .outgrown => Q .outgrown a w
theorem wp_behG {o : Oper} {l : List Oper} {a : Act} {w : World} {K : Act → World → Prop} (h : o.wp P a w K (behG P Q l)) : o.wp P a w K Q := by
  unfold Oper.wp at *
  generalize (execOp a.eval o).run P w = r at *
  cases r with
  | ok x w' => cases x <;> exact h
  | halt x w' => cases x <;> exact h
def bindsOn (md : Region.Mode) (o : Oper) (p : Nat) : Bool := o.after.any fun e => Region.binds md e && e.on == p
def splitG (md : Region.Mode) (ops : Array Oper) (n : Nat) (fl : List Nat) : Bool :=
  decide (n < ops.size) && backB md ops && ((List.range n).all fun i => fl.contains i || dep md ops n i) &&
  ((List.range ops.size).all fun t => decide (t ≤ n) || waitsOn md ops t (t - 1)) &&
  ((List.range ops.size).all fun t => decide (t < n) || (match ops[t]? with
    | some o => o.guard.isNone && noSel o && fl.all fun p => match ops[p]? with
      | some q => q.apart ops o || bindsOn md o p
      | none => false
    | none => false)) &&
  fl.all fun p => decide (p < n) && (match ops[p]? with | some o => isExt o | none => false)
variable {n : Nat} {fl : List Nat}
theorem commG (hb : backB md ops = true) (hn : n < ops.size) (hfl : ∀ p, fl.contains p = true → ∃ o, ops[p]? = some o ∧ isExt o = true) {on : Oper} (hns : noSel on = true) (l : List Oper) :
    ∀ (f : Nat) (ls : Array Bool) (a : Act) (w : World), ls.size = n → (∀ j, j < n → ls.getD j true = false → fl.contains j = true ∧ ∃ q, ops[j]? = some q ∧ q.apart ops on = true) →
    wpAny P md (ops.extract 0 n) (behG P Q (on :: l)) f ls a w → ∃ u w2, Runs P on a w u w2 ∧ wpAny P md (ops.extract 0 n) (behG P Q l) f ls (a.put on.dst u) w2 := by
  have hat : ∀ i, i < n → (ops.extract 0 n)[i]? = ops[i]? := fun i hi => by simp [Array.getElem?_extract, hi]; omega
  intro f
  induction f with
  | zero =>
    intro ls a w hls hun h
    obtain ⟨hnil, u, w2, hr, hl⟩ := h
    exact ⟨u, w2, hr, hnil, hl⟩
  | succ f ih =>
    intro ls a w hls hun h
    by_cases hnil : Region.ready md (ops.extract 0 n) ls = []
    · obtain ⟨u, w2, hr, hl⟩ := h.1 hnil
      refine ⟨u, w2, hr, fun _ => hl, fun j hj => ?_⟩
      rw [hnil] at hj; cases hj
    · have hin : ∀ j ∈ Region.ready md (ops.extract 0 n) ls, j < n := by
        intro j hj
        obtain ⟨_, o, ho, _⟩ := mem_ready.1 hj
        have := (Array.getElem?_eq_some_iff.1 ho).1
        simp at this; omega
      have step : ∀ j ∈ Region.ready md (ops.extract 0 n) ls, ∃ oj v, ops[j]? = some oj ∧ oj.guard = none ∧ oj.apart ops on = true ∧ (∃ x ix, oj.op = .extract x ix) ∧ (∀ w', (execOp a.eval oj).run P w' = .ok (.value v) w') ∧
          ∃ u w2, Runs P on (a.put oj.dst v) w u w2 ∧ wpAny P md (ops.extract 0 n) (behG P Q l) f (ls.setIfInBounds j true) ((a.put oj.dst v).put on.dst u) w2 := by
        intro j hj
        have hjn := hin j hj
        obtain ⟨hjf, q, hq, hap⟩ := hun j hjn (mem_ready.1 hj).1
        obtain ⟨oj, hoj, hext⟩ := hfl j hjf
        obtain rfl : q = oj := Option.some.inj (hq.symm.trans hoj)
        obtain ⟨⟨x, ix, hop⟩, hgd⟩ := isExt_spec hext
        have h1 := h.2 j hj
        unfold wpOp at h1
        rw [hat j hjn, hoj] at h1
        have hw : ∀ z, Region.wanted q z = true := fun z => by unfold Region.wanted; rw [hgd]
        simp only [hw, if_true] at h1
        rcases h1 with h1 | ⟨h1, _⟩
        · rcases extract_run (P := P) x ix a q hop with ⟨v, hv⟩ | hno
          · refine ⟨q, v, hoj, hgd, hap, ⟨x, ix, hop⟩, hv, ?_⟩
            unfold Oper.wp at h1
            rw [hv w] at h1
            refine ih _ _ w (by simp [hls]) (fun k hk h2 => hun k hk ?_) h1
            by_cases hjk : j = k
            · subst hjk; simp [hls, hk] at h2
            · rwa [getD_set_ne true hjk] at h2
          · exact absurd h1 (hno _ _ _)
        · exact absurd h1 (extract_asks x ix a w q hop)
      have runOf : ∀ (oj : Oper) v u w2, oj.apart ops on = true → Runs P on (a.put oj.dst v) w u w2 → Runs P on a w u w2 := by
        intro oj v u w2 hap hr
        unfold Runs at *
        rwa [execOp_put (ops := ops) on (noSel_spec hns) a oj.dst v (Oper.apart_spec hap).1] at hr
      obtain ⟨i0, hi0⟩ := List.exists_mem_of_ne_nil _ hnil
      obtain ⟨o0, v0, _, _, hap0, _, _, u, w2, hr0, _⟩ := step i0 hi0
      have hr := runOf o0 v0 u w2 hap0 hr0
      refine ⟨u, w2, hr, fun h0 => absurd h0 hnil, fun j hj => ?_⟩
      obtain ⟨oj, v, hoj, hgd, hap, hop, hv, u', w2', hr', hk⟩ := step j hj
      obtain ⟨rfl, rfl⟩ := (runOf oj v u' w2' hap hr').same hr
      obtain ⟨x, ix, hop⟩ := hop
      have hsp := Oper.apart_spec hap
      unfold wpOp
      rw [hat j (hin j hj), hoj]
      have hw : ∀ z, Region.wanted oj z = true := fun z => by unfold Region.wanted; rw [hgd]
      simp only [hw, if_true]
      left
      unfold Oper.wp
      rw [execOp_put (ops := ops) oj (by intro cs b e; rw [hop] at e; cases e) a on.dst u' hsp.2.2, hv]
      show wpAny P md (ops.extract 0 n) _ _ _ _ _
      rw [Act.put_comm a v u' hsp.2.1] at hk
      exact hk
theorem finG (hB : splitG md ops n fl = true) : ∀ (N f t : Nat) (listed ls : Array Bool) (a : Act) (w : World), N = f + (ops.size - t) → n ≤ t → t ≤ ops.size → listed.size = ops.size → ls.size = n → Closed md ops listed → (∀ i, i < n → ls[i]? = listed[i]?) →
    (∀ k, n ≤ k → k < t → listed.getD k false = true) → (∀ k, t ≤ k → k < ops.size → listed.getD k true = false) → (n < t → ∀ i, i < n → fl.contains i = false → listed.getD i false = true) →
    wpAny P md (ops.extract 0 n) (behG P Q (ops.toList.drop t)) f ls a w → wpAny P md ops Q N listed a w := by
  simp only [splitG, Bool.and_eq_true, decide_eq_true_eq] at hB
  obtain ⟨⟨⟨⟨⟨hn, hb⟩, hsink⟩, hch0⟩, htl⟩, hfl0⟩ := hB
  have hch : ∀ t, n < t → t < ops.size → waitsOn md ops t (t - 1) = true := fun t h1 h2 => by
    have := List.all_eq_true.1 hch0 t (List.mem_range.2 h2)
    simp only [Bool.or_eq_true, decide_eq_true_eq] at this
    exact this.resolve_left (by omega)
  have hat : ∀ i, i < n → (ops.extract 0 n)[i]? = ops[i]? := fun i hi => by simp [Array.getElem?_extract, hi]; omega
  have hfl : ∀ p, fl.contains p = true → ∃ o, ops[p]? = some o ∧ isExt o = true := fun p hp => by
    have h1 := List.all_eq_true.1 hfl0 p (by simpa using hp)
    simp only [Bool.and_eq_true] at h1
    cases ho : ops[p]? with
    | none => rw [ho] at h1; cases h1.2
    | some o => rw [ho] at h1; exact ⟨o, rfl, h1.2⟩
  have hrd : ∀ (listed ls : Array Bool), listed.size = ops.size → ls.size = n → (∀ i, i < n → ls[i]? = listed[i]?) → ∀ i, i < n → (i ∈ Region.ready md ops listed ↔ i ∈ Region.ready md (ops.extract 0 n) ls) := by
    intro listed ls hs hls hsame i hi
    have e1 : ∀ j d, j < n → ls.getD j d = listed.getD j d := fun j d hj => by simp [Array.getD_eq_getD_getElem?, hsame j hj]
    rw [mem_ready, mem_ready, hat i hi, e1 i true hi]
    constructor
    · rintro ⟨h0, o, ho, hall⟩
      exact ⟨h0, o, ho, fun e he hbe => by rw [e1 _ _ (Nat.lt_trans ((back_spec hb ho).1 e he hbe) hi)]; exact hall e he hbe⟩
    · rintro ⟨h0, o, ho, hall⟩
      exact ⟨h0, o, ho, fun e he hbe => by have := hall e he hbe; rwa [e1 _ _ (Nat.lt_trans ((back_spec hb ho).1 e he hbe) hi)] at this⟩
  intro N
  induction N with
  | zero =>
    intro f t listed ls a w hN hnt hts hs hls hcl hsame hlt hge hnf h
    obtain rfl : f = 0 := by omega
    obtain rfl : t = ops.size := by omega
    have h2 := h.2
    rw [List.drop_eq_nil_of_le (by simp)] at h2
    refine ⟨?_, h2⟩
    refine List.eq_nil_iff_forall_not_mem.2 fun j hj => ?_
    obtain ⟨hjl, o, ho, _⟩ := mem_ready.1 hj
    have hjs := (Array.getElem?_eq_some_iff.1 ho).1
    by_cases hjn : j < n
    · have := (hrd listed ls hs hls hsame j hjn).1 hj
      rw [h.1] at this; cases this
    · have := hlt j (by omega) hjs
      rw [getD_sw (by omega) false true, hjl] at this; cases this
  | succ N ih =>
    intro f t listed ls a w hN hnt hts hs hls hcl hsame hlt hge hnf h
    refine ⟨fun h0 => ?_, fun i hi => ?_⟩
    · have hnil : Region.ready md (ops.extract 0 n) ls = [] := by
        refine List.eq_nil_iff_forall_not_mem.2 fun j hj => ?_
        have hjn : j < n := by
          obtain ⟨_, o, ho, _⟩ := mem_ready.1 hj
          have := (Array.getElem?_eq_some_iff.1 ho).1
          simp at this; omega
        have := (hrd listed ls hs hls hsame j hjn).2 hj
        rw [h0] at this; cases this
      have hall : ∀ i, i < ops.size → listed.getD i false = true := by
        intro i
        induction i using Nat.strongRecOn with
        | _ i ih =>
          intro hi
          cases hv : listed.getD i false with
          | true => rfl
          | false =>
            exfalso
            have : i ∈ Region.ready md ops listed := by
              refine mem_ready.2 ⟨by rw [getD_sw (by omega) true false]; exact hv, ops[i]'(by omega), by simp, fun e he hbe => ?_⟩
              have hlt := (back_spec hb (i := i) (o := ops[i]'(by omega)) (by simp)).1 e he hbe
              exact ih _ hlt (by omega)
            rw [h0] at this
            cases this
      have hte : t = ops.size := by
        rcases Nat.lt_or_ge t ops.size with h1 | h1
        · have h2 := hall t h1
          rw [getD_sw (by omega) false true, hge t (Nat.le_refl _) h1] at h2; cases h2
        · omega
      have hq : RunsL P Q (ops.toList.drop t) a w := by
        cases f with
        | zero => exact h.2
        | succ f => exact h.1 hnil
      rw [hte, List.drop_eq_nil_of_le (by simp)] at hq
      exact hq
    · obtain ⟨hil, o, ho, hal⟩ := mem_ready.1 hi
      have his := (Array.getElem?_eq_some_iff.1 ho).1
      by_cases hin : i < n
      · cases f with
        | zero =>
          have := (hrd listed ls hs hls hsame i hin).1 hi
          rw [h.1] at this; cases this
        | succ f =>
          have h1 := h.2 i ((hrd listed ls hs hls hsame i hin).1 hi)
          have hnext : ∀ a' w', wpAny P md (ops.extract 0 n) (behG P Q (ops.toList.drop t)) f (ls.setIfInBounds i true) a' w' → wpAny P md ops Q N (listed.setIfInBounds i true) a' w' := by
            intro a' w' h'
            refine ih f t _ _ a' w' (by omega) hnt hts (by simp [hs]) (by simp [hls]) (closed_set hcl hi) (fun j hj => ?_) (fun k h1 h2 => getD_set_true (hlt k h1 h2)) (fun k h1 h2 => by rw [getD_set_ne true (by omega)]; exact hge k h1 h2) (fun h1 k hk hc => getD_set_true (hnf h1 k hk hc)) h'
            by_cases hij : i = j
            · subst hij
              have : i < ops.size := by omega
              simp [Array.getElem?_setIfInBounds, hls, hs, hj, this]
            · simp [Array.getElem?_setIfInBounds_ne hij, hsame j hj]
          have h2 := wpOp_mono hnext h1
          unfold wpOp at h2 ⊢
          rw [hat i hin] at h2
          rw [ho] at h2 ⊢
          have hwant : Region.wanted o (yielded (ops.extract 0 n) a.tmps) = Region.wanted o (yielded ops a.tmps) := by
            unfold Region.wanted
            cases hg : o.guard with
            | none => rfl
            | some gb =>
              obtain ⟨g, b⟩ := gb
              have := (back_spec hb ho).2 g b hg
              simp only [yielded, hat g (by omega)]
          simp only [hwant] at h2
          show if Region.wanted o (yielded ops a.tmps) = true then _ else _
          split
          · rename_i hw
            rw [if_pos hw] at h2
            exact h2.imp wp_behG id
          · rename_i hw
            rw [if_neg hw] at h2
            exact h2
      · have hit : i = t := by
          rcases Nat.lt_trichotomy i t with h1 | h1 | h1
          · have h2 := hlt i (by omega) h1
            rw [getD_sw (by omega) false true, hil] at h2; cases h2
          · exact h1
          · exfalso
            obtain ⟨e, he, hbe, hone⟩ := waitsOn_spec ho (hch i (by omega) his)
            have h5 := hal e he hbe
            rw [hone, getD_sw (by omega) false true, hge (i - 1) (by omega) (by omega)] at h5; cases h5
        subst hit
        have hnf' : ∀ k, k < n → fl.contains k = false → listed.getD k false = true := by
          intro k hk hc
          rcases Nat.eq_or_lt_of_le hnt with h1 | h1
          · subst h1
            have h2 := List.all_eq_true.1 hsink k (List.mem_range.2 hk)
            simp only [hc, Bool.false_or] at h2
            exact reach_listed hcl _ _ _ o ho hal h2
          · exact hnf h1 k hk hc
        have ht1 := List.all_eq_true.1 htl i (List.mem_range.2 his)
        simp only [Bool.or_eq_true, decide_eq_true_eq, ho] at ht1
        have ht2 := ht1.resolve_left (by omega)
        simp only [Bool.and_eq_true] at ht2
        obtain ⟨⟨hg, hns⟩, hap⟩ := ht2
        have hun : ∀ j, j < n → ls.getD j true = false → fl.contains j = true ∧ ∃ q, ops[j]? = some q ∧ q.apart ops o = true := by
          intro j hj hl
          have e1 : ls.getD j true = listed.getD j true := by simp [Array.getD_eq_getD_getElem?, hsame j hj]
          rw [e1] at hl
          have hc : fl.contains j = true := by
            cases hc : fl.contains j with
            | true => rfl
            | false =>
              have := hnf' j hj hc
              rw [getD_sw (by omega) false true, hl] at this; cases this
          refine ⟨hc, ?_⟩
          have h1 := List.all_eq_true.1 hap j (by simpa using hc)
          cases hoj : ops[j]? with
          | none => rw [hoj] at h1; cases h1
          | some q =>
            rw [hoj] at h1
            refine ⟨q, rfl, ?_⟩
            rcases Bool.or_eq_true _ _ ▸ h1 with h2 | h2
            · exact h2
            · exfalso
              unfold bindsOn at h2
              obtain ⟨e, he, h3⟩ := Array.any_eq_true'.1 h2
              simp only [Bool.and_eq_true, beq_iff_eq] at h3
              have h5 := hal e he h3.1
              rw [h3.2, getD_sw (by omega) false true, hl] at h5; cases h5
        have hdr : ops.toList.drop i = o :: ops.toList.drop (i + 1) := by
          rw [List.drop_eq_getElem_cons (by simpa using his)]
          congr 1
          have := (Array.getElem?_eq_some_iff.1 ho).2
          simpa using this
        rw [hdr] at h
        obtain ⟨u, w2, hr, hk⟩ := commG hb hn hfl hns _ f ls a w hls hun h
        have hrest := ih f (i + 1) (listed.setIfInBounds i true) ls (a.put o.dst u) w2 (by omega) (by omega) (by omega) (by simp [hs]) hls (closed_set hcl hi) (fun j hj => by rw [Array.getElem?_setIfInBounds_ne (by omega)]; exact hsame j hj)
          (fun k h1 h2 => by
            rcases Nat.lt_or_ge k i with h3 | h3
            · exact getD_set_true (hlt k h1 h3)
            · obtain rfl : k = i := by omega
              simp [hs, his])
          (fun k h1 h2 => by rw [getD_set_ne true (by omega)]; exact hge k (by omega) h2) (fun _ k hk hc => getD_set_true (hnf' k hk hc)) hk
        unfold wpOp
        rw [ho]
        have hw : ∀ z, Region.wanted o z = true := fun z => by unfold Region.wanted; rw [Option.isNone_iff_eq_none.1 hg]
        simp only [hw, if_true]
        left
        unfold Oper.wp
        rcases hr with hr | ⟨hr, rfl⟩
        · rw [hr]; exact hrest
        · rw [hr]; exact hrest
end
theorem wp_drawn_tailG {P : Program} {id : Nat} {Q : Exit → Act → World → Prop} {a : Act} {w : World} {l : List Oper} (n : Nat) (fl : List Nat) (T : Table) (hm : P.follows .mixedOrders = true) (hS : splitG .any l.toArray n fl = true) (hB : Region.lexB .any (l.take n).toArray = true)
    (hT : ∀ i R vals v w w', T i = some R → R vals v w → Ext w w' → R vals v w')
    (h : (∀ (n : Aft w) b o, b < w.heap.size → n.out.cell? ⟨b, o, none⟩ = w.cell? ⟨b, o, none⟩) → (∀ (n : Aft w) b o, b < w.heap.size → n.out.frozen? ⟨b, o, none⟩ = w.frozen? ⟨b, o, none⟩) →
      wpK P .any (l.take n).toArray (fun w' => ∃ n : Aft w, w' = n.out) T (fun a' F => ∀ m : Aft w, Good F m.out → RunsL P Q (l.drop n) a' m.out) 0 (l.take n) a noFacts) : (Code.region id l.toArray true).wp P Q a w := by
  have hn : n < l.length := by simp only [splitG, Bool.and_eq_true, decide_eq_true_eq] at hS; simpa using hS.1.1.1.1.1
  refine wp_region_any hm ?_
  have e : l.toArray.extract 0 n = (l.take n).toArray := by simp
  have hrep : ∀ i, i < n → (Array.replicate n false)[i]? = (Array.replicate l.toArray.size false)[i]? := by
    intro i hi
    have h2 : i < l.length := by omega
    simp [hi, h2]
  refine finG (P := P) (Q := Q) hS _ n n (Array.replicate l.toArray.size false) (Array.replicate n false) a w.drew (by simp; omega) (Nat.le_refl _) (by simp; omega) (by simp) (by simp) (by intro j o ho hl; simp [Array.getD_eq_getD_getElem?, Array.getElem?_replicate] at hl; split at hl <;> simp at hl) hrep (fun k h1 h2 => by omega) (fun t _ h2 => by simp at h2; simp [h2]) (fun h => by omega) ?_
  rw [e]
  simp only [Region.lexB, Bool.and_eq_true] at hB
  have hC : ∃ n : Aft w, w.drew = n.out := ⟨⟨_, ext_drew (ext_refl w)⟩, rfl⟩
  have hup : ∀ w' w'', (∃ n : Aft w, w' = n.out) → Ext w' w'' → ∃ n : Aft w, w'' = n.out := by
    rintro _ w'' ⟨n, rfl⟩ he
    exact ⟨⟨w'', ext_trans n.ext he⟩, rfl⟩
  have hg := noFacts_good
  have h := h (fun n b o hb => Below.cell (p := ⟨b, o, none⟩) n.ext hb) (fun n b o hb => Below.frozen (p := ⟨b, o, none⟩) n.ext hb)
  have hlen : (l.take n).toArray.size = n := by simp; omega
  refine any_of_K (T := T) hup hT (Q := fun a' F => ∀ m : Aft w, Good F m.out → RunsL P Q (l.drop n) a' m.out) ?_ _ _ _ noFacts _ hC (hg _) (fun _ _ _ _ _ => trivial) ?_
  · rintro a F _ ⟨m, rfl⟩ hgd hq
    exact hq m hgd
  · have := lex_K (P := P) (md := .any) (ops := (l.take n).toArray) (Q := fun a' F => ∀ m : Aft w, Good F m.out → RunsL P Q (l.drop n) a' m.out) hup hT hB.1 (l.take n) 0 (Array.replicate n false) a noFacts (by simp) (by simp; omega)
      (by intro j o ho hl; simp [Array.getD_eq_getD_getElem?, Array.getElem?_replicate] at hl; split at hl <;> simp at hl) (fun _ _ => ⟨rfl, fun _ => trivial⟩) (fun _ _ _ _ _ => trivial) ⟨_, hC, hg _⟩ (by have := hB.2; rw [hlen] at this; simpa [Nat.min_eq_left (Nat.le_of_lt hn)] using this) h
    simpa [Nat.min_eq_left (Nat.le_of_lt hn)] using this
end Go.Proofs.YtiapoflkeliljaaGreatDoor
end
