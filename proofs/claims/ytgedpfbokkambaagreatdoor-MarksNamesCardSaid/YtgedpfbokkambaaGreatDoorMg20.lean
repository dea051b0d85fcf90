/- Lemmas of this proof, laid together: MlE, MdE, MdF. -/
import Derived.Test.YtgedpfbokkambaaGreatDoorMg15
import Derived.Test.YtgedpfbokkambaaGreatDoorMg19
import Derived.Test.YtgedpfbokkambaaGreatDoorMg12
import Derived.Deep.DeepCutAuto
import Derived.Deep.RegionWith
import Derived.Deep.LoopGhost
set_option linter.unusedSimpArgs false
set_option linter.unusedVariables false
section
/- Marks: by plain marks nothing changes. -/
namespace Go.Proofs.YtgedpfbokkambaaGreatDoor
open Go.RowKit Go.Maps
set_option maxHeartbeats 4000000
set_option maxRecDepth 100000
theorem encL_ascii (b : UInt8) (h : b.toNat < 128) : encL (b.toNat : Int) = [b] := by
  unfold encL Utf8.encode
  have hv : Utf8.valid ((b.toNat : Nat) : Int) = true := by unfold Utf8.valid; simp only [Bool.or_eq_true, Bool.and_eq_true, decide_eq_true_eq]; omega
  simp [hv, h]
theorem flat_ascii : ∀ (l : List UInt8), (∀ b ∈ l, b.toNat < 128) → (l.map (fun b => (b.toNat : Int))).flatMap encL = l
  | [], _ => rfl
  | b :: l, h => by rw [List.map_cons, List.flatMap_cons, encL_ascii b (h b (by simp)), flat_ascii l (fun x hx => h x (by simp [hx]))]; rfl
theorem PlB_ascii {b : UInt8} (h : PlB b) : b.toNat < 128 := by
  rcases h with rfl | rfl | rfl | h
  · decide
  · decide
  · decide
  · have := (isD_iff b).1 h; omega
theorem markB_plain {b : UInt8} (h : PlB b) : markB 46 45 48 b = (b.toNat : Int) := by
  rcases h with rfl | rfl | rfl | h
  · rfl
  · rfl
  · rfl
  · rw [markB_dig h]; omega
theorem shp_all {l : List UInt8} {f e : Nat} (hs : shpB l = (-1, f, e)) : ∀ b ∈ l, PlB b := by
  obtain ⟨h1, h2, h3, h4, h5, h6⟩ := shp_ok hs
  refine mem_getD (fun i hi => ?_)
  rcases Nat.lt_or_ge i f with q | q
  · rcases h4 with ⟨h7, rfl⟩ | ⟨_, rfl⟩
    · obtain rfl : i = 0 := by omega
      rw [List.getD_eq_getElem?_getD, h7]; exact .inr (.inl rfl)
    · omega
  · rcases Nat.lt_or_ge i e with q2 | q2
    · exact .inr (.inr (.inr (h5 i q q2)))
    · exact h6 i q2 hi
theorem putL_plain {l : List UInt8} {f e : Nat} (hs : shpB l = (-1, f, e)) : (putL 46 0 45 48 [] l f e).flatMap encL = l := by
  have hal := shp_all hs
  have hsp := shp_split hs
  have hdd := drop_isD (shp_ok hs).2.2.2.2.1 (shp_ok hs).2.2.1
  have e1 : putL 46 0 45 48 [] l f e = l.map (fun b => (b.toNat : Int)) := by
    unfold putL
    rw [whole_bare 48 _ _ (Nat.le_refl _), List.take_of_length_le (Nat.le_refl _)]
    conv => rhs; rw [hsp]
    rw [List.map_append, List.map_append]
    congr 1
    · congr 1
      · split <;> rfl
      · refine List.map_congr_left (fun b hb => ?_)
        have := (isD_iff b).1 (hdd b hb)
        omega
    · exact List.map_congr_left (fun b hb => markB_plain (hal b (List.mem_of_mem_drop hb)))
  rw [e1]
  exact flat_ascii l (fun b hb => PlB_ascii (hal b hb))
theorem ckv_plain : ckv 46 0 45 48 [] = 0 := by kernel_rfl
theorem put_plain {P G M N : Int} {xs : List Int} {l t : List UInt8} {z : Int} (h : putV P G M N xs l = (t, 0, z)) : putV 46 0 45 48 [] l = (l, 0, 0) := by
  obtain ⟨_, h2, f, e, h3, _⟩ := put_parts h
  have := put_of (P := 46) (G := 0) (M := 45) (N := 48) (xs := []) ckv_plain h2 h3 (by rw [putL_plain h3]; exact h2)
  rwa [putL_plain h3] at this
theorem take_plain {P G M N : Int} {xs : List Int} {l t : List UInt8} {z : Int} (h : putV P G M N xs l = (t, 0, z)) : takeV 46 0 45 48 [] l = (l, 0, 0) := take_put (put_plain h)
/-- One of the two is the text. -/
theorem again_or {P G M N : Int} {xs : List Int} {s u a b : List UInt8} {z z1 z2 : Int} (h : takeV P G M N xs s = (u, 0, z)) (h1 : putV P G M N xs u = (a, 0, z1)) (h2 : putV P 0 M N [] u = (b, 0, z2)) : a = s ∨ b = s := by
  obtain ⟨f, e, hs, hr⟩ := put_take h
  obtain ⟨_, _, f1, e1, s1, t1, _⟩ := put_parts h1
  obtain ⟨_, _, f2, e2, s2, t2, _⟩ := put_parts h2
  rw [hs] at s1 s2
  simp only [Prod.mk.injEq, true_and] at s1 s2
  obtain ⟨rfl, rfl⟩ := s1
  obtain ⟨rfl, rfl⟩ := s2
  rcases hr with hr | hr
  · exact .inl (t1.trans hr.symm)
  · exact .inr (t2.trans hr.symm)
end Go.Proofs.YtgedpfbokkambaaGreatDoor
end
section
/- Marks: the document's answer: Put, where it ends early. -/
namespace Go.Proofs.YtgedpfbokkambaaGreatDoor
open Go.RowKit
attribute [local go_sem] bs_size bs_extract bs_get bs_append bs_toList const_get
attribute [local irreducible] Calls
set_option maxHeartbeats 4000000
set_option maxRecDepth 100000
theorem push_runes {ops : Array Oper} {rest : List Oper} {o : Oper} {a : Act} {Q : Exit → Act → World → Prop} {w : World} (hgd : o.guard = none) (s x : Operand)
    (ho : o.op = .call { callee := .builtin .append, args := #[s, x], argTypes := #[54, 54] })
    {W : World} (hW : Ext W w) {base : Nat} (hbase : W.heap.size ≤ base) (hsz0 : base ≤ w.heap.size) {v : Value} {n : Nat} {xs : List Int} (hown : OwnR w base v n xs) (hs : a.eval s = v)
    {b off : Nat} {m c : Nat} {ys : List Int} (h2 : RdR w (some ⟨b, off, none⟩) m c ys) (hx : a.eval x = .slice (some ⟨b, off, none⟩) m c) (hn : n + m ≤ 1000000000)
    (h : ∀ v' w', Ext W w' → Hid (OwnR w' base v' (n + m) (xs ++ ys)) → wpList Tryz.prog ops Q rest (a.put o.dst v') w') : wpList Tryz.prog ops Q (o :: rest) a w := by
  obtain ⟨i, hi, hz, hsz, hby⟩ := info_parts i32_info
  have hyl : ys.length = m := h2.len
  refine wpList_append_own _ hgd s x _ ho base 21 i _ 1 4 i32_under hi hz hsz hby rfl (by decide) v n _ hs hown ⟨b, off, none⟩ m c (ys.map rV) hx (by simpa using hyl) ?_ ?_ ?_ ?_ hsz0 ?_
  · intro j u hj
    have hj' : j < ys.length := by
      have := (List.getElem?_eq_some_iff.1 hj).1
      simpa using this
    have h3 := (h2.cells b off rfl j (by omega)).2
    have e : Addr.add ⟨b, off, none⟩ j = ⟨b, off + j, none⟩ := by unfold Addr.add; split <;> simp_all
    rw [e, h3]
    rw [List.getElem?_map, List.getElem?_eq_getElem hj'] at hj
    rw [List.getD_eq_getElem?_getD, List.getElem?_eq_getElem hj']
    simpa using hj
  · intro u hu
    obtain ⟨z, _, rfl⟩ := List.mem_map.1 hu
    rfl
  · unfold maxLen; omega
  · omega
  · intro v' w' ho' hg _
    refine h v' w' (ext_grown hW hown hbase hg) ?_
    show World.ownsRow _ _ _ _ _ _ _
    simpa using ho'
theorem md_grouped (P G M N : Int) (A : Option Addr) (k c : Nat) (xs : List Int) (B : Option Addr) (n d : Nat) (L : List Int) (w : World) (hA : RdI w A k c xs) (hso : szOk G k xs) (hB : RdR w B n d L) (hn : n ≤ 1000000) :
    Calls Tryz.prog 34 #[mkV P G M N A k c, .slice B n d] w fun e w' => ∃ A' n' c', e = .returned (.slice A' n' c') ∧ Ext w w' ∧ Hid (RdR w' A' n' c' (grpN G xs L n)) := by
  by_cases hG : G = 0
  · subst hG
    refine (md_grouped_none P M N A k c B n d w).mono ?_
    rintro e w' ⟨rfl, hE⟩
    refine ⟨B, n, d, rfl, hE, ?_⟩
    have hl := hB.len
    rw [show grpN 0 xs L n = L by rw [grp_bare L xs n (by omega), List.take_of_length_le (by omega)]]
    exact hB.ext hE
  · refine (md_grouped_with P G M N hG A k c xs B n d L w hA hso hB hn).mono ?_
    rintro e w' ⟨v, rfl, hE, hO⟩
    obtain ⟨A', c', rfl⟩ := own_shape hO.out
    exact ⟨A', _, c', rfl, hE, (RdR.own hO.out).1⟩
/-- A fault's own box, as the call lays it. -/
structure FxAt (W : World) (b : Nat) : Prop where
  c0 : W.cell? ⟨b, 0, none⟩ = some (.int .i64 0)
  c1 : W.cell? ⟨b, 1, none⟩ = some (.int .i64 0)
  f0 : W.frozen? ⟨b, 0, none⟩ = false
  f1 : W.frozen? ⟨b, 1, none⟩ = false
  lt : b < W.heap.size
theorem FxAt.ext {w w' : World} {b : Nat} (h : FxAt w b) (he : Ext w w') : FxAt w' b :=
  ⟨(Below.cell (p := ⟨b, 0, none⟩) he h.lt).trans h.c0, (Below.cell (p := ⟨b, 1, none⟩) he h.lt).trans h.c1, (Below.frozen (p := ⟨b, 0, none⟩) he h.lt).trans h.f0, (Below.frozen (p := ⟨b, 1, none⟩) he h.lt).trans h.f1, Nat.lt_of_lt_of_le h.lt he.size⟩
abbrev FxW (w : World) (P G M N : Int) (A : Option Addr) (k c : Nat) : World := (w.alloc (BoxM P G M N A k c)).alloc (.cells #[.int .i64 0, .int .i64 0] 34)
theorem fx_made (w : World) (P G M N : Int) (A : Option Addr) (k c : Nat) : FxAt (FxW w P G M N A k c) (w.heap.size + 1) := ⟨by simp [go_sem], by simp [go_sem], by simp [go_sem], by simp [go_sem], by simp⟩
theorem fx_marks (w : World) (P G M N : Int) (A : Option Addr) (k c : Nat) : MkAt (FxW w P G M N A k c) w.heap.size P G M N A k c := (MkAt.made w P G M N A k c).ext (ext_alloc (ext_refl _) _)
theorem fx_ext (w : World) (P G M N : Int) (A : Option Addr) (k c : Nat) : Ext w (FxW w P G M N A k c) := ext_alloc (ext_alloc (ext_refl w) _) _
theorem fx_set {w W : World} {P G M N : Int} {A : Option Addr} {k c : Nat} (h : Ext (FxW w P G M N A k c) W) (u v : Value) : Ext w ((W.setCell ⟨w.heap.size + 1, 0, none⟩ u).setCell ⟨w.heap.size + 1, 1, none⟩ v) :=
  ext_setCell (ext_setCell (ext_trans (fx_ext w P G M N A k c) h) (by simp) _) (by simp) _
end Go.Proofs.YtgedpfbokkambaaGreatDoor
end
section
/- Marks: the document's answer: Put, a text that is gone through. -/
namespace Go.Proofs.YtgedpfbokkambaaGreatDoor
open Go.RowKit
attribute [local go_sem] bs_size bs_extract bs_get bs_append bs_toList const_get
attribute [local go_sem] D2.Oper.detAt D2.detUpon D2.relUpon
attribute [local irreducible] Calls
set_option maxHeartbeats 4000000
set_option maxRecDepth 100000
/-- A text's bytes as runes. -/
def byI (l : List UInt8) : List Int := l.map (fun b => (b.toNat : Int))
theorem byI_enc (l : List UInt8) : (byI l).map encB = l := by
  unfold byI
  rw [List.map_map]
  conv => rhs; rw [← List.map_id l]
  exact List.map_congr_left (fun b _ => encB_byte b)
theorem byI_len (l : List UInt8) : (byI l).length = l.length := by unfold byI; simp
theorem byI_snoc {l : List UInt8} {i : Nat} (h : i < l.length) : byI (l.take (i + 1)) = byI (l.take i) ++ [((l.getD i 0).toNat : Int)] := by
  unfold byI
  rw [List.take_succ_eq_append_getElem h, List.map_append, List.getD_eq_getElem?_getD, List.getElem?_eq_getElem h]; rfl
theorem set_mid {P M N : Int} {l : List UInt8} {i : Nat} (h : i < l.length) : ((l.take i).map (markB P M N) ++ byI (l.drop i)).set i (markB P M N l[i]) = (l.take (i + 1)).map (markB P M N) ++ byI (l.drop (i + 1)) := by
  have hll : ((l.take i).map (markB P M N)).length = i := by rw [List.length_map, List.length_take]; omega
  rw [List.set_append_right _ _ (by omega), hll, Nat.sub_self, List.drop_eq_getElem_cons h, List.take_succ_eq_append_getElem h, List.map_append]
  unfold byI
  rw [List.map_cons, List.set_cons_zero, List.append_assoc]; rfl
theorem put_list {P G M N : Int} {xs : List Int} {l : List UInt8} {f e : Nat} (hs : shpB l = (-1, f, e)) : (l.map (markB P M N)).take f ++ grpN G xs (((l.map (markB P M N)).take e).drop f) (e - f) ++ (l.map (markB P M N)).drop e = putL P G M N xs l f e := by
  obtain ⟨h1, h2, h3, h4, h5, h6⟩ := shp_ok hs
  have hdd := drop_isD h5 h3
  have hdl : ((l.take e).drop f).length = e - f := by rw [List.length_drop, List.length_take]; omega
  unfold putL
  rw [whole_grp G N xs _ _ (Nat.le_refl _), hdl, ← List.map_take, ← List.map_take, ← List.map_drop, ← List.map_drop]
  have e1 : (l.take f).map (markB P M N) = if 0 < f then [M] else [] := by
    rcases h4 with ⟨h7, rfl⟩ | ⟨_, rfl⟩
    · cases l with
      | nil => simp at h7
      | cons a t => simp at h7; subst h7; rfl
    · simp
  have e2 : ((l.take e).drop f).map (markB P M N) = ((l.take e).drop f).map (fun b => N + ((b.toNat : Int) - 48)) := List.map_congr_left (fun b hb => markB_dig (hdd b hb))
  rw [e1, e2]
theorem rd_some {w : World} {A : Option Addr} {n c : Nat} {xs : List Int} (h : RdR w A n c xs) (h0 : 0 < xs.length) : ∃ b off, A = some ⟨b, off, none⟩ := by
  rcases h.shape with ⟨_, _, _, rfl⟩ | q
  · simp at h0
  · exact q
theorem grp_len (G : Int) (xs L : List Int) : ∀ i, (grpN G xs L i).length ≤ 2 * i ∧ i ≤ (grpN G xs L i).length
  | 0 => by simp [grpN]
  | i + 1 => by
    have := grp_len G xs L i
    rw [grpN]
    split <;> simp <;> omega
/-- A row of runes that lies somewhere, old or new. -/
def RdRow (L : List Int) : List Value → Value → World → Prop := fun _ v w => ∃ b off n c, v = .slice (some ⟨b, off, none⟩) n c ∧ RdR w (some ⟨b, off, none⟩) n c L
theorem stays_rdrow (L : List Int) : D2.Stays (RdRow L) := fun _ _ _ _ ⟨b, off, n, c, h1, h2⟩ he => ⟨b, off, n, c, h1, h2.ext he⟩
theorem rel_rdrow {L : List Int} {vals : List Value} {f : FuncId} {args : Array Value} {w : World} {m : Nat} (h : Calls Tryz.prog f args w fun e w' => ∃ b off n c, e = .returned (.slice (some ⟨b, off, none⟩) n c) ∧ Ext w w' ∧ n ≤ m ∧ Hid (RdR w' (some ⟨b, off, none⟩) n c L)) :
    Calls Tryz.prog f args w fun e w' => ∃ v, e = .returned v ∧ Ext w w' ∧ D2.Fresh w v w' ∧ RdRow L vals v w' := by
  refine h.mono ?_
  rintro e w' ⟨b, off, n, c, h1, h2, _, h3⟩
  refine ⟨_, h1, h2, ?_, b, off, n, c, rfl, h3.out⟩
  intro b hb
  cases hb
end Go.Proofs.YtgedpfbokkambaaGreatDoor
end
