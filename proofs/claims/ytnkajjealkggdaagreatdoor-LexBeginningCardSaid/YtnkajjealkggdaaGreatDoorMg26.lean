/- Lemmas of this proof, laid together: LxI, LxJ, LxK, LxL, HxA, HxB, HxC. -/
import Derived.Test.YtnkajjealkggdaaGreatDoorMg25
import Derived.Test.YtnkajjealkggdaaGreatDoorMg19
import Derived.Deep.Upon
import Derived.Test.YtnkajjealkggdaaGreatDoorMg09
import Derived.Deep.DeepCutAuto
import Derived.Deep.RegionWith
import Derived.Deep.LoopGhost
import Derived.Test.YtnkajjealkggdaaGreatDoorMg20
set_option linter.unusedSimpArgs false
set_option linter.unusedVariables false
section
/- Lex, the program: signs; a row that must be there; two rows. -/
namespace Go.Proofs.YtnkajjealkggdaaGreatDoor
open Go.RowKit
attribute [local go_sem] bs_size bs_extract bs_get bs_append bs_toList const_get
attribute [local go_sem] sz2 sz3 sz4 sz5 sz6 sz7 sz8
set_option maxHeartbeats 4000000
set_option maxRecDepth 100000
theorem push_u8sb {ops : Array Oper} {rest : List Oper} {o : Oper} {a : Act} {Q : Exit → Act → World → Prop} {w : World} (hgd : o.guard = none) (s x : Operand)
    (ho : o.op = .call { callee := .builtin .append, args := #[s, x], argTypes := #[23, 23] })
    {base : Nat} (hsz0 : base ≤ w.heap.size) {v : Value} {n : Nat} {xs : List UInt8} (hown : OwB w base v n xs) (hs : a.eval s = v)
    {b2 : Nat} {v2 : Value} {m : Nat} {ys : List UInt8} (h2 : OwB w b2 v2 m ys) (hx : a.eval x = v2) (hn : n + m ≤ 1000000000)
    (h : ∀ v' w', Below base w w' → Hid (OwB w' base v' (n + m) (xs ++ ys)) → wpList Tryz.prog ops Q rest (a.put o.dst v') w') : wpList Tryz.prog ops Q (o :: rest) a w := by
  obtain ⟨i, hi, hz, hsz, hby⟩ := info_parts u8_info
  have hyl : ys.length = m := by have := h2.1; simpa using this
  rcases own_form h2 with ⟨rfl, rfl⟩ | ⟨g, c, rfl, hc1, hc2, hg1, hg2⟩
  · obtain rfl : ys = [] := List.eq_nil_of_length_eq_zero hyl
    have hf : ∃ A cp, v = .slice A n cp ∧ n ≤ cp := by
      rcases own_form hown with ⟨rfl, rfl⟩ | ⟨g, c, rfl, hc, _⟩
      · exact ⟨none, 0, rfl, Nat.le_refl _⟩
      · exact ⟨_, c, rfl, hc⟩
    obtain ⟨A, cp, rfl, hcp⟩ := hf
    refine wpList_plain hgd fun K hK => ?_
    have hr := run_append_nothing (P := Tryz.prog) w 23 23 o.type 5 i u8_under hi A n cp hcp (.slice none 0 0) (Src.ofNil w u8_under 0)
    unfold Oper.wp execOp
    simp only [ho, resolve, invoke, builtin, Sem.run_bind, Sem.run_pure, Result.andThen_ok, List.map_toArray, List.map_cons, List.map_nil, hs, hx, hr]
    refine hK _ _ (h _ _ (Below.refl _ _) ?_)
    rw [List.append_nil]; exact hown
  refine wpList_append_own_at _ hgd s x _ ho base 5 i _ 1 1 u8_under hi hz hsz hby rfl (by decide) v n _ hs hown ⟨g, 0, none⟩ m c (ys.map bV) hx (by simpa using hyl) ?_ ?_ ?_ ?_ hsz0 ?_
  · intro j u hj
    have hj' : j < m := by
      have := (List.getElem?_eq_some_iff.1 hj).1
      simp at this; omega
    have h3 := (ownb_at h2 j hj').1
    have e : Addr.add ⟨g, 0, none⟩ j = ⟨g, j, none⟩ := by unfold Addr.add; split <;> simp_all
    rw [e, h3]
    rw [List.getElem?_map] at hj
    rw [List.getD_eq_getElem?_getD]
    cases hq : ys[j]? with
    | none => rw [hq] at hj; cases hj
    | some z => rw [hq] at hj; simp at hj; subst hj; rfl
  · intro u hu
    obtain ⟨z, _, rfl⟩ := List.mem_map.1 hu
    rfl
  · unfold maxLen; omega
  · omega
  · intro v' w' ho' hg _ _
    refine h v' w' ⟨hg.os, hg.tape, hg.output, hg.size, fun k hk => hg.block k (by omega) (fun e => by have := (hown.lt k e.symm).1; omega)⟩ ?_
    show World.ownsRow _ _ _ _ _ _ _
    simpa using ho'
attribute [local irreducible] Calls
theorem lx_minus (b N : Nat) (l : List UInt8) (c : Nat) (W w : World) (h : Sc W w b N l c) :
    Calls Tryz.prog 49 #[.pointer (some ⟨b, 0, none⟩)] w (ScQ W w b N (.bool (minusS l c).1) (minusS l c).2.1 (minusS l c).2.2) := by
  have H := Lib.hid h
  have k1 : Hid (∀ w' l c, Sc W w' b N l c → Calls Tryz.prog 89 #[.pointer (some ⟨b, 0, none⟩), .string ⟨#[43]⟩] w' (ScQ W w' b N (.bool (hasS [43] l c).1) (hasS [43] l c).2.1 (hasS [43] l c).2.2)) := fun w' l c h => lx_has b N [43] l c W w' h
  have k2 : Hid (∀ w' l c, Sc W w' b N l c → Calls Tryz.prog 89 #[.pointer (some ⟨b, 0, none⟩), .string ⟨#[45]⟩] w' (ScQ W w' b N (.bool (hasS [45] l c).1) (hasS [45] l c).2.1 (hasS [45] l c).2.2)) := fun w' l c h => lx_has b N [45] l c W w' h
  have k3 : Hid (∀ w' l c, Sc W w' b N l c → Calls Tryz.prog 89 #[.pointer (some ⟨b, 0, none⟩), .string ⟨#[226, 136, 146]⟩] w' (ScQ W w' b N (.bool (hasS [226, 136, 146] l c).1) (hasS [226, 136, 146] l c).2.1 (hasS [226, 136, 146] l c).2.2)) := fun w' l c h => lx_has b N [226, 136, 146] l c W w' h
  unfold minusS
  rw [bind_eq]
  obtain ⟨⟨v1, l1, c1⟩, e1⟩ : ∃ X, hasS [43] l c = X := ⟨_, rfl⟩
  have j1 := Lib.hid (k1.out w l c h)
  rw [e1] at j1
  rw [e1]
  clear h
  cases v1
  · rw [if_neg Bool.false_ne_true, bind_eq]
    obtain ⟨⟨v2, l2, c2⟩, e2⟩ : ∃ X, hasS [45] l1 c1 = X := ⟨_, rfl⟩
    have j2 := Lib.hid (fun w' h => k2.out w' l1 c1 h)
    rw [e2] at j2
    rw [e2]
    cases v2
    · rw [if_neg Bool.false_ne_true]
      obtain ⟨⟨v3, l3, c3⟩, e3⟩ : ∃ X, hasS [226, 136, 146] l2 c2 = X := ⟨_, rfl⟩
      have j3 := Lib.hid (fun w' h => k3.out w' l2 c2 h)
      rw [e3] at j3
      dsimp only
      rw [e3]
      clear e1 e2 e3 k1 k2 k3
      cases v3
      all_goals
        go_enter Tryz.func49, Tryz.ntmps49
        go_wp2_with (first
          | (go_at_call 89; (with_reducible refine (j1.out).mono ?_); rintro e w1 ⟨rfl, hS1, hT1⟩)
          | (go_at_call 89; (with_reducible refine (j2.out _ hS1.out).mono ?_); rintro e w2 ⟨rfl, hS2, hT2⟩)
          | (go_at_call 89; (with_reducible refine (j3.out _ hS2.out).mono ?_); rintro e w3 ⟨rfl, hS3, hT3⟩))
        refine bodyPost_ret (v := .bool _) ?h rfl ⟨rfl, hS3, (hT1.trans hT2).trans hT3⟩
        case h => simp [results, Tryz.results49, go_sem]
    · rw [if_pos rfl]
      clear e1 e2 k1 k2 k3
      go_enter Tryz.func49, Tryz.ntmps49
      go_wp2_with (first
        | (go_at_call 89; (with_reducible refine (j1.out).mono ?_); rintro e w1 ⟨rfl, hS1, hT1⟩)
        | (go_at_call 89; (with_reducible refine (j2.out _ hS1.out).mono ?_); rintro e w2 ⟨rfl, hS2, hT2⟩))
      refine bodyPost_ret (v := .bool true) ?h rfl ⟨rfl, hS2, hT1.trans hT2⟩
      case h => simp [results, Tryz.results49, go_sem]
  · rw [if_pos rfl]
    clear e1 k1 k2 k3
    go_enter Tryz.func49, Tryz.ntmps49
    go_wp2_with (first
      | (go_at_call 89; (with_reducible refine (j1.out).mono ?_); rintro e w1 ⟨rfl, hS1, hT1⟩))
    refine bodyPost_ret (v := .bool false) ?h rfl ⟨rfl, hS1, hT1⟩
    case h => simp [results, Tryz.results49, go_sem]
end Go.Proofs.YtnkajjealkggdaaGreatDoor
end
section
/- Lex, the program: a row that must be there; two rows. (Written by mklxj.py.) -/
namespace Go.Proofs.YtnkajjealkggdaaGreatDoor
open Go.RowKit
attribute [local go_sem] bs_size bs_extract bs_get bs_append bs_toList const_get
attribute [local go_sem] sz2 sz3 sz4 sz5 sz6 sz7 sz8
set_option maxHeartbeats 4000000
set_option maxRecDepth 100000
attribute [local irreducible] Calls
theorem lx_shape {w : World} {base : Nat} {e : TypeId} {size n : Nat} {v : Value} {xs : List Value} (h : w.ownsRow base e size v n xs) : ∃ A c, v = .slice A n c := by
  rcases h.2 with ⟨rfl, rfl⟩ | ⟨g, cap, _, rfl, _⟩
  · exact ⟨none, 0, rfl⟩
  · exact ⟨_, _, rfl⟩
theorem rowS_len {dig : List UInt8 → Nat × Nat} (hd : DigOk dig) (hB : ∀ l, (dig l).1 < 16) (l : List UInt8) (c : Nat) : (rowS dig l c).1.length + (rowS dig l c).2.1.length ≤ l.length := (rowS_dig hd (B := 16) hB (by decide) l c).1
theorem ten16 (l : List UInt8) : (tenB l).1 < 16 := Nat.lt_trans (tenB_lt l) (by decide)

theorem lx_must_ten (b N : Nat) (l : List UInt8) (c : Nat) (W w : World) (h : Sc W w b N l c) (hT : LxT W) :
    Calls Tryz.prog 132 #[.pointer (some ⟨b, 0, none⟩), .func (.func 51) #[] #[]] w fun e w' => ∃ v, e = .returned v ∧ Hid (Sc W w' b N (mustS tenB l c).2.1 (mustS tenB l c).2.2) ∧ Tch b w w' ∧ Hid (OwB w' w.heap.size v (mustS tenB l c).1.length (mustS tenB l c).1) := by
  have H := Lib.hid h
  have HT := Lib.hid hT
  have hb0 := h.lt
  have j1 := Lib.hid (lx_row_ten b N l c W w h)
  unfold mustS
  rw [bind_eq]
  obtain ⟨⟨ds, l1, c1⟩, e1⟩ : ∃ X, rowS tenB l c = X := ⟨_, rfl⟩
  rw [e1] at j1
  rw [e1]
  clear h hT e1
  by_cases h0 : ds = []
  · subst h0
    rw [if_pos rfl, bind_eq]
    have j2 : Hid (∀ w', Sc W w' b N l1 c1 → Calls Tryz.prog 34 #[.pointer (some ⟨b, 0, none⟩), .int .i64 111] w' (ScQ W w' b N (.tuple #[]) (failS 111 l1 c1).2.1 (failS 111 l1 c1).2.2)) := fun w' h => lx_fail b N 111 l1 c1 W w' h HT.out
    obtain ⟨⟨⟨⟩, l2, c2⟩, e2⟩ : ∃ X, failS 111 l1 c1 = X := ⟨_, rfl⟩
    rw [e2] at j2
    dsimp only
    rw [e2]
    clear e2
    go_enter Tryz.func132, Tryz.ntmps132
    go_wp2_with (first
      | (go_at_call 130; (with_reducible refine (j1.out).mono ?_); rintro e w1 ⟨v1, rfl, hS1, hT1, hO1⟩; obtain ⟨A1, p1, rfl⟩ := lx_shape hO1.out)
      | (go_at_call 34; (with_reducible refine (j2.out _ hS1.out).mono ?_); rintro e w2 ⟨rfl, hS2, hT2⟩))
    refine bodyPost_ret (v := .slice A1 0 p1) ?h rfl ⟨_, rfl, hS2, hT1.trans hT2, own_tch hO1.out hT2 hb0⟩
    case h => simp [results, Tryz.results132, go_sem]
  · rw [if_neg h0]
    have hl0 : 0 < ds.length := List.length_pos_iff.2 h0
    have hl1 : ¬ (ds.length : Int) = 0 := by omega
    clear h0
    go_enter Tryz.func132, Tryz.ntmps132
    go_wp2_with (first
      | (go_at_call 130; (with_reducible refine (j1.out).mono ?_); rintro e w1 ⟨v1, rfl, hS1, hT1, hO1⟩; obtain ⟨A1, p1, rfl⟩ := lx_shape hO1.out))
    refine bodyPost_ret (v := .slice A1 ds.length p1) ?h rfl ⟨_, rfl, hS1, hT1, hO1⟩
    case h => simp [results, Tryz.results132, go_sem]

theorem lx_mant_ten (b N : Nat) (l : List UInt8) (c : Nat) (W w : World) (h : Sc W w b N l c) (hT : LxT W) :
    Calls Tryz.prog 93 #[.pointer (some ⟨b, 0, none⟩), .func (.func 51) #[] #[]] w fun e w' => ∃ v, e = .returned (.tuple #[v, .int .i64 ((mantS tenB l c).1.2 : Nat)]) ∧ Hid (Sc W w' b N (mantS tenB l c).2.1 (mantS tenB l c).2.2) ∧ Tch b w w' ∧ Hid (OwB w' w.heap.size v (mantS tenB l c).1.1.length (mantS tenB l c).1.1) := by
  have H := Lib.hid h
  have HT := Lib.hid hT
  have hb0 := h.lt
  have hlN := h.le
  have hN7 := h.big
  have j1 := Lib.hid (lx_row_ten b N l c W w h)
  have kh : Hid (∀ w' l c, Sc W w' b N l c → Calls Tryz.prog 89 #[.pointer (some ⟨b, 0, none⟩), .string ⟨#[46]⟩] w' (ScQ W w' b N (.bool (hasS [46] l c).1) (hasS [46] l c).2.1 (hasS [46] l c).2.2)) := fun w' l c h => lx_has b N [46] l c W w' h
  have kf : Hid (∀ w' l c, Sc W w' b N l c → Calls Tryz.prog 34 #[.pointer (some ⟨b, 0, none⟩), .int .i64 111] w' (ScQ W w' b N (.tuple #[]) (failS 111 l c).2.1 (failS 111 l c).2.2)) := fun w' l c h => lx_fail b N 111 l c W w' h HT.out
  have r1 := rowS_len ten_ok ten16 l c
  rw [mantS_eq, mantT_eq]
  obtain ⟨⟨ds, l1, c1⟩, e1⟩ : ∃ X, rowS tenB l c = X := ⟨_, rfl⟩
  rw [e1] at j1 r1
  rw [e1]
  have j2 := Lib.hid (fun w' h => kh.out w' l1 c1 h)
  have r2 := (ok_has [46] (by decide)).le l1 c1
  obtain ⟨⟨v2, l2, c2⟩, e2⟩ : ∃ X, hasS [46] l1 c1 = X := ⟨_, rfl⟩
  rw [e2] at j2 r2
  dsimp only at r1 r2
  rw [e2]
  clear h hT e1 e2 kh
  cases v2
  · rw [if_neg Bool.false_ne_true]
    by_cases h0 : ds = []
    · subst h0
      rw [if_pos rfl, bind_eq]
      have j3 := Lib.hid (fun w' h => kf.out w' l2 c2 h)
      obtain ⟨⟨⟨⟩, l3, c3⟩, e3⟩ : ∃ X, failS 111 l2 c2 = X := ⟨_, rfl⟩
      rw [e3] at j3
      dsimp only
      rw [e3]
      clear e3 kf
      go_enter Tryz.func93, Tryz.ntmps93
      go_wp2_with (first
        | (go_at_call 130; (with_reducible refine (j1.out).mono ?_); rintro e w1 ⟨v1, rfl, hS1, hT1, hO1⟩; obtain ⟨A1, p1, rfl⟩ := lx_shape hO1.out)
        | (go_at_call 89; (with_reducible refine (j2.out _ hS1.out).mono ?_); rintro e w2 ⟨rfl, hS2, hT2⟩)
        | (go_at_call 34; (with_reducible refine (j3.out _ hS2.out).mono ?_); rintro e w3 ⟨rfl, hS3, hT3⟩))
      refine bodyPost_ret (v := .tuple #[.slice A1 0 p1, .int .i64 0]) ?h rfl ⟨_, rfl, hS3, (hT1.trans hT2).trans hT3, own_tch (own_tch hO1.out hT2 hb0) hT3 hb0⟩
      case h => simp [results, Tryz.results93, go_sem]
    · rw [if_neg h0]
      have hl0 : 0 < ds.length := List.length_pos_iff.2 h0
      have hl1 : ¬ (ds.length : Int) = 0 := by omega
      clear h0 kf
      go_enter Tryz.func93, Tryz.ntmps93
      go_wp2_with (first
        | (go_at_call 130; (with_reducible refine (j1.out).mono ?_); rintro e w1 ⟨v1, rfl, hS1, hT1, hO1⟩; obtain ⟨A1, p1, rfl⟩ := lx_shape hO1.out)
        | (go_at_call 89; (with_reducible refine (j2.out _ hS1.out).mono ?_); rintro e w2 ⟨rfl, hS2, hT2⟩))
      refine bodyPost_ret (v := .tuple #[.slice A1 ds.length p1, .int .i64 0]) ?h rfl ⟨_, rfl, hS2, hT1.trans hT2, own_tch hO1.out hT2 hb0⟩
      case h => simp [results, Tryz.results93, go_sem]
  · rw [if_pos rfl]
    unfold mantB
    rw [bind_eq]
    dsimp only
    have j3 := Lib.hid (fun w' h => lx_row_ten b N l2 c2 W w' h)
    have r3 := rowS_len ten_ok ten16 l2 c2
    obtain ⟨⟨es, l3, c3⟩, e3⟩ : ∃ X, rowS tenB l2 c2 = X := ⟨_, rfl⟩
    rw [e3] at j3 r3
    dsimp only at r3
    rw [e3]
    clear e3
    by_cases h0 : ds.length + es.length = 0
    · rw [if_pos h0, bind_eq]
      have j4 := Lib.hid (fun w' h => kf.out w' l3 c3 h)
      obtain ⟨⟨⟨⟩, l4, c4⟩, e4⟩ : ∃ X, failS 111 l3 c3 = X := ⟨_, rfl⟩
      rw [e4] at j4
      dsimp only
      rw [e4]
      obtain rfl : ds = [] := List.eq_nil_of_length_eq_zero (by omega)
      obtain rfl : es = [] := List.eq_nil_of_length_eq_zero (by omega)
      clear e4 kf h0 r1 r2 r3
      go_enter Tryz.func93, Tryz.ntmps93
      go_wp2_with (first
        | (go_at_call 130; (with_reducible refine (j1.out).mono ?_); rintro e w1 ⟨v1, rfl, hS1, hT1, hO1⟩; obtain ⟨A1, p1, rfl⟩ := lx_shape hO1.out)
        | (go_at_call 89; (with_reducible refine (j2.out _ hS1.out).mono ?_); rintro e w2 ⟨rfl, hS2, hT2⟩; have hO2 := own_tch hO1.out hT2 hb0; have hb2 := hS2.out.lt)
        | (go_at_call 130; (with_reducible refine (j3.out _ hS2.out).mono ?_); rintro e w3 ⟨v3, rfl, hS3, hT3, hO3⟩; (obtain ⟨A3, p3, rfl⟩ := lx_shape hO3.out); have hO23 := own_tch hO2 hT3 hb0)
        | (go_at_call 34; (with_reducible refine (j4.out _ hS3.out).mono ?_); rintro e w4 ⟨rfl, hS4, hT4⟩; have hO24 := own_tch hO23 hT4 hb0; have hO34 := own_tch hO3.out hT4 hb2; have hT14 := ((hT1.trans hT2).trans hT3).trans hT4; have hz4 := hT14.size)
        | (at_builtin; refine push_u8sb rfl _ _ rfl hz4 hO24 rfl hO34 rfl (by simp) ?_; intro v5 w5 hB5 hO5))
      refine bodyPost_ret (v := .tuple #[v5, .int .i64 0]) ?h rfl ⟨_, rfl, hS4.out.below hB5 hb0, hT14.below hB5 (Nat.le_refl _), hO5⟩
      case h => simp [results, Tryz.results93, go_sem]
    · rw [if_neg h0]
      have hl1 : ¬ (ds.length : Int) + (es.length : Int) = 0 := by omega
      have hbn : ds.length + es.length ≤ 1000000000 := by omega
      clear kf h0 r1 r2 r3
      go_enter Tryz.func93, Tryz.ntmps93
      go_wp2_with (first
        | (go_at_call 130; (with_reducible refine (j1.out).mono ?_); rintro e w1 ⟨v1, rfl, hS1, hT1, hO1⟩; obtain ⟨A1, p1, rfl⟩ := lx_shape hO1.out)
        | (go_at_call 89; (with_reducible refine (j2.out _ hS1.out).mono ?_); rintro e w2 ⟨rfl, hS2, hT2⟩; have hO2 := own_tch hO1.out hT2 hb0; have hb2 := hS2.out.lt)
        | (go_at_call 130; (with_reducible refine (j3.out _ hS2.out).mono ?_); rintro e w3 ⟨v3, rfl, hS3, hT3, hO3⟩; (obtain ⟨A3, p3, rfl⟩ := lx_shape hO3.out); have hO23 := own_tch hO2 hT3 hb0; have hT14 := (hT1.trans hT2).trans hT3; have hz4 := hT14.size)
        | (at_builtin; refine push_u8sb rfl _ _ rfl hz4 hO23 rfl hO3.out rfl hbn ?_; intro v5 w5 hB5 hO5))
      refine bodyPost_ret (v := .tuple #[v5, .int .i64 ↑(es.length)]) ?h rfl ⟨_, rfl, hS3.out.below hB5 hb0, hT14.below hB5 (Nat.le_refl _), by show OwB _ _ _ (ds ++ es).length _; rw [List.length_append]; exact hO5.out⟩
      case h => simp [results, Tryz.results93, go_sem]

theorem lx_mant_six (b N : Nat) (l : List UInt8) (c : Nat) (W w : World) (h : Sc W w b N l c) (hT : LxT W) :
    Calls Tryz.prog 93 #[.pointer (some ⟨b, 0, none⟩), .func (.func 94) #[] #[]] w fun e w' => ∃ v, e = .returned (.tuple #[v, .int .i64 ((mantS sixB l c).1.2 : Nat)]) ∧ Hid (Sc W w' b N (mantS sixB l c).2.1 (mantS sixB l c).2.2) ∧ Tch b w w' ∧ Hid (OwB w' w.heap.size v (mantS sixB l c).1.1.length (mantS sixB l c).1.1) := by
  have H := Lib.hid h
  have HT := Lib.hid hT
  have hb0 := h.lt
  have hlN := h.le
  have hN7 := h.big
  have j1 := Lib.hid (lx_row_six b N l c W w h)
  have kh : Hid (∀ w' l c, Sc W w' b N l c → Calls Tryz.prog 89 #[.pointer (some ⟨b, 0, none⟩), .string ⟨#[46]⟩] w' (ScQ W w' b N (.bool (hasS [46] l c).1) (hasS [46] l c).2.1 (hasS [46] l c).2.2)) := fun w' l c h => lx_has b N [46] l c W w' h
  have kf : Hid (∀ w' l c, Sc W w' b N l c → Calls Tryz.prog 34 #[.pointer (some ⟨b, 0, none⟩), .int .i64 111] w' (ScQ W w' b N (.tuple #[]) (failS 111 l c).2.1 (failS 111 l c).2.2)) := fun w' l c h => lx_fail b N 111 l c W w' h HT.out
  have r1 := rowS_len six_ok sixB_lt l c
  rw [mantS_eq, mantT_eq]
  obtain ⟨⟨ds, l1, c1⟩, e1⟩ : ∃ X, rowS sixB l c = X := ⟨_, rfl⟩
  rw [e1] at j1 r1
  rw [e1]
  have j2 := Lib.hid (fun w' h => kh.out w' l1 c1 h)
  have r2 := (ok_has [46] (by decide)).le l1 c1
  obtain ⟨⟨v2, l2, c2⟩, e2⟩ : ∃ X, hasS [46] l1 c1 = X := ⟨_, rfl⟩
  rw [e2] at j2 r2
  dsimp only at r1 r2
  rw [e2]
  clear h hT e1 e2 kh
  cases v2
  · rw [if_neg Bool.false_ne_true]
    by_cases h0 : ds = []
    · subst h0
      rw [if_pos rfl, bind_eq]
      have j3 := Lib.hid (fun w' h => kf.out w' l2 c2 h)
      obtain ⟨⟨⟨⟩, l3, c3⟩, e3⟩ : ∃ X, failS 111 l2 c2 = X := ⟨_, rfl⟩
      rw [e3] at j3
      dsimp only
      rw [e3]
      clear e3 kf
      go_enter Tryz.func93, Tryz.ntmps93
      go_wp2_with (first
        | (go_at_call 130; (with_reducible refine (j1.out).mono ?_); rintro e w1 ⟨v1, rfl, hS1, hT1, hO1⟩; obtain ⟨A1, p1, rfl⟩ := lx_shape hO1.out)
        | (go_at_call 89; (with_reducible refine (j2.out _ hS1.out).mono ?_); rintro e w2 ⟨rfl, hS2, hT2⟩)
        | (go_at_call 34; (with_reducible refine (j3.out _ hS2.out).mono ?_); rintro e w3 ⟨rfl, hS3, hT3⟩))
      refine bodyPost_ret (v := .tuple #[.slice A1 0 p1, .int .i64 0]) ?h rfl ⟨_, rfl, hS3, (hT1.trans hT2).trans hT3, own_tch (own_tch hO1.out hT2 hb0) hT3 hb0⟩
      case h => simp [results, Tryz.results93, go_sem]
    · rw [if_neg h0]
      have hl0 : 0 < ds.length := List.length_pos_iff.2 h0
      have hl1 : ¬ (ds.length : Int) = 0 := by omega
      clear h0 kf
      go_enter Tryz.func93, Tryz.ntmps93
      go_wp2_with (first
        | (go_at_call 130; (with_reducible refine (j1.out).mono ?_); rintro e w1 ⟨v1, rfl, hS1, hT1, hO1⟩; obtain ⟨A1, p1, rfl⟩ := lx_shape hO1.out)
        | (go_at_call 89; (with_reducible refine (j2.out _ hS1.out).mono ?_); rintro e w2 ⟨rfl, hS2, hT2⟩))
      refine bodyPost_ret (v := .tuple #[.slice A1 ds.length p1, .int .i64 0]) ?h rfl ⟨_, rfl, hS2, hT1.trans hT2, own_tch hO1.out hT2 hb0⟩
      case h => simp [results, Tryz.results93, go_sem]
  · rw [if_pos rfl]
    unfold mantB
    rw [bind_eq]
    dsimp only
    have j3 := Lib.hid (fun w' h => lx_row_six b N l2 c2 W w' h)
    have r3 := rowS_len six_ok sixB_lt l2 c2
    obtain ⟨⟨es, l3, c3⟩, e3⟩ : ∃ X, rowS sixB l2 c2 = X := ⟨_, rfl⟩
    rw [e3] at j3 r3
    dsimp only at r3
    rw [e3]
    clear e3
    by_cases h0 : ds.length + es.length = 0
    · rw [if_pos h0, bind_eq]
      have j4 := Lib.hid (fun w' h => kf.out w' l3 c3 h)
      obtain ⟨⟨⟨⟩, l4, c4⟩, e4⟩ : ∃ X, failS 111 l3 c3 = X := ⟨_, rfl⟩
      rw [e4] at j4
      dsimp only
      rw [e4]
      obtain rfl : ds = [] := List.eq_nil_of_length_eq_zero (by omega)
      obtain rfl : es = [] := List.eq_nil_of_length_eq_zero (by omega)
      clear e4 kf h0 r1 r2 r3
      go_enter Tryz.func93, Tryz.ntmps93
      go_wp2_with (first
        | (go_at_call 130; (with_reducible refine (j1.out).mono ?_); rintro e w1 ⟨v1, rfl, hS1, hT1, hO1⟩; obtain ⟨A1, p1, rfl⟩ := lx_shape hO1.out)
        | (go_at_call 89; (with_reducible refine (j2.out _ hS1.out).mono ?_); rintro e w2 ⟨rfl, hS2, hT2⟩; have hO2 := own_tch hO1.out hT2 hb0; have hb2 := hS2.out.lt)
        | (go_at_call 130; (with_reducible refine (j3.out _ hS2.out).mono ?_); rintro e w3 ⟨v3, rfl, hS3, hT3, hO3⟩; (obtain ⟨A3, p3, rfl⟩ := lx_shape hO3.out); have hO23 := own_tch hO2 hT3 hb0)
        | (go_at_call 34; (with_reducible refine (j4.out _ hS3.out).mono ?_); rintro e w4 ⟨rfl, hS4, hT4⟩; have hO24 := own_tch hO23 hT4 hb0; have hO34 := own_tch hO3.out hT4 hb2; have hT14 := ((hT1.trans hT2).trans hT3).trans hT4; have hz4 := hT14.size)
        | (at_builtin; refine push_u8sb rfl _ _ rfl hz4 hO24 rfl hO34 rfl (by simp) ?_; intro v5 w5 hB5 hO5))
      refine bodyPost_ret (v := .tuple #[v5, .int .i64 0]) ?h rfl ⟨_, rfl, hS4.out.below hB5 hb0, hT14.below hB5 (Nat.le_refl _), hO5⟩
      case h => simp [results, Tryz.results93, go_sem]
    · rw [if_neg h0]
      have hl1 : ¬ (ds.length : Int) + (es.length : Int) = 0 := by omega
      have hbn : ds.length + es.length ≤ 1000000000 := by omega
      clear kf h0 r1 r2 r3
      go_enter Tryz.func93, Tryz.ntmps93
      go_wp2_with (first
        | (go_at_call 130; (with_reducible refine (j1.out).mono ?_); rintro e w1 ⟨v1, rfl, hS1, hT1, hO1⟩; obtain ⟨A1, p1, rfl⟩ := lx_shape hO1.out)
        | (go_at_call 89; (with_reducible refine (j2.out _ hS1.out).mono ?_); rintro e w2 ⟨rfl, hS2, hT2⟩; have hO2 := own_tch hO1.out hT2 hb0; have hb2 := hS2.out.lt)
        | (go_at_call 130; (with_reducible refine (j3.out _ hS2.out).mono ?_); rintro e w3 ⟨v3, rfl, hS3, hT3, hO3⟩; (obtain ⟨A3, p3, rfl⟩ := lx_shape hO3.out); have hO23 := own_tch hO2 hT3 hb0; have hT14 := (hT1.trans hT2).trans hT3; have hz4 := hT14.size)
        | (at_builtin; refine push_u8sb rfl _ _ rfl hz4 hO23 rfl hO3.out rfl hbn ?_; intro v5 w5 hB5 hO5))
      refine bodyPost_ret (v := .tuple #[v5, .int .i64 ↑(es.length)]) ?h rfl ⟨_, rfl, hS3.out.below hB5 hb0, hT14.below hB5 (Nat.le_refl _), by show OwB _ _ _ (ds ++ es).length _; rw [List.length_append]; exact hO5.out⟩
      case h => simp [results, Tryz.results93, go_sem]
end Go.Proofs.YtnkajjealkggdaaGreatDoor
end
section
/- Lex, the program: exponents. -/
namespace Go.Proofs.YtnkajjealkggdaaGreatDoor
open Go.RowKit
attribute [local go_sem] bs_size bs_extract bs_get bs_append bs_toList const_get
attribute [local go_sem] sz2 sz3 sz4 sz5 sz6 sz7 sz8
set_option maxHeartbeats 4000000
set_option maxRecDepth 100000
attribute [local irreducible] Calls
theorem expV_step {doc : Bool} {l : List UInt8} {i : Nat} (h : i < l.length) : expV doc (l.take (i + 1)) = min (10 * expV doc (l.take i) + l[i].toNat) (endE doc) := by
  unfold expV
  rw [List.take_succ_eq_append_getElem h, List.foldl_append]
  rfl
theorem expV_le (doc : Bool) (l : List UInt8) : expV doc l ≤ endE doc := by
  have h : ∀ (l : List UInt8) a, a ≤ endE doc → l.foldl (fun a b => min (10 * a + b.toNat) (endE doc)) a ≤ endE doc := by
    intro l
    induction l with
    | nil => intro a h; exact h
    | cons x t ih => intro a _; exact ih _ (Nat.min_le_right _ _)
  exact h l 0 (Nat.zero_le _)
theorem mustS_len (l : List UInt8) (c : Nat) : (mustS tenB l c).1.length ≤ l.length := by
  have h := rowS_len ten_ok ten16 l c
  unfold mustS
  rw [bind_eq]
  split
  · rename_i h0; show (rowS tenB l c).1.length ≤ _; omega
  · show (rowS tenB l c).1.length ≤ _; omega
theorem lx_exp_none (x : UInt8) (b N : Nat) (l : List UInt8) (c : Nat) (W w : World) (h : Sc W w b N l c) (hf : (foldS [x] l c).1 = false) :
    Calls Tryz.prog 95 #[.pointer (some ⟨b, 0, none⟩), .string (bs [x])] w (ScQ W w b N (.int .i64 (expS false x l c).1) (expS false x l c).2.1 (expS false x l c).2.2) := by
  have j1 := Lib.hid (lx_fold b N [x] l c W w h)
  unfold expS
  rw [bind_eq]
  obtain ⟨⟨v1, l1, c1⟩, e1⟩ : ∃ X, foldS [x] l c = X := ⟨_, rfl⟩
  rw [e1] at j1 hf
  rw [e1]
  obtain rfl : v1 = false := hf
  rw [if_neg Bool.false_ne_true]
  clear e1 h
  go_enter Tryz.func95, Tryz.ntmps95
  go_wp2_with (first
    | (go_at_call 52; (with_reducible refine (j1.out).mono ?_); rintro e w1 ⟨rfl, hS1, hT1⟩))
  refine bodyPost_ret (v := .int .i64 0) ?h rfl ⟨rfl, hS1, hT1⟩
  case h => simp [results, Tryz.results95, go_sem]
theorem lx_exp_some (x : UInt8) (b N : Nat) (l : List UInt8) (c : Nat) (W w : World) (h : Sc W w b N l c) (hT : LxT W) (hf : (foldS [x] l c).1 = true) :
    Calls Tryz.prog 95 #[.pointer (some ⟨b, 0, none⟩), .string (bs [x])] w (ScQ W w b N (.int .i64 (expS false x l c).1) (expS false x l c).2.1 (expS false x l c).2.2) := by
  have HT := Lib.hid hT
  have hN := h.big
  have hlN := h.le
  have hb0 := h.lt
  have j1 := Lib.hid (lx_fold b N [x] l c W w h)
  have q1 : (foldS [x] l c).2.1.length ≤ l.length := (ok_fold [x] (by simp)).le l c
  unfold expS
  rw [bind_eq]
  obtain ⟨⟨v1, l1, c1⟩, e1⟩ : ∃ X, foldS [x] l c = X := ⟨_, rfl⟩
  rw [e1] at j1 hf q1
  rw [e1]
  obtain rfl : v1 = true := hf
  rw [if_pos rfl, bind_eq, bind_eq]
  dsimp only at q1 ⊢
  have j2 := Lib.hid (fun w' h => lx_minus b N l1 c1 W w' h)
  have q2 := ok_minus.le l1 c1
  obtain ⟨⟨neg, l2, c2⟩, e2⟩ : ∃ X, minusS l1 c1 = X := ⟨_, rfl⟩
  rw [e2] at j2 q2
  rw [e2]
  dsimp only at q2 ⊢
  have j3 := Lib.hid (fun w' h => lx_must_ten b N l2 c2 W w' h HT.out)
  have q3 := mustS_len l2 c2
  obtain ⟨⟨ds, l3, c3⟩, e3⟩ : ∃ X, mustS tenB l2 c2 = X := ⟨_, rfl⟩
  rw [e3] at j3 q3
  rw [e3]
  dsimp only at q3 ⊢
  have hds : ds.length ≤ 70000 := by omega
  clear e1 e2 e3 h hT q1 q2 q3
  have hee : endE false = 68719476736 := rfl
  obtain ⟨Z, hZ⟩ : ∃ Z, expV false ds = Z := ⟨_, rfl⟩
  have hZ1 : Z ≤ 68719476736 := by rw [← hZ]; exact expV_le false ds
  have HZ := Lib.hid hZ
  rw [hZ]
  clear hZ
  cases neg
  · skip
    go_enter Tryz.func95, Tryz.ntmps95
    go_wp2_with (first
      | (go_at_call 52; (with_reducible refine (j1.out).mono ?_); rintro e w1 ⟨rfl, hS1, hT1⟩)
      | (go_at_call 49; (with_reducible refine (j2.out _ hS1.out).mono ?_); rintro e w2 ⟨rfl, hS2, hT2⟩; have hb2 := hS2.out.lt)
      | (go_at_call 132; (with_reducible refine (j3.out _ hS2.out).mono ?_); rintro e w3 ⟨v3, rfl, hS3, hT3, hO3⟩; obtain ⟨A3, p3, rfl⟩ := lx_shape hO3.out))
    go_loop [6, 8, 18] (fun v6 _ v18 => ∃ k n : Nat, k ≤ ds.length ∧ v18 = .int .i64 k ∧ v6 = .int .i64 n ∧ n ≤ 68719476736 ∧ Hid (n = expV false (ds.take k))) (fun _ _ v18 => ds.length - (intOf v18).toNat)
    case atStart => exact ⟨0, 0, Nat.zero_le _, rfl, rfl, Nat.zero_le _, rfl⟩
    case round =>
      obtain ⟨k, n, hk, rfl, rfl, hn, hv⟩ := hrel
      by_cases hlt : k < ds.length
      · have hst := expV_step (doc := false) hlt
        rw [← hv.out, hee] at hst
        obtain ⟨y, hy⟩ : ∃ y, ds[k] = y := ⟨_, rfl⟩
        have hg : ds.getD k 0 = y := by rw [List.getD_eq_getElem?_getD, List.getElem?_eq_getElem hlt]; exact hy
        rw [hy] at hst
        have hy8 := y.toNat_lt
        rcases own_form hO3.out with ⟨_, h0⟩ | ⟨g, cp, hv3, -, -, -, -⟩
        · omega
        · cases hv3
          have hcell := (ownb_at hO3.out k hlt).1
          rw [hg] at hcell
          have HST := Lib.hid hst
          clear hst hg hy hv
          by_cases hmin : 10 * n + y.toNat ≤ 68719476736
          · have hm : (10 * (n : Int) + (y.toNat : Int)) ≤ 68719476736 := by omega
            clear hmin
            go_wp2
            exact ⟨⟨k + 1, 10 * n + y.toNat, by omega, by go_num, by go_num, by omega, by show _ = _; rw [HST.out]; omega⟩, by simp [intOf]; omega⟩
          · have hm : ¬ (10 * (n : Int) + (y.toNat : Int)) ≤ 68719476736 := by omega
            clear hmin
            go_wp2
            exact ⟨⟨k + 1, 68719476736, by omega, by go_num, by go_num, Nat.le_refl _, by show _ = _; rw [HST.out]; omega⟩, by simp [intOf]; omega⟩
      · obtain rfl : k = ds.length := by omega
        obtain rfl : n = Z := by rw [hv.out, List.take_length]; exact HZ.out
        go_wp2
        refine bodyPost_ret (v := .int .i64 ↑n) ?h rfl ⟨rfl, hS3, (hT1.trans hT2).trans hT3⟩
        case h => simp [results, Tryz.results95, go_sem]
  · skip
    go_enter Tryz.func95, Tryz.ntmps95
    go_wp2_with (first
      | (go_at_call 52; (with_reducible refine (j1.out).mono ?_); rintro e w1 ⟨rfl, hS1, hT1⟩)
      | (go_at_call 49; (with_reducible refine (j2.out _ hS1.out).mono ?_); rintro e w2 ⟨rfl, hS2, hT2⟩; have hb2 := hS2.out.lt)
      | (go_at_call 132; (with_reducible refine (j3.out _ hS2.out).mono ?_); rintro e w3 ⟨v3, rfl, hS3, hT3, hO3⟩; obtain ⟨A3, p3, rfl⟩ := lx_shape hO3.out))
    go_loop [6, 8, 18] (fun v6 _ v18 => ∃ k n : Nat, k ≤ ds.length ∧ v18 = .int .i64 k ∧ v6 = .int .i64 n ∧ n ≤ 68719476736 ∧ Hid (n = expV false (ds.take k))) (fun _ _ v18 => ds.length - (intOf v18).toNat)
    case atStart => exact ⟨0, 0, Nat.zero_le _, rfl, rfl, Nat.zero_le _, rfl⟩
    case round =>
      obtain ⟨k, n, hk, rfl, rfl, hn, hv⟩ := hrel
      by_cases hlt : k < ds.length
      · have hst := expV_step (doc := false) hlt
        rw [← hv.out, hee] at hst
        obtain ⟨y, hy⟩ : ∃ y, ds[k] = y := ⟨_, rfl⟩
        have hg : ds.getD k 0 = y := by rw [List.getD_eq_getElem?_getD, List.getElem?_eq_getElem hlt]; exact hy
        rw [hy] at hst
        have hy8 := y.toNat_lt
        rcases own_form hO3.out with ⟨_, h0⟩ | ⟨g, cp, hv3, -, -, -, -⟩
        · omega
        · cases hv3
          have hcell := (ownb_at hO3.out k hlt).1
          rw [hg] at hcell
          have HST := Lib.hid hst
          clear hst hg hy hv
          by_cases hmin : 10 * n + y.toNat ≤ 68719476736
          · have hm : (10 * (n : Int) + (y.toNat : Int)) ≤ 68719476736 := by omega
            clear hmin
            go_wp2
            exact ⟨⟨k + 1, 10 * n + y.toNat, by omega, by go_num, by go_num, by omega, by show _ = _; rw [HST.out]; omega⟩, by simp [intOf]; omega⟩
          · have hm : ¬ (10 * (n : Int) + (y.toNat : Int)) ≤ 68719476736 := by omega
            clear hmin
            go_wp2
            exact ⟨⟨k + 1, 68719476736, by omega, by go_num, by go_num, Nat.le_refl _, by show _ = _; rw [HST.out]; omega⟩, by simp [intOf]; omega⟩
      · obtain rfl : k = ds.length := by omega
        obtain rfl : n = Z := by rw [hv.out, List.take_length]; exact HZ.out
        go_wp2
        refine bodyPost_ret (v := .int .i64 (-↑n)) ?h rfl ⟨rfl, hS3, (hT1.trans hT2).trans hT3⟩
        case h => simp [results, Tryz.results95, go_sem]
end Go.Proofs.YtnkajjealkggdaaGreatDoor
end
section
/- Lex, the program: decimals. -/
namespace Go.Proofs.YtnkajjealkggdaaGreatDoor
open Go.RowKit
attribute [local go_sem] bs_size bs_extract bs_get bs_append bs_toList const_get
attribute [local go_sem] sz2 sz3 sz4 sz5 sz6 sz7 sz8
set_option maxHeartbeats 4000000
set_option maxRecDepth 100000
attribute [local irreducible] Calls
theorem lx_clip (n : Int) (w : World) : Calls Tryz.prog 101 #[.int .i64 n] w fun e w' => e = .returned (.int .i64 (clipE n)) ∧ w = w' := by
  unfold clipE
  go_enter Tryz.func101, Tryz.ntmps101
  go_wp2
  refine bodyPost_ret (v := .int .i64 (max (-1073741824) (min n 1073741824))) ?h rfl ⟨rfl, rfl⟩
  case h => simp [results, Tryz.results101, go_sem]
/-! ## digits as text -/
def chrTo (ds : List UInt8) (k : Nat) : List UInt8 := chr (ds.take k) ++ ds.drop k
theorem chrTo_at {ds : List UInt8} {k : Nat} (h : k < ds.length) : (chrTo ds k).getD k 0 = ds[k] := by
  unfold chrTo chr
  rw [List.getD_eq_getElem?_getD, List.getElem?_append_right (by simp; omega)]
  simp only [List.length_map, List.length_take, List.getElem?_drop]
  rw [List.getElem?_eq_getElem (by omega)]
  have : k + (k - min k ds.length) = k := by omega
  simp [this]
theorem chrTo_step {ds : List UInt8} {k : Nat} (h : k < ds.length) : (chrTo ds k).set k (UInt8.ofNat (ds[k].toNat + 48)) = chrTo ds (k + 1) := by
  unfold chrTo chr
  rw [List.set_append_right _ _ (by simp; omega), List.take_succ_eq_append_getElem h, List.map_append, List.append_assoc]
  congr 1
  have : k - (List.map (fun d => UInt8.ofNat (d.toNat + 48)) (List.take k ds)).length = 0 := by simp; omega
  rw [this, List.drop_eq_getElem_cons h]
  rfl
theorem chr_drop (l : List UInt8) (hl : ∀ x ∈ l, x.toNat < 10) : trimL 48 (chr l) = chr (headZ l) := by
  unfold trimL headZ chr
  induction l with
  | nil => rfl
  | cons x t ih =>
    have hx := hl x (List.mem_cons_self ..)
    rw [List.map_cons]
    by_cases h0 : x = 0
    · subst h0
      rw [List.dropWhile_cons_of_pos (by decide), List.dropWhile_cons_of_pos (by decide)]
      exact ih (fun y hy => hl y (List.mem_cons_of_mem _ hy))
    · have h1 : ¬ (UInt8.ofNat (x.toNat + 48) == 48) = true := by
        rw [beq_iff_eq]
        intro e
        have := congrArg UInt8.toNat e
        rw [UInt8.toNat_ofNat', Nat.mod_eq_of_lt (by omega)] at this
        have h2 : x.toNat = 0 := by
          have : (48 : UInt8).toNat = 48 := rfl
          omega
        exact h0 (UInt8.toNat_inj.1 h2)
      rw [List.dropWhile_cons_of_neg (p := (· == 48)) h1, List.dropWhile_cons_of_neg (p := (· == 0)) (by simpa using h0)]
      rfl
theorem chr_rev (l : List UInt8) : (chr l).reverse = chr l.reverse := by unfold chr; rw [List.map_reverse]
theorem chr_tail (l : List UInt8) (hl : ∀ x ∈ l, x.toNat < 10) : trimR 48 (chr l) = chr (tailZ l) := by
  unfold trimR tailZ
  rw [chr_rev, chr_drop _ (fun x hx => hl x (List.mem_reverse.1 hx)), chr_rev]
  rfl
theorem headZ_mem {l : List UInt8} {x : UInt8} (h : x ∈ headZ l) : x ∈ l := (List.dropWhile_sublist _).subset h
theorem chr_len (l : List UInt8) : (chr l).length = l.length := by unfold chr; simp
theorem chr_nil (l : List UInt8) : chr l = [] ↔ l = [] := by unfold chr; simp
/-! ## numbers as values -/
abbrev numV (x : Num) (A : Option Addr) (n c : Nat) : Value := .agg #[.int .u8 (x.kind : Int), .bool x.neg, .bool x.dneg, .string (bs x.digits), .int .i64 x.dexp, .bool x.hneg, .slice A n c, .int .i64 x.hexp, .int .u64 (x.payload : Int)]
theorem Tch.far {b g : Nat} {u w : World} (h : Tch b u w) (hg : u.heap.size ≤ g) (o : Nat) (v : Value) : Tch b u (w.setCell ⟨g, o, none⟩ v) :=
  ⟨h.os, h.tape, h.output, by simpa using h.size, fun k hk hb => (Go.Deep.blk_setCell_other w _ v k (by show k ≠ g; omega)).trans (h.block k hk hb)⟩
theorem Sc.far {W w : World} {b N g : Nat} {l : List UInt8} {c : Nat} (h : Sc W w b N l c) (hg : g ≠ b) (hW : W.heap.size ≤ g) (o : Nat) (v : Value) : Sc W (w.setCell ⟨g, o, none⟩ v) b N l c :=
  h.tch (g := g) ((Tch.refl g w).set o v) (fun e => hg e.symm) hW
theorem if_bound (neg : Bool) {a : Nat} (h : a ≤ 68719476736) : -68719476736 ≤ (if neg = true then -(a : Int) else (a : Int)) ∧ (if neg = true then -(a : Int) else (a : Int)) ≤ 68719476736 := by
  cases neg
  · simp only [Bool.false_eq_true, if_false]; omega
  · simp only [if_true]; omega
theorem expS_bound (x : UInt8) (l : List UInt8) (c : Nat) : -68719476736 ≤ (expS false x l c).1 ∧ (expS false x l c).1 ≤ 68719476736 := by
  unfold expS
  rw [bind_eq]
  split
  · rw [bind_eq, bind_eq]
    exact if_bound _ (expV_le false _)
  · show -68719476736 ≤ (0 : Int) ∧ (0 : Int) ≤ 68719476736
    omega
abbrev num0O : Obj := Obj.cells #[.int .u8 0, .bool false, .bool false, .string ⟨#[]⟩, .int .i64 0, .bool false, .slice none 0 0, .int .i64 0, .int .u64 0] 33
/-- The cells of a number, in block B. -/
structure Nv (w : World) (B : Nat) (v0 v1 v2 v3 v4 v5 v6 v7 v8 : Value) : Prop where
  c0 : w.cell? ⟨B, 0, none⟩ = some v0
  c1 : w.cell? ⟨B, 1, none⟩ = some v1
  c2 : w.cell? ⟨B, 2, none⟩ = some v2
  c3 : w.cell? ⟨B, 3, none⟩ = some v3
  c4 : w.cell? ⟨B, 4, none⟩ = some v4
  c5 : w.cell? ⟨B, 5, none⟩ = some v5
  c6 : w.cell? ⟨B, 6, none⟩ = some v6
  c7 : w.cell? ⟨B, 7, none⟩ = some v7
  c8 : w.cell? ⟨B, 8, none⟩ = some v8
  f0 : w.frozen? ⟨B, 0, none⟩ = false
  f1 : w.frozen? ⟨B, 1, none⟩ = false
  f2 : w.frozen? ⟨B, 2, none⟩ = false
  f3 : w.frozen? ⟨B, 3, none⟩ = false
  f4 : w.frozen? ⟨B, 4, none⟩ = false
  f5 : w.frozen? ⟨B, 5, none⟩ = false
  f6 : w.frozen? ⟨B, 6, none⟩ = false
  f7 : w.frozen? ⟨B, 7, none⟩ = false
  f8 : w.frozen? ⟨B, 8, none⟩ = false
  lt : B < w.heap.size
abbrev Nc (w : World) (B : Nat) : Prop := Nv w B (.int .u8 0) (.bool false) (.bool false) (.string ⟨#[]⟩) (.int .i64 0) (.bool false) (.slice none 0 0) (.int .i64 0) (.int .u64 0)
theorem Nv.new (w : World) (v0 v1 v2 v3 v4 v5 v6 v7 v8 : Value) (t : TypeId) : Nv (w.alloc (Obj.cells #[v0, v1, v2, v3, v4, v5, v6, v7, v8] t)) w.heap.size v0 v1 v2 v3 v4 v5 v6 v7 v8 := by
  refine ⟨?_, ?_, ?_, ?_, ?_, ?_, ?_, ?_, ?_, ?_, ?_, ?_, ?_, ?_, ?_, ?_, ?_, ?_, by simp⟩ <;> simp [go_sem]
theorem nc_new (w : World) : Nc (w.alloc num0O) w.heap.size := Nv.new w _ _ _ _ _ _ _ _ _ _
theorem Nv.tch {w w' : World} {B b : Nat} {v0 v1 v2 v3 v4 v5 v6 v7 v8 : Value} (h : Nv w B v0 v1 v2 v3 v4 v5 v6 v7 v8) (ht : Tch b w w') (hb : B ≠ b) : Nv w' B v0 v1 v2 v3 v4 v5 v6 v7 v8 := by
  obtain ⟨c0, c1, c2, c3, c4, c5, c6, c7, c8, f0, f1, f2, f3, f4, f5, f6, f7, f8, lt⟩ := h
  exact ⟨(ht.cell (p := ⟨B, 0, none⟩) lt hb).trans c0, (ht.cell (p := ⟨B, 1, none⟩) lt hb).trans c1, (ht.cell (p := ⟨B, 2, none⟩) lt hb).trans c2, (ht.cell (p := ⟨B, 3, none⟩) lt hb).trans c3, (ht.cell (p := ⟨B, 4, none⟩) lt hb).trans c4,
    (ht.cell (p := ⟨B, 5, none⟩) lt hb).trans c5, (ht.cell (p := ⟨B, 6, none⟩) lt hb).trans c6, (ht.cell (p := ⟨B, 7, none⟩) lt hb).trans c7, (ht.cell (p := ⟨B, 8, none⟩) lt hb).trans c8,
    (ht.frozen (p := ⟨B, 0, none⟩) lt hb).trans f0, (ht.frozen (p := ⟨B, 1, none⟩) lt hb).trans f1, (ht.frozen (p := ⟨B, 2, none⟩) lt hb).trans f2, (ht.frozen (p := ⟨B, 3, none⟩) lt hb).trans f3, (ht.frozen (p := ⟨B, 4, none⟩) lt hb).trans f4,
    (ht.frozen (p := ⟨B, 5, none⟩) lt hb).trans f5, (ht.frozen (p := ⟨B, 6, none⟩) lt hb).trans f6, (ht.frozen (p := ⟨B, 7, none⟩) lt hb).trans f7, (ht.frozen (p := ⟨B, 8, none⟩) lt hb).trans f8, Nat.lt_of_lt_of_le lt ht.size⟩
abbrev set9 (W : World) (B : Nat) (v0 v1 v2 v3 v4 v5 v6 v7 v8 : Value) : World := ((((((((W.setCell ⟨B, 0, none⟩ v0).setCell ⟨B, 1, none⟩ v1).setCell ⟨B, 2, none⟩ v2).setCell ⟨B, 3, none⟩ v3).setCell ⟨B, 4, none⟩ v4).setCell ⟨B, 5, none⟩ v5).setCell ⟨B, 6, none⟩ v6).setCell ⟨B, 7, none⟩ v7).setCell ⟨B, 8, none⟩ v8
theorem set9_at {W : World} {B : Nat} {u0 u1 u2 u3 u4 u5 u6 u7 u8 : Value} (h : Nv W B u0 u1 u2 u3 u4 u5 u6 u7 u8) (v0 v1 v2 v3 v4 v5 v6 v7 v8 : Value) {X : World} (hX : Ext (set9 W B v0 v1 v2 v3 v4 v5 v6 v7 v8) X) : X.cell? ⟨B, 0, none⟩ = some v0 ∧ X.cell? ⟨B, 1, none⟩ = some v1 ∧ X.cell? ⟨B, 2, none⟩ = some v2 ∧ X.cell? ⟨B, 3, none⟩ = some v3 ∧ X.cell? ⟨B, 4, none⟩ = some v4 ∧ X.cell? ⟨B, 5, none⟩ = some v5 ∧ X.cell? ⟨B, 6, none⟩ = some v6 ∧ X.cell? ⟨B, 7, none⟩ = some v7 ∧ X.cell? ⟨B, 8, none⟩ = some v8 := by
  have hl : B < (set9 W B v0 v1 v2 v3 v4 v5 v6 v7 v8).heap.size := by simp; exact h.lt
  have k : ∀ i v, (set9 W B v0 v1 v2 v3 v4 v5 v6 v7 v8).cell? ⟨B, i, none⟩ = some v → X.cell? ⟨B, i, none⟩ = some v := fun i v e => (Below.cell (p := ⟨B, i, none⟩) hX hl).trans e
  obtain ⟨c0, c1, c2, c3, c4, c5, c6, c7, c8, -, -, -, -, -, -, -, -, -, -⟩ := h
  have o : ∀ (Y : World) (i j : Nat) (u v : Value), i ≠ j → Y.cell? ⟨B, i, none⟩ = some v → (Y.setCell ⟨B, j, none⟩ u).cell? ⟨B, i, none⟩ = some v := fun Y i j u v hij e => by rw [World.cell?_setCell_other _ _ _ _ (by intro q; simp at q; try exact hij q)]; exact e
  have m : ∀ (Y : World) (i : Nat) (u v : Value), Y.cell? ⟨B, i, none⟩ = some v → (Y.setCell ⟨B, i, none⟩ u).cell? ⟨B, i, none⟩ = some u := fun Y i u v e => World.cell?_setCell_same _ _ u e
  exact ⟨k 0 _ (o _ _ _ _ _ (by decide) (o _ _ _ _ _ (by decide) (o _ _ _ _ _ (by decide) (o _ _ _ _ _ (by decide) (o _ _ _ _ _ (by decide) (o _ _ _ _ _ (by decide) (o _ _ _ _ _ (by decide) (o _ _ _ _ _ (by decide) (m _ _ _ _ c0))))))))), k 1 _ (o _ _ _ _ _ (by decide) (o _ _ _ _ _ (by decide) (o _ _ _ _ _ (by decide) (o _ _ _ _ _ (by decide) (o _ _ _ _ _ (by decide) (o _ _ _ _ _ (by decide) (o _ _ _ _ _ (by decide) (m _ _ _ _ (o _ _ _ _ _ (by decide) c1))))))))), k 2 _ (o _ _ _ _ _ (by decide) (o _ _ _ _ _ (by decide) (o _ _ _ _ _ (by decide) (o _ _ _ _ _ (by decide) (o _ _ _ _ _ (by decide) (o _ _ _ _ _ (by decide) (m _ _ _ _ (o _ _ _ _ _ (by decide) (o _ _ _ _ _ (by decide) c2))))))))), k 3 _ (o _ _ _ _ _ (by decide) (o _ _ _ _ _ (by decide) (o _ _ _ _ _ (by decide) (o _ _ _ _ _ (by decide) (o _ _ _ _ _ (by decide) (m _ _ _ _ (o _ _ _ _ _ (by decide) (o _ _ _ _ _ (by decide) (o _ _ _ _ _ (by decide) c3))))))))), k 4 _ (o _ _ _ _ _ (by decide) (o _ _ _ _ _ (by decide) (o _ _ _ _ _ (by decide) (o _ _ _ _ _ (by decide) (m _ _ _ _ (o _ _ _ _ _ (by decide) (o _ _ _ _ _ (by decide) (o _ _ _ _ _ (by decide) (o _ _ _ _ _ (by decide) c4))))))))), k 5 _ (o _ _ _ _ _ (by decide) (o _ _ _ _ _ (by decide) (o _ _ _ _ _ (by decide) (m _ _ _ _ (o _ _ _ _ _ (by decide) (o _ _ _ _ _ (by decide) (o _ _ _ _ _ (by decide) (o _ _ _ _ _ (by decide) (o _ _ _ _ _ (by decide) c5))))))))), k 6 _ (o _ _ _ _ _ (by decide) (o _ _ _ _ _ (by decide) (m _ _ _ _ (o _ _ _ _ _ (by decide) (o _ _ _ _ _ (by decide) (o _ _ _ _ _ (by decide) (o _ _ _ _ _ (by decide) (o _ _ _ _ _ (by decide) (o _ _ _ _ _ (by decide) c6))))))))), k 7 _ (o _ _ _ _ _ (by decide) (m _ _ _ _ (o _ _ _ _ _ (by decide) (o _ _ _ _ _ (by decide) (o _ _ _ _ _ (by decide) (o _ _ _ _ _ (by decide) (o _ _ _ _ _ (by decide) (o _ _ _ _ _ (by decide) (o _ _ _ _ _ (by decide) c7))))))))), k 8 _ (m _ _ _ _ (o _ _ _ _ _ (by decide) (o _ _ _ _ _ (by decide) (o _ _ _ _ _ (by decide) (o _ _ _ _ _ (by decide) (o _ _ _ _ _ (by decide) (o _ _ _ _ _ (by decide) (o _ _ _ _ _ (by decide) (o _ _ _ _ _ (by decide) c8)))))))))⟩
theorem Nv.ext {w w' : World} {B : Nat} {v0 v1 v2 v3 v4 v5 v6 v7 v8 : Value} (h : Nv w B v0 v1 v2 v3 v4 v5 v6 v7 v8) (he : Ext w w') : Nv w' B v0 v1 v2 v3 v4 v5 v6 v7 v8 := h.tch (b := w.heap.size) (Tch.of he) (Nat.ne_of_lt h.lt)
theorem Tch.set9 {b B : Nat} {u W : World} (h : Tch b u W) (hB : u.heap.size ≤ B) (v0 v1 v2 v3 v4 v5 v6 v7 v8 : Value) {X : World} (hX : Ext (set9 W B v0 v1 v2 v3 v4 v5 v6 v7 v8) X) : Tch b u X :=
  (((((((((h.far hB 0 v0).far hB 1 v1).far hB 2 v2).far hB 3 v3).far hB 4 v4).far hB 5 v5).far hB 6 v6).far hB 7 v7).far hB 8 v8).trans (Tch.of hX)
theorem Sc.set9 {U W : World} {b N B : Nat} {l : List UInt8} {c : Nat} (h : Sc U W b N l c) (hB : B ≠ b) (hU : U.heap.size ≤ B) (v0 v1 v2 v3 v4 v5 v6 v7 v8 : Value) {X : World} (hX : Ext (set9 W B v0 v1 v2 v3 v4 v5 v6 v7 v8) X) : Sc U X b N l c :=
  (((((((((h.far hB hU 0 v0).far hB hU 1 v1).far hB hU 2 v2).far hB hU 3 v3).far hB hU 4 v4).far hB hU 5 v5).far hB hU 6 v6).far hB hU 7 v7).far hB hU 8 v8).ext hX
theorem lx_decimal (neg : Bool) (b N : Nat) (l : List UInt8) (c : Nat) (W w : World) (h : Sc W w b N l c) (hT : LxT W) :
    Calls Tryz.prog 54 #[.pointer (some ⟨b, 0, none⟩), .bool neg] w (ScQ W w b N (numV (decS false neg l c).1 none 0 0) (decS false neg l c).2.1 (decS false neg l c).2.2) := by
  have HT := Lib.hid hT
  have hN := h.big
  have hlN := h.le
  have hb0 := h.lt
  have hlow := h.low
  have hWl := ext_size h.base
  have j1 := Lib.hid (fun w' h => lx_mant_ten b N l c W w' h HT.out)
  obtain ⟨q1, q2, q3⟩ := mant_dig ten_ok tenB_lt (by decide) l c
  unfold decS decT
  rw [bind_eq, bind_eq]
  obtain ⟨⟨⟨ds, k⟩, l1, c1⟩, e1⟩ : ∃ X, mantS tenB l c = X := ⟨_, rfl⟩
  rw [e1] at j1 q1 q2 q3
  rw [e1]
  dsimp only at q1 q2 q3 ⊢
  have kE : Hid (∀ w' l c, Sc W w' b N l c → Calls Tryz.prog 95 #[.pointer (some ⟨b, 0, none⟩), .string ⟨#[101]⟩] w' (ScQ W w' b N (.int .i64 (expS false 101 l c).1) (expS false 101 l c).2.1 (expS false 101 l c).2.2)) := fun w' l c h => by
    cases hf : (foldS [101] l c).1
    · exact lx_exp_none 101 b N l c W w' h hf
    · exact lx_exp_some 101 b N l c W w' h HT.out hf
  have j2 := Lib.hid (fun w' h => kE.out w' l1 c1 h)
  have q4 := expS_bound 101 l1 c1
  obtain ⟨⟨E, l2, c2⟩, e2⟩ : ∃ X, expS false 101 l1 c1 = X := ⟨_, rfl⟩
  rw [e2] at j2 q4
  rw [e2]
  dsimp only at q4 ⊢
  have hds : ds.length ≤ 70000 := by omega
  have h0 := Lib.hid (h.ext (ext_alloc (ext_refl w) num0O))
  have Q3 := Lib.hid q3
  clear h hT e1 e2 kE q3
  go_enter Tryz.func54, Tryz.ntmps54
  go_wp2_with (first
    | (go_at_call 93; (with_reducible refine (j1.out _ h0.out).mono ?_); rintro e w1 ⟨v1, rfl, hS1, hT1, hO1⟩; obtain ⟨A1, p1, rfl⟩ := lx_shape hO1.out)
    | (go_at_call 95; (with_reducible refine (j2.out _ hS1.out).mono ?_); rintro e w2 ⟨rfl, hS2, hT2⟩; have hT12 := hT1.trans hT2; (have hO2 := own_tch hO1.out hT2 (by simp; omega))))
  have hb1 := hS2.out.lt
  have hz1 := hT12.size
  have hbase : b < (w.alloc num0O).heap.size := by simp; omega
  obtain ⟨w0, hw0⟩ : ∃ w0, w.alloc num0O = w0 := ⟨_, rfl⟩
  rw [hw0] at h0 hT12 hz1 hbase hO2 hT1 hO1
  have hs0 : w0.heap.size = w.heap.size + 1 := by rw [← hw0]; simp
  have HNC : Hid (Nc w0 w.heap.size) := by rw [← hw0]; exact nc_new w
  have hTw : Hid (Tch b w w0) := by rw [← hw0]; exact Tch.of (ext_alloc (ext_refl _) _)
  clear hw0 j1 j2
  go_loopw [8, 23] (fun v8 v23 wr => ∃ i : Nat, v23 = .int .i64 i ∧ i ≤ ds.length ∧ Hid (OwB wr w0.heap.size (.slice A1 ds.length p1) ds.length (chrTo ds i)) ∧ Hid (Sc W wr b N l2 c2) ∧ Hid (Tch b w0 wr)) (fun _ v23 _ => ds.length - (intOf v23).toNat)
  case atStart => exact ⟨0, rfl, Nat.zero_le _, hO2, hS2, hT12⟩
  case round =>
    obtain ⟨i, rfl, hi, hO, hS, hT⟩ := hrel
    by_cases hlt : i < ds.length
    · rcases own_form hO.out with ⟨_, h00⟩ | ⟨g, cp, hv3, -, -, hg1, hg2⟩
      · omega
      · cases hv3
        obtain ⟨hcell, hfr⟩ := ownb_at hO.out i hlt
        rw [chrTo_at hlt] at hcell
        obtain ⟨y, hy⟩ : ∃ y, ds[i] = y := ⟨_, rfl⟩
        have hy10 : y.toNat < 10 := Q3.out y (by rw [← hy]; exact List.getElem_mem hlt)
        have hstep := chrTo_step hlt
        rw [hy] at hcell hstep
        have HST := Lib.hid hstep
        clear hstep hy
        go_wp2
        have hv9 : Value.int IntKind.u8 ((y.toNat : Int) + 48) = bV (UInt8.ofNat (y.toNat + 48)) := by
          unfold bV
          rw [UInt8.toNat_ofNat', Nat.mod_eq_of_lt (by omega)]; rfl
        rw [hv9]
        exact ⟨⟨i + 1, by go_num, by omega, by show OwB _ _ _ _ _; rw [← HST.out]; exact ownb_set hO.out _ _, hS.out.far (by omega) (by omega) _ _, hT.out.far hg1 _ _⟩, by simp [intOf]; omega⟩
    · obtain rfl : i = ds.length := by omega
      have hct : chrTo ds ds.length = chr ds := by unfold chrTo; rw [List.take_length, List.drop_length, List.append_nil]
      have hOc := hO.out
      rw [hct] at hOc
      have hconv : ∀ u : Unit, (convert 23 9 (.slice A1 ds.length p1)).run Tryz.prog wr = .ok (.string (bs (chr ds))) wr := fun _ => by
        rcases own_form hOc with ⟨e0, h00⟩ | ⟨g, cp, hv3, -, -, hg1, hg2⟩
        · simp only [Value.slice.injEq] at e0
          obtain ⟨rfl, -, -⟩ := e0
          have : ds = [] := List.eq_nil_of_length_eq_zero h00
          subst this
          exact nil_str wr _ _
        · cases hv3
          exact ownb_str hOc 0 ds.length p1 (by omega) (chr ds) (by rw [List.drop_zero, List.take_of_length_le (by rw [chr_len]; exact Nat.le_refl _)])
      have hcv := hconv ()
      have kL : Hid (∀ w, Calls Tryz.prog 102 #[.string (bs (chr ds)), .string ⟨#[48]⟩] w fun e w' => e = .returned (.string (bs (chr (headZ ds)))) ∧ w = w') := fun w => by
        have := trimLeft (chr ds) (by rw [chr_len]; omega) w
        rw [chr_drop ds Q3.out] at this; exact this
      have kR : Hid (∀ w, Calls Tryz.prog 103 #[.string (bs (chr (headZ ds))), .string ⟨#[48]⟩] w fun e w' => e = .returned (.string (bs (chr (tailZ (headZ ds))))) ∧ w = w') := fun w => by
        have h9 := headZ_len ds
        have := trimRight (chr (headZ ds)) (by rw [chr_len]; omega) w
        rw [chr_tail _ (fun x hx => Q3.out x (headZ_mem hx))] at this; exact this
      have hl1 := headZ_len ds
      have hl2 := tailZ_len (headZ ds)
      have hcl1 := chr_len (headZ ds)
      have hcl2 := chr_len (tailZ (headZ ds))
      have hcn := chr_nil (tailZ (headZ ds))
      have hdec : Hid (∀ e, decN neg ds e = { num0 with kind := 1, neg := neg, dneg := neg, digits := chr (tailZ (headZ ds)), dexp := if tailZ (headZ ds) = [] then 0 else clipE (e + (headZ ds).length - (tailZ (headZ ds)).length) }) := fun _ => rfl
      obtain ⟨T, hT9⟩ : ∃ T, chr (headZ ds) = T := ⟨_, rfl⟩
      obtain ⟨S, hS9⟩ : ∃ S, chr (tailZ (headZ ds)) = S := ⟨_, rfl⟩
      rw [hT9] at kL kR hcl1
      rw [hS9] at kR hcl2 hcn hdec
      rw [← hcl1, ← hcl2] at hdec
      have hTl : T.length ≤ 70000 := by omega
      have hSl : S.length ≤ 70000 := by omega
      have hTw' : Hid (Tch b w wr) := hTw.out.trans hT.out
      have hnc := HNC.out.tch hT.out (by omega)
      have hn2 := Lib.hid hnc
      obtain ⟨n0, n1, n2, n3, n4, n5, n6, n7, n8, g0, g1, g2, g3, g4, g5, g6, g7, g8, hBlt⟩ := hnc
      clear hconv hct hO hOc HNC hTw hT hT9 hS9 hl1 hl2 hcl1 hcl2 Q3
      by_cases hnil : S = []
      · have hz := hcn.1 hnil
        subst hnil
        have HD := Lib.hid (hdec.out (E - k))
        rw [if_pos hz] at HD
        clear hdec hcn hz
        go_wp2_with (first
          | (go_at_call 102; (with_reducible refine (kL.out _).mono ?_); rintro e w4 ⟨rfl, rfl⟩)
          | (go_at_call 103; (with_reducible refine (kR.out _).mono ?_); rintro e w5 ⟨rfl, rfl⟩))
        have hX : Ext (set9 wr w.heap.size (.int .u8 1) (.bool neg) (.bool neg) (.string (bs [])) (.int .i64 0) (.bool false) (.slice none 0 0) (.int .i64 0) (.int .u64 0)) _ := ext_alloc (ext_refl _) (Obj.cells #[Value.bool neg, Value.string (bs []), Value.int IntKind.i64 0] 25)
        obtain ⟨m0, m1, m2, m3, m4, m5, m6, m7, m8⟩ := set9_at hn2.out _ _ _ _ _ _ _ _ _ hX
        refine bodyPost_ret (v := numV (decN neg ds (E - k)) none 0 0) ?h rfl ⟨rfl, hS.out.set9 (by omega) (by omega) _ _ _ _ _ _ _ _ _ hX, hTw'.out.set9 (Nat.le_refl _) _ _ _ _ _ _ _ _ _ hX⟩
        case h => rw [HD.out]; simp [results, Tryz.results54, go_sem, m0, m1, m2, m3, m4, m5, m6, m7, m8, num0]
      · have hz : ¬ tailZ (headZ ds) = [] := fun q => hnil (hcn.2 q)
        have HD := Lib.hid (hdec.out (E - k))
        rw [if_neg hz] at HD
        have kC := Lib.hid (fun w' => lx_clip (E - k + T.length - S.length) w')
        have hne : S.isEmpty = false := by
          cases S with
          | nil => exact absurd rfl hnil
          | cons x t => rfl
        have hwS : w.heap.size < wr.heap.size := hBlt
        clear hdec hcn hz
        go_wp2_with (first
          | (go_at_call 102; (with_reducible refine (kL.out _).mono ?_); rintro e w4 ⟨rfl, rfl⟩)
          | (go_at_call 103; (with_reducible refine (kR.out _).mono ?_); rintro e w5 ⟨rfl, rfl⟩)
          | (go_at_call 101; (with_reducible refine (kC.out _).mono ?_); rintro e w6 ⟨rfl, rfl⟩))
        have hX : Ext (set9 wr w.heap.size (.int .u8 1) (.bool neg) (.bool neg) (.string (bs S)) (.int .i64 (clipE (E - k + T.length - S.length))) (.bool false) (.slice none 0 0) (.int .i64 0) (.int .u64 0)) _ := ext_alloc (ext_refl _) (Obj.cells #[Value.bool neg, Value.string (bs S), Value.int IntKind.i64 (clipE (E - k + T.length - S.length))] 25)
        obtain ⟨m0, m1, m2, m3, m4, m5, m6, m7, m8⟩ := set9_at hn2.out _ _ _ _ _ _ _ _ _ hX
        refine bodyPost_ret (v := numV (decN neg ds (E - k)) none 0 0) ?h rfl ⟨rfl, hS.out.set9 (by omega) (by omega) _ _ _ _ _ _ _ _ _ hX, hTw'.out.set9 (Nat.le_refl _) _ _ _ _ _ _ _ _ _ hX⟩
        case h => rw [HD.out]; simp [results, Tryz.results54, go_sem, m0, m1, m2, m3, m4, m5, m6, m7, m8, num0]
end Go.Proofs.YtnkajjealkggdaaGreatDoor
end
section
/- Words of the library's: texts of sixteens are read. -/
namespace Go.Proofs.YtnkajjealkggdaaGreatDoor
open Go.RowKit
attribute [local go_sem] bs_size bs_extract bs_get bs_append bs_toList const_get
attribute [local go_sem] sz2 sz3 sz4 sz5 sz6 sz7 sz8
set_option maxHeartbeats 4000000
set_option maxRecDepth 100000
attribute [local irreducible] Calls
/-- The figure of a digit of sixteen. -/
def hxc (d : UInt8) : UInt8 := if d.toNat < 10 then UInt8.ofNat (d.toNat + 48) else UInt8.ofNat (d.toNat + 87)
def hxL (l : List UInt8) : List UInt8 := l.map hxc
theorem hxL_len (l : List UInt8) : (hxL l).length = l.length := by unfold hxL; simp
def six16 (l : List UInt8) : Prop := ∀ x ∈ l, x.toNat < 16
theorem hxc_nat {d : UInt8} (h : d.toNat < 16) : (d.toNat < 10 ∧ (hxc d).toNat = d.toNat + 48) ∨ (10 ≤ d.toNat ∧ (hxc d).toNat = d.toNat + 87) := by
  unfold hxc
  split
  · left; rw [UInt8.toNat_ofNat', Nat.mod_eq_of_lt (by omega)]; omega
  · right; rw [UInt8.toNat_ofNat', Nat.mod_eq_of_lt (by omega)]; omega
theorem hval_take {l : List UInt8} {i : Nat} (h : i < l.length) : hval (l.take (i + 1)) = 16 * hval (l.take i) + l[i].toNat := by
  unfold hval
  rw [List.take_succ_eq_append_getElem h, List.foldl_append]
  rfl
theorem hval_app (a b : List UInt8) : hval (a ++ b) = hval a * 16 ^ b.length + hval b := by
  induction hn : b.length generalizing b with
  | zero =>
    obtain rfl : b = [] := List.eq_nil_of_length_eq_zero hn
    simp [hval]
  | succ n ih =>
    obtain ⟨t, x, rfl, ht⟩ := snoc_at b hn
    have e : ∀ a : List UInt8, hval (a ++ [x]) = 16 * hval a + x.toNat := fun a => by unfold hval; rw [List.foldl_append]; rfl
    rw [← List.append_assoc, e, e, ih t ht, Nat.pow_succ]
    rw [Nat.mul_add, Nat.add_assoc, Nat.mul_comm 16, Nat.mul_assoc]
theorem hval_lt16 {l : List UInt8} (h : six16 l) : hval l < 16 ^ l.length := by
  have := hval_lt l h
  rwa [Nat.pow_mul] at this
theorem six_take {l : List UInt8} (h : six16 l) (k : Nat) : six16 (l.take k) := fun x hx => h x (List.mem_of_mem_take hx)
theorem six_drop {l : List UInt8} (h : six16 l) (k : Nat) : six16 (l.drop k) := fun x hx => h x (List.mem_of_mem_drop hx)
theorem hxL_take (l : List UInt8) (k : Nat) : (hxL l).take k = hxL (l.take k) := by unfold hxL; rw [List.map_take]
theorem hxL_drop (l : List UInt8) (k : Nat) : (hxL l).drop k = hxL (l.drop k) := by unfold hxL; rw [List.map_drop]
theorem hxL_at {l : List UInt8} {i : Nat} (h : i < l.length) : (hxL l)[i]'(by rw [hxL_len]; exact h) = hxc l[i] := by unfold hxL; simp
/-- So many limbs has a number of so many sixteens. -/
theorem lim_six {v n k : Nat} (h : v < 16 ^ n) (hk : n ≤ 8 * k) : (lim v).length ≤ k := by
  refine lim_le (Nat.lt_of_lt_of_le h ?_)
  have e : Bs ^ k = 16 ^ (8 * k) := by rw [Nat.pow_mul]
  rw [e]
  exact Nat.pow_le_pow_right (by decide) hk
theorem bw_worth16 (d : UInt8) (h : d.toNat < 16) (w : World) : Calls Tryz.prog 172 #[.int .u8 ((hxc d).toNat : Int)] w fun e w' => e = .returned (.int .u32 (d.toNat : Int)) ∧ Ext w w' := by
  obtain ⟨c, hc⟩ : ∃ c, (hxc d).toNat = c := ⟨_, rfl⟩
  obtain ⟨n, hn⟩ : ∃ n, d.toNat = n := ⟨_, rfl⟩
  have hx := hxc_nat h
  rw [hc, hn] at hx
  rw [hn] at h
  rw [hc, hn]
  clear hc hn
  rcases hx with ⟨h1, rfl⟩ | ⟨h1, rfl⟩
  · skip
    go_enter Tryz.func172, Tryz.ntmps172
    go_wp2
    refine bodyPost_ret (v := .int .u32 ↑n) ?h rfl ⟨rfl, ext_refl _⟩
    case h => simp [results, Tryz.results172, go_sem]
  · have e9 : (n : Int) + 87 - 97 + 10 = n := by omega
    go_enter Tryz.func172, Tryz.ntmps172
    go_wp2
    refine bodyPost_ret (v := .int .u32 ↑n) ?h rfl ⟨rfl, ext_refl _⟩
    case h => simp [results, Tryz.results172, go_sem, e9]
theorem read_small16 (ds : List UInt8) (hd : six16 ds) (hl : ds.length ≤ 300) (w : World) : Calls Tryz.prog 133 #[.string (bs (hxL ds)), .int .i64 16] w (ReadPost w (hval ds)) := by
  have HD := Lib.hid hd
  have hlen := hxL_len ds
  have HAT : Hid (∀ i (h : i < ds.length), (hxL ds).getD i 0 = hxc ds[i]) := fun i h => by rw [List.getD_eq_getElem?_getD, List.getElem?_eq_getElem (by rw [hxL_len]; exact h)]; exact hxL_at h
  obtain ⟨l, hlL⟩ : ∃ l, hxL ds = l := ⟨_, rfl⟩
  rw [hlL] at hlen HAT
  rw [hlL]
  clear hd hlL
  have HLEN := Lib.hid hlen
  have hl' : l.length ≤ 300 := by omega
  obtain ⟨M, hM⟩ : ∃ M, ds.length = M := ⟨_, rfl⟩
  rw [hM] at hlen hl
  have HM := Lib.hid hM
  clear hM hlen
  have hlM : l.length = M := HLEN.out.trans HM.out
  go_enter Tryz.func133, Tryz.ntmps133
  go_wp2
  go_loopg [11, 12, 13, 14] l.length (fun g vw vt vs vi wr => ∃ (n x T N i : Nat), g = l.length - i ∧ i ≤ l.length ∧ vt = .int .u32 (T : Int) ∧ vs = .int .u32 (N : Int) ∧ vi = .int .i64 (i : Int) ∧ (T ≤ 16777216 ∧ 0 < T ∧ N < T) ∧ (i = l.length → T = 1 ∧ N = 0) ∧
      Hid (∃ q, q ≤ 6 ∧ T = 16 ^ q) ∧ Hid (x * T + N = hval (ds.take i)) ∧ Hid (wr.ownsRow w.heap.size 48 1 vw n ((lim x).map u32V)) ∧ Hid (Ext w wr))
  case atStart =>
    exact ⟨0, 0, 1, 0, 0, rfl, Nat.zero_le _, rfl, rfl, rfl, by omega, fun _ => ⟨rfl, rfl⟩, ⟨0, by omega, rfl⟩, Lib.hid (show 0 * 1 + 0 = hval (ds.take 0) by simp [hval]), Lib.hid (by rw [lim_zero]; exact World.ownsRow_nil _ _ _ _), ext_refl _⟩
  case round =>
    obtain ⟨n, x, T, N, i, rfl, hi, rfl, rfl, rfl, ⟨hT1, hT2, hNT⟩, hend, hq, hx, hown, hext⟩ := hrel
    by_cases hgo : i < l.length
    · have hid : i < ds.length := by rw [← HLEN.out]; exact hgo
      have hkn : (lim x).length = n := by have := hown.out.1; simpa using this
      have hnb : n ≤ 100 := by
        have h1 := hval_lt16 (six_take HD.out i)
        rw [List.length_take, Nat.min_eq_left (Nat.le_of_lt hid)] at h1
        have h2 : x * 1 ≤ x * T := Nat.mul_le_mul_left _ hT2
        have h3 := hx.out
        rw [← hkn]
        exact lim_six (n := i) (by omega) (by omega)
      obtain ⟨c, hc⟩ : ∃ c, l[i] = c := ⟨_, rfl⟩
      have hce := HAT.out i hid
      rw [List.getD_eq_getElem?_getD, List.getElem?_eq_getElem hgo] at hce
      have hce : c = hxc ds[i] := by rw [← hc]; exact hce
      obtain ⟨d, hdd⟩ : ∃ d, ds[i].toNat = d := ⟨_, rfl⟩
      have hd9 : d < 16 := by rw [← hdd]; exact HD.out _ (List.getElem_mem hid)
      have hwt : ∀ w', Calls Tryz.prog 172 #[.int .u8 (c.toNat : Int)] w' fun e w'' => e = .returned (.int .u32 (d : Int)) ∧ Ext w' w'' := fun w' => by
        have := bw_worth16 ds[i] (by rw [hdd]; exact hd9) w'
        rw [← hce, hdd] at this; exact this
      have hstep : Hid (hval (ds.take (i + 1)) = x * (T * 16) + (N * 16 + d)) := Lib.hid (by
        rw [hval_take hid, ← hx.out, hdd, ← Nat.mul_assoc]; omega)
      have hms : ∀ w', Ext wr w' → Calls Tryz.prog 173 #[u11, .int .u32 ((T : Int) * 16), .int .u32 ((N : Int) * 16 + (d : Int))] w' fun e w'' => ∃ (v' : Value) (n' : Nat), e = .returned v' ∧ Hid (w''.ownsRow w.heap.size 48 1 v' n' ((lim (hval (ds.take (i + 1)))).map u32V)) ∧ n' ≤ n + 1 ∧ Ext w w'' := fun w' he => by
        have e1 : (T : Int) * 16 = ((T * 16 : Nat) : Int) := by omega
        have e2 : (N : Int) * 16 + (d : Int) = ((N * 16 + d : Nat) : Int) := by omega
        rw [e1, e2]
        have := bw_mulSmall w u11 n x (T * 16) (N * 16 + d) (by omega) (by omega) (by omega) (by omega) w' (ext_trans hext.out he) (own_ext hown.out he)
        rw [← hstep.out] at this
        exact this
      have hq8 : T = 16777216 ∨ T ≤ 1048576 := by
        obtain ⟨q, hq1, hq2⟩ := hq.out
        rcases Nat.lt_or_ge q 6 with h | h
        · right
          rw [hq2]
          exact Nat.le_trans (Nat.pow_le_pow_right (by decide) (show q ≤ 5 by omega)) (by decide)
        · left
          obtain rfl : q = 6 := by omega
          exact hq2
      have HH := Lib.hid (And.intro hms hwt)
      have HQ8 := Lib.hid hq8
      have HC := Lib.hid hc
      clear hms hwt hdd hq8 hend hT2 hce
      by_cases hfl : (268435455 : Int) < (T : Int) * 16
      · have hfd : decide ((268435455 : Int) < (T : Int) * 16) = true := decide_eq_true hfl
        go_wp2_with (first
          | (go_at_call 172; (with_reducible refine (HH.out.2 _).mono ?_); rintro e w1 ⟨rfl, xb1⟩; obtain ⟨xc1, xf1, xl1, xz1⟩ := ext_use xb1; (try simp at xz1))
          | (go_at_call 173; (with_reducible refine (HH.out.1 _ xb1).mono ?_); rintro e w2 ⟨v2, n2, rfl, hR2, hn2, xb2⟩; obtain ⟨xc2, xf2, xl2, xz2⟩ := ext_use xb2; (try simp at xz2))
         )
        go_roundg (l.length - (i + 1))
        case rel => exact ⟨n2, hval (ds.take (i + 1)), 1, 0, i + 1, rfl, by omega, rfl, rfl, by simp, by omega, fun _ => ⟨rfl, rfl⟩, ⟨0, by omega, rfl⟩, Lib.hid (by omega), hR2, Lib.hid xb2⟩
        case measure => omega
      · have hfd : decide ((268435455 : Int) < (T : Int) * 16) = false := decide_eq_false hfl
        by_cases hie : i = l.length - 1
        · have hed : ((i : Int) == (l.length : Int) - 1) = true := by rw [beq_iff_eq]; omega
          have HIE := Lib.hid hie
          clear hie
          go_wp2_with (first
            | (go_at_call 172; (with_reducible refine (HH.out.2 _).mono ?_); rintro e w1 ⟨rfl, xb1⟩; obtain ⟨xc1, xf1, xl1, xz1⟩ := ext_use xb1; (try simp at xz1))
            | (go_at_call 173; (with_reducible refine (HH.out.1 _ xb1).mono ?_); rintro e w2 ⟨v2, n2, rfl, hR2, hn2, xb2⟩; obtain ⟨xc2, xf2, xl2, xz2⟩ := ext_use xb2; (try simp at xz2))
           )
          go_roundg (l.length - (i + 1))
          case rel => exact ⟨n2, hval (ds.take (i + 1)), 1, 0, i + 1, rfl, by omega, rfl, rfl, by simp, by omega, fun _ => ⟨rfl, rfl⟩, ⟨0, by omega, rfl⟩, Lib.hid (by omega), hR2, Lib.hid xb2⟩
          case measure => omega
        · have hed : ((i : Int) == (l.length : Int) - 1) = false := by rw [beq_eq_false_iff_ne]; omega
          have hed' : ¬ (i : Int) = (l.length : Int) - 1 := by omega
          have hT7 : Hid (T ≤ 1048576) := Lib.hid (by rcases HQ8.out with h | h <;> omega)
          go_wp2_with (first
            | (go_at_call 172; (with_reducible refine (HH.out.2 _).mono ?_); rintro e w1 ⟨rfl, xb1⟩; obtain ⟨xc1, xf1, xl1, xz1⟩ := ext_use xb1; (try simp at xz1))
           )
          go_roundg (l.length - (i + 1))
          case rel =>
            have h7 := hT7.out
            refine ⟨n, x, T * 16, N * 16 + d, i + 1, rfl, by omega, by simp, by simp, by simp, by omega, fun h => by omega, ?_, Lib.hid hstep.out.symm, Lib.hid (own_ext hown.out xb1), Lib.hid (ext_trans hext.out xb1)⟩
            obtain ⟨q, hq1, hq2⟩ := hq.out
            refine ⟨q + 1, ?_, by rw [hq2, Nat.pow_succ]⟩
            rcases Nat.lt_or_ge q 6 with h | h
            · exact h
            · obtain rfl : q = 6 := by omega
              omega
          case measure => omega
    · obtain rfl : i = l.length := by omega
      obtain ⟨rfl, rfl⟩ := hend rfl
      obtain ⟨A, c, rfl, hR⟩ := Rd.own hown.out (lb_lim x)
      have hv : x = hval ds := by have := hx.out; rw [List.take_of_length_le (by rw [HLEN.out]; exact Nat.le_refl _)] at this; omega
      have HR : Hid (Rd wr A n c (lim (hval ds)) ∧ Fr w A) := ⟨by rw [← hv]; exact hR, own_fr hown.out⟩
      have hcap := hR.cap
      have hmx := hR.mx
      clear hgo hv hR hend
      go_wp2
      refine bodyPost_ret (v := .tuple #[.slice A n c, .bool true]) ?h rfl ⟨A, n, c, rfl, HR, hext.out⟩
      case h => simp [results, Tryz.results133, go_sem]
end Go.Proofs.YtnkajjealkggdaaGreatDoor
end
section
/- Words of the library's: long texts of sixteens are read by halves; SetString. -/
namespace Go.Proofs.YtnkajjealkggdaaGreatDoor
open Go.RowKit
attribute [local go_sem] bs_size bs_extract bs_get bs_append bs_toList const_get
attribute [local go_sem] sz2 sz3 sz4 sz5 sz6 sz7 sz8
set_option maxHeartbeats 4000000
set_option maxRecDepth 100000
theorem halves16 {l : List UInt8} {k h : Nat} (hk : k + h = l.length) : hval (l.take k) * 16 ^ h + hval (l.drop k) = hval l := by
  conv => rhs; rw [← List.take_append_drop k l]
  rw [hval_app, List.length_drop]
  congr 3; omega
theorem hvl_words {l : List UInt8} (hd : six16 l) (hl : l.length ≤ 70000) : (lim (hval l)).length ≤ 17500 := lim_six (n := l.length) (hval_lt16 hd) (by omega)
theorem six_words {h : Nat} (hl : h ≤ 70000) : (lim (16 ^ h)).length ≤ 17500 := lim_six (n := h + 1) (Nat.pow_lt_pow_right (by decide) (Nat.lt_succ_self _)) (by omega)
attribute [local irreducible] Calls
theorem bw_read16 : ∀ (N : Nat) (l : List UInt8), l.length = N → N ≤ 70000 → six16 l → ∀ w, Calls Tryz.prog 133 #[.string (bs (hxL l)), .int .i64 16] w (ReadPost w (hval l)) := by
  intro N
  induction N using Nat.strongRecOn with
  | _ N ih =>
    intro l hl hN hd w
    by_cases hs : l.length ≤ 300
    · exact read_small16 l hd hs w
    · obtain ⟨h, hh⟩ : ∃ h, h = l.length / 2 := ⟨_, rfl⟩
      obtain ⟨k, hk⟩ : ∃ k, k = l.length - h := ⟨_, rfl⟩
      have k1 : ∀ w', Calls Tryz.prog 133 #[.string (bs (hxL (l.take k))), .int .i64 16] w' (ReadPost w' (hval (l.take k))) := fun w' => ih k (by omega) _ (by rw [List.length_take]; omega) (by omega) (six_take hd k) w'
      have k2 : ∀ w', Calls Tryz.prog 133 #[.string (bs (hxL (l.drop k))), .int .i64 16] w' (ReadPost w' (hval (l.drop k))) := fun w' => ih h (by omega) _ (by rw [List.length_drop]; omega) (by omega) (six_drop hd k) w'
      have k3 : ∀ w', Calls Tryz.prog 150 #[.int .i64 16, .int .i64 (h : Int)] w' (WPost w' (16 ^ h)) := fun w' => bw_power 16 h (by decide) (by decide) (by omega) (Nat.le_trans (six_words (by omega)) (by decide)) w'
      have b1 := hvl_words (six_take hd k) (by rw [List.length_take]; omega)
      have b2 := hvl_words (six_drop hd k) (by rw [List.length_drop]; omega)
      have b3 := six_words (h := h) (by omega)
      have hv := halves16 (l := l) (k := k) (h := h) (by omega)
      have k4 : ∀ (A : Option Addr) (n c : Nat) (B : Option Addr) (m d : Nat) (w' : World), Rd w' A n c (lim (hval (l.take k))) → Rd w' B m d (lim (16 ^ h)) → Calls Tryz.prog 171 #[.slice A n c, .slice B m d] w' (WPost w' (hval (l.take k) * 16 ^ h)) := fun A n c B m d w' g1 g2 =>
        bw_mulA A B n c m d _ _ (by rw [← g1.len, ← g2.len]; omega) w' g1 g2
      have k5 : ∀ (A : Option Addr) (n c : Nat) (B : Option Addr) (m d : Nat) (w' : World), Rd w' A n c (lim (hval (l.take k) * 16 ^ h)) → Rd w' B m d (lim (hval (l.drop k))) → Calls Tryz.prog 136 #[.slice A n c, .slice B m d] w' (WPost w' (hval l)) := fun A n c B m d w' g1 g2 => by
        have g3 := lim_mul_len (hval (l.take k)) (16 ^ h)
        have := bw_add A B n c m d _ _ (by rw [← g1.len]; omega) (by rw [← g2.len]; omega) w' g1 g2
        rw [hv] at this
        exact this.mono fun e w'' ⟨A', k', c', q1, q2, q3⟩ => ⟨A', k', c', q1, ⟨q2.out.1, q2.out.2.1⟩, q3⟩
      have hkh : (l.length : Int) - (h : Int) = (k : Int) := by omega
      have hl2 : (l.length : Int) / 2 = (h : Int) := by omega
      have hbig : (300 : Int) < (l.length : Int) := by omega
      have hkl : k ≤ l.length := by omega
      have hlb : l.length ≤ 70000 := by omega
      have hx1 := hxL_take l k
      have hx2 := hxL_drop l k
      have hx3 := hxL_len l
      rw [← hx1] at k1
      rw [← hx2] at k2
      have HK := Lib.hid (And.intro k1 (And.intro k2 (And.intro k3 (And.intro k4 k5))))
      have HHH := Lib.hid (And.intro hh hk)
      rw [← hx3] at hkh hl2 hbig hkl hlb
      clear k1 k2 k3 k4 k5 b1 b2 b3 hv hh hk ih hl hN hd hs hx1 hx2 hx3 HHH
      generalize hval (l.take k) = x at *
      generalize hval (l.drop k) = y at *
      generalize hval l = z at *
      generalize hxL l = L at *
      generalize 16 ^ h = p at *
      go_enter Tryz.func133, Tryz.ntmps133
      go_wp2_with (first
        | (go_at_call 133; (with_reducible refine (HK.out.1 _).mono ?_); rintro e w1 ⟨A1, n1, c1, rfl, hR1, xb1⟩; obtain ⟨xc1, xf1, xl1, xz1⟩ := ext_use xb1; (try simp at xz1))
        | (go_at_call 133; (with_reducible refine (HK.out.2.1 _).mono ?_); rintro e w2 ⟨A2, n2, c2, rfl, hR2, xb2⟩; obtain ⟨xc2, xf2, xl2, xz2⟩ := ext_use xb2; (try simp at xz2))
        | (go_at_call 150; (with_reducible refine (HK.out.2.2.1 _).mono ?_); rintro e w3 ⟨A3, n3, c3, rfl, hR3, xb3⟩; obtain ⟨xc3, xf3, xl3, xz3⟩ := ext_use xb3; (try simp at xz3))
        | (go_at_call 171; (with_reducible refine (HK.out.2.2.2.1 _ _ _ _ _ _ _ (hR1.out.1.ext (ext_trans xb2 xb3)) hR3.out.1).mono ?_); rintro e w4 ⟨A4, n4, c4, rfl, hR4, xb4⟩; obtain ⟨xc4, xf4, xl4, xz4⟩ := ext_use xb4; (try simp at xz4))
        | (go_at_call 136; (with_reducible refine (HK.out.2.2.2.2 _ _ _ _ _ _ _ hR4.out.1 (hR2.out.1.ext (ext_trans xb3 xb4))).mono ?_); rintro e w5 ⟨A5, n5, c5, rfl, hR5, xb5⟩; obtain ⟨xc5, xf5, xl5, xz5⟩ := ext_use xb5; (try simp at xz5))
       )
      refine bodyPost_ret (v := .tuple #[.slice A5 n5 c5, .bool true]) ?h rfl ⟨A5, n5, c5, rfl, ⟨hR5.out.1, hR5.out.2.mono (ext_trans xb1 (ext_trans xb2 (ext_trans xb3 xb4)))⟩, ext_trans xb1 (ext_trans xb2 (ext_trans xb3 (ext_trans xb4 xb5)))⟩
      case h => simp [results, Tryz.results133, go_sem]
theorem bi_SetString16 (b : Nat) (l : List UInt8) (hd : six16 l) (h0 : 0 < l.length) (hl : l.length ≤ 70000) (w : World) (hr : Room w b 0) :
    Calls Tryz.prog 96 #[.pointer (some ⟨b, 0, none⟩), .string (bs (hxL l)), .int .i64 16] w (StrPost w b (hval l)) := by
  have HR := Lib.hid hr
  have hlt := hr.lt
  have hl0 := hd l[0] (List.getElem_mem h0)
  have hx0 := hxc_nat hl0
  have hxl := hxL_len l
  have hx1 : (hxL l)[0]'(by rw [hxL_len]; exact h0) = hxc l[0] := hxL_at h0
  have kR : ∀ w', Calls Tryz.prog 133 #[.string (bs (hxL l)), .int .i64 16] w' (ReadPost w' (hval l)) := fun w' => bw_read16 l.length l rfl hl hd w'
  have hsg : Hid (sgn false (hval l) = (hval l : Int)) := Lib.hid rfl
  obtain ⟨c, t, hct⟩ : ∃ c t, hxL l = c :: t := List.exists_cons_of_ne_nil (fun e => by rw [e] at hxl; simp at hxl; omega)
  simp only [hct] at hx1 kR
  have hcc : c = hxc l[0] := hx1
  rw [← hcc] at hx0
  have c1 : ((c.toNat : Int) == 45) = false := by rw [beq_eq_false_iff_ne]; omega
  have c2 : ((c.toNat : Int) == 43) = false := by rw [beq_eq_false_iff_ne]; omega
  have c3 : ¬ (c.toNat : Int) = 45 := by omega
  have c4 : ¬ (c.toNat : Int) = 43 := by omega
  rw [hct]
  clear hr hd hcc hx1 hx0 hct hxl
  generalize hval l = v at *
  go_enter Tryz.func96, Tryz.ntmps96
  go_wp2_with (first
    | (go_at_call 133; (with_reducible refine (kR _).mono ?_); rintro e w1 ⟨A1, k1, c1, rfl, hR1, xb1⟩; obtain ⟨xc1, xf1, xl1, xz1⟩ := ext_use xb1; (try simp at xz1))
    | (go_at_call 109; (with_reducible refine (bi_set b 0 false A1 k1 c1 v _ (HR.out.ext xb1) hR1.out.1 (hR1.out.2.off hlt k1)).mono ?_); rintro e w3 ⟨rfl, hI3, xt3⟩)
   )
  refine bodyPost_ret (v := .tuple #[.pointer (some ⟨b, 0, none⟩), .bool true]) ?h rfl ⟨rfl, A1, k1, c1, ⟨by have := hI3.out; rwa [hsg.out] at this, hR1.out.2⟩, (Tch.of xb1).trans xt3⟩
  case h => simp [results, Tryz.results96, go_sem]
end Go.Proofs.YtnkajjealkggdaaGreatDoor
end
section
/- Whole numbers of the library's: by powers of two, rounded down; the bits 0 that stand last; the limbs of a number that was read. -/
namespace Go.Proofs.YtnkajjealkggdaaGreatDoor
open Go.RowKit
attribute [local go_sem] sz2 sz3 sz4 sz5 sz6 sz7 sz8
set_option maxHeartbeats 4000000
set_option maxRecDepth 100000
attribute [local irreducible] Calls
theorem bi_Rsh (b o g p v : Nat) (z : Nat) (A : Option Addr) (n c : Nat) (hn : n ≤ 500000) (hz : z ≤ 16000000) (w : World) (hr : Room w b o) (hx : IntIs w g p (v : Int) A n c) :
    Calls Tryz.prog 99 #[.pointer (some ⟨b, o, none⟩), .pointer (some ⟨g, p, none⟩), .int .u64 (z : Int)] w (IPost w b o ((v / 2 ^ z : Nat) : Int)) := by
  have HX := Lib.hid hx
  have HR := Lib.hid hr
  have lx := hx.room.lt
  have x0 := hx.neg
  have x1 := hx.words
  have e0 : decide ((v : Int) < 0) = false := by simp
  rw [e0] at x0
  have hbl := hr.lt
  have hz2 : (z : Int) ≤ 16000000 := by omega
  have hz3 : (0 : Int) ≤ z := by omega
  have kM : Hid (∀ w', Ext w w' → Calls Tryz.prog 135 #[.slice A n c, .int .i64 (z : Int)] w' (WPost w' (v / 2 ^ z))) := fun w' he => by
    have := bw_down A n c v z hn hz w' (by have := HX.out.rd.ext he; simpa using this)
    exact this
  have hsg : Hid (sgn false (v / 2 ^ z) = ((v / 2 ^ z : Nat) : Int)) := rfl
  generalize v / 2 ^ z = q at *
  clear hx hr e0
  go_enter Tryz.func99, Tryz.ntmps99
  go_wp2_with (first
    | (go_at_call 135; (with_reducible refine (kM.out _ (by (repeat (first | exact ext_refl _ | assumption | refine ext_setCell ?_ (by simp; try omega) _ | refine ext_alloc ?_ _ | refine ext_drew ?_ | refine ext_drewN ?_ _ | refine ext_trans ?_ (Aft.use _) | refine ext_trans ?_ (by assumption))))).mono ?_); rintro e w1 ⟨A9, k9, c9, rfl, hR9, xb1⟩; have y0 := (Below.cell (p := ⟨g, p, none⟩) xb1 lx).trans x0; have y1 := (Below.cell (p := ⟨g, p + 1, none⟩) xb1 lx).trans x1; have hO9 := hR9.out.2.off HR.out.lt k9)
    | (go_at_call 109; (with_reducible refine (bi_set b o _ A9 k9 c9 q _ (HR.out.ext xb1) hR9.out.1 hO9).mono ?_); rintro e w3 ⟨rfl, hI3, xt3⟩)
   )
  refine bodyPost_ret (v := .pointer (some ⟨b, o, none⟩)) ?h rfl ⟨rfl, A9, k9, c9, ⟨by have := hI3.out; rwa [hsg.out] at this, hR9.out.2⟩, (Tch.of xb1).trans xt3⟩
  case h => simp [results, Tryz.results99, go_sem]
theorem bi_Tzb (g p v : Nat) (A : Option Addr) (n c : Nat) (hn : n ≤ 1000000) (hz : zz v ≤ 16000000) (w : World) (hT : Tz w) (hx : IntIs w g p (v : Int) A n c) :
    Calls Tryz.prog 98 #[.pointer (some ⟨g, p, none⟩)] w fun e w' => e = .returned (.int .u64 (zz v : Nat)) ∧ Ext w w' := by
  have HX := Lib.hid hx
  have lx := hx.room.lt
  have x1 := hx.words
  have kz := Lib.hid (bw_zeros A n c v hn w hT (by have := hx.rd; simpa using this))
  clear hx
  generalize zz v = q at *
  have hq : (q : Int) ≤ 16000000 := by omega
  go_enter Tryz.func98, Tryz.ntmps98
  go_wp2_with (first
    | (go_at_call 134; (with_reducible refine (kz.out).mono ?_); rintro e w1 ⟨rfl, xb1⟩))
  refine bodyPost_ret (v := .int .u64 ↑q) ?h rfl ⟨rfl, xb1⟩
  case h => simp [results, Tryz.results98, go_sem]
theorem lx_limbs (b o : Nat) (z : Int) (A : Option Addr) (nw c : Nat) (hnw : nw ≤ 200000) (w : World) (hx : IntIs w b o z A nw c) :
    Calls Tryz.prog 100 #[.pointer (some ⟨b, o, none⟩)] w fun e w' => ∃ (B : Option Addr) (k l : Nat), e = .returned (natV B k l) ∧ Hid (RdO w' B k l (lim z.natAbs) none ∧ Fr w B) ∧ Ext w w' := by
  have HX := Lib.hid hx
  have hby := fun w' (he : Ext w w') => bi_Bytes b o z A nw c (by omega) w' (HX.out.ext he)
  obtain ⟨a, ha⟩ : ∃ a, a = z.natAbs := ⟨_, rfl⟩
  rw [← ha] at hby ⊢
  have hlb := lim_bytes a
  have hlen := hx.rd.len
  rw [← ha] at hlen
  obtain ⟨n, hn'⟩ : ∃ n, n = (bitsOf a + 7) / 8 := ⟨_, rfl⟩
  rw [← hn'] at hby hlb
  obtain ⟨N, hN⟩ : ∃ N, N = (n + 3) / 4 := ⟨_, rfl⟩
  have e0 : ((n : Int) + 3) / 4 = (N : Int) := by omega
  have hNl : N = nw := by omega
  have HN := Lib.hid (show 4 * N ≥ n ∧ 4 * N ≤ n + 3 ∧ N = (lim a).length by omega)
  have hN1 : N ≤ 200000 := by omega
  have hn : n ≤ 1000000 := by omega
  have HA := Lib.hid hlb.2
  clear hx hn' hN hlb hlen ha hNl
  go_enter Tryz.func100, Tryz.ntmps100
  go_wp2_with (first
    | (go_at_call 137; (with_reducible refine (hby _ (ext_alloc (ext_refl _) _)).mono ?_); rintro e w0 ⟨g, rfl, hB0, hg0, xb0⟩)
    | (at_make; refine make_u32 rfl _ _ rfl _ _ _ _ N rfl rfl e0 e0 (by omega) ?_; intro w1 hx1 ho1; have hext1 := Lib.hid hx1; clear hx1)
   )
  have hE0 := Lib.hid (ext_trans (ext_alloc (ext_refl w) _) xb0)
  have hgl := hB0.out.1
  have hwl : w.heap.size < w0.heap.size := ext_lt xb0 _ (by simp)
  have cb0 : w0.cell? ⟨w.heap.size, 0, none⟩ = some (.slice none 0 0) := (Below.cell (p := ⟨w.heap.size, 0, none⟩) xb0 (by simp)).trans (by simp [go_sem])
  have cf0 : w0.frozen? ⟨w.heap.size, 0, none⟩ = false := (Below.frozen (p := ⟨w.heap.size, 0, none⟩) xb0 (by simp)).trans (by simp [go_sem])
  obtain ⟨G, hGG⟩ : ∃ G, G = w0.heap.size := ⟨_, rfl⟩
  have hG0 : w0.heap.size ≤ G := by omega
  rw [← hGG] at ho1
  simp only [← hGG]
  have hGw : w.heap.size < G := by omega
  clear hGG
  go_loopw [17] (fun vi wr => ∃ (i : Nat) (os : List Nat), i ≤ n ∧ vi = .int .i64 (i : Int) ∧ Hid (os.length = N ∧ Lb os ∧ val os = 256 ^ (n - i) * (a / 256 ^ (n - i))) ∧
      Hid (wr.ownsRow G 48 1 (.slice (some ⟨G, 0, none⟩) N N) N (os.map u32V)) ∧ Hid (Ext w0 wr))
    (fun vi _ => n - (intOf vi).toNat)
  case atStart => exact ⟨0, List.replicate N 0, Nat.zero_le _, rfl, ⟨by simp, lb_replicate _, by rw [val_replicate, Nat.sub_zero, Nat.div_eq_of_lt HA.out, Nat.mul_zero]⟩, ho1.out, hext1.out⟩
  case round =>
    clear ho1 hext1
    obtain ⟨i, os, hi, rfl, hos, hown, hext⟩ := hrel
    by_cases h1 : i < n
    · obtain ⟨k, hk⟩ : ∃ k, k = n - 1 - i := ⟨_, rfl⟩
      obtain ⟨q, hq⟩ : ∃ q, q = k / 4 := ⟨_, rfl⟩
      obtain ⟨r, hr4⟩ : ∃ r, r = k % 4 := ⟨_, rfl⟩
      obtain ⟨c, hc⟩ : ∃ c, c = a / 256 ^ k % 256 := ⟨_, rfl⟩
      obtain ⟨s, hs⟩ : ∃ s, s = 8 * r := ⟨_, rfl⟩
      have hcell := (hB0.out.ext hext.out).2 i h1
      rw [beB_getD h1, ← hk, ← hc] at hcell
      have hc256 : c < 256 := by rw [hc]; exact Nat.mod_lt _ (by decide)
      obtain ⟨x, hx⟩ : ∃ x, os.getD q 0 = x := ⟨_, rfl⟩
      have hqN : q < N := by have := HN.out; omega
      obtain ⟨hc1, hf1⟩ := own_at hown.out q hqN
      rw [hx] at hc1
      have hob := or_byte (V := a / 256 ^ (k + 1)) hos.out.2.1 (show r < 4 by omega) (by rw [hos.out.1]; exact hqN) (by rw [hos.out.2.2, show n - i = 4 * q + r + 1 by omega, show 4 * q + r + 1 = k + 1 by omega]) hc256 hx
      rw [show 4 * q + r = k by omega, hc, byte_next, ← hc, ← hs] at hob
      have e1 : (n : Int) - 1 - (i : Int) = (k : Int) := by omega
      have e2 : (k : Int) / 4 = (q : Int) := by omega
      have e3 : (k : Int) % 4 = (r : Int) := by omega
      have e4 : 8 * (r : Int) = (s : Int) := by omega
      have hs24 : s ≤ 24 := by omega
      have HOB := Lib.hid hob
      have hgl2 : G < wr.heap.size := (hown.out.lt G rfl).2
      clear hob hk hq hr4 hc hs
      go_wp2
      refine wp_aft_tail 13 (by kernel_rfl) (by kernel_rfl) (by kernel_rfl) (fun hq hqf => ?_)
      simp only [List.take_succ_cons, List.take_zero, List.drop_succ_cons, List.drop_zero]
      repeat (go_big_quiet_step (first | fail
        ))
      refine wpQuiet_nil ?_
      rintro _ ⟨nq, rfl⟩
      have xl := ext_lt nq.use
      have xz := ext_size nq.use
      try simp at xz
      have y1 := (hq nq G q hgl2).trans hc1
      have y2 := (hqf nq G q hgl2).trans hf1
      clear hq hqf
      have hE2 := Lib.hid nq.use
      have hor : Hid (bits BinOp.or IntKind.u32 (x : Int) ((c : Int) * 2 ^ s % 4294967296) = ((x + c * 2 ^ s : Nat) : Int)) := by
        obtain ⟨o1, o2, o3, -, -⟩ := HOB.out
        have e5 : (c : Int) * 2 ^ s % 4294967296 = ((c * 2 ^ s : Nat) : Int) := by
          have : (c : Int) * 2 ^ s = ((c * 2 ^ s : Nat) : Int) := by simp
          rw [this]; omega
        show _ = _
        rw [e5, bits_or32 _ _ (by omega) o1, o2]
      go_wp2
      case roundEnd =>
        refine ⟨⟨i + 1, os.set q (x + c * 2 ^ s), by omega, by simp, ⟨by simp [hos.out.1], HOB.out.2.2.2.2, ?_⟩, ?_, ?_⟩, ?_⟩
        · rw [HOB.out.2.2.2.1, show n - (i + 1) = k by omega]
        · show World.ownsRow _ _ _ _ _ _ _
          rw [hor.out]
          exact own_set (own_ext hown.out hE2.out) _ _
        · exact ext_setCell (ext_trans hext.out hE2.out) hG0 _
        · simp [intOf]; omega
    · obtain rfl : i = n := by omega
      have hv : os = lim a := by
        refine val_inj _ _ hos.out.2.1 (lb_lim a) ?_ ?_
        · rw [hos.out.1]; exact HN.out.2.2
        · rw [val_lim, hos.out.2.2, Nat.sub_self, Nat.pow_zero, Nat.div_one, Nat.one_mul]
      subst hv
      have cb := (Below.cell (p := ⟨w.heap.size, 0, none⟩) hext.out hwl).trans cb0
      have cf := (Below.frozen (p := ⟨w.heap.size, 0, none⟩) hext.out hwl).trans cf0
      have hwr : w.heap.size < wr.heap.size := ext_lt hext.out _ hwl
      have hRd : Hid (RdO wr (some ⟨G, 0, none⟩) N N (lim a) none) := by
        obtain ⟨A', c', he, hR⟩ := Rd.own hown.out (lb_lim a)
        cases he
        exact ⟨hR, own_zero hown.out, (fun _ _ _ h => by cases h), rfl⟩
      go_wp2
      have hE9 := Lib.hid (ext_trans hE0.out hext.out)
      have hcr := World.cell?_setCell_same _ _ (.slice (some ⟨G, 0, none⟩) N N) cb
      refine bodyPost_ret (v := natV (some ⟨G, 0, none⟩) N N) ?h rfl ⟨_, _, _, rfl, ⟨hRd.out.set _ (fun x hx => by cases hx; exact hGw), fun x hx => by cases hx; exact Nat.le_of_lt hGw⟩, ext_setCell hE9.out (Nat.le_refl _) _⟩
      case h => simp [results, Tryz.results100, go_sem, hcr, natV]
end Go.Proofs.YtnkajjealkggdaaGreatDoor
end
