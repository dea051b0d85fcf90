/- Lemmas of this proof, laid together: MkM. -/
import Derived.Test.YtebgmicpecekgaaGreatDoorMg13
set_option linter.unusedSimpArgs false
set_option linter.unusedVariables false
section
/- Marks: Put of the program, a text that is written. -/
namespace Go.Proofs.YtebgmicpecekgaaGreatDoor
open Go.RowKit
attribute [local go_sem] bs_size bs_extract bs_get bs_append bs_toList const_get
attribute [local go_sem] sz2 sz3 sz4 sz5 sz6 sz7 sz8
attribute [local go_sem] D2.Oper.detAt D2.detUpon D2.relUpon
set_option maxHeartbeats 4000000
set_option maxRecDepth 100000
attribute [local irreducible] Calls
theorem i32_kind : Tryz.prog.underlying 21 = some (.int .i32) := by kernel_rfl
/-- A row of runes somewhere behind N. -/
def RRow (N : Nat) (L : List Int) : List Value → Value → World → Prop := fun _ v w => OwnR w N v L.length L
theorem stays_rrow (N : Nat) (L : List Int) : D2.Stays (RRow N L) := fun _ _ _ _ h he => own_ext h he
theorem rel_rrow {N : Nat} {L : List Int} {vals : List Value} {f : FuncId} {args : Array Value} {w : World} (hN : N ≤ w.heap.size) (h : Calls Tryz.prog f args w fun e w' => ∃ v, e = .returned v ∧ Ext w w' ∧ Hid (OwnR w' w.heap.size v L.length L)) :
    Calls Tryz.prog f args w fun e w' => ∃ v, e = .returned v ∧ Ext w w' ∧ D2.Fresh w v w' ∧ RRow N L vals v w' :=
  by
  refine h.mono ?_
  rintro e w' ⟨v, h1, h2, h3⟩
  refine ⟨v, h1, h2, ?_, own_base h3.out hN⟩
  intro b hb
  rcases h3.out.2 with ⟨rfl, _⟩ | ⟨g, cap, cur, rfl, _⟩
  · cases hb
  · cases hb
theorem drop_isD {l : List UInt8} {f e : Nat} (h : ∀ i, f ≤ i → i < e → isD (l.getD i 0) = true) (he : e ≤ l.length) : ∀ b ∈ (l.take e).drop f, isD b = true := by
  intro b hb
  obtain ⟨i, hi, rfl⟩ := List.mem_iff_getElem.1 hb
  rw [List.getElem_drop, List.getElem_take]
  have hi2 : f + i < e := by rw [List.length_drop, List.length_take] at hi; omega
  have := h (f + i) (by omega) hi2
  rwa [List.getD_eq_getElem?_getD, List.getElem?_eq_getElem (by omega : f + i < l.length)] at this
theorem own_shape {w : World} {base : Nat} {e : TypeId} {size n : Nat} {v : Value} {xs : List Value} (h : w.ownsRow base e size v n xs) : ∃ A c, v = .slice A n c := by
  rcases h.2 with ⟨rfl, rfl⟩ | ⟨g, cap, _, rfl, _⟩
  · exact ⟨none, 0, rfl⟩
  · exact ⟨_, _, rfl⟩
theorem mk_Put_main (P G M N : Int) (A : Option Addr) (k c : Nat) (xs : List Int) (l : List UInt8) (w : World) (hA : RdI w A k c xs) (hr0 : rdy P G M N xs l.length = 0) (f e : Nat) (hsh : shpB l = (-1, f, e)) :
    Calls Tryz.prog 8 #[mkV P G M N A k c, .string (bs l)] w fun r w' => ∃ v, r = .returned (.tuple #[.string (bs (putV P G M N xs l).1), v]) ∧ Ext w w' ∧ Hid (ErrIs w' v (putV P G M N xs l).2.1 (putV P G M N xs l).2.2) := by
  obtain ⟨hf1, hfe, hel, hm, hdg, hpl⟩ := shp_ok hsh
  have hl : l.length ≤ 65536 ∧ ckv P G M N xs = 0 := by
    unfold rdy at hr0
    split at hr0
    · rename_i q; exact absurd hr0 q
    · rename_i q
      split at hr0
      · cases hr0
      · exact ⟨by omega, by omega⟩
  obtain ⟨hN, hall, -, hso⟩ := szOk_of hA.len hl.2
  have hl1 := hl.1
  have e1 : Hid (Ext w (w.alloc (BoxM P G M N A k c))) := ext_alloc (ext_refl w) _
  have b1 := Lib.hid (MkAt.made w P G M N A k c)
  have kr := Lib.hid (mk_ready P G M N A k c xs l _ (hA.ext e1.out))
  have ks := Lib.hid (fun w' => mk_shape l (by omega) w')
  rw [hr0] at kr
  rw [hsh] at ks
  obtain ⟨d, hd⟩ : ∃ d, (l.take e).drop f = d := ⟨_, rfl⟩
  have hdd := drop_isD hdg hel
  rw [hd] at hdd
  have hdl : d.length = e - f := by rw [← hd, List.length_drop, List.length_take]; omega
  have kw := Lib.hid (fun w' h => mk_whole P G M N A k c xs d w' (hA.ext h) hso hN (by omega) hdd)
  have hpv : Hid (putV P G M N xs l = if 65536 < (runesBytes ((if 0 < f then [M] else []) ++ wholeN G N xs d d.length ++ (l.drop e).map (markB P M N))).data.toList.length then ([], 4, 0) else ((runesBytes ((if 0 < f then [M] else []) ++ wholeN G N xs d d.length ++ (l.drop e).map (markB P M N))).data.toList, 0, 0)) := by
    show _ = _
    unfold putV
    rw [if_neg (fun q => q hr0), hsh, if_neg (by show ¬ (0 : Int) ≤ -1; decide)]
    simp only [putL, hd]
  have hwl := wholeN_len G N xs d d.length
  have HN := Lib.hid hN
  have hb0 : (w.alloc (BoxM P G M N A k c)).heap.size = w.heap.size + 1 := by simp
  clear hA hr0 hsh hdd hall hso hdg
  go_enter Tryz.func8, Tryz.ntmps8
  go_upto_if 31 with (first
    | (go_at_call 17; (with_reducible refine (kr.out).mono ?_); rintro e1 w1 ⟨v, rfl, hE1, hV⟩; obtain rfl := errV_no hV.out)
    | (go_at_call 18; (with_reducible refine (ks.out _).mono ?_); rintro e2 w2 ⟨rfl, hE2⟩))
  have hE3 := Lib.hid (ext_trans hE1 hE2)
  have b3 := b1.out.ext hE3.out
  have hs3 := ext_size hE3.out
  obtain ⟨p0, p1, p2, p3, p4, pl⟩ := b3
  clear hV hE1 hE2
  obtain ⟨L0, hL0⟩ : ∃ L0 : List Int, (if 0 < f then [M] else []) = L0 := ⟨_, rfl⟩
  have hL0l : L0.length ≤ 1 := by rw [← hL0]; split <;> simp
  go_cut [10] (fun v10 wx => Hid (OwnR wx w2.heap.size v10 L0.length L0) ∧ Hid (Ext w2 wx))
  case first =>
    by_cases hf0 : 0 < f
    · obtain rfl : f = 1 := by omega
      rw [if_pos (by decide)] at hL0
      subst hL0
      have O0 : OwnR w2 w2.heap.size (.slice none 0 0) 0 [] := ⟨rfl, .inl ⟨rfl, rfl⟩⟩
      go_wp2_with (first
        | (at_builtin; refine push_i32 rfl _ _ rfl _ rfl (ext_refl _) (Nat.le_refl _) (Nat.le_refl _) O0 rfl M ⟨_, 0, none⟩ 1 rfl (by simp [go_sem, rV]) (by omega) ?_; intro v7 w7 hE7 hO7))
      go_meet
      case rel => exact ⟨hO7, hE7⟩
    · obtain rfl : f = 0 := by omega
      rw [if_neg (by decide)] at hL0
      subst hL0
      go_wp2
      go_meet
      case rel => exact ⟨⟨rfl, .inl ⟨rfl, rfl⟩⟩, ext_refl _⟩
  case rest =>
    obtain ⟨hO, hE4⟩ := hcut
    rename ∀ (a : Act) (w : World), Code.wp _ _ _ a w → _ => hK5
    refine hK5 _ _ ?_
    clear hK5
    clear p0 p1 p2 p3 p4 pl
    have hEc := Lib.hid (ext_trans hE3.out hE4.out)
    have bc := b1.out.ext hEc.out
    have lb := bc.lt
    have hwf : ∀ (n : Aft wc), Ext w n.out := fun n => ext_trans e1.out (ext_trans hEc.out n.use)
    obtain ⟨Lw, hLw⟩ : ∃ Lw, wholeN G N xs d d.length = Lw := ⟨_, rfl⟩
    have kw2 : Hid (∀ w', Ext w w' → Calls Tryz.prog 20 #[mkV P G M N A k c, .string (bs d)] w' fun e w'' => ∃ v, e = .returned v ∧ Ext w' w'' ∧ Hid (OwnR w'' w'.heap.size v Lw.length Lw)) := by rw [← hLw]; exact kw.out
    rw [hLw] at hwl
    have hpv2 := hpv.out
    rw [hL0, hLw] at hpv2
    have HPV := Lib.hid hpv2
    have hexd : (bs l).extract f e = bs d := by rw [bs_extract, hd]
    clear hpv hpv2 kw
    obtain ⟨A0, c0, hv0⟩ := own_shape hO.out
    subst hv0
    go_upto_region 10 with fail
    refine D2.wp_drawn_tail 7 (D2.tab [(6, RRow wc.heap.size Lw)]) (by kernel_rfl) (by kernel_rfl) (by kernel_rfl) (D2.tab_stays (by simp [stays_rrow])) (fun hq hqf => ?_)
    simp only [List.take_succ_cons, List.take_zero, List.drop_succ_cons, List.drop_zero]
    have p0 := bc.c0
    have p1 := bc.c1
    have p2 := bc.c2
    have p3 := bc.c3
    have p4 := bc.c4
    have hfe2 : f ≤ e := by omega
    iterate 6
      (refine D2.wpK_det rfl (fun K hK => ?_)
       go_simp
       first
         | (refine hK _ ?_; clear hK K)
         | (apply Exists.intro; refine ⟨fun x => ?_, hK _ ?_⟩; (first | rfl | (simp [p0, p1, p2, p3, p4]; done) | (simp [p0, p1, p2, p3, p4]; rfl)); clear hK K))
    refine D2.wpK_rel _ rfl rfl ?_ ?_
    · rintro _ ⟨nn, rfl⟩ _
      unfold D2.Oper.relAt
      go_simp
      exact rel_rrow (ext_size nn.use) (kw2.out _ (hwf nn))
    rintro v ⟨_, ⟨nn, rfl⟩, hr⟩
    have hr2 : OwnR nn.out wc.heap.size v Lw.length Lw := hr
    have hlw0 : 0 < Lw.length := by
      rw [← hLw]
      obtain ⟨j, hj⟩ : ∃ j, d.length = j + 1 := ⟨d.length - 1, by omega⟩
      rw [hj, wholeN]; simp; omega
    obtain ⟨gw, cw, rfl, -, -⟩ := hr2.form hlw0
    clear nn hr hr2
    refine D2.wpK_nil ?_
    intro nq hG
    have r6 : RRow wc.heap.size Lw [] (.slice (some ⟨gw, 0, none⟩) Lw.length cw) nq.out := by have := hG.fact 6; simp [D2.Facts.put] at this; exact this
    have hRw : OwnR nq.out wc.heap.size (.slice (some ⟨gw, 0, none⟩) Lw.length cw) Lw.length Lw := r6
    have hO1 : OwnR nq.out w2.heap.size (.slice A0 L0.length c0) L0.length L0 := own_ext hO.out nq.use
    have hE5 := Lib.hid (ext_trans hE4.out nq.use)
    have hs5 := ext_size hE5.out
    clear r6 hG
    have hstr := str_kind
    go_wp2_with (first
      | (at_builtin; refine push_all rfl _ _ rfl hE5.out (Nat.le_refl _) (by omega) hO1 rfl hRw rfl (by omega) ?_; intro v6 w6 hE6 hO6))
    obtain ⟨r, hr⟩ : ∃ r, l.drop e = r := ⟨_, rfl⟩
    have hrl : r.length ≤ 65536 := by rw [← hr, List.length_drop]; omega
    have hrp : ∀ i, i < r.length → PlB (r.getD i 0) := fun i hi => by
      rw [← hr, List.length_drop] at hi
      have := hpl (e + i) (by omega) (by omega)
      rw [← hr, List.getD_eq_getElem?_getD, List.getElem?_drop, ← List.getD_eq_getElem?_getD]
      exact this
    have HRP := Lib.hid hrp
    obtain ⟨L6, hL6⟩ : ∃ L6, L0 ++ Lw = L6 := ⟨_, rfl⟩
    have hL6l : L6.length = L0.length + Lw.length := by rw [← hL6, List.length_append]
    have hpv6 := HPV.out
    rw [hL6, hr] at hpv6
    have HPV6 := Lib.hid hpv6
    rw [hL6] at hO6
    have hO6' : Hid (OwnR w6 w2.heap.size v6 L6.length L6) := by rw [hL6l]; exact hO6.out
    have hE26 := hE6
    have hs6 := ext_size hE6
    have hlt0 : 0 < L6.length := by omega
    clear HPV hpv6 hO6 hrp hpl hRw hO1 hq hqf
    try rw [hr]
    go_loopg [10] r.length (fun gk v10 wr => ∃ i : Nat, gk = r.length - i ∧ i ≤ r.length ∧ Hid (wr.heap[w6.heap.size]? = some (.stringIter (bs r) i)) ∧ Hid (OwnR wr w2.heap.size v10 (L6.length + i) (L6 ++ (r.take i).map (markB P M N))) ∧ Hid (Ext w2 wr))
    case atStart => exact ⟨0, rfl, Nat.zero_le _, World.iter_heap w6 (bs r) 0, by
      have h1 := hO6'.out
      show World.ownsRow _ _ _ _ _ _ _
      have h2 := h1.alloc (.stringIter (bs r) 0)
      rw [List.take_zero, List.map_nil, List.append_nil, Nat.add_zero]
      exact h2, ext_alloc hE26 _⟩
    case round =>
      obtain ⟨i, rfl, hi, hit, hO7, hE7⟩ := hrel
      have hsz7 := ext_size hE7.out
      by_cases hlt : i < r.length
      · obtain ⟨x, hx⟩ : ∃ x, r.getD i 0 = x := ⟨_, rfl⟩
        have hxp := HRP.out i hlt
        rw [hx] at hxp
        have hx128 : x.toNat < 128 := by
          rcases hxp with rfl | rfl | rfl | h
          · decide
          · decide
          · decide
          · have : 48 ≤ x.toNat ∧ x.toNat ≤ 57 := by simpa [isD] using h
            omega
        obtain ⟨W8, hW8⟩ : ∃ W8, W8 = wr.iterAt w6.heap.size (bs r) (i + 1) := ⟨_, rfl⟩
        have hxg : r[i] = x := by rw [← hx, List.getD_eq_getElem?_getD, List.getElem?_eq_getElem hlt]; rfl
        have hnx : ∀ ty, (Instr.next (.pointer (some ⟨w6.heap.size, 0, none⟩)) true ty).run Tryz.prog wr = .ok (.tuple #[.bool true, .int .i64 i, .int .i32 x.toNat]) W8 := fun ty => by
          have := Lib.run_next_ascii_at (P := Tryz.prog) wr w6.heap.size (bs r) i ty hit.out (by rw [bs_size]; exact hlt) (by rw [bs_get, hxg]; exact hx128)
          rw [bs_get, hxg] at this
          rw [hW8]; exact this
        have hit8 : Hid (W8.heap[w6.heap.size]? = some (.stringIter (bs r) (i + 1))) := by rw [hW8]; exact Lib.iterAt_heap _ _ _ _ _ hit.out
        have hO8 : Hid (OwnR W8 w2.heap.size u10 (L6.length + i) (L6 ++ (r.take i).map (markB P M N))) := by rw [hW8]; exact own_iter hO7.out hit.out _
        have hE8 : Hid (Ext w2 W8) := by rw [hW8]; exact Lib.below_iterAt hE7.out hs6 _ _
        have hs8 := ext_size hE8.out
        obtain ⟨p0, p1, p2, p3, p4, pl⟩ := (b1.out.ext hE3.out).ext hE8.out
        have hfin : ∀ (v9 : Value) (w9 : World) (y : Int), y = markB P M N x → Ext w2 w9 → Hid (OwnR w9 w2.heap.size v9 (L6.length + i + 1) (L6 ++ (r.take i).map (markB P M N) ++ [y])) → w9.heap[w6.heap.size]? = some (.stringIter (bs r) (i + 1)) →
            ∃ i' : Nat, r.length - (i + 1) = r.length - i' ∧ i' ≤ r.length ∧ Hid (w9.heap[w6.heap.size]? = some (.stringIter (bs r) i')) ∧ Hid (OwnR w9 w2.heap.size v9 (L6.length + i') (L6 ++ (r.take i').map (markB P M N))) ∧ Hid (Ext w2 w9) := fun v9 w9 y h1 h2 h3 h4 =>
          ⟨i + 1, rfl, by omega, h4, by
            have h5 := h3.out
            rw [h1, List.append_assoc] at h5
            show World.ownsRow _ _ _ _ _ _ _
            have e5 : (r.take (i + 1)).map (markB P M N) = (r.take i).map (markB P M N) ++ [markB P M N x] := by rw [List.take_succ_eq_append_getElem hlt, hxg, List.map_append]; rfl
            rw [e5]
            exact h5, h2⟩
        have HF := Lib.hid hfin
        clear hW8 hfin hit hO7 hE7 hx hxg
        by_cases h46 : x = 46
        · have hmk : Hid (P = markB P M N x) := by show _ = _; unfold markB; rw [if_pos h46]
          have q46 : ((x.toNat : Int) == 46) = true := by subst h46; rfl
          go_wp2_with (first
            | (at_builtin; refine push_i32g rfl _ _ rfl _ rfl hE8.out (Nat.le_refl _) (by omega) hO8.out rfl (P) ⟨_, 0, none⟩ 1 rfl (by simp [go_sem, rV]) (by omega) ?_; intro v9 w9 hE9 hO9 hK9))
          go_roundg (r.length - (i + 1))
          case measure => omega
          case rel => exact HF.out _ _ (P) hmk.out hE9 hO9 (hK9.out _ _ hit8.out (own_not_iter hO8.out hit8.out))
        · by_cases h45 : x = 45
          · have hmk : Hid (M = markB P M N x) := by show _ = _; unfold markB; rw [if_neg h46, if_pos h45]
            have q46 : ((x.toNat : Int) == 46) = false := by subst h45; rfl
            have q45 : ((x.toNat : Int) == 45) = true := by subst h45; rfl
            go_wp2_with (first
              | (at_builtin; refine push_i32g rfl _ _ rfl _ rfl hE8.out (Nat.le_refl _) (by omega) hO8.out rfl (M) ⟨_, 0, none⟩ 1 rfl (by simp [go_sem, rV]) (by omega) ?_; intro v9 w9 hE9 hO9 hK9))
            go_roundg (r.length - (i + 1))
            case measure => omega
            case rel => exact HF.out _ _ (M) hmk.out hE9 hO9 (hK9.out _ _ hit8.out (own_not_iter hO8.out hit8.out))
          · by_cases h101 : x = 101
            · have hmk : Hid (101 = markB P M N x) := by show _ = _; unfold markB; rw [if_neg h46, if_neg h45, if_pos h101]
              have q46 : ((x.toNat : Int) == 46) = false := by subst h101; rfl
              have q45 : ((x.toNat : Int) == 45) = false := by subst h101; rfl
              have q101 : ((x.toNat : Int) == 101) = true := by subst h101; rfl
              go_wp2_with (first
                | (at_builtin; refine push_i32g rfl _ _ rfl _ rfl hE8.out (Nat.le_refl _) (by omega) hO8.out rfl (101) ⟨_, 0, none⟩ 1 rfl (by simp [go_sem, rV]) (by omega) ?_; intro v9 w9 hE9 hO9 hK9))
              go_roundg (r.length - (i + 1))
              case measure => omega
              case rel => exact HF.out _ _ (101) hmk.out hE9 hO9 (hK9.out _ _ hit8.out (own_not_iter hO8.out hit8.out))
            · have hmk : Hid ((x.toNat : Int) + (N - 48) = markB P M N x) := by show _ = _; unfold markB; rw [if_neg h46, if_neg h45, if_neg h101]
              have hd9 : 48 ≤ x.toNat ∧ x.toNat ≤ 57 := by
                rcases hxp with h | h | h | h
                · exact absurd h h46
                · exact absurd h h45
                · exact absurd h h101
                · simpa [isD] using h
              have q46 : ((x.toNat : Int) == 46) = false := by simp; omega
              have q45 : ((x.toNat : Int) == 45) = false := by
                have : x.toNat ≠ 45 := by omega
                simp; omega
              have q101 : ((x.toNat : Int) == 101) = false := by simp; omega
              go_wp2_with (first
                | (at_builtin; refine push_i32g rfl _ _ rfl _ rfl hE8.out (Nat.le_refl _) (by omega) hO8.out rfl ((x.toNat : Int) + (N - 48)) ⟨_, 0, none⟩ 1 rfl (by simp [go_sem, rV]) (by omega) ?_; intro v9 w9 hE9 hO9 hK9))
              go_roundg (r.length - (i + 1))
              case measure => omega
              case rel => exact HF.out _ _ ((x.toNat : Int) + (N - 48)) hmk.out hE9 hO9 (hK9.out _ _ hit8.out (own_not_iter hO8.out hit8.out))
      · obtain rfl : i = r.length := by omega
        have hnx := fun ty => Lib.run_next_end_at (P := Tryz.prog) wr w6.heap.size (bs r) r.length ty hit.out (by rw [bs_size]; omega)
        obtain ⟨Lz, hLz⟩ : ∃ Lz, L6 ++ r.map (markB P M N) = Lz := ⟨_, rfl⟩
        have hLzl : Lz.length = L6.length + r.length := by rw [← hLz]; simp
        have hOz : OwnR wr w2.heap.size u10 Lz.length Lz := by
          have h1 := hO7.out
          rw [List.take_of_length_le (Nat.le_refl _), hLz] at h1
          rw [hLzl]; exact h1
        obtain ⟨g9, c9, hv9, -, -⟩ := hOz.form (by omega)
        subst hv9
        obtain ⟨tb, htb⟩ := bs_of (runesBytes Lz)
        have hconv : ∀ ty : Unit, (convert 47 9 (.slice (some ⟨g9, 0, none⟩) Lz.length c9)).run Tryz.prog wr = .ok (.string (bs tb)) wr := fun _ => by
          have := run_convert_runes (P := Tryz.prog) wr 47 9 21 ⟨g9, 0, none⟩ Lz.length c9 Lz (Nat.le_refl _) i32_under i32_kind str_kind (fun j hj => hOz.cells rfl j _ (by
            rw [List.getElem?_map, List.getElem?_eq_getElem hj, List.getD_eq_getElem?_getD, List.getElem?_eq_getElem hj]; rfl))
          rw [List.take_of_length_le (Nat.le_refl _), htb] at this
          exact this
        have hcv := hconv ()
        have hpz := HPV6.out
        rw [hLz, htb, bs_data] at hpz
        have HPZ := Lib.hid hpz
        have hfw : Ext w wr := ext_trans e1.out (ext_trans hE3.out hE7.out)
        clear hconv hpz hOz HPV6 hLzl hLz hL6l hL6 htb
        by_cases hbig : 65536 < tb.length
        · have hbig' : (65536 : Int) < (tb.length : Int) := by omega
          have hpe := HPZ.out
          rw [if_pos hbig] at hpe
          have HPE := Lib.hid hpe
          clear hpe
          go_wp2_with (first
            | (go_at_call 19; (with_reducible refine (mk_no 4 0 (by decide) _).mono ?_); rintro e3 w3 ⟨v3, rfl, hE9, hV3⟩))
          refine bodyPost_ret (v := .tuple #[.string (bs []), v3]) ?h rfl ⟨v3, by rw [HPE.out], ext_trans hfw hE9, by rw [HPE.out]; exact hV3⟩
          case h => simp [results, Tryz.results8, go_sem]; rfl
        · have hbig' : ¬ (65536 : Int) < (tb.length : Int) := by omega
          have hpe := HPZ.out
          rw [if_neg hbig] at hpe
          have HPE := Lib.hid hpe
          clear hpe
          go_wp2
          refine bodyPost_ret (v := .tuple #[.string (bs tb), .nilIface]) ?h rfl ⟨.nilIface, by rw [HPE.out], hfw, by rw [HPE.out]; exact .inl ⟨rfl, rfl⟩⟩
          case h => simp [results, Tryz.results8, go_sem]
theorem mk_Put (P G M N : Int) (A : Option Addr) (k c : Nat) (xs : List Int) (l : List UInt8) (w : World) (hA : RdI w A k c xs) :
    Calls Tryz.prog 8 #[mkV P G M N A k c, .string (bs l)] w fun r w' => ∃ v, r = .returned (.tuple #[.string (bs (putV P G M N xs l).1), v]) ∧ Ext w w' ∧ Hid (ErrIs w' v (putV P G M N xs l).2.1 (putV P G M N xs l).2.2) := by
  by_cases h0 : rdy P G M N xs l.length = 0
  · by_cases h1 : 0 ≤ (shpB l).1
    · exact mk_Put_early P G M N A k c xs l w hA (.inr h1)
    · obtain ⟨f, e, hs⟩ : ∃ f e, shpB l = (-1, f, e) := by
        obtain ⟨f0, hf0⟩ : ∃ f0 : Nat, (if l[0]? = some 45 then 1 else 0) = f0 := ⟨_, rfl⟩
        obtain ⟨p, pb, hp⟩ : ∃ p pb, ptS l (f0 + rowN l f0) = (p, pb) := ⟨_, _, rfl⟩
        obtain ⟨q, qb, hq⟩ : ∃ q qb, exS l p = (q, qb) := ⟨_, _, rfl⟩
        unfold shpB at h1 ⊢
        simp only [hf0, hp, hq] at h1 ⊢
        split at h1
        · exact (h1 (Int.natCast_nonneg _)).elim
        rename_i q1
        rw [if_neg q1]
        split at h1
        · exact (h1 (Int.natCast_nonneg _)).elim
        rename_i q2
        rw [if_neg q2]
        split at h1
        · exact (h1 (Int.natCast_nonneg _)).elim
        rename_i q3
        rw [if_neg q3]
        split at h1
        · exact (h1 (Int.natCast_nonneg _)).elim
        rename_i q4
        rw [if_neg q4]
        exact ⟨_, _, rfl⟩
      exact mk_Put_main P G M N A k c xs l w hA h0 f e hs
  · exact mk_Put_early P G M N A k c xs l w hA (.inl h0)
end Go.Proofs.YtebgmicpecekgaaGreatDoor
end
