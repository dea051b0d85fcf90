/- Lemmas of this proof, laid together: MdF. -/
import Derived.Test.YtebgmicpecekgaaGreatDoorMg17
set_option linter.unusedSimpArgs false
set_option linter.unusedVariables false
section
/- Marks: the document's answer: Put, a text that is gone through. -/
namespace Go.Proofs.YtebgmicpecekgaaGreatDoor
open Go.RowKit
attribute [local go_sem] bs_size bs_extract bs_get bs_append bs_toList const_get
attribute [local go_sem] D2.Oper.detAt D2.detUpon D2.relUpon
attribute [local irreducible] Calls
set_option maxHeartbeats 4000000
set_option maxRecDepth 100000
/-- A text's bytes as runes. -/
def byI (l : List UInt8) : List Int := l.map (fun b => (b.toNat : Int))
theorem byI_enc (l : List UInt8) : (byI l).map encB = l := by
  unfold byI
  rw [List.map_map]
  conv => rhs; rw [← List.map_id l]
  exact List.map_congr_left (fun b _ => encB_byte b)
theorem byI_len (l : List UInt8) : (byI l).length = l.length := by unfold byI; simp
theorem byI_snoc {l : List UInt8} {i : Nat} (h : i < l.length) : byI (l.take (i + 1)) = byI (l.take i) ++ [((l.getD i 0).toNat : Int)] := by
  unfold byI
  rw [List.take_succ_eq_append_getElem h, List.map_append, List.getD_eq_getElem?_getD, List.getElem?_eq_getElem h]; rfl
theorem set_mid {P M N : Int} {l : List UInt8} {i : Nat} (h : i < l.length) : ((l.take i).map (markB P M N) ++ byI (l.drop i)).set i (markB P M N l[i]) = (l.take (i + 1)).map (markB P M N) ++ byI (l.drop (i + 1)) := by
  have hll : ((l.take i).map (markB P M N)).length = i := by rw [List.length_map, List.length_take]; omega
  rw [List.set_append_right _ _ (by omega), hll, Nat.sub_self, List.drop_eq_getElem_cons h, List.take_succ_eq_append_getElem h, List.map_append]
  unfold byI
  rw [List.map_cons, List.set_cons_zero, List.append_assoc]; rfl
theorem put_list {P G M N : Int} {xs : List Int} {l : List UInt8} {f e : Nat} (hs : shpB l = (-1, f, e)) : (l.map (markB P M N)).take f ++ grpN G xs (((l.map (markB P M N)).take e).drop f) (e - f) ++ (l.map (markB P M N)).drop e = putL P G M N xs l f e := by
  obtain ⟨h1, h2, h3, h4, h5, h6⟩ := shp_ok hs
  have hdd := drop_isD h5 h3
  have hdl : ((l.take e).drop f).length = e - f := by rw [List.length_drop, List.length_take]; omega
  unfold putL
  rw [whole_grp G N xs _ _ (Nat.le_refl _), hdl, ← List.map_take, ← List.map_take, ← List.map_drop, ← List.map_drop]
  have e1 : (l.take f).map (markB P M N) = if 0 < f then [M] else [] := by
    rcases h4 with ⟨h7, rfl⟩ | ⟨_, rfl⟩
    · cases l with
      | nil => simp at h7
      | cons a t => simp at h7; subst h7; rfl
    · simp
  have e2 : ((l.take e).drop f).map (markB P M N) = ((l.take e).drop f).map (fun b => N + ((b.toNat : Int) - 48)) := List.map_congr_left (fun b hb => markB_dig (hdd b hb))
  rw [e1, e2]
theorem rd_some {w : World} {A : Option Addr} {n c : Nat} {xs : List Int} (h : RdR w A n c xs) (h0 : 0 < xs.length) : ∃ b off, A = some ⟨b, off, none⟩ := by
  rcases h.shape with ⟨_, _, _, rfl⟩ | q
  · simp at h0
  · exact q
theorem grp_len (G : Int) (xs L : List Int) : ∀ i, (grpN G xs L i).length ≤ 2 * i ∧ i ≤ (grpN G xs L i).length
  | 0 => by simp [grpN]
  | i + 1 => by
    have := grp_len G xs L i
    rw [grpN]
    split <;> simp <;> omega
/-- A row of runes that lies somewhere, old or new. -/
def RdRow (L : List Int) : List Value → Value → World → Prop := fun _ v w => ∃ b off n c, v = .slice (some ⟨b, off, none⟩) n c ∧ RdR w (some ⟨b, off, none⟩) n c L
theorem stays_rdrow (L : List Int) : D2.Stays (RdRow L) := fun _ _ _ _ ⟨b, off, n, c, h1, h2⟩ he => ⟨b, off, n, c, h1, h2.ext he⟩
theorem rel_rdrow {L : List Int} {vals : List Value} {f : FuncId} {args : Array Value} {w : World} {m : Nat} (h : Calls Tryz.prog f args w fun e w' => ∃ b off n c, e = .returned (.slice (some ⟨b, off, none⟩) n c) ∧ Ext w w' ∧ n ≤ m ∧ Hid (RdR w' (some ⟨b, off, none⟩) n c L)) :
    Calls Tryz.prog f args w fun e w' => ∃ v, e = .returned v ∧ Ext w w' ∧ D2.Fresh w v w' ∧ RdRow L vals v w' := by
  refine h.mono ?_
  rintro e w' ⟨b, off, n, c, h1, h2, _, h3⟩
  refine ⟨_, h1, h2, ?_, b, off, n, c, rfl, h3.out⟩
  intro b hb
  cases hb
theorem md_Put_main (P G M N : Int) (A : Option Addr) (k c : Nat) (xs : List Int) (l : List UInt8) (w : World) (hA : RdI w A k c xs) (hNb : -2147483648 ≤ N ∧ N ≤ 2147483647) (h : rdy P G M N xs l.length = 0) :
    Calls Tryz.prog 10 #[mkV P G M N A k c, .string (bs l)] w fun e w' => e = .returned (.tuple #[.string (bs (putV P G M N xs l).1), .agg #[.int .i64 (putV P G M N xs l).2.1, .int .i64 (putV P G M N xs l).2.2]]) ∧ Ext w w' := by
  obtain ⟨hck, hl⟩ := rdy_ok h
  obtain ⟨hN, hall, -, hso⟩ := szOk_of hA.len hck
  have e0 := Lib.hid (fx_ext w P G M N A k c)
  have b1 := Lib.hid (fx_marks w P G M N A k c)
  have fx := Lib.hid (fx_made w P G M N A k c)
  have kc := Lib.hid (fun w' (h : Ext w w') => md_Check P G M N A k c xs w' (hA.ext h) hNb)
  rw [hck] at kc
  have kp := Lib.hid (fun (B : Option Addr) (n d : Nat) (w' : World) (h : RdR w' B n d (byI l)) => md_plain B n d (byI l) w' h)
  rw [byI_enc] at kp
  have HA := Lib.hid hA
  have HSO := Lib.hid hso
  have HN := Lib.hid hN
  have hl2 : ¬ (65536 : Int) < (l.length : Int) := by omega
  have HR := Lib.hid h
  clear hck hA hNb h hso hall hN
  go_enter Tryz.func10, Tryz.ntmps10
  go_wp2_with (first
    | (go_at_call 22; (with_reducible refine (kc.out _ (by (repeat (first | exact ext_refl _ | assumption | refine ext_setCell ?_ (by simp; try omega) _ | refine ext_alloc ?_ _ | refine ext_drew ?_ | refine ext_drewN ?_ _ | refine ext_trans ?_ (Aft.use _) | refine ext_trans ?_ (by assumption))))).mono ?_); rintro e w1 ⟨rfl, hE1⟩; have hX1 := Lib.hid hE1))
  go_loopw [7, 8] (fun vl vi wr => ∃ i : Nat, i ≤ l.length ∧ vi = .int .i64 i ∧ Hid (OwnR wr (w.heap.size + 1 + 1) vl i (byI (l.take i))) ∧ Hid (Ext (FxW w P G M N A k c) wr)) (fun _ vi _ => l.length - (intOf vi).toNat)
  case atStart => exact ⟨0, Nat.zero_le _, rfl, ⟨rfl, .inl ⟨rfl, rfl⟩⟩, hX1⟩
  case round =>
    obtain ⟨i, hi, rfl, hO, hE⟩ := hrel
    have hsz := ext_size hE.out
    have hsz2 : w.heap.size + 1 + 1 ≤ wr.heap.size := by simpa using hsz
    by_cases hlt : i < l.length
    · have hlt2 : (i : Int) < (l.length : Int) := by omega
      have hd0 : decide ((i : Int) < (l.length : Int)) = true := decide_eq_true hlt2
      obtain ⟨x, hx⟩ : ∃ x, l.getD i 0 = x := ⟨_, rfl⟩
      have hxg : l[i] = x := by rw [← hx, List.getD_eq_getElem?_getD, List.getElem?_eq_getElem hlt]; rfl
      have hsn := byI_snoc hlt
      rw [hx] at hsn
      have HSN := Lib.hid hsn
      have hx255 : x.toNat ≤ 255 := by have := x.toNat_lt; omega
      clear hsn hx
      go_wp2_with (first
        | (at_builtin; refine push_i32g rfl _ _ rfl _ rfl hE.out (base := w.heap.size + 1 + 1) (by simp) hsz2 hO.out rfl (x.toNat : Int) ⟨_, 0, none⟩ 1 rfl (by simp [go_sem, rV, hxg]; done) (by omega) ?_; intro v9 w9 hE9 hO9 hK9))
      exact ⟨⟨i + 1, by omega, by go_num, by rw [HSN.out]; exact hO9, hE9⟩, by simp [intOf] <;> omega⟩
    · obtain rfl : i = l.length := by omega
      rw [List.take_of_length_le (Nat.le_refl _)] at hO
      have hd0 : decide ((l.length : Int) < (l.length : Int)) = false := decide_eq_false (by omega)
      obtain ⟨B, d, rfl⟩ := own_shape hO.out
      have HB := Lib.hid (RdR.own hO.out).1
      obtain ⟨bad, f, e, hs⟩ : ∃ bad f e, shpB l = (bad, f, e) := ⟨_, _, _, rfl⟩
      have kq := Lib.hid (kp.out B l.length d wr HB.out)
      rw [hs] at kq
      have hm1 := shpB_m1 l
      rw [hs] at hm1
      dsimp only at hm1
      have HS := Lib.hid hs
      have hcap := HB.out.cap
      have hmx := HB.out.mx
      have HO := Lib.hid hO.out
      clear kp hs hO
      by_cases hb : 0 ≤ bad
      · have hv : putV P G M N xs l = ([], 12, bad) := by unfold putV; rw [if_neg (fun q => q HR.out), HS.out, if_pos hb]
        have HV := Lib.hid hv
        have hb2 : decide (0 ≤ bad) = true := decide_eq_true hb
        clear hv
        go_wp2_with (first
          | (go_at_call 24; (with_reducible refine (kq.out).mono ?_); rintro e w2 ⟨rfl, hE2⟩; have hX2 := ext_trans hE.out hE2)
          | (go_at_call 23; (with_reducible refine (md_no 12 bad _).mono ?_); rintro e w3 ⟨rfl, hE3⟩; have hX3 := ext_trans hX2 hE3; obtain ⟨r0, r1, f0, f1, rl⟩ := fx.out.ext hX3))
        refine bodyPost_ret (v := .tuple #[.string (bs []), .agg #[.int .i64 12, .int .i64 bad]]) ?h rfl ⟨by rw [HV.out], fx_set hX3 _ _⟩
        case h => simp [results, Tryz.results10, go_sem, r0, r1]; rfl
      · obtain rfl : bad = -1 := by omega
        go_wp2_with (first
          | (go_at_call 24; (with_reducible refine (kq.out).mono ?_); rintro e w2 ⟨rfl, hE2⟩; have hX2 := ext_trans hE.out hE2; have hO2 := Lib.hid (own_ext HO.out hE2)))
        obtain ⟨hf1, hfe, hel, hm45, hdg, hpl⟩ := shp_ok HS.out
        obtain ⟨g, rfl⟩ : ∃ g, B = some ⟨g, 0, none⟩ := by
          obtain ⟨g, c2, hv, _⟩ := own_get HO.out (by omega)
          cases hv; exact ⟨g, rfl⟩
        have hX2' := Lib.hid hX2
        have hs2 := ext_size hX2
        have hs2' : w.heap.size + 1 + 1 ≤ w2.heap.size := by simpa using hs2
        clear kq HB hE hE2 HO
        go_loopw [12] (fun vi wr => ∃ i : Nat, i ≤ l.length ∧ vi = .int .i64 i ∧ Hid (OwnR wr (w.heap.size + 1 + 1) (.slice (some ⟨g, 0, none⟩) l.length d) l.length ((l.take i).map (markB P M N) ++ byI (l.drop i))) ∧ Hid (Ext (FxW w P G M N A k c) wr)) (fun vi _ => l.length - (intOf vi).toNat)
        case atStart => exact ⟨0, Nat.zero_le _, rfl, hO2, hX2'⟩
        case round =>
          obtain ⟨i, hi, rfl, hO, hE⟩ := hrel
          have hsz := ext_size hE.out
          have hsz2 : w.heap.size + 1 + 1 ≤ wr.heap.size := by simpa using hsz
          by_cases hlt : i < l.length
          · have hlt2 : (i : Int) < (l.length : Int) := by omega
            have hd0 : decide ((i : Int) < (l.length : Int)) = true := decide_eq_true hlt2
            obtain ⟨x, hx⟩ : ∃ x, l[i] = x := ⟨_, rfl⟩
            have hx255 : (x.toNat : Int) ≤ 255 := by have := x.toNat_lt; omega
            have kmk := Lib.hid (fun w' => md_marked P G M N A k c (x.toNat : Int) ⟨by omega, hx255⟩ HN.out w')
            rw [mrkI_byte] at kmk
            obtain ⟨y, hy⟩ : ∃ y, markB P M N x = y := ⟨_, rfl⟩
            rw [hy] at kmk
            have hll : ((l.take i).map (markB P M N)).length = i := by rw [List.length_map, List.length_take]; omega
            have hgl : g < wr.heap.size := own_lt (own_zero hO.out) rfl
            have hcx : Hid (∀ w', Ext wr w' → w'.cell? ⟨g, i, none⟩ = some (.int .i32 x.toNat) ∧ w'.frozen? ⟨g, i, none⟩ = false ∧ g < w'.heap.size) := Lib.hid (fun w' h => by
              have h1 := (own_ext hO.out h).cellAt i (by first | omega | (simp [byI]; omega))
              have h2 := (own_ext hO.out h).frozenAt i
              refine ⟨?_, h2, Nat.lt_of_lt_of_le hgl (ext_size h)⟩
              rw [h1, List.getElem?_map, List.getElem?_append_right (by omega), hll, Nat.sub_self]
              unfold byI
              rw [List.getElem?_map, List.getElem?_drop, Nat.add_zero, List.getElem?_eq_getElem hlt, hx]; rfl)
            obtain ⟨c0, cf, cl⟩ := hcx.out wr (ext_refl _)
            obtain ⟨p0, p1, p2, p3, p4, pl⟩ := b1.out.ext hE.out
            have hbg : w.heap.size + 1 + 1 ≤ g := (own_at_block hO.out rfl).1
            have hst : ∀ w3, Ext wr w3 → Hid (OwnR (w3.setCell ⟨g, i, none⟩ (.int .i32 y)) (w.heap.size + 1 + 1) (.slice (some ⟨g, 0, none⟩) l.length d) l.length ((l.take (i + 1)).map (markB P M N) ++ byI (l.drop (i + 1)))) := fun w3 h3 => by
              have q := ((own_ext hO.out h3).stored i (rV y)).1
              show World.ownsRow _ _ _ _ _ _ _
              rw [← set_mid hlt, hx, hy, List.map_set]
              exact q
            have hes : ∀ w3, Ext wr w3 → Hid (Ext (FxW w P G M N A k c) (w3.setCell ⟨g, i, none⟩ (.int .i32 y))) := fun w3 h3 => ext_setCell (ext_trans hE.out h3) (by simp; omega) _
            go_wp2
            go_region_with (first
              | (go_at_call 25; (with_reducible refine (kmk.out _).mono ?_); rintro e w3 ⟨rfl, hE3⟩; have hE3' : Ext wr w3 := (by have q := hE3; (repeat (first | exact ext_refl _ | assumption | refine ext_setCell ?_ (by simp; try omega) _ | refine ext_alloc ?_ _ | refine ext_drew ?_ | refine ext_drewN ?_ _ | refine ext_trans ?_ (Aft.use _) | refine ext_trans ?_ (by assumption)))); obtain ⟨c9, cf9, cl9⟩ := hcx.out w3 hE3'))
            all_goals go_wp2
            all_goals exact ⟨⟨i + 1, by omega, by go_num, hst _ hE3', hes _ hE3'⟩, by simp [intOf] <;> omega⟩
          · obtain rfl : i = l.length := by omega
            rw [List.take_of_length_le (Nat.le_refl _), List.drop_of_length_le (Nat.le_refl _), show byI [] = [] from rfl, List.append_nil] at hO
            have hd0 : decide ((l.length : Int) < (l.length : Int)) = false := decide_eq_false (by omega)
            obtain ⟨Lm, hLm⟩ : ∃ Lm, l.map (markB P M N) = Lm := ⟨_, rfl⟩
            have hpl2 := put_list (P := P) (G := G) (M := M) (N := N) (xs := xs) HS.out
            rw [hLm] at hO hpl2
            have HPL := Lib.hid hpl2
            have HRm := Lib.hid (RdR.own hO.out).1
            have hEr := Lib.hid (ext_trans e0.out hE.out)
            have s1 := Lib.hid (fun w' (h : Ext wr w') => show RdR w' (some ⟨g, 0, none⟩) f d (Lm.take f) from by
              have := ((HRm.out.ext h).sub 0 f (Nat.zero_le _) (by omega))
              rw [Nat.sub_zero, Nat.sub_zero, List.drop_zero] at this
              exact this)
            have s2 := Lib.hid (fun w' (h : Ext wr w') => show RdR w' (some ⟨g, f, none⟩) (e - f) (d - f) ((Lm.take e).drop f) from by
              have := ((HRm.out.ext h).sub f e (by omega) (by omega))
              rw [Nat.zero_add] at this
              exact this)
            have s3 := Lib.hid (fun w' (h : Ext wr w') => show RdR w' (some ⟨g, e, none⟩) (l.length - e) (d - e) (Lm.drop e) from by
              have := ((HRm.out.ext h).sub e l.length (by omega) (by omega))
              rw [Nat.zero_add, List.take_of_length_le (by rw [← hLm, List.length_map]; omega)] at this
              exact this)
            have kg := Lib.hid (fun w' (h : Ext wr w') => md_grouped P G M N A k c xs (some ⟨g, f, none⟩) (e - f) (d - f) ((Lm.take e).drop f) w' (HA.out.ext (ext_trans hEr.out h)) HSO.out (s2.out w' h) (by omega))
            have hfe2 : f ≤ e := by omega
            obtain ⟨p0, p1, p2, p3, p4, pl⟩ := b1.out.ext hE.out
            have hOn : OwnR wr wr.heap.size (.slice none 0 0) 0 [] := ⟨rfl, .inl ⟨rfl, rfl⟩⟩
            clear hO hdg hpl hpl2 hLm
            have hgl := Lib.hid (grp_len G xs ((Lm.take e).drop f) (e - f))
            have kg2 := Lib.hid (fun w' (h : Ext wr w') => (kg.out w' h).mono (fun ev w'' (hh : ∃ A' n' c', ev = .returned (.slice A' n' c') ∧ Ext w' w'' ∧ Hid (RdR w'' A' n' c' (grpN G xs ((Lm.take e).drop f) (e - f)))) => show ∃ b off n' c', ev = .returned (.slice (some ⟨b, off, none⟩) n' c') ∧ Ext w' w'' ∧ n' ≤ 131072 ∧ Hid (RdR w'' (some ⟨b, off, none⟩) n' c' (grpN G xs ((Lm.take e).drop f) (e - f))) from by
              obtain ⟨A', n', c', h1, h2, h3⟩ := hh
              have h4 := hgl.out
              obtain ⟨b, off, rfl⟩ := rd_some h3.out (by omega)
              have h5 := h3.out.len
              exact ⟨b, off, n', c', h1, h2, by omega, h3⟩))
            clear kg
            go_wp2_with (first
              | (at_builtin; refine push_runes rfl _ _ rfl (ext_refl wr) (Nat.le_refl _) (Nat.le_refl _) hOn rfl (s1.out wr (ext_refl _)) rfl (by omega) ?_; intro v9 w9 hE9 hO9; obtain ⟨A9, c9, rfl⟩ := own_shape hO9.out; have hX9 := Lib.hid (ext_trans hE.out hE9); obtain ⟨p0, p1, p2, p3, p4, pl⟩ := b1.out.ext hX9.out))
            have hs9 := ext_size hE9
            have hO9' := hO9.out
            rw [Nat.zero_add, List.nil_append] at hO9'
            have hX0 := hE
            clear hE
            have hed : e ≤ d := by omega
            have hdf : ¬ d = f := by omega
            refine D2.wp_drawn_tail 7 (D2.tab [(6, RdRow (grpN G xs ((Lm.take e).drop f) (e - f)))]) (by kernel_rfl) (by kernel_rfl) (by kernel_rfl) (D2.tab_stays (by simp [stays_rdrow])) (fun hq hqf => ?_)
            simp only [List.take_succ_cons, List.take_zero, List.drop_succ_cons, List.drop_zero]
            iterate 6
              (refine D2.wpK_det rfl (fun K hK => ?_)
               go_simp
               first
                 | (refine hK _ ?_; clear hK K)
                 | (apply Exists.intro; refine ⟨fun x => ?_, hK _ ?_⟩; (first | rfl | (simp [p0, p1, p2, p3, p4]; done) | (simp [p0, p1, p2, p3, p4]; rfl) | (simp [hed, hdf]; done) | (rw [if_pos hed, if_neg hdf]; exact ⟨rfl, rfl⟩)); clear hK K))
            refine D2.wpK_rel _ rfl rfl ?_ ?_
            · rintro _ ⟨nn, rfl⟩ _
              unfold D2.Oper.relAt
              go_simp
              exact rel_rdrow (kg2.out _ (ext_trans hE9 nn.use))
            rintro v ⟨_, ⟨nn, rfl⟩, hr⟩
            obtain ⟨gb, go, n10, c10, rfl, -⟩ := hr
            clear nn
            refine D2.wpK_nil ?_
            intro nq hG
            have r6 : RdRow (grpN G xs ((Lm.take e).drop f) (e - f)) [] (.slice (some ⟨gb, go, none⟩) n10 c10) nq.out := by have := hG.fact 6; simp [D2.Facts.put] at this; exact this
            have hR10 : RdR nq.out (some ⟨gb, go, none⟩) n10 c10 (grpN G xs ((Lm.take e).drop f) (e - f)) := by
              obtain ⟨b', o', n', c', h1, h2⟩ := r6
              cases h1; exact h2
            have hn10 : n10 ≤ 131072 := by have := hgl.out; have := hR10.len; omega
            have hE10 := ext_trans hE9 nq.use
            have hO10 := own_ext hO9' nq.use
            clear r6 hG hq hqf
            have hn10p : 0 < n10 := by have := hgl.out; have := hR10.len; omega
            obtain ⟨TT, hTT⟩ : ∃ TT, (putL P G M N xs l f e).flatMap encL = TT := ⟨_, rfl⟩
            have HCV := Lib.hid (fun (w9 : World) (v : Value) (n : Nat) (ho : Hid (OwnR w9 wr.heap.size v n (Lm.take f ++ grpN G xs ((Lm.take e).drop f) (e - f) ++ Lm.drop e))) (h0 : 0 < n) => show (convert 47 9 v).run Tryz.prog w9 = .ok (.string (bs TT)) w9 from by
              have hp := HPL.out
              rw [hp] at ho
              have hll := ho.out.1
              rw [List.length_map] at hll
              obtain ⟨g9, c9, hv9, -, -⟩ := ho.out.form h0
              subst hv9
              have := run_convert_runes (P := Tryz.prog) w9 47 9 21 ⟨g9, 0, none⟩ n c9 (putL P G M N xs l f e) (by omega) i32_under i32_kind str_kind (fun j hj => ho.out.cells rfl j _ (by
                rw [List.getElem?_map, List.getElem?_eq_getElem (by omega), List.getD_eq_getElem?_getD, List.getElem?_eq_getElem (by omega)]; rfl))
              rw [List.take_of_length_le (by omega)] at this
              rw [this]
              obtain ⟨tb, htb⟩ := bs_of (runesBytes (putL P G M N xs l f e))
              have h2 := rb_flat (putL P G M N xs l f e)
              rw [htb, bs_data, hTT] at h2
              rw [htb, h2])
            have HV := Lib.hid (show putV P G M N xs l = if 65536 < TT.length then ([], 4, 0) else (TT, 0, 0) from by
              unfold putV
              rw [if_neg (fun q => q HR.out), HS.out, if_neg (by show ¬ (0 : Int) ≤ -1; decide)]
              dsimp only
              rw [rb_flat, hTT])
            have hXw := Lib.hid (fun w' (h : Ext wr w') => ext_trans hX0.out h)
            clear hTT HPL hgl kg2 s1 s2
            rcases Nat.lt_or_ge e d with hde | hde
            · have hdne : ¬ d = e := by omega
              by_cases hbig : 65536 < TT.length
              · have hbig' : (65536 : Int) < (TT.length : Int) := by omega
                have HV2 := Lib.hid (HV.out.trans (if_pos hbig))
                clear hbig HV
                go_wp2_with (first
                  | (at_builtin; refine push_runes rfl _ _ rfl hE10 (Nat.le_refl _) (ext_size hE10) hO10 rfl hR10 rfl (by omega) ?_; intro v11 w11 hE11 hO11; obtain ⟨A11, c11, rfl⟩ := own_shape hO11.out)
                  | (at_builtin; refine push_runes rfl _ _ rfl hE11 (Nat.le_refl _) (ext_size hE11) hO11.out rfl (s3.out _ hE11) rfl (by omega) ?_; intro v12 w12 hE12 hO12; have hcv := HCV.out _ _ _ hO12 (by omega); obtain ⟨A12, c12, rfl⟩ := own_shape hO12.out)
                  | (go_at_call 23; (with_reducible refine (md_no 4 0 _).mono ?_); rintro e w13 ⟨rfl, hE13⟩; have hX13 := hXw.out _ (ext_trans hE12 hE13); obtain ⟨r0, r1, f0, f1, rl⟩ := fx.out.ext hX13))
                refine bodyPost_ret (v := .tuple #[.string (bs []), .agg #[.int .i64 4, .int .i64 0]]) ?h rfl ⟨by rw [HV2.out], fx_set hX13 _ _⟩
                case h => simp [results, Tryz.results10, go_sem, r0, r1]; rfl
              · have hbig' : ¬ (65536 : Int) < (TT.length : Int) := by omega
                have HV2 := Lib.hid (HV.out.trans (if_neg hbig))
                clear hbig HV
                go_wp2_with (first
                  | (at_builtin; refine push_runes rfl _ _ rfl hE10 (Nat.le_refl _) (ext_size hE10) hO10 rfl hR10 rfl (by omega) ?_; intro v11 w11 hE11 hO11; obtain ⟨A11, c11, rfl⟩ := own_shape hO11.out)
                  | (at_builtin; refine push_runes rfl _ _ rfl hE11 (Nat.le_refl _) (ext_size hE11) hO11.out rfl (s3.out _ hE11) rfl (by omega) ?_; intro v12 w12 hE12 hO12; have hcv := HCV.out _ _ _ hO12 (by omega); obtain ⟨A12, c12, rfl⟩ := own_shape hO12.out; have hX12 := hXw.out _ hE12; obtain ⟨r0, r1, f0, f1, rl⟩ := fx.out.ext hX12))
                refine bodyPost_ret (v := .tuple #[.string (bs TT), .agg #[.int .i64 0, .int .i64 0]]) ?h rfl ⟨by rw [HV2.out], fx_set hX12 _ _⟩
                case h => simp [results, Tryz.results10, go_sem, r0, r1]
            · obtain rfl : d = e := by omega
              have s4 := Lib.hid (fun w' (h : Ext wr w') => show RdR w' (some ⟨g, 0, none⟩) 0 0 (Lm.drop d) from
                ⟨by have := (s3.out w' h).len; omega, by omega, by omega, (fun e => by cases e), (fun a e => by cases e; rfl), fun b o e i hi => by omega⟩)
              clear hde
              by_cases hbig : 65536 < TT.length
              · have hbig' : (65536 : Int) < (TT.length : Int) := by omega
                have HV2 := Lib.hid (HV.out.trans (if_pos hbig))
                clear hbig HV
                go_wp2_with (first
                  | (at_builtin; refine push_runes rfl _ _ rfl hE10 (Nat.le_refl _) (ext_size hE10) hO10 rfl hR10 rfl (by omega) ?_; intro v11 w11 hE11 hO11; obtain ⟨A11, c11, rfl⟩ := own_shape hO11.out)
                  | (at_builtin; refine push_runes rfl _ _ rfl hE11 (Nat.le_refl _) (ext_size hE11) hO11.out rfl (s4.out _ hE11) rfl (by omega) ?_; intro v12 w12 hE12 hO12; have hcv := HCV.out _ _ _ hO12 (by omega); obtain ⟨A12, c12, rfl⟩ := own_shape hO12.out; have hcv2 : (convert 47 9 (.slice A12 (f + n10) c12)).run Tryz.prog w12 = .ok (.string (bs TT)) w12 := hcv)
                  | (go_at_call 23; (with_reducible refine (md_no 4 0 _).mono ?_); rintro e w13 ⟨rfl, hE13⟩; have hX13 := hXw.out _ (ext_trans hE12 hE13); obtain ⟨r0, r1, f0, f1, rl⟩ := fx.out.ext hX13))
                refine bodyPost_ret (v := .tuple #[.string (bs []), .agg #[.int .i64 4, .int .i64 0]]) ?h rfl ⟨by rw [HV2.out], fx_set hX13 _ _⟩
                case h => simp [results, Tryz.results10, go_sem, r0, r1]; rfl
              · have hbig' : ¬ (65536 : Int) < (TT.length : Int) := by omega
                have HV2 := Lib.hid (HV.out.trans (if_neg hbig))
                clear hbig HV
                go_wp2_with (first
                  | (at_builtin; refine push_runes rfl _ _ rfl hE10 (Nat.le_refl _) (ext_size hE10) hO10 rfl hR10 rfl (by omega) ?_; intro v11 w11 hE11 hO11; obtain ⟨A11, c11, rfl⟩ := own_shape hO11.out)
                  | (at_builtin; refine push_runes rfl _ _ rfl hE11 (Nat.le_refl _) (ext_size hE11) hO11.out rfl (s4.out _ hE11) rfl (by omega) ?_; intro v12 w12 hE12 hO12; have hcv := HCV.out _ _ _ hO12 (by omega); obtain ⟨A12, c12, rfl⟩ := own_shape hO12.out; have hcv2 : (convert 47 9 (.slice A12 (f + n10) c12)).run Tryz.prog w12 = .ok (.string (bs TT)) w12 := hcv; have hX12 := hXw.out _ hE12; obtain ⟨r0, r1, f0, f1, rl⟩ := fx.out.ext hX12))
                refine bodyPost_ret (v := .tuple #[.string (bs TT), .agg #[.int .i64 0, .int .i64 0]]) ?h rfl ⟨by rw [HV2.out], fx_set hX12 _ _⟩
                case h => simp [results, Tryz.results10, go_sem, r0, r1]
end Go.Proofs.YtebgmicpecekgaaGreatDoor
end
