/- Lemmas of this proof, laid together: GrpA, MarksGroupsW. -/
import Derived.Test.YtebgmicpecekgaaDoorMg19
import Derived.Test.YtebgmicpecekgaaDoorMg27
import Derived.Test.YtebgmicpecekgaaDoorMg26
import Derived.Deep.DeepCutAuto
import Derived.Deep.RegionWith
import Derived.Deep.LoopGhost
set_option linter.unusedSimpArgs false
set_option linter.unusedVariables false
section
/- Marks: the groups: the walk, where the law ends early. -/
namespace Go.Proofs.YtebgmicpecekgaaDoor
open Go.RowKit
attribute [local go_sem] bs_size bs_extract bs_get bs_append bs_toList const_get
attribute [local irreducible] Calls
set_option maxHeartbeats 4000000
set_option maxRecDepth 100000
theorem gr_long (P G M N : Int) (A : Option Addr) (k c : Nat) (xs : List Int) (l : List UInt8) (w : World) (hL : LwT w) (hA : RdI w A k c xs) (h : 3000 < l.length) :
    Calls Tryd.prog 5 #[mkV P G M N A k c, .string (bs l)] w fun e w' => e = .returned (.bool true) ∧ Ext w w' := by
  have ka := Lib.hid (fun w' (h : Ext w w') => av_alive w' (hL.ext h))
  have e0 : Hid (Ext w (w.alloc (BoxM P G M N A k c))) := ext_alloc (ext_refl w) _
  have b1 := Lib.hid (MkAt.made w P G M N A k c)
  have hl2 : (3000 : Int) < (l.length : Int) := by omega
  go_enter Tryd.func5, Tryd.ntmps5
  go_wp2_with (first
    | (go_at_call 7; (with_reducible refine (ka.out _ (by (repeat (first | exact ext_refl _ | assumption | refine ext_setCell ?_ (by simp; try omega) _ | refine ext_alloc ?_ _ | refine ext_drew ?_ | refine ext_drewN ?_ _ | refine ext_trans ?_ (Aft.use _) | refine ext_trans ?_ (by assumption))))).mono ?_); rintro e w1 ⟨rfl, hE1⟩; have hX1 := hE1; obtain ⟨p0, p1, p2, p3, p4, pl⟩ := b1.out.ext hX1))
  all_goals
    refine bodyPost_ret (v := .bool true) ?h rfl ⟨rfl, ?_⟩
    case h => simp [results, Tryd.results5, go_sem]
    have e0' := e0.out
    repeat (first | exact ext_refl _ | assumption | refine ext_setCell ?_ (by simp; try omega) _ | refine ext_alloc ?_ _ | refine ext_drew ?_ | refine ext_drewN ?_ _ | refine ext_trans ?_ (Aft.use _) | refine ext_trans ?_ (by assumption))
theorem gr_none (P M N : Int) (A : Option Addr) (k c : Nat) (l : List UInt8) (w : World) (hL : LwT w) (h : l.length ≤ 3000) :
    Calls Tryd.prog 5 #[mkV P 0 M N A k c, .string (bs l)] w fun e w' => e = .returned (.bool true) ∧ Ext w w' := by
  have ka := Lib.hid (fun w' (h : Ext w w') => av_alive w' (hL.ext h))
  have e0 : Hid (Ext w (w.alloc (BoxM P 0 M N A k c))) := ext_alloc (ext_refl w) _
  have b1 := Lib.hid (MkAt.made w P 0 M N A k c)
  have hl2 : ¬ (3000 : Int) < (l.length : Int) := by omega
  go_enter Tryd.func5, Tryd.ntmps5
  go_wp2_with (first
    | (go_at_call 7; (with_reducible refine (ka.out _ (by (repeat (first | exact ext_refl _ | assumption | refine ext_setCell ?_ (by simp; try omega) _ | refine ext_alloc ?_ _ | refine ext_drew ?_ | refine ext_drewN ?_ _ | refine ext_trans ?_ (Aft.use _) | refine ext_trans ?_ (by assumption))))).mono ?_); rintro e w1 ⟨rfl, hE1⟩; have hX1 := hE1; obtain ⟨p0, p1, p2, p3, p4, pl⟩ := b1.out.ext hX1))
  all_goals
    refine bodyPost_ret (v := .bool true) ?h rfl ⟨rfl, ?_⟩
    case h => simp [results, Tryd.results5, go_sem]
    have e0' := e0.out
    repeat (first | exact ext_refl _ | assumption | refine ext_setCell ?_ (by simp; try omega) _ | refine ext_alloc ?_ _ | refine ext_drew ?_ | refine ext_drewN ?_ _ | refine ext_trans ?_ (Aft.use _) | refine ext_trans ?_ (by assumption))
theorem gr_err (P G M N : Int) (A : Option Addr) (k c : Nat) (xs : List Int) (l : List UInt8) (w : World) (hL : LwT w) (hA : RdI w A k c xs) (h : l.length ≤ 3000) (hG : G ≠ 0) (t : List UInt8) (ce z : Int) (c0 : ce ≠ 0) (hp : putV P G M N xs l = (t, ce, z)) :
    Calls Tryd.prog 5 #[mkV P G M N A k c, .string (bs l)] w fun e w' => e = .returned (.bool true) ∧ Ext w w' := by
  have ka := Lib.hid (fun w' (h : Ext w w') => av_alive w' (hL.ext h))
  have e0 : Hid (Ext w (w.alloc (BoxM P G M N A k c))) := ext_alloc (ext_refl w) _
  have b1 := Lib.hid (MkAt.made w P G M N A k c)
  have kp := Lib.hid (fun w' (h : Ext w w') => mk_Put P G M N A k c xs l w' (hA.ext h))
  rw [hp] at kp
  simp only at kp
  have hGb : (G == 0) = false := by simpa using hG
  have hl2 : ¬ (3000 : Int) < (l.length : Int) := by omega
  go_enter Tryd.func5, Tryd.ntmps5
  go_wp2_with (first
    | (go_at_call 7; (with_reducible refine (ka.out _ (by (repeat (first | exact ext_refl _ | assumption | refine ext_setCell ?_ (by simp; try omega) _ | refine ext_alloc ?_ _ | refine ext_drew ?_ | refine ext_drewN ?_ _ | refine ext_trans ?_ (Aft.use _) | refine ext_trans ?_ (by assumption))))).mono ?_); rintro e w1 ⟨rfl, hE1⟩; have hX1 := hE1; obtain ⟨p0, p1, p2, p3, p4, pl⟩ := b1.out.ext hX1)
    | (go_at_call 12; (with_reducible refine (kp.out _ (by (repeat (first | exact ext_refl _ | assumption | refine ext_setCell ?_ (by simp; try omega) _ | refine ext_alloc ?_ _ | refine ext_drew ?_ | refine ext_drewN ?_ _ | refine ext_trans ?_ (Aft.use _) | refine ext_trans ?_ (by assumption))))).mono ?_); rintro e w2 ⟨v2, rfl, hE2, hV2⟩; have hX2 := ext_trans hX1 hE2; obtain ⟨p0, p1, p2, p3, p4, pl⟩ := b1.out.ext hX2; obtain ⟨b2, rfl, _⟩ := errV_of hV2.out c0))
  all_goals
    refine bodyPost_ret (v := .bool true) ?h rfl ⟨rfl, ?_⟩
    case h => simp [results, Tryd.results5, go_sem]
    have e0' := e0.out
    repeat (first | exact ext_refl _ | assumption | refine ext_setCell ?_ (by simp; try omega) _ | refine ext_alloc ?_ _ | refine ext_drew ?_ | refine ext_drewN ?_ _ | refine ext_trans ?_ (Aft.use _) | refine ext_trans ?_ (by assumption))
end Go.Proofs.YtebgmicpecekgaaDoor
end
section
/- Marks: the groups: the walk, where the text is put. -/
namespace Go.Proofs.YtebgmicpecekgaaDoor
open Go.RowKit
attribute [local go_sem] bs_size bs_extract bs_get bs_append bs_toList const_get
attribute [local irreducible] Calls
set_option maxHeartbeats 4000000
set_option maxRecDepth 100000
theorem dec_bs (t : List UInt8) (i : Nat) : Utf8.decode (bs t) i = Lib.decodeL (t.drop i) := by
  rw [Lib.decode_at, Lib.decodeL_N]
  have hg : ∀ j, (bs t).get! j = t.getD j 0 := fun j => by
    show (t.toArray)[j]! = _
    rw [List.getD_eq_getElem?_getD, getElem!_def]
    simp only [List.getElem?_toArray]
    cases t[j]? <;> rfl
  have hd : ∀ j, (t.drop i).getD j 0 = t.getD (i + j) 0 := fun j => by
    rw [List.getD_eq_getElem?_getD, List.getElem?_drop, ← List.getD_eq_getElem?_getD]
  rw [bs_size, List.length_drop, hg, hg, hg, hg, hd, hd, hd, hd]
  rfl
theorem putL_std {P G M N : Int} (hg : GoodM P G M N) (xs : List Int) {l : List UInt8} {f e : Nat} (hs : shpB l = (-1, f, e)) : ∀ r ∈ putL P G M N xs l f e, stdR r := by
  obtain ⟨h1, h2, h3, h4, h5, h6⟩ := shp_ok hs
  have hdd := drop_isD h5 h3
  have hal := shp_all hs
  intro r hr
  rw [putL_head] at hr
  rcases List.mem_append.1 hr with hr | hr
  · rcases List.mem_append.1 hr with hr | hr
    · split at hr
      · rw [List.mem_singleton] at hr; subst hr; exact hg.sM
      · cases hr
    · exact (whole_cl hg xs _ hdd _ (Nat.le_refl _)).2.2 r hr
  · obtain ⟨b, hb, rfl⟩ := List.mem_map.1 hr
    exact std_mark hg (hal b (List.mem_of_mem_drop hb))
theorem gs_bnd {G M N : Int} : ∀ (L : List Int) (s : GS) (m : Nat), 0 ≤ s.n → s.n ≤ m → s.out.length ≤ m → s.cnt.length ≤ m → 0 ≤ (L.foldl (gsStep G M N) s).n ∧ (L.foldl (gsStep G M N) s).n ≤ (m + L.length : Nat) ∧ (L.foldl (gsStep G M N) s).out.length ≤ m + L.length ∧ (L.foldl (gsStep G M N) s).cnt.length ≤ m + L.length
  | [], s, m, h1, h2, h3, h4 => ⟨h1, h2, h3, h4⟩
  | r :: L, s, m, h1, h2, h3, h4 => by
    have hs : 0 ≤ (gsStep G M N s r).n ∧ (gsStep G M N s r).n ≤ (m + 1 : Nat) ∧ (gsStep G M N s r).out.length ≤ m + 1 ∧ (gsStep G M N s r).cnt.length ≤ m + 1 := by
      unfold gsStep
      split
      · exact ⟨by simp, by simp; omega, by simp only; omega, by simp; omega⟩
      · split
        · exact ⟨by simp only; omega, by simp only; omega, by simp; omega, by simp only; omega⟩
        · split
          · exact ⟨h1, by simp only; omega, by simp; omega, by simp only; omega⟩
          · exact ⟨h1, by simp only; omega, by simp; omega, by simp only; omega⟩
    obtain ⟨q1, q2, q3, q4⟩ := gs_bnd L _ (m + 1) hs.1 hs.2.1 hs.2.2.1 hs.2.2.2
    rw [List.foldl_cons, List.length_cons]
    exact ⟨q1, by omega, by omega, by omega⟩
theorem gsV_bnd (G M N : Int) (L : List Int) : 0 ≤ (gsV G M N L).n ∧ (gsV G M N L).n ≤ (L.length : Nat) ∧ (gsV G M N L).out.length ≤ L.length ∧ (gsV G M N L).cnt.length ≤ L.length := by
  have := gs_bnd (G := G) (M := M) (N := N) L gs0 0 (Int.le_refl _) (Int.le_refl _) (Nat.le_refl _) (Nat.le_refl _)
  simpa [gsV] using this
theorem flat_len : ∀ L : List Int, L.length ≤ (L.flatMap encL).length
  | [] => by simp
  | r :: L => by
    have := flat_len L
    have h := encL_len r
    rw [List.flatMap_cons, List.length_append, List.length_cons]; omega
theorem gsV_succ {G M N : Int} {L : List Int} {i : Nat} (h : i < L.length) : gsV G M N (L.take (i + 1)) = gsStep G M N (gsV G M N (L.take i)) L[i] := by
  unfold gsV
  rw [List.take_succ_eq_append_getElem h, List.foldl_append]; rfl
theorem gr_main (P G M N : Int) (A : Option Addr) (k c : Nat) (xs : List Int) (l : List UInt8) (w : World) (hL : LwT w) (hA : RdI w A k c xs) (h : l.length ≤ 3000) (hG : G ≠ 0) (t : List UInt8) (z : Int) (hp : putV P G M N xs l = (t, 0, z)) :
    Calls Tryd.prog 5 #[mkV P G M N A k c, .string (bs l)] w fun e w' => e = .returned (.bool true) ∧ Ext w w' := by
  have ka := Lib.hid (fun w' (h : Ext w w') => av_alive w' (hL.ext h))
  have e0 : Hid (Ext w (w.alloc (BoxM P G M N A k c))) := ext_alloc (ext_refl w) _
  have b1 := Lib.hid (MkAt.made w P G M N A k c)
  have kp := Lib.hid (fun w' (h : Ext w w') => mk_Put P G M N A k c xs l w' (hA.ext h))
  rw [hp] at kp
  simp only at kp
  have hGb : (G == 0) = false := by simpa using hG
  have hl2 : ¬ (3000 : Int) < (l.length : Int) := by omega
  obtain ⟨hck, -, f, e, hsh, ht, htl, -⟩ := put_parts hp
  have hgd := good_of hck
  have hpb := put_bare hp hsh
  obtain ⟨hN, hall, -, hso⟩ := szOk_of hA.len hck
  have hN9 := ckv_N9 hA.len hck
  obtain ⟨hk0, hsz⟩ : k ≠ 0 ∧ sizesOk xs := by
    rcases hso with ⟨q, _⟩ | ⟨_, q1, _, q2⟩
    · exact absurd q hG
    · exact ⟨q1, q2⟩
  have hxk := hA.len
  have hgl := groups_law hgd hG hsz (by rw [hxk]; exact hk0) hsh
  have hstd := putL_std hgd xs hsh
  have hnd : ∀ r, N ≤ r → r ≤ N + 9 → r ≠ G ∧ r ≠ M := fun r h1 h2 => ⟨fun q => (hgd.g hG).2.2.2 (r - N).toNat (by omega) (by omega), fun q => (hgd.nd (r - N).toNat (by omega)).2.1 (by omega)⟩
  have hGM : G ≠ M := (hgd.g hG).2.1
  obtain ⟨L, hLd⟩ : ∃ L, putL P G M N xs l f e = L := ⟨_, rfl⟩
  obtain ⟨Lb, hLb⟩ : ∃ Lb, putL P 0 M N [] l f e = Lb := ⟨_, rfl⟩
  rw [hLd] at ht hgl hstd
  rw [hLb] at hpb hgl
  have hLb0 : 0 < Lb.length := by
    rw [← hLb, putL_head, whole_bare N _ _ (Nat.le_refl _), List.length_append, List.length_append, List.length_map, List.length_take, List.length_drop, List.length_take]
    have := shp_ok hsh
    omega
  have hLl : L.length ≤ 65536 := by have := flat_len L; rw [← ht] at this; omega
  have kq := Lib.hid (fun w' (h : Ext w w') => mk_Put P 0 M N none 0 0 [] l w' (RdI.nil w'))
  rw [hpb] at kq
  simp only at kq
  have HGL := Lib.hid hgl
  have HND := Lib.hid hnd
  have HSTD := Lib.hid hstd
  have HN9 := Lib.hid hN9
  have HSZ := Lib.hid hsz
  have HA := Lib.hid hA
  have hGMb : (G == M) = false := by simpa using hGM
  obtain ⟨T, hT⟩ : ∃ T, L.flatMap encL = T := ⟨_, rfl⟩
  rw [hT] at ht
  rw [ht] at kp
  clear hgl hnd hstd hLd hLb hpb hall hso hck hgd hN hN9 hsz hA hsh htl
  go_enter Tryd.func5, Tryd.ntmps5
  go_wp2_with (first
    | (go_at_call 7; (with_reducible refine (ka.out _ (by (repeat (first | exact ext_refl _ | assumption | refine ext_setCell ?_ (by simp; try omega) _ | refine ext_alloc ?_ _ | refine ext_drew ?_ | refine ext_drewN ?_ _ | refine ext_trans ?_ (Aft.use _) | refine ext_trans ?_ (by assumption))))).mono ?_); rintro e w1 ⟨rfl, hE1⟩; have hX1 := hE1; obtain ⟨p0, p1, p2, p3, p4, pl⟩ := b1.out.ext hX1)
    | (go_at_call 12; (with_reducible refine (kp.out _ (by (repeat (first | exact ext_refl _ | assumption | refine ext_setCell ?_ (by simp; try omega) _ | refine ext_alloc ?_ _ | refine ext_drew ?_ | refine ext_drewN ?_ _ | refine ext_trans ?_ (Aft.use _) | refine ext_trans ?_ (by assumption))))).mono ?_); rintro e w2 ⟨v2, rfl, hE2, hV2⟩; have hX2 := ext_trans hX1 hE2; obtain ⟨p0, p1, p2, p3, p4, pl⟩ := b1.out.ext hX2; obtain rfl := errV_no hV2.out)
    | (go_at_call 12; (with_reducible refine (kq.out _ (by (repeat (first | exact ext_refl _ | assumption | refine ext_setCell ?_ (by simp; try omega) _ | refine ext_alloc ?_ _ | refine ext_drew ?_ | refine ext_drewN ?_ _ | refine ext_trans ?_ (Aft.use _) | refine ext_trans ?_ (by assumption))))).mono ?_); rintro e w3 ⟨v3, rfl, hE3, hV3⟩; obtain rfl := errV_no hV3.out; have hX3 : Ext w2 w3 := (by have q := hE3; (repeat (first | exact ext_refl _ | assumption | refine ext_setCell ?_ (by simp; try omega) _ | refine ext_alloc ?_ _ | refine ext_drew ?_ | refine ext_drewN ?_ _ | refine ext_trans ?_ (Aft.use _) | refine ext_trans ?_ (by assumption)))); have hZ3 := ext_trans hX2 hX3))
  have b3 := Lib.hid (b1.out.ext hZ3)
  have hEw3 := Lib.hid (ext_trans e0.out hZ3)
  clear hE1 hE2 hE3 hX1 hX2 hX3 hZ3 hV2 hV3 p0 p1 p2 p3 p4 pl kp kq
  go_loopg [11, 12, 13, 14] L.length (fun gk vo vc vn vw wr => ∃ i : Nat, gk = L.length - i ∧ i ≤ L.length ∧ vn = .int .i64 (gsV G M N (L.take i)).n ∧ vw = .bool (gsV G M N (L.take i)).wh ∧ Hid (wr.heap[w3.heap.size]? = some (.stringIter (bs T) ((L.take i).flatMap encL).length)) ∧ Hid (OwnR wr w3.heap.size vo (gsV G M N (L.take i)).out.length (gsV G M N (L.take i)).out) ∧ Hid (OwnI wr w3.heap.size vc (gsV G M N (L.take i)).cnt.length (gsV G M N (L.take i)).cnt) ∧ Hid (Ext w3 wr))
  case atStart => exact ⟨0, rfl, Nat.zero_le _, rfl, rfl, World.iter_heap w3 (bs T) 0, ⟨rfl, .inl ⟨rfl, rfl⟩⟩, ⟨rfl, .inl ⟨rfl, rfl⟩⟩, ext_alloc (ext_refl _) _⟩
  case round =>
    obtain ⟨i, rfl, hi, rfl, rfl, hit, hO, hC, hE⟩ := hrel
    have hsz7 := ext_size hE.out
    by_cases hlt : i < L.length
    · obtain ⟨r, hr⟩ : ∃ r, L[i] = r := ⟨_, rfl⟩
      have hrs : stdR r := by rw [← hr]; exact HSTD.out _ (List.getElem_mem _)
      have hrb : 0 ≤ r ∧ r ≤ 1114111 := by unfold stdR at hrs; omega
      obtain ⟨pos, hpos⟩ : ∃ pos, ((L.take i).flatMap encL).length = pos := ⟨_, rfl⟩
      have hsplit : T = (L.take i).flatMap encL ++ (encL r ++ (L.drop (i + 1)).flatMap encL) := by
        rw [← hT, ← hr, ← List.flatMap_cons, ← List.drop_eq_getElem_cons hlt, ← List.flatMap_append, List.take_append_drop]
      have hdr : T.drop pos = encL r ++ (L.drop (i + 1)).flatMap encL := by rw [hsplit, ← hpos, List.drop_left]
      have hel := encL_len r
      have hpl : pos < T.length := by
        have := congrArg List.length hdr
        rw [List.length_drop, List.length_append] at this; omega
      have hdec : Utf8.decode (bs T) pos = (r.toNat, (encL r).length) := by rw [dec_bs, hdr, dec_enc r hrs]
      obtain ⟨W8, hW8⟩ : ∃ W8, W8 = wr.iterAt w3.heap.size (bs T) (pos + (encL r).length) := ⟨_, rfl⟩
      have hnx : ∀ ty, (Instr.next (.pointer (some ⟨w3.heap.size, 0, none⟩)) true ty).run Tryd.prog wr = .ok (.tuple #[.bool true, .int .i64 pos, .int .i32 r]) W8 := fun ty => by
        have := Lib.run_next_any_at (P := Tryd.prog) wr w3.heap.size (bs T) pos ty (by rw [← hpos]; exact hit.out) (by rw [bs_size]; exact hpl)
        rw [hdec] at this
        simp only at this
        rw [Int.toNat_of_nonneg hrb.1] at this
        rw [hW8]; exact this
      have hp2 : ((L.take (i + 1)).flatMap encL).length = pos + (encL r).length := by
        rw [List.take_succ_eq_append_getElem hlt, List.flatMap_append, List.length_append, hpos, hr]; simp
      have hit8 : Hid (W8.heap[w3.heap.size]? = some (.stringIter (bs T) (pos + (encL r).length))) := by rw [hW8]; exact Lib.iterAt_heap _ _ _ _ _ hit.out
      have hbn := gsV_bnd G M N (L.take i)
      rw [List.length_take] at hbn
      have hgs := gsV_succ (G := G) (M := M) (N := N) hlt
      rw [hr] at hgs
      obtain ⟨s, hs⟩ : ∃ s, gsV G M N (L.take i) = s := ⟨_, rfl⟩
      rw [hs] at hbn hO hC hgs ⊢
      clear hs
      obtain ⟨so, sc, sn, sw⟩ := s
      dsimp only at hbn hO hC hgs ⊢
      have hO8 : Hid (OwnR W8 w3.heap.size u11 so.length so) := by rw [hW8]; exact own_iter hO.out hit.out _
      have hC8 : Hid (OwnI W8 w3.heap.size u12 sc.length sc) := by rw [hW8]; exact own_iter hC.out hit.out _
      have hE8 : Hid (Ext w3 W8) := by rw [hW8]; exact Lib.below_iterAt hE.out (Nat.le_refl _) _ _
      have hs8 := ext_size hE8.out
      obtain ⟨p0, p1, p2, p3, p4, pl⟩ := b3.out.ext hE8.out
      have hsw : ∀ g, u11.ownBlock = some g → u12.ownBlock ≠ some g := fun g h1 h2 => by
        obtain ⟨_, c1, h3⟩ := own_at_block hO8.out h1
        obtain ⟨_, c2, h4⟩ := own_at_block hC8.out h2
        rw [h3] at h4; cases h4
      have HSW := Lib.hid hsw
      have hfin : ∀ (vo vc : Value) (w9 : World) (s' : GS), gsStep G M N ⟨so, sc, sn, sw⟩ r = s' → Ext w3 w9 → Hid (OwnR w9 w3.heap.size vo s'.out.length s'.out) → Hid (OwnI w9 w3.heap.size vc s'.cnt.length s'.cnt) → w9.heap[w3.heap.size]? = some (.stringIter (bs T) (pos + (encL r).length)) →
          ∃ i' : Nat, L.length - (i + 1) = L.length - i' ∧ i' ≤ L.length ∧ Value.int .i64 s'.n = .int .i64 (gsV G M N (L.take i')).n ∧ Value.bool s'.wh = .bool (gsV G M N (L.take i')).wh ∧ Hid (w9.heap[w3.heap.size]? = some (.stringIter (bs T) ((L.take i').flatMap encL).length)) ∧ Hid (OwnR w9 w3.heap.size vo (gsV G M N (L.take i')).out.length (gsV G M N (L.take i')).out) ∧ Hid (OwnI w9 w3.heap.size vc (gsV G M N (L.take i')).cnt.length (gsV G M N (L.take i')).cnt) ∧ Hid (Ext w3 w9) := fun vo vc w9 s' h1 h2 h3 h4 h5 =>
        ⟨i + 1, rfl, by omega, by rw [hgs, h1], by rw [hgs, h1], by rw [hp2]; exact h5, by rw [hgs, h1]; exact h3, by rw [hgs, h1]; exact h4, h2⟩
      have HF := Lib.hid hfin
      have hN9' := HN9.out
      have hi9 : ¬ ((i : Int) < 0) := by omega
      clear hW8 hfin hit hO hC hE hgs hp2 hsplit hdr hdec hrs hpos hsw hr hT
      by_cases hd : N ≤ r ∧ r ≤ N + 9
      · obtain ⟨hrG, hrM⟩ := HND.out r hd.1 hd.2
        have q1 : decide (N ≤ r) = true := decide_eq_true hd.1
        have q2 : decide (r ≤ N + 9) = true := decide_eq_true hd.2
        have q3 : (r == G) = false := by simpa using hrG
        have q4 : (r != M) = true := by simpa using hrM
        have HD := Lib.hid hd
        have HRG := Lib.hid hrG
        have HRM := Lib.hid hrM
        clear hd hrG hrM
        cases sw
        ·
          go_wp2_with (first
            | (at_builtin; refine push_i32h rfl _ _ rfl _ rfl hE8.out (Nat.le_refl _) (by omega) hO8.out rfl r ⟨_, 0, none⟩ 1 rfl (by simp [go_sem, rV]) (by omega) ?_; intro v9 w9 hE9 hO9 hK9 _))
          go_roundg (L.length - (i + 1))
          case measure => omega
          case rel => exact HF.out _ _ _ ⟨so ++ [r], sc, sn, false⟩ (by unfold gsStep; rw [if_neg HRG.out, if_neg (by simp), if_pos (.inl HRM.out)]) hE9 (by have := hO9.out; show World.ownsRow _ _ _ _ _ _ _; rw [List.length_append]; exact this) (own_keep hC8.out (fun g hg => by obtain ⟨_, cu, h3⟩ := own_at_block hC8.out hg; exact (hK9.out _ _ h3 (fun q => HSW.out g q hg)).trans h3.symm)) (hK9.out _ _ hit8.out (own_not_iter hO8.out hit8.out))
        ·
          go_wp2_with (first
            | (at_builtin; refine push_i32h rfl _ _ rfl _ rfl hE8.out (Nat.le_refl _) (by omega) hO8.out rfl r ⟨_, 0, none⟩ 1 rfl (by simp [go_sem, rV]) (by omega) ?_; intro v9 w9 hE9 hO9 hK9 _))
          go_roundg (L.length - (i + 1))
          case measure => omega
          case rel => exact HF.out _ _ _ ⟨so ++ [r], sc, sn + 1, true⟩ (by unfold gsStep; rw [if_neg HRG.out, if_pos ⟨rfl, HD.out⟩]) hE9 (by have := hO9.out; show World.ownsRow _ _ _ _ _ _ _; rw [List.length_append]; exact this) (own_keep hC8.out (fun g hg => by obtain ⟨_, cu, h3⟩ := own_at_block hC8.out hg; exact (hK9.out _ _ h3 (fun q => HSW.out g q hg)).trans h3.symm)) (hK9.out _ _ hit8.out (own_not_iter hO8.out hit8.out))
      · have hdb : (N ≤ r) = False ∨ ((N ≤ r) = True ∧ (r ≤ N + 9) = False) := by by_cases h1 : N ≤ r; exact .inr ⟨eq_true h1, eq_false (fun h2 => hd ⟨h1, h2⟩)⟩; exact .inl (eq_false h1)
        have HD := Lib.hid hd
        clear hd
        rcases hdb with hdb | ⟨hda, hdb⟩
        ·
          have q1 : decide (N ≤ r) = false := by rw [decide_eq_false_iff_not, hdb]; exact id
          clear hdb
          cases sw
          ·
            by_cases hrG : r = G
            · subst hrG
              have q3 : (r == r) = true := by simp
              go_wp2_with (first
                | (at_builtin; refine push_intg rfl _ _ rfl _ rfl hE8.out (Nat.le_refl _) (by omega) hC8.out rfl sn ⟨_, 0, none⟩ 1 rfl (by simp [go_sem, iV]) (by omega) ?_; intro v9 w9 hE9 hC9 hK9 _))
              go_roundg (L.length - (i + 1))
              case measure => omega
              case rel => exact HF.out _ _ _ ⟨so, sc ++ [sn], 0, false⟩ (by unfold gsStep; rw [if_pos rfl]) hE9 (own_keep hO8.out (fun g hg => by obtain ⟨_, cu, h3⟩ := own_at_block hO8.out hg; exact (hK9.out _ _ h3 (HSW.out g hg)).trans h3.symm)) (by have := hC9.out; show World.ownsRow _ _ _ _ _ _ _; rw [List.length_append]; exact this) (hK9.out _ _ hit8.out (own_not_iter hC8.out hit8.out))
            · have q3 : (r == G) = false := by simpa using hrG
              have HRG := Lib.hid hrG
              clear hrG
              by_cases hrM : r = M
              · have q4 : (r != M) = false := by simpa using hrM
                have hso : (0 : Int) < (so.length : Int) ∨ so = [] := by cases so with | nil => exact .inr rfl | cons a b => exact .inl (by rw [List.length_cons]; omega)
                have HRM := Lib.hid hrM
                clear hrM
                rcases hso with hso | rfl
                · have HSO := Lib.hid (show so ≠ [] from fun q => by rw [q] at hso; simp at hso)
                  obtain ⟨Ao, co, hvo⟩ := own_shape hO8.out
                  have q5 : decide ((0 : Int) < (so.length : Int)) = true := decide_eq_true hso
                  subst hvo
                  go_wp2_with (first
                    | (at_builtin; refine push_i32h rfl _ _ rfl _ rfl hE8.out (Nat.le_refl _) (by omega) hO8.out rfl r ⟨_, 0, none⟩ 1 rfl (by simp [go_sem, rV]) (by omega) ?_; intro v9 w9 hE9 hO9 hK9 _))
                  go_roundg (L.length - (i + 1))
                  case measure => omega
                  case rel => exact HF.out _ _ _ ⟨so ++ [r], sc, sn, false⟩ (by unfold gsStep; rw [if_neg HRG.out, if_neg (fun q => HD.out q.2), if_pos (.inr HSO.out)]) hE9 (by have := hO9.out; show World.ownsRow _ _ _ _ _ _ _; rw [List.length_append]; exact this) (own_keep hC8.out (fun g hg => by obtain ⟨_, cu, h3⟩ := own_at_block hC8.out hg; exact (hK9.out _ _ h3 (fun q => HSW.out g q hg)).trans h3.symm)) (hK9.out _ _ hit8.out (own_not_iter hO8.out hit8.out))
                · obtain ⟨Ao, co, hvo⟩ := own_shape hO8.out
                  subst hvo
                  go_wp2_with (first
                    | (at_builtin; refine push_i32h rfl _ _ rfl _ rfl hE8.out (Nat.le_refl _) (by omega) hO8.out rfl r ⟨_, 0, none⟩ 1 rfl (by simp [go_sem, rV]) (by omega) ?_; intro v9 w9 hE9 hO9 hK9 _))
                  go_roundg (L.length - (i + 1))
                  case measure => omega
                  case rel => exact HF.out _ _ _ ⟨[] ++ [r], sc, sn, false⟩ (by unfold gsStep; rw [if_neg HRG.out, if_neg (fun q => HD.out q.2), if_neg (by rintro (q | q); exact q HRM.out; exact q rfl)]) hE9 (by have := hO9.out; show World.ownsRow _ _ _ _ _ _ _; rw [List.length_append]; exact this) (own_keep hC8.out (fun g hg => by obtain ⟨_, cu, h3⟩ := own_at_block hC8.out hg; exact (hK9.out _ _ h3 (fun q => HSW.out g q hg)).trans h3.symm)) (hK9.out _ _ hit8.out (own_not_iter hO8.out hit8.out))
              · have q4 : (r != M) = true := by simpa using hrM
                have HRM := Lib.hid hrM
                clear hrM
                go_wp2_with (first
                  | (at_builtin; refine push_i32h rfl _ _ rfl _ rfl hE8.out (Nat.le_refl _) (by omega) hO8.out rfl r ⟨_, 0, none⟩ 1 rfl (by simp [go_sem, rV]) (by omega) ?_; intro v9 w9 hE9 hO9 hK9 _))
                go_roundg (L.length - (i + 1))
                case measure => omega
                case rel => exact HF.out _ _ _ ⟨so ++ [r], sc, sn, false⟩ (by unfold gsStep; rw [if_neg HRG.out, if_neg (fun q => HD.out q.2), if_pos (.inl HRM.out)]) hE9 (by have := hO9.out; show World.ownsRow _ _ _ _ _ _ _; rw [List.length_append]; exact this) (own_keep hC8.out (fun g hg => by obtain ⟨_, cu, h3⟩ := own_at_block hC8.out hg; exact (hK9.out _ _ h3 (fun q => HSW.out g q hg)).trans h3.symm)) (hK9.out _ _ hit8.out (own_not_iter hO8.out hit8.out))
          ·
            by_cases hrG : r = G
            · subst hrG
              have q3 : (r == r) = true := by simp
              go_wp2_with (first
                | (at_builtin; refine push_intg rfl _ _ rfl _ rfl hE8.out (Nat.le_refl _) (by omega) hC8.out rfl sn ⟨_, 0, none⟩ 1 rfl (by simp [go_sem, iV]) (by omega) ?_; intro v9 w9 hE9 hC9 hK9 _))
              go_roundg (L.length - (i + 1))
              case measure => omega
              case rel => exact HF.out _ _ _ ⟨so, sc ++ [sn], 0, true⟩ (by unfold gsStep; rw [if_pos rfl]) hE9 (own_keep hO8.out (fun g hg => by obtain ⟨_, cu, h3⟩ := own_at_block hO8.out hg; exact (hK9.out _ _ h3 (HSW.out g hg)).trans h3.symm)) (by have := hC9.out; show World.ownsRow _ _ _ _ _ _ _; rw [List.length_append]; exact this) (hK9.out _ _ hit8.out (own_not_iter hC8.out hit8.out))
            · have q3 : (r == G) = false := by simpa using hrG
              have HRG := Lib.hid hrG
              clear hrG
              by_cases hrM : r = M
              · have q4 : (r != M) = false := by simpa using hrM
                have hso : (0 : Int) < (so.length : Int) ∨ so = [] := by cases so with | nil => exact .inr rfl | cons a b => exact .inl (by rw [List.length_cons]; omega)
                have HRM := Lib.hid hrM
                clear hrM
                rcases hso with hso | rfl
                · have HSO := Lib.hid (show so ≠ [] from fun q => by rw [q] at hso; simp at hso)
                  obtain ⟨Ao, co, hvo⟩ := own_shape hO8.out
                  have q5 : decide ((0 : Int) < (so.length : Int)) = true := decide_eq_true hso
                  subst hvo
                  go_wp2_with (first
                    | (at_builtin; refine push_i32h rfl _ _ rfl _ rfl hE8.out (Nat.le_refl _) (by omega) hO8.out rfl r ⟨_, 0, none⟩ 1 rfl (by simp [go_sem, rV]) (by omega) ?_; intro v9 w9 hE9 hO9 hK9 _))
                  go_roundg (L.length - (i + 1))
                  case measure => omega
                  case rel => exact HF.out _ _ _ ⟨so ++ [r], sc, sn, false⟩ (by unfold gsStep; rw [if_neg HRG.out, if_neg (fun q => HD.out q.2), if_pos (.inr HSO.out)]) hE9 (by have := hO9.out; show World.ownsRow _ _ _ _ _ _ _; rw [List.length_append]; exact this) (own_keep hC8.out (fun g hg => by obtain ⟨_, cu, h3⟩ := own_at_block hC8.out hg; exact (hK9.out _ _ h3 (fun q => HSW.out g q hg)).trans h3.symm)) (hK9.out _ _ hit8.out (own_not_iter hO8.out hit8.out))
                · obtain ⟨Ao, co, hvo⟩ := own_shape hO8.out
                  subst hvo
                  go_wp2_with (first
                    | (at_builtin; refine push_i32h rfl _ _ rfl _ rfl hE8.out (Nat.le_refl _) (by omega) hO8.out rfl r ⟨_, 0, none⟩ 1 rfl (by simp [go_sem, rV]) (by omega) ?_; intro v9 w9 hE9 hO9 hK9 _))
                  go_roundg (L.length - (i + 1))
                  case measure => omega
                  case rel => exact HF.out _ _ _ ⟨[] ++ [r], sc, sn, true⟩ (by unfold gsStep; rw [if_neg HRG.out, if_neg (fun q => HD.out q.2), if_neg (by rintro (q | q); exact q HRM.out; exact q rfl)]) hE9 (by have := hO9.out; show World.ownsRow _ _ _ _ _ _ _; rw [List.length_append]; exact this) (own_keep hC8.out (fun g hg => by obtain ⟨_, cu, h3⟩ := own_at_block hC8.out hg; exact (hK9.out _ _ h3 (fun q => HSW.out g q hg)).trans h3.symm)) (hK9.out _ _ hit8.out (own_not_iter hO8.out hit8.out))
              · have q4 : (r != M) = true := by simpa using hrM
                have HRM := Lib.hid hrM
                clear hrM
                go_wp2_with (first
                  | (at_builtin; refine push_i32h rfl _ _ rfl _ rfl hE8.out (Nat.le_refl _) (by omega) hO8.out rfl r ⟨_, 0, none⟩ 1 rfl (by simp [go_sem, rV]) (by omega) ?_; intro v9 w9 hE9 hO9 hK9 _))
                go_roundg (L.length - (i + 1))
                case measure => omega
                case rel => exact HF.out _ _ _ ⟨so ++ [r], sc, sn, false⟩ (by unfold gsStep; rw [if_neg HRG.out, if_neg (fun q => HD.out q.2), if_pos (.inl HRM.out)]) hE9 (by have := hO9.out; show World.ownsRow _ _ _ _ _ _ _; rw [List.length_append]; exact this) (own_keep hC8.out (fun g hg => by obtain ⟨_, cu, h3⟩ := own_at_block hC8.out hg; exact (hK9.out _ _ h3 (fun q => HSW.out g q hg)).trans h3.symm)) (hK9.out _ _ hit8.out (own_not_iter hO8.out hit8.out))
        ·
          have q1 : decide (N ≤ r) = true := by rw [decide_eq_true_iff, hda]; trivial
          have q2 : decide (r ≤ N + 9) = false := by rw [decide_eq_false_iff_not, hdb]; exact id
          clear hda
          clear hdb
          cases sw
          ·
            by_cases hrG : r = G
            · subst hrG
              have q3 : (r == r) = true := by simp
              go_wp2_with (first
                | (at_builtin; refine push_intg rfl _ _ rfl _ rfl hE8.out (Nat.le_refl _) (by omega) hC8.out rfl sn ⟨_, 0, none⟩ 1 rfl (by simp [go_sem, iV]) (by omega) ?_; intro v9 w9 hE9 hC9 hK9 _))
              go_roundg (L.length - (i + 1))
              case measure => omega
              case rel => exact HF.out _ _ _ ⟨so, sc ++ [sn], 0, false⟩ (by unfold gsStep; rw [if_pos rfl]) hE9 (own_keep hO8.out (fun g hg => by obtain ⟨_, cu, h3⟩ := own_at_block hO8.out hg; exact (hK9.out _ _ h3 (HSW.out g hg)).trans h3.symm)) (by have := hC9.out; show World.ownsRow _ _ _ _ _ _ _; rw [List.length_append]; exact this) (hK9.out _ _ hit8.out (own_not_iter hC8.out hit8.out))
            · have q3 : (r == G) = false := by simpa using hrG
              have HRG := Lib.hid hrG
              clear hrG
              by_cases hrM : r = M
              · have q4 : (r != M) = false := by simpa using hrM
                have hso : (0 : Int) < (so.length : Int) ∨ so = [] := by cases so with | nil => exact .inr rfl | cons a b => exact .inl (by rw [List.length_cons]; omega)
                have HRM := Lib.hid hrM
                clear hrM
                rcases hso with hso | rfl
                · have HSO := Lib.hid (show so ≠ [] from fun q => by rw [q] at hso; simp at hso)
                  obtain ⟨Ao, co, hvo⟩ := own_shape hO8.out
                  have q5 : decide ((0 : Int) < (so.length : Int)) = true := decide_eq_true hso
                  subst hvo
                  go_wp2_with (first
                    | (at_builtin; refine push_i32h rfl _ _ rfl _ rfl hE8.out (Nat.le_refl _) (by omega) hO8.out rfl r ⟨_, 0, none⟩ 1 rfl (by simp [go_sem, rV]) (by omega) ?_; intro v9 w9 hE9 hO9 hK9 _))
                  go_roundg (L.length - (i + 1))
                  case measure => omega
                  case rel => exact HF.out _ _ _ ⟨so ++ [r], sc, sn, false⟩ (by unfold gsStep; rw [if_neg HRG.out, if_neg (fun q => HD.out q.2), if_pos (.inr HSO.out)]) hE9 (by have := hO9.out; show World.ownsRow _ _ _ _ _ _ _; rw [List.length_append]; exact this) (own_keep hC8.out (fun g hg => by obtain ⟨_, cu, h3⟩ := own_at_block hC8.out hg; exact (hK9.out _ _ h3 (fun q => HSW.out g q hg)).trans h3.symm)) (hK9.out _ _ hit8.out (own_not_iter hO8.out hit8.out))
                · obtain ⟨Ao, co, hvo⟩ := own_shape hO8.out
                  subst hvo
                  go_wp2_with (first
                    | (at_builtin; refine push_i32h rfl _ _ rfl _ rfl hE8.out (Nat.le_refl _) (by omega) hO8.out rfl r ⟨_, 0, none⟩ 1 rfl (by simp [go_sem, rV]) (by omega) ?_; intro v9 w9 hE9 hO9 hK9 _))
                  go_roundg (L.length - (i + 1))
                  case measure => omega
                  case rel => exact HF.out _ _ _ ⟨[] ++ [r], sc, sn, false⟩ (by unfold gsStep; rw [if_neg HRG.out, if_neg (fun q => HD.out q.2), if_neg (by rintro (q | q); exact q HRM.out; exact q rfl)]) hE9 (by have := hO9.out; show World.ownsRow _ _ _ _ _ _ _; rw [List.length_append]; exact this) (own_keep hC8.out (fun g hg => by obtain ⟨_, cu, h3⟩ := own_at_block hC8.out hg; exact (hK9.out _ _ h3 (fun q => HSW.out g q hg)).trans h3.symm)) (hK9.out _ _ hit8.out (own_not_iter hO8.out hit8.out))
              · have q4 : (r != M) = true := by simpa using hrM
                have HRM := Lib.hid hrM
                clear hrM
                go_wp2_with (first
                  | (at_builtin; refine push_i32h rfl _ _ rfl _ rfl hE8.out (Nat.le_refl _) (by omega) hO8.out rfl r ⟨_, 0, none⟩ 1 rfl (by simp [go_sem, rV]) (by omega) ?_; intro v9 w9 hE9 hO9 hK9 _))
                go_roundg (L.length - (i + 1))
                case measure => omega
                case rel => exact HF.out _ _ _ ⟨so ++ [r], sc, sn, false⟩ (by unfold gsStep; rw [if_neg HRG.out, if_neg (fun q => HD.out q.2), if_pos (.inl HRM.out)]) hE9 (by have := hO9.out; show World.ownsRow _ _ _ _ _ _ _; rw [List.length_append]; exact this) (own_keep hC8.out (fun g hg => by obtain ⟨_, cu, h3⟩ := own_at_block hC8.out hg; exact (hK9.out _ _ h3 (fun q => HSW.out g q hg)).trans h3.symm)) (hK9.out _ _ hit8.out (own_not_iter hO8.out hit8.out))
          ·
            by_cases hrG : r = G
            · subst hrG
              have q3 : (r == r) = true := by simp
              go_wp2_with (first
                | (at_builtin; refine push_intg rfl _ _ rfl _ rfl hE8.out (Nat.le_refl _) (by omega) hC8.out rfl sn ⟨_, 0, none⟩ 1 rfl (by simp [go_sem, iV]) (by omega) ?_; intro v9 w9 hE9 hC9 hK9 _))
              go_roundg (L.length - (i + 1))
              case measure => omega
              case rel => exact HF.out _ _ _ ⟨so, sc ++ [sn], 0, true⟩ (by unfold gsStep; rw [if_pos rfl]) hE9 (own_keep hO8.out (fun g hg => by obtain ⟨_, cu, h3⟩ := own_at_block hO8.out hg; exact (hK9.out _ _ h3 (HSW.out g hg)).trans h3.symm)) (by have := hC9.out; show World.ownsRow _ _ _ _ _ _ _; rw [List.length_append]; exact this) (hK9.out _ _ hit8.out (own_not_iter hC8.out hit8.out))
            · have q3 : (r == G) = false := by simpa using hrG
              have HRG := Lib.hid hrG
              clear hrG
              by_cases hrM : r = M
              · have q4 : (r != M) = false := by simpa using hrM
                have hso : (0 : Int) < (so.length : Int) ∨ so = [] := by cases so with | nil => exact .inr rfl | cons a b => exact .inl (by rw [List.length_cons]; omega)
                have HRM := Lib.hid hrM
                clear hrM
                rcases hso with hso | rfl
                · have HSO := Lib.hid (show so ≠ [] from fun q => by rw [q] at hso; simp at hso)
                  obtain ⟨Ao, co, hvo⟩ := own_shape hO8.out
                  have q5 : decide ((0 : Int) < (so.length : Int)) = true := decide_eq_true hso
                  subst hvo
                  go_wp2_with (first
                    | (at_builtin; refine push_i32h rfl _ _ rfl _ rfl hE8.out (Nat.le_refl _) (by omega) hO8.out rfl r ⟨_, 0, none⟩ 1 rfl (by simp [go_sem, rV]) (by omega) ?_; intro v9 w9 hE9 hO9 hK9 _))
                  go_roundg (L.length - (i + 1))
                  case measure => omega
                  case rel => exact HF.out _ _ _ ⟨so ++ [r], sc, sn, false⟩ (by unfold gsStep; rw [if_neg HRG.out, if_neg (fun q => HD.out q.2), if_pos (.inr HSO.out)]) hE9 (by have := hO9.out; show World.ownsRow _ _ _ _ _ _ _; rw [List.length_append]; exact this) (own_keep hC8.out (fun g hg => by obtain ⟨_, cu, h3⟩ := own_at_block hC8.out hg; exact (hK9.out _ _ h3 (fun q => HSW.out g q hg)).trans h3.symm)) (hK9.out _ _ hit8.out (own_not_iter hO8.out hit8.out))
                · obtain ⟨Ao, co, hvo⟩ := own_shape hO8.out
                  subst hvo
                  go_wp2_with (first
                    | (at_builtin; refine push_i32h rfl _ _ rfl _ rfl hE8.out (Nat.le_refl _) (by omega) hO8.out rfl r ⟨_, 0, none⟩ 1 rfl (by simp [go_sem, rV]) (by omega) ?_; intro v9 w9 hE9 hO9 hK9 _))
                  go_roundg (L.length - (i + 1))
                  case measure => omega
                  case rel => exact HF.out _ _ _ ⟨[] ++ [r], sc, sn, true⟩ (by unfold gsStep; rw [if_neg HRG.out, if_neg (fun q => HD.out q.2), if_neg (by rintro (q | q); exact q HRM.out; exact q rfl)]) hE9 (by have := hO9.out; show World.ownsRow _ _ _ _ _ _ _; rw [List.length_append]; exact this) (own_keep hC8.out (fun g hg => by obtain ⟨_, cu, h3⟩ := own_at_block hC8.out hg; exact (hK9.out _ _ h3 (fun q => HSW.out g q hg)).trans h3.symm)) (hK9.out _ _ hit8.out (own_not_iter hO8.out hit8.out))
              · have q4 : (r != M) = true := by simpa using hrM
                have HRM := Lib.hid hrM
                clear hrM
                go_wp2_with (first
                  | (at_builtin; refine push_i32h rfl _ _ rfl _ rfl hE8.out (Nat.le_refl _) (by omega) hO8.out rfl r ⟨_, 0, none⟩ 1 rfl (by simp [go_sem, rV]) (by omega) ?_; intro v9 w9 hE9 hO9 hK9 _))
                go_roundg (L.length - (i + 1))
                case measure => omega
                case rel => exact HF.out _ _ _ ⟨so ++ [r], sc, sn, false⟩ (by unfold gsStep; rw [if_neg HRG.out, if_neg (fun q => HD.out q.2), if_pos (.inl HRM.out)]) hE9 (by have := hO9.out; show World.ownsRow _ _ _ _ _ _ _; rw [List.length_append]; exact this) (own_keep hC8.out (fun g hg => by obtain ⟨_, cu, h3⟩ := own_at_block hC8.out hg; exact (hK9.out _ _ h3 (fun q => HSW.out g q hg)).trans h3.symm)) (hK9.out _ _ hit8.out (own_not_iter hO8.out hit8.out))
    · obtain rfl : i = L.length := by omega
      rw [List.take_of_length_le (Nat.le_refl _)] at hO hC hit ⊢
      rw [hT] at hit
      have hnx := fun ty => Lib.run_next_end_at (P := Tryd.prog) wr w3.heap.size (bs T) T.length ty hit.out (by rw [bs_size]; omega)
      obtain ⟨hgo, K, n, hgc, hK, hK1⟩ := HGL.out
      have hbn := gsV_bnd G M N L
      obtain ⟨s, hs⟩ : ∃ s, gsV G M N L = s := ⟨_, rfl⟩
      rw [hs] at hbn hO hC hgo hgc ⊢
      clear hs
      obtain ⟨so, sc, sn, sw⟩ := s
      dsimp only at hbn hO hC hgo hgc ⊢
      subst hgo
      have HCV := Lib.hid (fun (w9 : World) (ho : OwnR w9 w3.heap.size u11 so.length so) => show (convert 40 9 u11).run Tryd.prog w9 = .ok (.string (bs (so.flatMap encL))) w9 from by
        obtain ⟨g9, c9, hv9, -, -⟩ := ho.form hLb0
        subst hv9
        have := run_convert_runes (P := Tryd.prog) w9 40 9 21 ⟨g9, 0, none⟩ so.length c9 so (Nat.le_refl _) i32_under i32_kind str_kind (fun j hj => ho.cells rfl j _ (by
          rw [List.getElem?_map, List.getElem?_eq_getElem hj, List.getD_eq_getElem?_getD, List.getElem?_eq_getElem hj]; rfl))
        rw [List.take_of_length_le (Nat.le_refl _)] at this
        rw [this]
        obtain ⟨tb, htb⟩ := bs_of (runesBytes so)
        have h2 := rb_flat so
        rw [htb, bs_data] at h2
        rw [htb, h2])
      obtain ⟨g9, c9, hv9, -, -⟩ := hO.out.form hLb0
      subst hv9
      have hrow : ∀ g, (Value.slice (some ⟨g9, 0, none⟩) so.length c9).ownBlock = some g → u12.ownBlock ≠ some g := fun g h1 h2 => by
        obtain ⟨_, c1, h3⟩ := own_at_block hO.out h1
        obtain ⟨_, c2, h4⟩ := own_at_block hC.out h2
        rw [h3] at h4; cases h4
      have HSW := Lib.hid hrow
      have hszr := ext_size hE.out
      have HK := Lib.hid (And.intro hK hK1)
      have hscK : sc.length = K := by
        have h1 := congrArg List.length hgc
        simp [cntK] at h1; omega
      rw [hscK] at hC
      have hKb : K ≤ 65536 := by omega
      have HCC := Lib.hid (fun (w9 : World) (gc : Nat) (h9 : gc < w9.heap.size) (hgc3 : ∀ (j : Nat) (x : Value), (List.map iV (sc ++ [sn]))[j]? = some x → w9.cell? ⟨gc, j, none⟩ = some x) (w' : World) (h : Ext w9 w') (m : Nat) (hm : m ≤ K) => show w'.cell? ⟨gc, m, none⟩ = some (.int .i64 (if m = 0 then remI xs n K else szAt xs (K - m))) from by
        rw [Below.cell (p := ⟨gc, m, none⟩) h h9, ← cntK_get hm, ← hgc]
        refine hgc3 m _ ?_
        rw [List.getElem?_map, List.getD_eq_getElem?_getD, List.getElem?_eq_getElem (by rw [List.length_append, hscK]; simp; omega)]; rfl)
      clear hit hrow hgc hK hK1 hT hscK
      go_wp2_with (first
        | (at_builtin; refine push_intg rfl _ _ rfl _ rfl hE.out (Nat.le_refl _) (by omega) hC.out rfl sn ⟨_, 0, none⟩ 1 rfl (by simp [go_sem, iV]) (by omega) ?_; intro v9 w9 hE9 hC9 hK9 _; have hO9 := Lib.hid (own_keep hO.out (fun g hg => by obtain ⟨_, cu, h3⟩ := own_at_block hO.out hg; exact (hK9.out _ _ h3 (HSW.out g hg)).trans h3.symm)); have hcv := HCV.out w9 hO9.out; obtain ⟨gc, cc, rfl, hgc1, hgc2, hgc3⟩ := own_get hC9.out (Nat.succ_pos _); have hcap9 := own_cap hC9.out; have hmx9 := own_mx hC9.out))
      have HC9 := Lib.hid (HCC.out w9 gc hgc2 hgc3)
      have hE9w := Lib.hid (ext_trans hEw3.out hE9)
      have b9 := Lib.hid (b3.out.ext hE9)
      obtain ⟨ab, aoff, rfl⟩ : ∃ b off, A = some ⟨b, off, none⟩ := by rcases HA.out.shape with ⟨_, h0, _⟩ | h0; omega; exact h0
      have hkc := HA.out.cap
      have hkm := HA.out.mx
      clear hC hE hO hcv HCV hC9 hK9 HCC hgc3 HSW hO9
      go_loopw [18] (fun v wr2 => ∃ z : Int, -1 ≤ z ∧ z ≤ K ∧ v = .int .i64 z ∧ Hid (Ext w9 wr2)) (fun v _ => (intOf v + 1).toNat)
      case atStart => exact ⟨(K : Int), by omega, by omega, by go_num, ext_refl _⟩
      case round =>
        obtain ⟨z, hz1, hz2, rfl, hE2⟩ := hrel
        have hs2 := ext_size hE2.out
        obtain ⟨p0, p1, p2, p3, p4, pl⟩ := b9.out.ext hE2.out
        have hEr := ext_trans hE9w.out hE2.out
        by_cases hz0 : 0 ≤ z
        · obtain ⟨m, rfl⟩ := Int.eq_ofNat_of_zero_le hz0
          have hmK : m ≤ K := by omega
          have hd0 : decide ((0 : Int) ≤ (m : Int)) = true := decide_eq_true hz0
          obtain ⟨ix, hix⟩ : ∃ ix : Nat, ix = min (K - m) (k - 1) := ⟨_, rfl⟩
          have hixk : ix < k := by omega
          have hmin : min ((K : Int) - (m : Int)) ((k : Int) - 1) = (ix : Int) := by omega
          obtain ⟨y, hy, hyb, hyc⟩ := (HA.out.ext hEr).get ix hixk
          have hsy : szAt xs (K - m) = y := by unfold szAt; rw [hxk, ← hix]; exact hy.out
          have hcc := HC9.out wr hE2.out m hmK
          by_cases hm0 : m = 0
          · subst hm0
            rw [if_pos rfl] at hcc
            obtain ⟨q, hq⟩ : ∃ q, remI xs n K = q := ⟨_, rfl⟩
            have hq1 := HK.out.1
            have hq2 := HK.out.2
            rw [remI, hq] at hq2
            rw [Nat.sub_zero] at hsy
            rw [hsy] at hq2
            rw [hq] at hq1 hcc
            have hq1' : ¬ q < 1 := by omega
            have hq2' : ¬ y < q := by omega
            have hmin0 : min (K : Int) ((k : Int) - 1) = (ix : Int) := by omega
            clear hmin
            clear hix hq hz0 hz1 hz2
            go_wp2
            exact ⟨⟨-1, by omega, by omega, rfl, hE2⟩, by simp [intOf] <;> omega⟩
          · rw [if_neg hm0, hsy] at hcc
            have hmp : (0 : Int) < (m : Int) := by omega
            have hm0' : ¬ (m : Int) = 0 := by omega
            clear hix hz0 hz1 hz2
            go_wp2
            exact ⟨⟨(m : Int) - 1, by omega, by omega, rfl, hE2⟩, by simp [intOf] <;> omega⟩
        · obtain rfl : z = -1 := by omega
          go_wp2
          refine bodyPost_ret (v := .bool true) ?h rfl ⟨rfl, hEr⟩
          case h => simp [results, Tryd.results5, go_sem]
theorem walk_MarksGroups (x0 : Int) (x1 : Int) (x2 : Int) (x3 : Int) (x4A : Option Addr) (x4l x4c : Nat) (x4 : List Int) (x5 : ByteArray) (w : World) (_hx0 : -2147483648 ≤ x0 ∧ x0 ≤ 2147483647) (_hx1 : -2147483648 ≤ x1 ∧ x1 ≤ 2147483647) (_hx2 : -2147483648 ≤ x2 ∧ x2 ≤ 2147483647) (_hx3 : -2147483648 ≤ x3 ∧ x3 ≤ 2147483647) (hx4 : RdI w x4A x4l x4c x4) (_hx5 : x5.size ≤ maxLen) (hL : LwT w) :
    Calls Tryd.prog 5 #[.agg #[.int .i32 x0, .int .i32 x1, .int .i32 x2, .int .i32 x3, .slice x4A x4l x4c], .string x5] w fun e w' => e = .returned (.bool true) ∧ Ext w w' := by
  obtain ⟨l, rfl⟩ := bs_of x5
  by_cases h : 3000 < l.length
  · exact gr_long x0 x1 x2 x3 x4A x4l x4c x4 l w hL hx4 h
  · by_cases hG : x1 = 0
    · subst hG
      exact gr_none x0 x2 x3 x4A x4l x4c l w hL (by omega)
    · obtain ⟨t, ce, z, hp⟩ : ∃ t ce z, putV x0 x1 x2 x3 x4 l = (t, ce, z) := ⟨_, _, _, rfl⟩
      by_cases c0 : ce = 0
      · subst c0
        exact gr_main x0 x1 x2 x3 x4A x4l x4c x4 l w hL hx4 (by omega) hG t z hp
      · exact gr_err x0 x1 x2 x3 x4A x4l x4c x4 l w hL hx4 (by omega) hG t ce z c0 hp
end Go.Proofs.YtebgmicpecekgaaDoor
end
