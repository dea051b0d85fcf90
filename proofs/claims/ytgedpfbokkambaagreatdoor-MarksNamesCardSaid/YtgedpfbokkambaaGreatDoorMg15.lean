/- Lemmas of this proof, laid together: MlA, MkT, MkU, AvA, MdC, MdD, MlB, MlC, MlD. -/
import Derived.Test.YtgedpfbokkambaaGreatDoorMg14
import Derived.Lib.MapLaws
import Derived.Deep.CutBlock
import Derived.Deep.DeepCutAuto
import Derived.Deep.RegionWith
import Derived.Deep.LoopGhost
import Derived.Lib.RuneCount
import Derived.Test.YtgedpfbokkambaaGreatDoorMg13
import Derived.Deep.AppendLies
import Derived.Maps.AppendAt
set_option linter.unusedSimpArgs false
set_option linter.unusedVariables false
section
/- Marks: runes that are written are read again. -/
namespace Go.Proofs.YtgedpfbokkambaaGreatDoor
open Go.RowKit Go.Maps
set_option maxHeartbeats 4000000
set_option maxRecDepth 100000
/-- A rune's bytes. -/
def encL (r : Int) : List UInt8 := (Utf8.encode r).data.toList
theorem fold_enc (L : List Int) : ∀ s : ByteArray, (L.foldl (fun r n => r ++ Utf8.encode n) s).data.toList = s.data.toList ++ L.flatMap encL := by
  induction L with
  | nil => intro s; simp
  | cons r L ih => intro s; rw [List.foldl_cons, ih]; simp [encL]
theorem rb_flat (L : List Int) : (runesBytes L).data.toList = L.flatMap encL := by
  unfold runesBytes
  rw [fold_enc]; simp
theorem dec_enc (r : Int) (h : stdR r) (t : List UInt8) : Lib.decodeL (encL r ++ t) = (r.toNat, (encL r).length) := by
  obtain ⟨n, rfl⟩ : ∃ n : Nat, r = n := ⟨r.toNat, by unfold stdR at h; omega⟩
  have h1 : 0 < n ∧ n ≤ 1114111 ∧ (n < 55296 ∨ 57343 < n) := by unfold stdR at h; omega
  clear h
  rw [Lib.decodeL_N]
  have hv : Utf8.valid (n : Int) = true := by unfold Utf8.valid; simp; omega
  unfold encL Utf8.encode
  simp only [hv, if_true, Int.toNat_natCast]
  by_cases a1 : n < 128
  · have e : n % 256 = n := Nat.mod_eq_of_lt (by omega)
    simp [a1, Lib.decodeN, e]
  by_cases a2 : n < 2048
  · simp [a1, a2, Lib.decodeN]
    rw [if_neg (by omega), if_pos (by omega), if_pos (by omega)]
    simp; omega
  by_cases a3 : n < 65536
  · simp [a1, a2, a3, Lib.decodeN]
    rw [if_neg (by omega), if_neg (by omega), if_pos (by omega), if_pos (by omega)]
    simp; omega
  · simp [a1, a2, a3, Lib.decodeN]
    rw [if_neg (by omega), if_neg (by omega), if_neg (by omega), if_pos (by omega), if_pos (by omega)]
    simp; omega
theorem encL_len (r : Int) : 1 ≤ (encL r).length ∧ (encL r).length ≤ 4 := by
  unfold encL Utf8.encode
  simp only
  repeat' split
  all_goals simp
/-- The runes of a text, each with its width; U+FFFD of one byte: a broken one. -/
def rnsF : Nat → List UInt8 → List (Int × Nat)
  | 0, _ => []
  | f + 1, l => if l = [] then [] else (((Lib.decodeL l).1 : Int), (Lib.decodeL l).2) :: rnsF f (l.drop (Lib.decodeL l).2)
def rns (l : List UInt8) : List (Int × Nat) := rnsF l.length l
theorem rnsF_nil : ∀ f, rnsF f [] = []
  | 0 => rfl
  | _ + 1 => by simp [rnsF]
theorem rnsF_fuel : ∀ (f g : Nat) (l : List UInt8), l.length ≤ f → l.length ≤ g → rnsF f l = rnsF g l
  | 0, g, l, h, _ => by
    have : l = [] := List.eq_nil_of_length_eq_zero (by omega)
    subst this; rw [rnsF_nil, rnsF_nil]
  | f + 1, 0, l, _, h => by
    have : l = [] := List.eq_nil_of_length_eq_zero (by omega)
    subst this; rw [rnsF_nil, rnsF_nil]
  | f + 1, g + 1, l, h1, h2 => by
    by_cases h : l = []
    · subst h; rw [rnsF_nil, rnsF_nil]
    · have hw := Lib.decodeL_width l
      have hl : 0 < l.length := List.length_pos_iff.2 h
      simp only [rnsF, if_neg h]
      rw [rnsF_fuel f g _ (by rw [List.length_drop]; omega) (by rw [List.length_drop]; omega)]
theorem rns_nil : rns [] = [] := rfl
theorem rns_cons (l : List UInt8) (h : l ≠ []) : rns l = (((Lib.decodeL l).1 : Int), (Lib.decodeL l).2) :: rns (l.drop (Lib.decodeL l).2) := by
  have hw := Lib.decodeL_width l
  have hl : 0 < l.length := List.length_pos_iff.2 h
  unfold rns
  obtain ⟨n, hn⟩ : ∃ n, l.length = n + 1 := ⟨l.length - 1, by omega⟩
  rw [hn]
  simp only [rnsF, if_neg h]
  rw [rnsF_fuel n (l.drop (Lib.decodeL l).2).length _ (by rw [List.length_drop]; omega) (Nat.le_refl _)]
/-- The walk by the runes. -/
def tkR (P G M N : Int) : List (Int × Nat) → Nat → TS → TS
  | [], _, s => s
  | (r, n) :: R, i, s => tkR P G M N R (i + n) (tkStep P G M N s i r n)
theorem tkRun_rns {P G M N : Int} (l : List UInt8) : ∀ f i s, i ≤ l.length → l.length - i ≤ f → tkRun P G M N l f i s = tkR P G M N (rns (l.drop i)) i s
  | 0, i, s, h1, h2 => by
    rw [List.drop_of_length_le (by omega), rns_nil]; rfl
  | f + 1, i, s, h1, h2 => by
    rw [tkRun]
    split
    · rename_i hlt
      have hne : l.drop i ≠ [] := fun e => by
        have := congrArg List.length e
        rw [List.length_drop] at this; simp at this; omega
      have h3 := Lib.decodeL_width (l.drop i)
      have h4 := Lib.decodeL_le (l.drop i) hne
      rw [List.length_drop] at h4
      rw [tkRun_rns l f _ _ (by omega) (by omega), rns_cons _ hne, tkR, List.drop_drop]
    · rw [List.drop_of_length_le (by omega), rns_nil]; rfl
theorem tkV_rns (P G M N : Int) (l : List UInt8) : tkV P G M N l = tkR P G M N (rns l) 0 tk0 := by
  unfold tkV
  rw [tkRun_rns l _ _ _ (Nat.zero_le _) (by omega), List.drop_zero]
theorem tkR_append {P G M N : Int} : ∀ (R S : List (Int × Nat)) (i : Nat) (s : TS), tkR P G M N (R ++ S) i s = tkR P G M N S (i + (R.map Prod.snd).sum) (tkR P G M N R i s)
  | [], S, i, s => by simp [tkR]
  | (r, n) :: R, S, i, s => by
    rw [List.cons_append, tkR, tkR_append R S, tkR]
    simp [Nat.add_assoc]
/-- The runes of a text that was written. -/
theorem rns_enc : ∀ L : List Int, (∀ r ∈ L, stdR r) → rns (L.flatMap encL) = L.map (fun r => (r, (encL r).length))
  | [], _ => rfl
  | r :: L, h => by
    have hr : stdR r := h r (by simp)
    have hd := dec_enc r hr (L.flatMap encL)
    have hl := encL_len r
    have hne : encL r ++ L.flatMap encL ≠ [] := fun e => by
      have := congrArg List.length e
      rw [List.length_append] at this
      have h9 : (([] : List UInt8)).length = 0 := rfl
      omega
    have h0 : 0 ≤ r := by unfold stdR at hr; omega
    rw [List.flatMap_cons, rns_cons _ hne, hd]
    dsimp only
    rw [List.drop_left, rns_enc L (fun x hx => h x (by simp [hx])), List.map_cons, Int.toNat_of_nonneg h0]
theorem enc_decode (l : List UInt8) (hne : l ≠ []) (hv : ¬ ((Lib.decodeL l).1 = 65533 ∧ (Lib.decodeL l).2 = 1)) : encL ((Lib.decodeL l).1 : Int) = l.take (Lib.decodeL l).2 := by
  have hl : 0 < l.length := List.length_pos_iff.2 hne
  have hd := Lib.decodeL_N l
  have k0 := (l.getD 0 0).toNat_lt
  have k1 := (l.getD 1 0).toNat_lt
  have k2 := (l.getD 2 0).toNat_lt
  have k3 := (l.getD 3 0).toNat_lt
  have eqb : ∀ (n : Nat) (x : UInt8), n = x.toNat → UInt8.ofNat n = x := fun n x h => by subst h; simp
  rw [hd] at hv ⊢
  unfold encL Utf8.encode
  rcases Lib.decodeN_shape l.length (l.getD 0 0).toNat (l.getD 1 0).toNat (l.getD 2 0).toNat (l.getD 3 0).toNat with ⟨c, e⟩ | ⟨c1, c2, c3, cv, e⟩ | ⟨c1, c2, c3, c4, cv, cs, e⟩ | ⟨c1, c2, c3, c4, c5, cv, cw, e⟩ | e
  · rw [e]
    dsimp only
    have hv2 : Utf8.valid (((l.getD 0 0).toNat : Nat) : Int) = true := by unfold Utf8.valid; simp only [Bool.or_eq_true, Bool.and_eq_true, decide_eq_true_eq]; omega
    rw [Lib.takeA l hl]
    simp only [hv2, if_true, Int.toNat_natCast]
    rw [if_pos c, eqb _ (l.getD 0 0) rfl]
  · rw [e]
    dsimp only
    have hv2 : Utf8.valid (((l.getD 0 0).toNat % 32 * 64 + (l.getD 1 0).toNat % 64 : Nat) : Int) = true := by unfold Utf8.valid; simp only [Bool.or_eq_true, Bool.and_eq_true, decide_eq_true_eq]; omega
    rw [Lib.takeB l c2]
    simp only [hv2, if_true, Int.toNat_natCast]
    rw [if_neg (by omega), if_pos (by omega), eqb _ (l.getD 0 0) (by omega), eqb _ (l.getD 1 0) (by omega)]
  · rw [e]
    dsimp only
    have hv2 : Utf8.valid (((l.getD 0 0).toNat % 16 * 4096 + (l.getD 1 0).toNat % 64 * 64 + (l.getD 2 0).toNat % 64 : Nat) : Int) = true := by unfold Utf8.valid; simp only [Bool.or_eq_true, Bool.and_eq_true, decide_eq_true_eq]; omega
    rw [Lib.takeC l c2]
    simp only [hv2, if_true, Int.toNat_natCast]
    rw [if_neg (by omega), if_neg (by omega), if_pos (by omega), eqb _ (l.getD 0 0) (by omega), eqb _ (l.getD 1 0) (by omega), eqb _ (l.getD 2 0) (by omega)]
  · rw [e]
    dsimp only
    have hv2 : Utf8.valid (((l.getD 0 0).toNat % 8 * 262144 + (l.getD 1 0).toNat % 64 * 4096 + (l.getD 2 0).toNat % 64 * 64 + (l.getD 3 0).toNat % 64 : Nat) : Int) = true := by unfold Utf8.valid; simp only [Bool.or_eq_true, Bool.and_eq_true, decide_eq_true_eq]; omega
    rw [Lib.takeD l c2]
    simp only [hv2, if_true, Int.toNat_natCast]
    rw [if_neg (by omega), if_neg (by omega), if_neg (by omega), eqb _ (l.getD 0 0) (by omega), eqb _ (l.getD 1 0) (by omega), eqb _ (l.getD 2 0) (by omega), eqb _ (l.getD 3 0) (by omega)]
  · rw [e] at hv
    exact absurd ⟨rfl, rfl⟩ hv
/-- A text without broken bytes is what its runes write. -/
theorem enc_rnsF : ∀ (f : Nat) (l : List UInt8), l.length ≤ f → (∀ p ∈ rns l, ¬ (p.1 = 65533 ∧ p.2 = 1)) → ((rns l).map Prod.fst).flatMap encL = l
  | 0, l, h, _ => by
    have : l = [] := List.eq_nil_of_length_eq_zero (by omega)
    subst this; rfl
  | f + 1, l, h, hb => by
    by_cases hn : l = []
    · subst hn; rfl
    · have hw := Lib.decodeL_width l
      have hl : 0 < l.length := List.length_pos_iff.2 hn
      rw [rns_cons l hn] at hb ⊢
      rw [List.map_cons, List.flatMap_cons, enc_rnsF f _ (by rw [List.length_drop]; omega) (fun p hp => hb p (by simp [hp]))]
      rw [enc_decode l hn (fun q => hb (((Lib.decodeL l).1 : Int), (Lib.decodeL l).2) (by simp) ⟨by simp only; omega, q.2⟩)]
      exact List.take_append_drop _ _
theorem enc_rns (l : List UInt8) (h : ∀ p ∈ rns l, ¬ (p.1 = 65533 ∧ p.2 = 1)) : ((rns l).map Prod.fst).flatMap encL = l := enc_rnsF _ _ (Nat.le_refl _) h
end Go.Proofs.YtgedpfbokkambaaGreatDoor
end
section
/- Marks: Take of the program. -/
namespace Go.Proofs.YtgedpfbokkambaaGreatDoor
open Go.RowKit Go.Maps
attribute [local go_sem] bs_size bs_extract bs_get bs_append bs_toList const_get
set_option maxHeartbeats 4000000
set_option maxRecDepth 100000
attribute [local irreducible] Calls
theorem rdy_ok {P G M N : Int} {xs : List Int} {n : Nat} (h : rdy P G M N xs n = 0) : ckv P G M N xs = 0 ∧ n ≤ 65536 := by
  unfold rdy at h
  split at h
  · rename_i q; exact absurd h q
  · rename_i q
    split at h
    · cases h
    · exact ⟨by omega, by omega⟩
theorem ckv_N9 {P G M N : Int} {xs : List Int} {k : Nat} (hl : xs.length = k) (h : ckv P G M N xs = 0) : 0 ≤ N ∧ N + 9 ≤ 1114111 := by
  obtain ⟨h1, h2, _⟩ := szOk_of (k := k) hl h
  have := h2 (N + 9) (by unfold allR; simp; exact .inr (.inr (.inr (.inr ⟨9, by omega, rfl⟩))))
  unfold stdR at this
  omega
theorem mk_Take_early (P G M N : Int) (A : Option Addr) (k c : Nat) (xs : List Int) (l : List UInt8) (w : World) (hA : RdI w A k c xs) (h : rdy P G M N xs l.length ≠ 0) :
    Calls Tryz.prog 9 #[mkV P G M N A k c, .string (bs l)] w fun e w' => ∃ v, e = .returned (.tuple #[.string (bs (takeV P G M N xs l).1), v]) ∧ Ext w w' ∧ Hid (ErrIs w' v (takeV P G M N xs l).2.1 (takeV P G M N xs l).2.2) := by
  have e1 : Hid (Ext w (w.alloc (BoxM P G M N A k c))) := ext_alloc (ext_refl w) _
  have kr := Lib.hid (mk_ready P G M N A k c xs l _ (hA.ext e1.out))
  have ht : takeV P G M N xs l = ([], rdy P G M N xs l.length, 0) := by unfold takeV; rw [if_pos h]
  rw [ht]
  obtain ⟨y, hy⟩ : ∃ y, rdy P G M N xs l.length = y := ⟨_, rfl⟩
  rw [hy] at kr h ⊢
  clear ht hy hA
  go_enter Tryz.func9, Tryz.ntmps9
  go_wp2_with (first
    | (go_at_call 22; (with_reducible refine (kr.out).mono ?_); rintro e1 w1 ⟨v, rfl, hE1, hV⟩; obtain ⟨b, rfl, hb⟩ := errV_of hV.out h))
  refine bodyPost_ret (v := .tuple #[.string (bs []), _]) ?h rfl ⟨_, rfl, ext_trans e1.out hE1, hV⟩
  case h => simp [results, Tryz.results9, go_sem]; rfl
theorem mk_Take_bad (P G M N : Int) (A : Option Addr) (k c : Nat) (xs : List Int) (l : List UInt8) (w : World) (hT : Lib.Utf8Tabs 1 2 w) (hg : 2 < w.heap.size) (hA : RdI w A k c xs) (hr0 : rdy P G M N xs l.length = 0) (hb : 0 ≤ (shpB (tkV P G M N l).plain).1) :
    Calls Tryz.prog 9 #[mkV P G M N A k c, .string (bs l)] w fun e w' => ∃ v, e = .returned (.tuple #[.string (bs (takeV P G M N xs l).1), v]) ∧ Ext w w' ∧ Hid (ErrIs w' v (takeV P G M N xs l).2.1 (takeV P G M N xs l).2.2) := by
  have e1 : Hid (Ext w (w.alloc (BoxM P G M N A k c))) := ext_alloc (ext_refl w) _
  have b1 := Lib.hid (MkAt.made w P G M N A k c)
  have kr := Lib.hid (mk_ready P G M N A k c xs l _ (hA.ext e1.out))
  obtain ⟨hck, hl⟩ := rdy_ok hr0
  have hN := ckv_N9 hA.len hck
  have hle := tkV_le P G M N l
  have hin := in_snoc (tkV_in P G M N l).p (Nat.le_refl _)
  obtain ⟨hpl, hra⟩ := tkV_len P G M N l
  have hsb := shpB_le (tkV P G M N l).plain
  have kt := Lib.hid (fun (w' : World) (hw : Ext w w') => mk_take P G M N A k c l hl hN w' (by
    obtain ⟨a, b⟩ := hT
    exact ⟨fun c hc => (Below.cell (p := ⟨1, c, none⟩) hw (by show 1 < w.heap.size; omega)).trans (a c hc), fun i hi => ⟨(Below.cell (p := ⟨2, 2 * i, none⟩) hw (by show 2 < w.heap.size; omega)).trans (b i hi).1, (Below.cell (p := ⟨2, 2 * i + 1, none⟩) hw (by show 2 < w.heap.size; omega)).trans (b i hi).2⟩⟩) (Nat.lt_of_lt_of_le hg hw.size))
  have htv : takeV P G M N xs l = if ∃ b ∈ (tkV P G M N l).broken, (b : Int) = ((tkV P G M N l).places ++ [(l.length : Int)]).getD (shpB (tkV P G M N l).plain).1.toNat 0 then
        ([], 114, ((tkV P G M N l).places ++ [(l.length : Int)]).getD (shpB (tkV P G M N l).plain).1.toNat 0)
       else ([], 12, ((tkV P G M N l).places ++ [(l.length : Int)]).getD (shpB (tkV P G M N l).plain).1.toNat 0) := by
    unfold takeV; rw [if_neg (fun q => q hr0), if_pos hb]
  rw [hr0] at kr
  have hle2 := hle.a
  have hle3 := hle.b
  have hps : (tkV P G M N l).plain.length ≤ 1000000 := by omega
  have ksh := Lib.hid (fun w' => mk_shape (tkV P G M N l).plain hps w')
  obtain ⟨bad, f, e, hs⟩ : ∃ bad f e, shpB (tkV P G M N l).plain = (bad, f, e) := ⟨_, _, _, rfl⟩
  rw [hs] at htv ksh hb hsb
  dsimp only at htv hb hsb
  obtain ⟨bn, rfl⟩ : ∃ bn : Nat, bad = bn := ⟨bad.toNat, by omega⟩
  have hbn : (Int.toNat (bn : Int)) = bn := by omega
  rw [hbn] at htv
  obtain ⟨at_, hat⟩ : ∃ z, ((tkV P G M N l).places ++ [(l.length : Int)]).getD bn 0 = z := ⟨_, rfl⟩
  rw [hat] at htv
  have hgt : ((tkV P G M N l).places ++ [(l.length : Int)])[bn]? = some at_ := by
    have hlt : bn < ((tkV P G M N l).places ++ [(l.length : Int)]).length := by simp; omega
    rw [← hat, List.getD_eq_getElem?_getD, List.getElem?_eq_getElem hlt]; rfl
  have hpl2 : ((tkV P G M N l).places ++ [(l.length : Int)]).length = (tkV P G M N l).places.length + 1 := by simp
  have hrg := hin at_ (List.mem_of_getElem? hgt)
  have hwf : (Lit.int .i64 at_).wf = true := WalkArith.wf_i64 (by omega)
  clear hin
  obtain ⟨T, hTd⟩ : ∃ T, tkV P G M N l = T := ⟨_, rfl⟩
  rw [hTd] at htv
  obtain ⟨cd, hcd⟩ : ∃ cd : Int, cd = if ∃ b ∈ T.broken, (b : Int) = at_ then 114 else 12 := ⟨_, rfl⟩
  have htv2 : takeV P G M N xs l = ([], cd, at_) := by rw [htv, hcd]; split <;> rfl
  rw [htv2]
  have HCD := Lib.hid hcd
  clear htv2 hcd
  rw [hTd] at kt ksh hgt hle2 hle3 hpl hra hpl2 hsb hps
  have hPL := Lib.hid hpl2
  have HG := Lib.hid hgt
  have hb0 : (w.alloc (BoxM P G M N A k c)).heap.size = w.heap.size + 1 := by simp
  clear hTd hat htv hs hle hr0 hA hT hgt hpl2
  go_enter Tryz.func9, Tryz.ntmps9
  go_upto_if 36 with (first
    | (go_at_call 22; (with_reducible refine (kr.out).mono ?_); rintro e1 w1 ⟨v, rfl, hE1, hV⟩; obtain rfl := errV_no hV.out; obtain ⟨p0, p1, p2, p3, p4, pl⟩ := b1.out.ext hE1)
    | (go_at_call 23; (with_reducible refine (kt.out _ (ext_trans e1.out hE1)).mono ?_); rintro e2 w2 ⟨t, vb, vp, vr, va, B, mB, rfl, hE2, hTk, hem⟩)
    | (go_at_call 24; (with_reducible refine (bl_String hTk.out hE2 (Nat.le_succ _) hps hem.out).mono ?_); rintro e3 w3 ⟨rfl, hE3, hR⟩)
    | (go_at_call 25; (with_reducible refine (ksh.out _).mono ?_); rintro e4 w4 ⟨rfl, hE4⟩))
  have R4 := Lib.hid (hR.out.ext hE4)
  have hE5 := Lib.hid (ext_trans e1.out (ext_trans hE1 (ext_trans hE3 hE4)))
  clear hE2 hTk hem hE3 hR hE4 hE1 hV p0 p1 p2 p3 p4 pl kr kt ksh
  obtain ⟨gp, cp, rfl, hgp, hgl, hgc⟩ := own_get R4.out.op (by rw [hPL.out]; omega)
  obtain ⟨tl, r2, r3, r4, r5, -, -, -, om⟩ := R4.out
  have hcat : w4.cell? ⟨gp, bn, none⟩ = some (.int .i64 at_) := hgc bn _ (by rw [List.getElem?_map, HG.out]; rfl)
  rw [hPL.out] at r2
  obtain ⟨D, hown, hD, hmc⟩ := om
  have hbnl : (bn : Int) < ((T.places.length + 1 : Nat) : Int) := by omega
  clear hgc R4
  go_upto_if 50 with (first
    | (at_lookup; refine wpList_lookup_own_int _ rfl _ _ 55 rfl 3 3 .i64 int_law map_under int_under (int_zero _) B mB _ rfl hown _ _ rfl (keyOf_int_mk int_under hwf) ?_; intro cv hcv hcw))
  have hpos := hmc _ _ hcv
  clear hcv hmc hown hD hcw
  by_cases hbr : ∃ b ∈ T.broken, (b : Int) = at_
  · have hc50 : 0 < cv := hpos.2 hbr
    have hd50 : decide (0 < cv) = true := decide_eq_true hc50
    have hcd : cd = 114 := by rw [HCD.out, if_pos hbr]
    subst hcd
    go_wp2_with (first
      | (go_at_call 26; (with_reducible refine (mk_no 114 at_ (by decide) _).mono ?_); rintro e5 w5 ⟨v, rfl, hE6, hV⟩))
    refine bodyPost_ret (v := .tuple #[.string (bs []), _]) ?h rfl ⟨_, rfl, ext_trans hE5.out hE6, hV⟩
    case h => simp [results, Tryz.results9, go_sem]; rfl
  · have hc50 : ¬ 0 < cv := fun h => hbr (hpos.1 h)
    have hd50 : decide (0 < cv) = false := decide_eq_false hc50
    have hcd : cd = 12 := by rw [HCD.out, if_neg hbr]
    subst hcd
    go_wp2_with (first
      | (go_at_call 26; (with_reducible refine (mk_no 12 at_ (by decide) _).mono ?_); rintro e5 w5 ⟨v, rfl, hE6, hV⟩))
    refine bodyPost_ret (v := .tuple #[.string (bs []), _]) ?h rfl ⟨_, rfl, ext_trans hE5.out hE6, hV⟩
    case h => simp [results, Tryz.results9, go_sem]; rfl
end Go.Proofs.YtgedpfbokkambaaGreatDoor
end
section
/- Marks: Take of the program, where the text is a number. -/
namespace Go.Proofs.YtgedpfbokkambaaGreatDoor
open Go.RowKit Go.Maps
attribute [local go_sem] bs_size bs_extract bs_get bs_append bs_toList const_get
set_option maxHeartbeats 4000000
set_option maxRecDepth 100000
attribute [local irreducible] Calls
theorem mk_Take_main (P G M N : Int) (A : Option Addr) (k c : Nat) (xs : List Int) (l : List UInt8) (w : World) (hT : Lib.Utf8Tabs 1 2 w) (hg : 2 < w.heap.size) (hA : RdI w A k c xs) (hr0 : rdy P G M N xs l.length = 0) (hb : ¬ 0 ≤ (shpB (tkV P G M N l).plain).1) :
    Calls Tryz.prog 9 #[mkV P G M N A k c, .string (bs l)] w fun e w' => ∃ v, e = .returned (.tuple #[.string (bs (takeV P G M N xs l).1), v]) ∧ Ext w w' ∧ Hid (ErrIs w' v (takeV P G M N xs l).2.1 (takeV P G M N xs l).2.2) := by
  have e1 : Hid (Ext w (w.alloc (BoxM P G M N A k c))) := ext_alloc (ext_refl w) _
  have b1 := Lib.hid (MkAt.made w P G M N A k c)
  have kr := Lib.hid (mk_ready P G M N A k c xs l _ (hA.ext e1.out))
  obtain ⟨hck, hl⟩ := rdy_ok hr0
  have hN := ckv_N9 hA.len hck
  obtain ⟨-, -, -, hso⟩ := szOk_of hA.len hck
  have hle := tkV_le P G M N l
  obtain ⟨hpl, hra⟩ := tkV_len P G M N l
  have kt := Lib.hid (fun (w' : World) (hw : Ext w w') => mk_take P G M N A k c l hl hN w' (by
    obtain ⟨a, b⟩ := hT
    exact ⟨fun c hc => (Below.cell (p := ⟨1, c, none⟩) hw (by show 1 < w.heap.size; omega)).trans (a c hc), fun i hi => ⟨(Below.cell (p := ⟨2, 2 * i, none⟩) hw (by show 2 < w.heap.size; omega)).trans (b i hi).1, (Below.cell (p := ⟨2, 2 * i + 1, none⟩) hw (by show 2 < w.heap.size; omega)).trans (b i hi).2⟩⟩) (Nat.lt_of_lt_of_le hg hw.size))
  rw [hr0] at kr
  have hle2 := hle.a
  have hle3 := hle.c
  have hps : (tkV P G M N l).plain.length ≤ 1000000 := by omega
  have ksh := Lib.hid (fun w' => mk_shape (tkV P G M N l).plain hps w')
  have hmin := shpB_m1 (tkV P G M N l).plain
  obtain ⟨bad, f, e, hs⟩ : ∃ bad f e, shpB (tkV P G M N l).plain = (bad, f, e) := ⟨_, _, _, rfl⟩
  have hbm : bad = -1 := by rw [hs] at hb hmin; dsimp only at hb hmin; omega
  subst hbm
  obtain ⟨hf1, hfe, hel, -, hdg, -⟩ := shp_ok hs
  have htv : takeV P G M N xs l = if e - f < (tkV P G M N l).runes.length then
      misA (misN (tkV P G M N l).runes (wholeN G N xs (((tkV P G M N l).plain.take e).drop f) (((tkV P G M N l).plain.take e).drop f).length) 0) ((tkV P G M N l).ats ++ [(l.length : Int)]) (tkV P G M N l).plain
      else ((tkV P G M N l).plain, 0, 0) := by
    unfold takeV; rw [if_neg (fun q => q hr0), if_neg hb, hs]
  rw [hs] at ksh
  have hdd := drop_isD hdg hel
  obtain ⟨T, hTd⟩ : ∃ T, tkV P G M N l = T := ⟨_, rfl⟩
  rw [hTd] at kt ksh hle2 hle3 hpl hra hps htv hdd hel
  obtain ⟨d, hd⟩ : ∃ d, (T.plain.take e).drop f = d := ⟨_, rfl⟩
  have hdl : d.length = e - f := by rw [← hd]; simp; omega
  rw [hd] at htv hdd
  have hexd : (bs T.plain).extract f e = bs d := by rw [bs_extract, hd]
  have kw := Lib.hid (fun (w' : World) (hw : Ext w w') => mk_whole P G M N A k c xs d w' (hA.ext hw) hso ⟨hN.1, by omega⟩ (by omega) hdd)
  have hwl := wholeN_len G N xs d d.length
  have hw0 : 0 < (wholeN G N xs d d.length).length := by
    obtain ⟨m, hm⟩ : ∃ m, d.length = m + 1 := ⟨d.length - 1, by omega⟩
    rw [hm, wholeN]; simp; omega
  obtain ⟨L, hL⟩ : ∃ L, wholeN G N xs d d.length = L := ⟨_, rfl⟩
  rw [hL] at kw htv hwl hw0
  clear hs hb hmin hdd hso hT hA hck hr0 hTd hdg hL hle
  have hb0 : (w.alloc (BoxM P G M N A k c)).heap.size = w.heap.size + 1 := by simp
  by_cases hgr : e - f < T.runes.length
  · rw [if_pos hgr] at htv
    obtain ⟨rt, rc, ra, hres⟩ : ∃ rt rc ra, takeV P G M N xs l = (rt, rc, ra) := ⟨_, _, _, rfl⟩
    rw [hres] at htv ⊢
    have HTV := Lib.hid htv
    clear htv hres
    go_enter Tryz.func9, Tryz.ntmps9
    go_upto_if 36 with (first
      | (go_at_call 22; (with_reducible refine (kr.out).mono ?_); rintro e1 w1 ⟨v, rfl, hE1, hV⟩; obtain rfl := errV_no hV.out; obtain ⟨p0, p1, p2, p3, p4, pl⟩ := b1.out.ext hE1)
      | (go_at_call 23; (with_reducible refine (kt.out _ (ext_trans e1.out hE1)).mono ?_); rintro e2 w2 ⟨t, vb, vp, vr, va, B, mB, rfl, hE2, hTk, hem⟩)
      | (go_at_call 24; (with_reducible refine (bl_String hTk.out hE2 (Nat.le_succ _) hps hem.out).mono ?_); rintro e3 w3 ⟨rfl, hE3, hR⟩)
      | (go_at_call 25; (with_reducible refine (ksh.out _).mono ?_); rintro e4 w4 ⟨rfl, hE4⟩))
    have R4 := Lib.hid (hR.out.ext hE4)
    have hE5 := Lib.hid (ext_trans e1.out (ext_trans hE1 (ext_trans hE3 hE4)))
    have hEb := Lib.hid (ext_trans hE1 (ext_trans hE3 hE4))
    clear hE2 hTk hem hE3 hR hE4 hE1 hV p0 p1 p2 p3 p4 pl kr kt ksh
    have hgr2 : (e : Int) - (f : Int) < (T.runes.length : Int) := by omega
    obtain ⟨gr, cr, rfl, hgr3, hgr4, hgrc⟩ := own_get R4.out.or (by omega)
    obtain ⟨tl, r2, r3, r4, r5, -, -, -, -⟩ := R4.out
    obtain ⟨p0, p1, p2, p3, p4, pl⟩ := b1.out.ext hEb.out
    have HGR := Lib.hid hgrc
    clear hgrc hgr
    have hfe2 : f ≤ e := by omega
    go_upto_region 13 with fail
    go_cut [13] (fun v13 wx => Hid (OwnR wx w4.heap.size v13 L.length L) ∧ Hid (Ext w4 wx))
    case first =>
      go_region_with (first
        | (go_at_call 27; (with_reducible refine (kw.out _ (ext_drew hE5.out)).mono ?_); rintro e5 w5 ⟨vw, rfl, hE6, hW⟩))
      all_goals
        go_wp2
        go_meet
        exact ⟨hW, Lib.hid (ext_trans (ext_drew (ext_refl _)) hE6)⟩
    case rest =>
      obtain ⟨hW, hE6⟩ := hcut
      obtain ⟨gL, cL, rfl, hgL1, hgL2, hgL3⟩ := own_get hW.out hw0
      have R5 := Lib.hid (R4.out.ext hE6.out)
      have hE7 := Lib.hid (ext_trans hE5.out hE6.out)
      have hgr5 : gr < wc.heap.size := Nat.lt_of_lt_of_le hgr4 hE6.out.size
      have hrc : ∀ i (hi : i < T.runes.length), wc.cell? ⟨gr, i, none⟩ = some (.int .i32 T.runes[i]) := fun i hi => by
        rw [Below.cell (p := ⟨gr, i, none⟩) hE6.out hgr4]
        exact HGR.out i _ (by rw [List.getElem?_map, List.getElem?_eq_getElem hi]; rfl)
      have hLc : ∀ i (hi : i < L.length), wc.cell? ⟨gL, i, none⟩ = some (.int .i32 L[i]) := fun i hi => hgL3 i _ (by rw [List.getElem?_map, List.getElem?_eq_getElem hi]; rfl)
      obtain ⟨ga, ca, rfl, hga1, hga2, hgac⟩ := own_get R5.out.oa (by simp)
      have hqc : ∀ i, i ≤ T.runes.length → wc.cell? ⟨ga, i, none⟩ = some (.int .i64 ((T.ats ++ [(l.length : Int)]).getD i 0)) := fun i hi => by
        have hlt : i < (T.ats ++ [(l.length : Int)]).length := by simp; omega
        exact hgac i _ (by rw [List.getElem?_map, List.getD_eq_getElem?_getD, List.getElem?_eq_getElem hlt]; rfl)
      have hal : ((T.ats ++ [(l.length : Int)]).length : Int) = T.ats.length + 1 := by simp
      obtain ⟨na, hna⟩ : ∃ na, (T.ats ++ [(l.length : Int)]).length = na := ⟨_, rfl⟩
      have hna2 : na = T.ats.length + 1 := by rw [← hna]; simp
      rw [hna] at R5
      obtain ⟨tl5, s2, s3, s4, s5, -, -, -, -⟩ := R5.out
      have HRC := Lib.hid hrc
      have HLC := Lib.hid hLc
      have HQC := Lib.hid hqc
      clear R4 R5 hW hgL3 hgac hrc hLc hqc hal hna r2 r3 r4 r5 p0 p1 p2 p3 p4 pl HGR kw hE5 hEb
      rename ∀ (a : Act) (w : World), Code.wp _ _ _ a w → _ => hK5
      refine hK5 _ _ ?_
      clear hK5
      go_wp2
      go_loopg [14, 15, 75] T.runes.length (fun gk v14 v15 v75 wr => ∃ i : Nat, gk = T.runes.length - i ∧ v75 = .int .i64 i ∧ i ≤ T.runes.length ∧ i ≤ L.length ∧ Hid (misN T.runes L 0 = misN (T.runes.drop i) (L.drop i) i) ∧ wr = wc)
      case atStart => exact ⟨0, rfl, rfl, Nat.zero_le _, Nat.zero_le _, rfl, rfl⟩
      case round =>
        obtain ⟨i, rfl, rfl, hi1, hi2, hmi, rfl⟩ := hrel
        have hq := HQC.out i hi1
        by_cases hlt : i < T.runes.length
        · have hlt' : (i : Int) < (T.runes.length : Int) := by omega
          have hci := HRC.out i hlt
          by_cases hge : L.length ≤ i
          · have hge' : (L.length : Int) ≤ (i : Int) := by omega
            have hr := HTV.out
            rw [hmi.out, misN_short _ _ _ hlt hge] at hr
            obtain ⟨rfl, rfl, hra⟩ : rt = [] ∧ rc = 231 ∧ ra = (T.ats ++ [(l.length : Int)]).getD i 0 := by
              simp only [misA, Prod.mk.injEq] at hr; exact hr
            rw [← hra] at hq
            clear hr hra hmi
            go_wp2_with (first
              | (go_at_call 26; (with_reducible refine (mk_no 231 ra (by decide) _).mono ?_); rintro e8 w8 ⟨v, rfl, hE8, hV⟩))
            refine bodyPost_ret (v := .tuple #[.string (bs []), _]) ?h rfl ⟨_, rfl, ext_trans hE7.out hE8, hV⟩
            case h => simp [results, Tryz.results9, go_sem]; rfl
          · have hge' : ¬ (L.length : Int) ≤ (i : Int) := by omega
            have hli : i < L.length := by omega
            have hcl := HLC.out i hli
            have hms := misN_drop T.runes L i hlt hli
            obtain ⟨x, hx⟩ : ∃ x, T.runes[i] = x := ⟨_, rfl⟩
            obtain ⟨y, hy⟩ : ∃ y, L[i] = y := ⟨_, rfl⟩
            rw [hx] at hci hms
            rw [hy] at hcl hms
            by_cases hxy : x = y
            · rw [if_pos hxy, ← hmi.out] at hms
              have hb : (x != y) = false := by simp [hxy]
              have HMS := Lib.hid hms
              clear hms hx hy hmi hxy
              go_wp2
              go_roundg (T.runes.length - (i + 1))
              case measure => omega
              case rel => exact ⟨i + 1, rfl, by go_num, by omega, by omega, HMS, rfl⟩
            · rw [if_neg hxy, ← hmi.out] at hms
              have hb : (x != y) = true := by simp [hxy]
              have hr := HTV.out
              rw [hms] at hr
              obtain ⟨rfl, rfl, hra⟩ : rt = [] ∧ rc = 231 ∧ ra = (T.ats ++ [(l.length : Int)]).getD i 0 := by
                simp only [misA, Prod.mk.injEq] at hr; exact hr
              rw [← hra] at hq
              clear hr hra hmi hms hx hy hxy
              go_wp2_with (first
                | (go_at_call 26; (with_reducible refine (mk_no 231 ra (by decide) _).mono ?_); rintro e8 w8 ⟨v, rfl, hE8, hV⟩))
              refine bodyPost_ret (v := .tuple #[.string (bs []), _]) ?h rfl ⟨_, rfl, ext_trans hE7.out hE8, hV⟩
              case h => simp [results, Tryz.results9, go_sem]; rfl
        · have hie : i = T.runes.length := by omega
          have hlt' : ¬ (i : Int) < (T.runes.length : Int) := by omega
          have hr := HTV.out
          rw [hmi.out, hie, misN_end _ _ (by omega)] at hr
          rw [hie] at hq
          by_cases hsh : T.runes.length < L.length
          · have hsh' : (T.runes.length : Int) < (L.length : Int) := by omega
            rw [if_pos hsh] at hr
            obtain ⟨rfl, rfl, hra⟩ : rt = [] ∧ rc = 231 ∧ ra = (T.ats ++ [(l.length : Int)]).getD T.runes.length 0 := by
              simp only [misA, Prod.mk.injEq] at hr; exact hr
            rw [← hra] at hq
            clear hr hra hmi hie
            go_upto_region 21 with fail
            go_region_with (first
              | (go_at_call 26; (with_reducible refine (mk_no 231 ra (by decide) _).mono ?_); rintro e8 w8 ⟨v, rfl, hE8, hV⟩))
            all_goals
              go_wp2
              refine bodyPost_ret (v := .tuple #[.string (bs []), _]) ?h rfl ⟨_, rfl, ext_trans hE7.out (ext_trans (ext_drew (ext_refl _)) hE8), hV⟩
              case h => simp [results, Tryz.results9, go_sem]; rfl
          · have hsh' : ¬ (T.runes.length : Int) < (L.length : Int) := by omega
            rw [if_neg hsh] at hr
            obtain ⟨rfl, rfl, rfl⟩ : rt = T.plain ∧ rc = 0 ∧ ra = 0 := by
              simp only [misA, Prod.mk.injEq] at hr; exact hr
            clear hr hmi hie
            go_wp2
            refine bodyPost_ret (v := .tuple #[.string (bs T.plain), .nilIface]) ?h rfl ⟨_, rfl, hE7.out, .inl ⟨rfl, rfl⟩⟩
            case h => simp [results, Tryz.results9, go_sem]
  · rw [if_neg hgr] at htv
    rw [htv]
    clear htv kw
    have hgr2 : ¬ ((e : Int) - (f : Int) < (T.runes.length : Int)) := by omega
    go_enter Tryz.func9, Tryz.ntmps9
    go_upto_if 36 with (first
      | (go_at_call 22; (with_reducible refine (kr.out).mono ?_); rintro e1 w1 ⟨v, rfl, hE1, hV⟩; obtain rfl := errV_no hV.out; obtain ⟨p0, p1, p2, p3, p4, pl⟩ := b1.out.ext hE1)
      | (go_at_call 23; (with_reducible refine (kt.out _ (ext_trans e1.out hE1)).mono ?_); rintro e2 w2 ⟨t, vb, vp, vr, va, B, mB, rfl, hE2, hTk, hem⟩)
      | (go_at_call 24; (with_reducible refine (bl_String hTk.out hE2 (Nat.le_succ _) hps hem.out).mono ?_); rintro e3 w3 ⟨rfl, hE3, hR⟩)
      | (go_at_call 25; (with_reducible refine (ksh.out _).mono ?_); rintro e4 w4 ⟨rfl, hE4⟩))
    have R4 := Lib.hid (hR.out.ext hE4)
    have hE5 := Lib.hid (ext_trans e1.out (ext_trans hE1 (ext_trans hE3 hE4)))
    clear hE2 hTk hem hE3 hR hE4 hE1 hV p0 p1 p2 p3 p4 pl kr kt ksh
    obtain ⟨tl, r2, r3, r4, r5, -, orr, -, -⟩ := R4.out
    obtain ⟨Ar, cr, rfl⟩ := own_shape orr
    clear orr R4
    go_wp2
    refine bodyPost_ret (v := .tuple #[.string (bs T.plain), .nilIface]) ?h rfl ⟨_, rfl, hE5.out, .inl ⟨rfl, rfl⟩⟩
    case h => simp [results, Tryz.results9, go_sem]
theorem mk_Take (P G M N : Int) (A : Option Addr) (k c : Nat) (xs : List Int) (l : List UInt8) (w : World) (hT : Lib.Utf8Tabs 1 2 w) (hg : 2 < w.heap.size) (hA : RdI w A k c xs) :
    Calls Tryz.prog 9 #[mkV P G M N A k c, .string (bs l)] w fun e w' => ∃ v, e = .returned (.tuple #[.string (bs (takeV P G M N xs l).1), v]) ∧ Ext w w' ∧ Hid (ErrIs w' v (takeV P G M N xs l).2.1 (takeV P G M N xs l).2.2) := by
  by_cases h0 : rdy P G M N xs l.length = 0
  · by_cases hb : 0 ≤ (shpB (tkV P G M N l).plain).1
    · exact mk_Take_bad P G M N A k c xs l w hT hg hA h0 hb
    · exact mk_Take_main P G M N A k c xs l w hT hg hA h0 hb
  · exact mk_Take_early P G M N A k c xs l w hA h0
end Go.Proofs.YtgedpfbokkambaaGreatDoor
end
section
/- Marks: alive: the closed facts. -/
namespace Go.Proofs.YtgedpfbokkambaaGreatDoor
open Go.RowKit
set_option maxRecDepth 100000
theorem av_p1 : putV 44 46 45 48 [3] [45, 49, 50, 51, 52, 53, 54, 55, 46, 50, 53] = ([45, 49, 46, 50, 51, 52, 46, 53, 54, 55, 44, 50, 53], 0, 0) := by kernel_rfl
theorem av_t1 : takeV 44 46 45 48 [3] [45, 49, 46, 50, 51, 52, 46, 53, 54, 55, 44, 50, 53] = ([45, 49, 50, 51, 52, 53, 54, 55, 46, 50, 53], 0, 0) := by kernel_rfl
theorem av_p2 : putV 46 44 8722 2406 [3, 2] [49, 50, 51, 52, 53, 54, 55, 56, 46, 57] = ([224, 165, 167, 44, 224, 165, 168, 224, 165, 169, 44, 224, 165, 170, 224, 165, 171, 44, 224, 165, 172, 224, 165, 173, 224, 165, 174, 46, 224, 165, 175], 0, 0) := by kernel_rfl
theorem av_t2 : takeV 44 46 45 48 [3] [49, 46, 50, 51, 52, 46] = ([], 231, 5) := by kernel_rfl
theorem av_w : Lib.runeCount (bs [97, 224, 165, 166, 255]) = 3 := by kernel_rfl
end Go.Proofs.YtgedpfbokkambaaGreatDoor
end
section
/- Marks: the document's answer: signs of marks; digits with Groups between them. -/
namespace Go.Proofs.YtgedpfbokkambaaGreatDoor
open Go.RowKit
attribute [local irreducible] Calls
set_option maxHeartbeats 4000000
set_option maxRecDepth 100000
theorem md_no (code at_ : Int) (w : World) : Calls Tryz.prog 30 #[.int .i64 code, .int .i64 at_] w fun e w' => e = .returned (.agg #[.int .i64 code, .int .i64 at_]) ∧ Ext w w' := by
  go_enter Tryz.func30, Tryz.ntmps30
  go_wp2
  refine bodyPost_ret (v := .agg #[.int .i64 code, .int .i64 at_]) ?h rfl ⟨rfl, ?_⟩
  case h => simp [results, Tryz.results30, go_sem]
  repeat (first | exact ext_refl _ | assumption | refine ext_setCell ?_ (by simp; try omega) _ | refine ext_alloc ?_ _ | refine ext_drew ?_ | refine ext_drewN ?_ _ | refine ext_trans ?_ (Aft.use _) | refine ext_trans ?_ (by assumption))
/-- A sign of a plain text, as marks have it. -/
def mrkI (P M N r : Int) : Int := if r = 45 then M else if r = 46 then P else if r = 101 then 101 else N + r - 48
theorem mrkI_byte (P M N : Int) (b : UInt8) : mrkI P M N (b.toNat : Int) = markB P M N b := by
  have e : ∀ c : UInt8, ((b.toNat : Int) = (c.toNat : Int)) ↔ b = c := fun c => by
    constructor
    · intro h; exact UInt8.toNat_inj.1 (by omega)
    · rintro rfl; rfl
  unfold mrkI markB
  have e45 := e 45
  have e46 := e 46
  have e101 := e 101
  have n45 : ((45 : UInt8).toNat : Int) = 45 := rfl
  have n46 : ((46 : UInt8).toNat : Int) = 46 := rfl
  have n101 : ((101 : UInt8).toNat : Int) = 101 := rfl
  rw [n45] at e45
  rw [n46] at e46
  rw [n101] at e101
  by_cases h1 : b = 45
  · rw [if_pos (e45.2 h1), if_neg (by rw [h1]; decide), if_pos h1]
  · rw [if_neg (fun q => h1 (e45.1 q))]
    by_cases h2 : b = 46
    · rw [if_pos (e46.2 h2), if_pos h2]
    · rw [if_neg (fun q => h2 (e46.1 q)), if_neg h2, if_neg h1]
      by_cases h3 : b = 101
      · rw [if_pos (e101.2 h3), if_pos h3]
      · rw [if_neg (fun q => h3 (e101.1 q)), if_neg h3]; omega
/-- The first i digits, with Groups. -/
def grpN (G : Int) (xs : List Int) (L : List Int) : Nat → List Int
  | 0 => []
  | i + 1 => grpN G xs L i ++ (if cutB G xs L.length i = true then [G] else []) ++ [L.getD i 0]
theorem whole_grp (G N : Int) (xs : List Int) (d : List UInt8) : ∀ i, i ≤ d.length → wholeN G N xs d i = grpN G xs (d.map (fun b => N + ((b.toNat : Int) - 48))) i
  | 0, _ => rfl
  | i + 1, h => by
    rw [wholeN, grpN, whole_grp G N xs d i (by omega), List.length_map]
    congr 2
    rw [List.getD_eq_getElem?_getD, List.getD_eq_getElem?_getD, List.getElem?_map, List.getElem?_eq_getElem (by omega : i < d.length)]; rfl
theorem grp_bare (L xs : List Int) : ∀ i, i ≤ L.length → grpN 0 xs L i = L.take i
  | 0, _ => by simp [grpN]
  | i + 1, h => by
    have hc : ¬ (cutB 0 xs L.length i = true) := by unfold cutB; simp
    rw [grpN, grp_bare L xs i (by omega), if_neg hc, List.append_nil, List.take_add_one, List.getD_eq_getElem?_getD, List.getElem?_eq_getElem (by omega : i < L.length)]; rfl
/-- The digits from the end on, with Groups. -/
def bkN (G : Int) (xs : List Int) (L : List Int) : Nat → List Int
  | 0 => []
  | m + 1 => bkN G xs L m ++ (if cutB G xs L.length (L.length - m) = true then [G] else []) ++ [L.getD (L.length - m - 1) 0]
theorem bkN_len (G : Int) (xs L : List Int) : ∀ m, (bkN G xs L m).length ≤ 2 * m
  | 0 => by simp [bkN]
  | m + 1 => by
    have := bkN_len G xs L m
    rw [bkN]
    split <;> simp <;> omega
theorem cut_top {G : Int} {xs L : List Int} {k : Nat} (hl : xs.length = k) (hs : szOk G k xs) : cutB G xs L.length L.length = false := by
  rw [← Bool.not_eq_true, ← cutB_iff hl hs]
  rintro ⟨h1, h2, j, h3, h4⟩
  rcases hs with ⟨q, _⟩ | ⟨_, q1, _, q2⟩
  · exact h1 q
  · have := remI_le q2 (by omega) (L.length : Int) j
    omega
theorem bk_grp {G : Int} {xs L : List Int} {k : Nat} (hl : xs.length = k) (hs : szOk G k xs) : ∀ m, m ≤ L.length → grpN G xs L L.length = grpN G xs L (L.length - m) ++ (if cutB G xs L.length (L.length - m) = true then [G] else []) ++ (bkN G xs L m).reverse
  | 0, _ => by rw [Nat.sub_zero, cut_top hl hs]; simp [bkN]
  | m + 1, h => by
    rw [bk_grp hl hs m (by omega)]
    obtain ⟨i, hi⟩ : ∃ i, L.length - m = i + 1 := ⟨L.length - m - 1, by omega⟩
    rw [bkN, hi, grpN, show L.length - (m + 1) = i by omega, show i + 1 - 1 = i by omega]
    simp only [List.reverse_append, List.reverse_cons, List.reverse_nil, List.nil_append, List.append_assoc]
    congr 2
    split <;> simp
theorem bk_rev {G : Int} {xs L : List Int} {k : Nat} (hl : xs.length = k) (hs : szOk G k xs) : (bkN G xs L L.length).reverse = grpN G xs L L.length := by
  have h := bk_grp hl hs L.length (Nat.le_refl _) (G := G) (L := L)
  rw [Nat.sub_self] at h
  have hc : ¬ (cutB G xs L.length 0 = true) := by unfold cutB; simp
  rw [if_neg hc] at h
  rw [h]; simp [grpN]
theorem md_grouped_none (P M N : Int) (A : Option Addr) (k c : Nat) (B : Option Addr) (n d : Nat) (w : World) :
    Calls Tryz.prog 34 #[mkV P 0 M N A k c, .slice B n d] w fun e w' => e = .returned (.slice B n d) ∧ Ext w w' := by
  go_enter Tryz.func34, Tryz.ntmps34
  go_wp2
  refine bodyPost_ret (v := .slice B n d) ?h rfl ⟨rfl, ?_⟩
  case h => simp [results, Tryz.results34, go_sem]
  repeat (first | exact ext_refl _ | assumption | refine ext_setCell ?_ (by simp; try omega) _ | refine ext_alloc ?_ _ | refine ext_drew ?_ | refine ext_drewN ?_ _ | refine ext_trans ?_ (Aft.use _) | refine ext_trans ?_ (by assumption))
end Go.Proofs.YtgedpfbokkambaaGreatDoor
end
section
/- Marks: the document's answer: digits with Groups between them: the walk. -/
namespace Go.Proofs.YtgedpfbokkambaaGreatDoor
open Go.RowKit
attribute [local irreducible] Calls
set_option maxHeartbeats 4000000
set_option maxRecDepth 100000
theorem RdR.getD {w w' : World} {b off n c : Nat} {xs : List Int} (h : RdR w (some ⟨b, off, none⟩) n c xs) (he : Ext w w') (i : Nat) (hi : i < n) : b < w'.heap.size ∧ w'.cell? ⟨b, off + i, none⟩ = some (.int .i32 (xs.getD i 0)) := (h.ext he).cells b off rfl i hi
theorem RdI.getD {w w' : World} {b off n c : Nat} {xs : List Int} (h : RdI w (some ⟨b, off, none⟩) n c xs) (he : Ext w w') (i : Nat) (hi : i < n) : b < w'.heap.size ∧ w'.cell? ⟨b, off + i, none⟩ = some (.int .i64 (xs.getD i 0)) := by
  have hl := h.len
  obtain ⟨h1, h2⟩ := (h.ext he).cells b off rfl i (by omega)
  refine ⟨h1, ?_⟩
  rw [h2, List.getD_eq_getElem?_getD, List.getElem?_eq_getElem (by omega : i < xs.length)]; rfl
theorem md_grouped_with (P G M N : Int) (hG : G ≠ 0) (A : Option Addr) (k c : Nat) (xs : List Int) (B : Option Addr) (n d : Nat) (L : List Int) (w : World) (hA : RdI w A k c xs) (hso : szOk G k xs) (hB : RdR w B n d L) (hn : n ≤ 1000000) :
    Calls Tryz.prog 34 #[mkV P G M N A k c, .slice B n d] w fun e w' => ∃ v, e = .returned v ∧ Ext w w' ∧ Hid (OwnR w' w.heap.size v (grpN G xs L n).length (grpN G xs L n)) := by
  have hGb : (G == 0) = false := by simpa using hG
  have hl := hA.len
  have hLl := hB.len
  have hkm := hA.mx
  have hkc := hA.cap
  have hdc := hB.cap
  have hdm := hB.mx
  obtain ⟨hk, hs⟩ : k ≠ 0 ∧ sizesOk xs := by
    rcases hso with ⟨q, _⟩ | ⟨_, q1, _, q2⟩
    · exact absurd q hG
    · exact ⟨q1, q2⟩
  have hx0 : xs.length ≠ 0 := by omega
  obtain ⟨b, off, rfl⟩ : ∃ b off, A = some ⟨b, off, none⟩ := by rcases hA.shape with ⟨_, h0, _⟩ | h0; omega; exact h0
  have e0 : Hid (Ext w (w.alloc (BoxM P G M N (some ⟨b, off, none⟩) k c))) := ext_alloc (ext_refl w) _
  have b1 := Lib.hid (MkAt.made w P G M N (some ⟨b, off, none⟩) k c)
  have HA := Lib.hid hA
  have HB := Lib.hid hB
  have HSO := Lib.hid hso
  have HS := Lib.hid hs
  obtain ⟨z0, hz0, hzb0, hzc0⟩ := (hA.ext e0.out).get 0 (by omega)
  have hsz0 : szAt xs 0 = z0 := by unfold szAt; rw [Nat.zero_min]; exact hz0.out
  have h01 := szAt_ge hs hx0 0
  rw [hsz0] at h01
  have hr1 : remI xs (n : Int) 1 = n - z0 := by show remI xs (n : Int) 0 - szAt xs 0 = _; rw [hsz0]; rfl
  have hbl : b < w.heap.size := (hA.cells b off rfl 0 (by omega)).1
  rw [Nat.add_zero] at hzc0
  have hbw : b < (w.alloc (BoxM P G M N (some ⟨b, off, none⟩) k c)).heap.size := by simp; omega
  have hR := Lib.hid hr1
  have hbk := Lib.hid (bk_rev hl hso (L := L))
  clear hA hB hso hs hsz0 hr1
  go_enter Tryz.func34, Tryz.ntmps34
  go_wp2
  go_region
  go_wp2
  go_loopw [5, 6, 7, 8] (fun vb vs vl vi wr => ∃ (j q ix : Nat) (lf z : Int), j ≤ n ∧ z = (j : Int) - 1 ∧ vi = .int .i64 z ∧ ix = min q (k - 1) ∧ vs = .int .i64 ix ∧ Hid (lf = (j : Int) - remI xs n (q + 1)) ∧ vl = .int .i64 lf ∧ 0 ≤ lf ∧ lf ≤ 256 ∧ Hid (q = 0 ∨ (j : Int) < remI xs n q) ∧
      Hid (OwnR wr (w.heap.size + 1) vb (bkN G xs L (n - j)).length (bkN G xs L (n - j))) ∧ Hid (Ext (w.alloc (BoxM P G M N (some ⟨b, off, none⟩) k c)) wr)) (fun _ _ _ vi _ => (intOf vi + 1).toNat)
  case atStart =>
    refine ⟨n, 0, 0, z0, (n : Int) - 1, Nat.le_refl _, rfl, by first | rfl | go_num, by omega, rfl, ?_, rfl, by omega, by omega, .inl rfl, ?_, ext_drew (ext_refl _)⟩
    · show _ = _; rw [hR.out]; omega
    · rw [Nat.sub_self]; exact ⟨rfl, .inl ⟨rfl, rfl⟩⟩
  case round =>
    obtain ⟨j, q, ix, lf, z, hj, hz, rfl, hix, rfl, hlf, rfl, hlf0, hlf2, hjq, hO, hE⟩ := hrel
    have hsz := ext_size hE.out
    obtain ⟨p0, p1, p2, p3, p4, pl⟩ := b1.out.ext hE.out
    have hEw := ext_trans e0.out hE.out
    have hbk2 := bkN_len G xs L (n - j)
    by_cases hz0' : 0 ≤ z
    · obtain ⟨m, rfl⟩ := Int.eq_ofNat_of_zero_le hz0'
      have hjm : j = m + 1 := by omega
      subst hjm
      have hmn : m < n := by omega
      obtain ⟨lb, loff, rfl⟩ : ∃ lb loff, B = some ⟨lb, loff, none⟩ := by rcases HB.out.shape with ⟨_, h0, _⟩ | h0; omega; exact h0
      obtain ⟨x, hx⟩ : ∃ x, L.getD m 0 = x := ⟨_, rfl⟩
      have HLC := Lib.hid (fun w' (h : Ext w w') => show lb < w'.heap.size ∧ w'.cell? ⟨lb, loff + m, none⟩ = some (.int .i32 x) from by rw [← hx]; exact HB.out.getD h m hmn)
      obtain ⟨hlb, hlc⟩ := HLC.out wr hEw
      have hixk : ix < k := by omega
      have hnm : n - m = (n - (m + 1)) + 1 := by omega
      have hbs : ∀ t : List Int, (if cutB G xs n (m + 1) = true then [G] else []) = t → bkN G xs L (n - m) = bkN G xs L (n - (m + 1)) ++ t ++ [x] := fun t ht => by
        rw [hnm, bkN, hLl, show n - (n - (m + 1)) = m + 1 by omega, show m + 1 - 1 = m by omega, hx, ht]
      have HBS := Lib.hid hbs
      obtain ⟨bl, hbl2⟩ : ∃ bl, bkN G xs L (n - (m + 1)) = bl := ⟨_, rfl⟩
      rw [hbl2] at hO hbk2 HBS
      have hd0 : decide ((0 : Int) ≤ (m : Int)) = true := decide_eq_true hz0'
      by_cases hl0 : lf = 0
      · have hrq : remI xs n (q + 1) = (m : Int) + 1 := by have := hlf.out; omega
        obtain ⟨iy, hiy⟩ : ∃ iy : Nat, iy = min (q + 1) (k - 1) := ⟨_, rfl⟩
        have hiyk : iy < k := by omega
        have hmin : min ((ix : Int) + 1) ((k : Int) - 1) = (iy : Int) := by omega
        obtain ⟨y, hy⟩ : ∃ y, xs.getD iy 0 = y := ⟨_, rfl⟩
        have HYC := Lib.hid (fun w' (h : Ext w w') => show b < w'.heap.size ∧ w'.cell? ⟨b, off + iy, none⟩ = some (.int .i64 y) from by rw [← hy]; exact HA.out.getD h iy hiyk)
        have hsy : szAt xs (q + 1) = y := by unfold szAt; rw [hl, ← hiy]; exact hy
        obtain ⟨hyb, hyc⟩ := HYC.out wr hEw
        have hy1 := szAt_ge HS.out hx0 (q + 1)
        rw [hsy] at hy1
        have hr2 : remI xs n (q + 1 + 1) = (m : Int) + 1 - y := by rw [remI, hrq, hsy]
        have hcut : cutB G xs n (m + 1) = true := (cutB_iff hl HSO.out n (m + 1)).1 ⟨hG, by omega, q + 1, by omega, by rw [hrq]; omega⟩
        have hbn := Lib.hid (HBS.out [G] (by rw [if_pos hcut]))
        have HR2 := Lib.hid hr2
        have HRQ := Lib.hid hrq
        have hiy2 := Lib.hid hiy
        subst hl0
        clear hlf hjq hr2 hrq hcut hix hx hbs HBS hnm hbl2 hiy hsy hz hz0' hy
        go_wp2_with (first
          | (at_builtin; refine push_i32g rfl _ _ rfl _ rfl hE.out (base := w.heap.size + 1) (by simp) (by simpa using hsz) hO.out rfl G ⟨_, 0, none⟩ 1 rfl (by simp [go_sem, rV]; done) (by omega) ?_; intro v9 w9 hE9 hO9 hK9; have hsz9 := ext_size hE9; obtain ⟨p0, p1, p2, p3, p4, pl⟩ := b1.out.ext hE9; have hEw9 := ext_trans e0.out hE9; obtain ⟨hlb9, hlc9⟩ := HLC.out w9 hEw9; obtain ⟨hyb9, hyc9⟩ := HYC.out w9 hEw9)
          | (at_builtin; refine push_i32g rfl _ _ rfl _ rfl hE9 (base := w.heap.size + 1) (by simp) (by simpa using hsz9) hO9.out rfl x ⟨_, 0, none⟩ 1 rfl (by simp [go_sem, rV]; done) (by omega) ?_; intro v8 w8 hE8 hO8 hK8))
        refine ⟨⟨m, q + 1, iy, y - 1, (m : Int) - 1, by omega, rfl, rfl, hiy2.out, rfl, ?_, rfl, by omega, by omega, .inr ?_, ?_, hE8⟩, by simp [intOf] <;> omega⟩
        · show _ = _; rw [HR2.out]; omega
        · rw [HRQ.out]; omega
        · have := hO8.out
          rw [hbn.out]
          show World.ownsRow _ _ _ _ _ _ _
          rw [List.length_append, List.length_append]
          exact this
      · have hb0 : (lf == 0) = false := by simpa using hl0
        have hncut : ¬ cutB G xs n (m + 1) = true := by
          rw [← cutB_iff hl HSO.out]
          rintro ⟨_, _, t, ht1, ht2⟩
          rcases Nat.lt_or_ge q t with h1 | h1
          · have := remI_anti HS.out hx0 (n : Int) (q + 1) (t - (q + 1))
            rw [show q + 1 + (t - (q + 1)) = t by omega] at this
            have := hlf.out
            omega
          · have := remI_anti HS.out hx0 (n : Int) t (q - t)
            rw [show t + (q - t) = q by omega] at this
            rcases hjq.out with h2 | h2
            · omega
            · omega
        have hbn := Lib.hid (HBS.out [] (by rw [if_neg hncut]))
        have hlf2' : ¬ lf = 0 := hl0
        have hlx : ∀ (v9 : Value) (w9 : World), Hid (OwnR w9 (w.heap.size + 1) v9 (bl.length + 1) (bl ++ [x])) → Hid (OwnR w9 (w.heap.size + 1) v9 (bkN G xs L (n - m)).length (bkN G xs L (n - m))) := fun v9 w9 h => by
          have := h.out
          rw [hbn.out]
          show World.ownsRow _ _ _ _ _ _ _
          rw [List.append_nil, List.length_append]
          exact this
        have hq1 : Hid (lf - 1 = (m : Int) - remI xs n (q + 1)) := by have := hlf.out; show _ = _; omega
        have hq2 : Hid (q = 0 ∨ (m : Int) < remI xs n q) := by rcases hjq.out with h2 | h2; exact .inl h2; exact .inr (by omega)
        have hix2 := Lib.hid hix
        clear hlf hjq hncut hix hx hbs HBS hnm hbl2 hz hz0' hbn
        go_wp2_with (first
          | (at_builtin; refine push_i32g rfl _ _ rfl _ rfl hE.out (base := w.heap.size + 1) (by simp) (by simpa using hsz) hO.out rfl x ⟨_, 0, none⟩ 1 rfl (by simp [go_sem, rV]; done) (by omega) ?_; intro v9 w9 hE9 hO9 hK9))
        exact ⟨⟨m, q, ix, lf - 1, (m : Int) - 1, by omega, rfl, rfl, hix2.out, rfl, hq1, rfl, by omega, by omega, hq2, hlx _ _ hO9, hE9⟩, by simp [intOf] <;> omega⟩
    · have hj0 : j = 0 := by omega
      subst hj0
      have hzn : z = -1 := by omega
      subst hzn
      rw [Nat.sub_zero] at hO hbk2
      obtain ⟨bl, hbl2⟩ : ∃ bl, bkN G xs L n = bl := ⟨_, rfl⟩
      have hbk' := hbk.out
      rw [hLl, hbl2] at hbk'
      have HBK := Lib.hid hbk'
      rw [hbl2] at hO hbk2
      obtain ⟨Ab, cb, rfl⟩ := own_shape hO.out
      have HRd := Lib.hid (RdR.own hO.out).1
      have hcb1 := HRd.out.cap
      have hcb2 := HRd.out.mx
      obtain ⟨w2, hw2⟩ : ∃ u, u = wr := ⟨wr, rfl⟩
      rw [← hw2] at hE hEw HRd hsz p0 p1 p2 p3 p4 pl ⊢
      clear hw2 hO hbk hbk' hlf hjq hbl2 hix hz hz0'
      go_wp2
      go_loopw [9, 10] (fun vo vi wr => ∃ (j : Nat) (z : Int), j ≤ bl.length ∧ z = (j : Int) - 1 ∧ vi = .int .i64 z ∧ Hid (OwnR wr w2.heap.size vo (bl.length - j) (bl.drop j).reverse) ∧ Hid (Ext w2 wr)) (fun _ vi _ => (intOf vi + 1).toNat)
      case atStart => exact ⟨bl.length, (bl.length : Int) - 1, Nat.le_refl _, rfl, by first | rfl | go_num, by rw [Nat.sub_self, List.drop_of_length_le (Nat.le_refl _)]; exact ⟨rfl, .inl ⟨rfl, rfl⟩⟩, ext_refl _⟩
      case round =>
        obtain ⟨j, z, hj, hz, rfl, hO, hE2⟩ := hrel
        have hs2 := ext_size hE2.out
        by_cases hz0' : 0 ≤ z
        · obtain ⟨m, rfl⟩ := Int.eq_ofNat_of_zero_le hz0'
          have hjm : j = m + 1 := by omega
          subst hjm
          have hmb : m < bl.length := by omega
          have hd0 : decide ((0 : Int) ≤ (m : Int)) = true := decide_eq_true hz0'
          obtain ⟨gb, go, rfl⟩ : ∃ gb go, Ab = some ⟨gb, go, none⟩ := by rcases HRd.out.shape with ⟨_, h0, _⟩ | h0; omega; exact h0
          obtain ⟨x, hx⟩ : ∃ x, bl.getD m 0 = x := ⟨_, rfl⟩
          obtain ⟨hgb, hgc⟩ := HRd.out.getD hE2.out m hmb
          rw [hx] at hgc
          have hrev : (bl.drop m).reverse = (bl.drop (m + 1)).reverse ++ [x] := by
            rw [List.drop_eq_getElem_cons hmb, List.reverse_cons, ← hx, List.getD_eq_getElem?_getD, List.getElem?_eq_getElem hmb]; rfl
          have HRV := Lib.hid (fun (v9 : Value) (w9 : World) (h : Hid (OwnR w9 w2.heap.size v9 (bl.length - (m + 1) + 1) ((bl.drop (m + 1)).reverse ++ [x]))) => show Hid (OwnR w9 w2.heap.size v9 (bl.length - m) (bl.drop m).reverse) from by
            have := h.out
            rw [hrev]
            rw [show bl.length - (m + 1) + 1 = bl.length - m by omega] at this
            exact this)
          clear hx hrev hz hz0'
          go_wp2_with (first
            | (at_builtin; refine push_i32g rfl _ _ rfl _ rfl hE2.out (Nat.le_refl _) (by omega) hO.out rfl x ⟨_, 0, none⟩ 1 rfl (by simp [go_sem, rV]; done) (by omega) ?_; intro v9 w9 hE9 hO9 hK9))
          exact ⟨⟨m, (m : Int) - 1, by omega, rfl, rfl, HRV.out _ _ hO9, hE9⟩, by simp [intOf] <;> omega⟩
        · have hj0 : j = 0 := by omega
          subst hj0
          have hzn : z = -1 := by omega
          subst hzn
          rw [Nat.sub_zero, List.drop_zero, HBK.out] at hO
          have hlg : bl.length = (grpN G xs L n).length := by have := congrArg List.length HBK.out; rw [List.length_reverse] at this; exact this
          rw [hlg] at hO
          have hsw := ext_size hEw
          obtain ⟨Ao, co, rfl⟩ := own_shape hO.out
          clear hz hz0' hlg
          go_wp2
          refine bodyPost_ret (v := .slice Ao (grpN G xs L n).length co) ?h rfl ⟨_, rfl, ext_trans hEw hE2.out, own_base hO.out hsw⟩
          case h => simp [results, Tryz.results34, go_sem]
end Go.Proofs.YtgedpfbokkambaaGreatDoor
end
section
/- Marks: what is put is taken back. -/
namespace Go.Proofs.YtgedpfbokkambaaGreatDoor
open Go.RowKit Go.Maps
set_option maxHeartbeats 4000000
set_option maxRecDepth 100000
abbrev cl (P G M N : Int) (p : Int × Nat) : UInt8 := clsC P G M N p.1 p.2
theorem tkR_pre {P G M N : Int} : ∀ (R : List (Int × Nat)) (i : Nat) (s : TS), (∀ p ∈ R, isD (cl P G M N p) = false) → s.begun = false →
    (tkR P G M N R i s).plain = s.plain ++ R.map (cl P G M N) ∧ (tkR P G M N R i s).runes = s.runes ∧ (tkR P G M N R i s).begun = false ∧ (tkR P G M N R i s).inside = s.inside
  | [], i, s, _, hb => by simp [tkR, hb]
  | (r, n) :: R, i, s, h, hb => by
    have hd := h (r, n) (by simp)
    rw [tkR, tkDn (s := s) (i := i) (r := r) (n := n) rfl hd rfl (by rw [hb]; rfl)]
    obtain ⟨h1, h2, h3, h4⟩ := tkR_pre R (i + n) ⟨s.plain ++ [clsC P G M N r n], s.places ++ [(i : Int)], s.runes, s.ats, if r = 65533 ∧ n = 1 then s.broken ++ [i] else s.broken, s.begun, s.inside⟩ (fun p hp => h p (by simp [hp])) hb
    exact ⟨by rw [h1]; simp, h2, h3, h4⟩
theorem tkR_in {P G M N : Int} : ∀ (R : List (Int × Nat)) (i : Nat) (s : TS), (∀ p ∈ R, isD (cl P G M N p) = true ∨ cl P G M N p = 103) → s.begun = true → s.inside = true →
    (tkR P G M N R i s).plain = s.plain ++ (R.map (cl P G M N)).filter isD ∧ (tkR P G M N R i s).runes = s.runes ++ R.map Prod.fst ∧ (tkR P G M N R i s).begun = true ∧ (tkR P G M N R i s).inside = true
  | [], i, s, _, hb, hi => by simp [tkR, hb, hi]
  | (r, n) :: R, i, s, h, hb, hi => by
    rcases h (r, n) (by simp) with hd | hg
    · rw [tkR, tkB (s := s) (i := i) (r := r) (n := n) rfl hd rfl hi]
      obtain ⟨h1, h2, h3, h4⟩ := tkR_in R (i + n) ⟨s.plain ++ [clsC P G M N r n], s.places ++ [(i : Int)], s.runes ++ [r], s.ats ++ [(i : Int)], if r = 65533 ∧ n = 1 then s.broken ++ [i] else s.broken, true, true⟩ (fun p hp => h p (by simp [hp])) rfl rfl
      refine ⟨?_, ?_, h3, h4⟩
      · rw [h1, List.map_cons, List.filter_cons_of_pos hd]; simp
      · rw [h2]; simp
    · rw [tkR, tkA (s := s) (i := i) (r := r) (n := n) hg rfl hb hi]
      obtain ⟨h1, h2, h3, h4⟩ := tkR_in R (i + n) ⟨s.plain, s.places, s.runes ++ [r], s.ats ++ [(i : Int)], if r = 65533 ∧ n = 1 then s.broken ++ [i] else s.broken, true, true⟩ (fun p hp => h p (by simp [hp])) rfl rfl
      refine ⟨?_, ?_, h3, h4⟩
      · rw [h1, List.map_cons, List.filter_cons_of_neg (by rw [hg]; decide)]
      · rw [h2]; simp
theorem tkR_out {P G M N : Int} : ∀ (R : List (Int × Nat)) (i : Nat) (s : TS), s.inside = false →
    (tkR P G M N R i s).plain = s.plain ++ R.map (cl P G M N) ∧ (tkR P G M N R i s).runes = s.runes
  | [], i, s, _ => by simp [tkR]
  | (r, n) :: R, i, s, hi => by
    rw [tkR, tkD (s := s) (i := i) (r := r) (n := n) rfl rfl (by rw [hi, Bool.and_false])]
    obtain ⟨h1, h2⟩ := tkR_out R (i + n) ⟨s.plain ++ [clsC P G M N r n], s.places ++ [(i : Int)], s.runes, s.ats, if r = 65533 ∧ n = 1 then s.broken ++ [i] else s.broken, s.begun || isD (clsC P G M N r n), s.inside⟩ hi
    exact ⟨by rw [h1]; simp, h2⟩
/-- The walk's plain text and whole part, by the runes' classes. -/
theorem tk_form {P G M N : Int} (A : List (Int × Nat)) (c : Int × Nat) (C D : List (Int × Nat)) (hA : ∀ p ∈ A, isD (cl P G M N p) = false) (hc : isD (cl P G M N c) = true) (hC : ∀ p ∈ C, isD (cl P G M N p) = true ∨ cl P G M N p = 103)
    (hD : ∀ p E, D = p :: E → isD (cl P G M N p) = false ∧ cl P G M N p ≠ 103) :
    (tkR P G M N (A ++ (c :: C) ++ D) 0 tk0).plain = A.map (cl P G M N) ++ ((c :: C).map (cl P G M N)).filter isD ++ D.map (cl P G M N) ∧ (tkR P G M N (A ++ (c :: C) ++ D) 0 tk0).runes = (c :: C).map Prod.fst := by
  rw [tkR_append, tkR_append]
  obtain ⟨a1, a2, a3, a4⟩ := tkR_pre A 0 tk0 hA rfl
  generalize tkR P G M N A 0 tk0 = s at *
  obtain ⟨r, n⟩ := c
  rw [tkR, tkB (s := s) (r := r) (n := n) rfl hc rfl a4]
  obtain ⟨b1, b2, b3, b4⟩ := tkR_in C (0 + (A.map Prod.snd).sum + n) ⟨s.plain ++ [clsC P G M N r n], s.places ++ [((0 + (A.map Prod.snd).sum : Nat) : Int)], s.runes ++ [r], s.ats ++ [((0 + (A.map Prod.snd).sum : Nat) : Int)], if r = 65533 ∧ n = 1 then s.broken ++ [0 + (A.map Prod.snd).sum] else s.broken, true, true⟩ hC rfl rfl
  generalize tkR P G M N C _ _ = s2 at *
  have e1 : s2.plain = A.map (cl P G M N) ++ (((r, n) :: C).map (cl P G M N)).filter isD := by
    rw [b1, List.map_cons, List.filter_cons_of_pos hc, a1]; simp [tk0]
  have e2 : s2.runes = ((r, n) :: C).map Prod.fst := by rw [b2, a2]; simp [tk0]
  cases D with
  | nil => simp only [tkR, List.map_nil, List.append_nil]; exact ⟨e1, e2⟩
  | cons p E =>
    obtain ⟨q1, q2⟩ := hD p E rfl
    obtain ⟨r3, n3⟩ := p
    rw [tkR, tkC (s := s2) (r := r3) (n := n3) rfl q1 q2 rfl b3 b4]
    obtain ⟨c1, c2⟩ := tkR_out (P := P) (G := G) (M := M) (N := N) E (0 + ((A ++ (r, n) :: C).map Prod.snd).sum + n3) ⟨s2.plain ++ [clsC P G M N r3 n3], s2.places ++ [((0 + ((A ++ (r, n) :: C).map Prod.snd).sum : Nat) : Int)], s2.runes, s2.ats ++ [((0 + ((A ++ (r, n) :: C).map Prod.snd).sum : Nat) : Int)], if r3 = 65533 ∧ n3 = 1 then s2.broken ++ [0 + ((A ++ (r, n) :: C).map Prod.snd).sum] else s2.broken, true, false⟩ rfl
    refine ⟨?_, ?_⟩
    · rw [c1]; dsimp only; rw [e1]; simp
    · rw [c2]; exact e2
theorem tk_none {P G M N : Int} (R : List (Int × Nat)) (h : ∀ p ∈ R, isD (cl P G M N p) = false) : (tkR P G M N R 0 tk0).plain = R.map (cl P G M N) ∧ (tkR P G M N R 0 tk0).runes = [] := by
  obtain ⟨a1, a2, _, _⟩ := tkR_pre R 0 tk0 h rfl
  exact ⟨by rw [a1]; simp [tk0], by rw [a2]; simp [tk0]⟩
theorem span_at {α : Type} (p : α → Bool) : ∀ R : List α, ∃ A D, R = A ++ D ∧ (∀ x ∈ A, p x = true) ∧ ∀ x E, D = x :: E → p x = false
  | [] => ⟨[], [], rfl, by simp, by simp⟩
  | x :: R => by
    obtain ⟨A, D, h1, h2, h3⟩ := span_at p R
    cases hx : p x with
    | true => exact ⟨x :: A, D, by rw [h1]; rfl, by simpa [hx] using h2, h3⟩
    | false => exact ⟨[], x :: R, rfl, by simp, by intro y E he; simp at he; rw [← he.1]; exact hx⟩
theorem tk_split (P G M N : Int) (R : List (Int × Nat)) : (∀ p ∈ R, isD (cl P G M N p) = false) ∨ ∃ A c C D, R = A ++ (c :: C) ++ D ∧ (∀ p ∈ A, isD (cl P G M N p) = false) ∧ isD (cl P G M N c) = true ∧ (∀ p ∈ C, isD (cl P G M N p) = true ∨ cl P G M N p = 103) ∧
    (∀ p E, D = p :: E → isD (cl P G M N p) = false ∧ cl P G M N p ≠ 103) := by
  obtain ⟨A, B, rfl, h2, h3⟩ := span_at (fun p => !isD (cl P G M N p)) R
  have hA : ∀ p ∈ A, isD (cl P G M N p) = false := fun p hp => by simpa using h2 p hp
  cases B with
  | nil => exact .inl (by simpa using hA)
  | cons c B =>
    obtain ⟨C, D, rfl, h5, h6⟩ := span_at (fun p => isD (cl P G M N p) || decide (cl P G M N p = 103)) B
    refine .inr ⟨A, c, C, D, by simp, hA, by simpa using h3 c _ rfl, fun p hp => by simpa using h5 p hp, fun p E he => by simpa using h6 p E he⟩
/-- Marks that may be. -/
structure GoodM (P G M N : Int) : Prop where
  pm : P ≠ M
  p1 : P ≠ 101
  m1 : M ≠ 101
  nd : ∀ k : Nat, k < 10 → N + k ≠ P ∧ N + k ≠ M ∧ N + k ≠ 101
  g : G ≠ 0 → G ≠ P ∧ G ≠ M ∧ G ≠ 101 ∧ ∀ k : Nat, k < 10 → N + k ≠ G
  sP : stdR P
  sM : stdR M
  sG : G ≠ 0 → stdR G
  sN : ∀ k : Nat, k < 10 → stdR (N + k)
theorem goodM {P G M N : Int} (h1 : ∀ r ∈ allR P G M N, stdR r) (h2 : (allR P G M N).Nodup) : GoodM P G M N := by
  unfold allR at h1 h2
  by_cases hG : G = 0
  · rw [if_pos hG] at h1 h2
    simp only [List.cons_append, List.nil_append, List.append_nil, List.nodup_cons, List.mem_cons, List.mem_map, List.mem_range, not_or, List.not_mem_nil, false_or] at h1 h2
    refine ⟨fun e => h2.2.1.1 e, fun e => h2.1.1 e.symm, fun e => h2.1.2.1 e.symm, fun k hk => ⟨fun e => h2.2.1.2 ⟨k, hk, e⟩, fun e => h2.2.2.1 ⟨k, hk, e⟩, fun e => h2.1.2.2 ⟨k, hk, e⟩⟩, fun h => absurd hG h, h1 _ (by simp), h1 _ (by simp), fun h => absurd hG h, fun k hk => h1 _ (.inr (.inr (.inr ⟨k, hk, rfl⟩)))⟩
  · rw [if_neg hG] at h1 h2
    simp only [List.cons_append, List.nil_append, List.append_nil, List.nodup_cons, List.mem_cons, List.mem_map, List.mem_range, not_or, List.not_mem_nil, false_or] at h1 h2
    refine ⟨fun e => h2.2.1.1 e, fun e => h2.1.1 e.symm, fun e => h2.1.2.1 e.symm, fun k hk => ⟨fun e => h2.2.1.2.2 ⟨k, hk, e⟩, fun e => h2.2.2.1.2 ⟨k, hk, e⟩, fun e => h2.1.2.2.2 ⟨k, hk, e⟩⟩,
      fun h => ⟨fun e => h2.2.1.2.1 e.symm, fun e => h2.2.2.1.1 e.symm, fun e => h2.1.2.2.1 e.symm, fun k hk e => h2.2.2.2.1 ⟨k, hk, e⟩⟩, h1 _ (by simp), h1 _ (by simp), fun h => h1 _ (by simp), fun k hk => h1 _ (.inr (.inr (.inr (.inr ⟨k, hk, rfl⟩))))⟩
theorem good_of {P G M N : Int} {xs : List Int} (h : ckv P G M N xs = 0) : GoodM P G M N := by
  obtain ⟨_, h1, h2, _⟩ := szOk_of (k := xs.length) rfl h
  exact goodM h1 h2
theorem isD_iff (b : UInt8) : isD b = true ↔ 48 ≤ b.toNat ∧ b.toNat ≤ 57 := by simp [isD]
theorem broken_no {r : Int} : ¬ (r = 65533 ∧ (encL r).length = 1) := by
  rintro ⟨rfl, h⟩
  revert h; decide
theorem markB_dig {P M N : Int} {b : UInt8} (h : isD b = true) : markB P M N b = N + ((b.toNat : Int) - 48) := by
  have h2 := (isD_iff b).1 h
  unfold markB
  rw [if_neg (fun e => by subst e; revert h2; decide), if_neg (fun e => by subst e; revert h2; decide), if_neg (fun e => by subst e; revert h2; decide)]
  omega
theorem cl_dig {P G M N : Int} (hg : GoodM P G M N) {b : UInt8} (h : isD b = true) {n : Nat} (hn : ¬ (N + ((b.toNat : Int) - 48) = 65533 ∧ n = 1)) : clsC P G M N (N + ((b.toNat : Int) - 48)) n = b := by
  have h2 := (isD_iff b).1 h
  obtain ⟨k, hk⟩ : ∃ k : Nat, b.toNat = 48 + k := ⟨b.toNat - 48, by omega⟩
  have hr : N + ((b.toNat : Int) - 48) = N + k := by omega
  rw [hr] at hn ⊢
  obtain ⟨q1, q2, q3⟩ := hg.nd k (by omega)
  unfold clsC
  rw [if_neg hn, if_neg q2, if_neg q1, if_neg q3, if_pos (by omega)]
  apply UInt8.toNat_inj.1
  rw [show (N + (k : Int) - N).toNat = k by omega, ← hk]
  simp
theorem cl_mark {P G M N : Int} (hg : GoodM P G M N) {b : UInt8} (h : PlB b) {n : Nat} (hn : ¬ (markB P M N b = 65533 ∧ n = 1)) : clsC P G M N (markB P M N b) n = b := by
  rcases h with rfl | rfl | rfl | h
  · have e : markB P M N 46 = P := rfl
    rw [e] at hn ⊢
    unfold clsC
    rw [if_neg hn, if_neg hg.pm, if_pos rfl]
  · have e : markB P M N 45 = M := rfl
    rw [e] at hn ⊢
    unfold clsC
    rw [if_neg hn, if_pos rfl]
  · have e : markB P M N 101 = 101 := rfl
    rw [e] at hn ⊢
    unfold clsC
    rw [if_neg hn, if_neg (fun q => hg.m1 q.symm), if_neg (fun q => hg.p1 q.symm), if_pos rfl]
  · rw [markB_dig h] at hn ⊢
    exact cl_dig hg h hn
theorem cl_G {P G M N : Int} (hg : GoodM P G M N) (h : G ≠ 0) {n : Nat} (hn : ¬ (G = 65533 ∧ n = 1)) : clsC P G M N G n = 103 := by
  obtain ⟨q1, q2, q3, q4⟩ := hg.g h
  unfold clsC
  rw [if_neg hn, if_neg q2, if_neg q1, if_neg q3, if_neg (fun q => q4 (G - N).toNat (by omega) (by omega)), if_pos ⟨h, rfl⟩]
/-- What a class says of its rune. -/
theorem cl_inv {P G M N : Int} {r : Int} {n : Nat} (h : clsC P G M N r n ≠ 120) : ¬ (r = 65533 ∧ n = 1) ∧ (clsC P G M N r n = 103 → r = G ∧ G ≠ 0) ∧ (clsC P G M N r n ≠ 103 → PlB (clsC P G M N r n) ∧ r = markB P M N (clsC P G M N r n)) := by
  obtain ⟨c, hc⟩ : ∃ c, clsC P G M N r n = c := ⟨_, rfl⟩
  rw [hc] at h ⊢
  unfold clsC at hc
  split at hc
  · exact absurd hc.symm h
  rename_i h0
  refine ⟨h0, ?_⟩
  split at hc
  · rename_i h1; subst h1; subst hc; exact ⟨fun e => absurd e (by decide), fun _ => ⟨.inr (.inl rfl), rfl⟩⟩
  split at hc
  · rename_i h2; subst h2; subst hc; exact ⟨fun e => absurd e (by decide), fun _ => ⟨.inl rfl, rfl⟩⟩
  split at hc
  · rename_i h3; subst h3; subst hc; exact ⟨fun e => absurd e (by decide), fun _ => ⟨.inr (.inr (.inl rfl)), rfl⟩⟩
  split at hc
  · rename_i h4
    have hz : c.toNat = 48 + (r - N).toNat := by rw [← hc]; simp; omega
    have hd : isD c = true := by rw [isD_iff, hz]; omega
    refine ⟨fun e => by rw [e] at hd; exact absurd hd (by decide), fun _ => ⟨.inr (.inr (.inr hd)), ?_⟩⟩
    rw [markB_dig hd, hz]; omega
  split at hc
  · rename_i h5; exact ⟨fun _ => ⟨h5.2, h5.1⟩, fun e => absurd hc.symm e⟩
  · exact absurd hc.symm h
end Go.Proofs.YtgedpfbokkambaaGreatDoor
end
section
/- Marks: what is put is taken back; what is taken is put again: the plain laws. -/
namespace Go.Proofs.YtgedpfbokkambaaGreatDoor
open Go.RowKit Go.Maps
set_option maxHeartbeats 4000000
set_option maxRecDepth 100000
/-- A whole part ends where its digits end. -/
theorem shp_row {l : List UInt8} {f e : Nat} (h : shpB l = (-1, f, e)) : e = f + rowN l f := by
  obtain ⟨f0, hf0⟩ : ∃ f0 : Nat, (if l[0]? = some 45 then 1 else 0) = f0 := ⟨_, rfl⟩
  unfold shpB at h
  simp only [hf0] at h
  split at h
  · simp only [Prod.mk.injEq] at h; omega
  split at h
  · simp only [Prod.mk.injEq] at h; omega
  split at h
  · simp only [Prod.mk.injEq] at h; omega
  split at h
  · simp only [Prod.mk.injEq] at h; omega
  simp only [Prod.mk.injEq, true_and] at h
  obtain ⟨rfl, h2⟩ := h
  exact h2.symm
theorem takeWhile_stop : ∀ (l : List UInt8), (l.takeWhile isD).length < l.length → isD (l.getD (l.takeWhile isD).length 0) = false
  | [], h => by simp at h
  | x :: t, h => by
    cases hx : isD x with
    | false => rw [List.takeWhile_cons_of_neg (by simp [hx])]; simpa using hx
    | true =>
      rw [List.takeWhile_cons_of_pos hx] at h ⊢
      rw [List.length_cons, List.length_cons] at h
      rw [List.length_cons, List.getD_cons_succ]
      exact takeWhile_stop t (by omega)
theorem shp_stop {l : List UInt8} {f e : Nat} (h : shpB l = (-1, f, e)) (he : e < l.length) : isD (l.getD e 0) = false := by
  have h1 := shp_row h
  obtain ⟨_, h2, _⟩ := shp_ok h
  unfold rowN at h1
  have h3 := takeWhile_stop (l.drop f) (by rw [List.length_drop]; omega)
  rw [List.getD_eq_getElem?_getD, List.getElem?_drop, ← List.getD_eq_getElem?_getD] at h3
  rwa [← h1] at h3
theorem PlB_not {b : UInt8} (h : PlB b) : b ≠ 103 ∧ b ≠ 120 := by
  rcases h with rfl | rfl | rfl | h
  · decide
  · decide
  · decide
  · exact ⟨fun e => by subst e; revert h; decide, fun e => by subst e; revert h; decide⟩
theorem cutB_zero (G : Int) (xs : List Int) (n : Nat) : cutB G xs n 0 = false := by unfold cutB; simp
theorem mem_getD {l : List UInt8} {P : UInt8 → Prop} (h : ∀ i, i < l.length → P (l.getD i 0)) : ∀ b ∈ l, P b := by
  intro b hb
  obtain ⟨i, hi, rfl⟩ := List.mem_iff_getElem.1 hb
  have := h i hi
  rwa [List.getD_eq_getElem?_getD, List.getElem?_eq_getElem hi] at this
/-- The whole part's runes, by their classes. -/
theorem whole_cl {P G M N : Int} (hg : GoodM P G M N) (xs : List Int) (d : List UInt8) (hd : ∀ b ∈ d, isD b = true) : ∀ i, i ≤ d.length →
    (∀ r ∈ wholeN G N xs d i, isD (clsC P G M N r (encL r).length) = true ∨ clsC P G M N r (encL r).length = 103) ∧ ((wholeN G N xs d i).map (fun r => clsC P G M N r (encL r).length)).filter isD = d.take i ∧ (∀ r ∈ wholeN G N xs d i, stdR r)
  | 0, _ => by simp [wholeN]
  | i + 1, hi => by
    obtain ⟨h1, h2, h3⟩ := whole_cl hg xs d hd i (by omega)
    have hx : isD (d.getD i 0) = true := by
      rw [List.getD_eq_getElem?_getD, List.getElem?_eq_getElem (by omega : i < d.length)]; exact hd _ (List.getElem_mem _)
    obtain ⟨x, hxx⟩ : ∃ x, d.getD i 0 = x := ⟨_, rfl⟩
    rw [wholeN, hxx]
    rw [hxx] at hx
    have hc := cl_dig hg hx (n := (encL (N + ((x.toNat : Int) - 48))).length) broken_no
    have hs : stdR (N + ((x.toNat : Int) - 48)) := by
      have h4 := (isD_iff x).1 hx
      have := hg.sN (x.toNat - 48) (by omega)
      rwa [show N + ((x.toNat - 48 : Nat) : Int) = N + ((x.toNat : Int) - 48) by omega] at this
    have ht : d.take (i + 1) = d.take i ++ [x] := by
      rw [List.take_add_one, List.getElem?_eq_getElem (by omega : i < d.length)]
      rw [List.getD_eq_getElem?_getD, List.getElem?_eq_getElem (by omega : i < d.length)] at hxx
      simp only [Option.getD_some] at hxx
      rw [hxx]; rfl
    by_cases hcut : cutB G xs d.length i = true
    · have hG : G ≠ 0 := by unfold cutB at hcut; simp at hcut; exact hcut.1.1
      have hcg := cl_G hg hG (n := (encL G).length) broken_no
      rw [if_pos hcut]
      refine ⟨?_, ?_, ?_⟩
      · intro r hr
        simp only [List.mem_append, List.mem_singleton] at hr
        rcases hr with (hr | rfl) | rfl
        · exact h1 r hr
        · exact .inr hcg
        · exact .inl (by rw [hc]; exact hx)
      · simp only [List.map_append, List.filter_append, h2, List.map_cons, List.map_nil, hcg, hc, ht]
        rw [List.filter_cons_of_neg (by decide), List.filter_cons_of_pos hx]; simp
      · intro r hr
        simp only [List.mem_append, List.mem_singleton] at hr
        rcases hr with (hr | rfl) | rfl
        · exact h3 r hr
        · exact hg.sG hG
        · exact hs
    · rw [if_neg hcut, List.append_nil]
      refine ⟨?_, ?_, ?_⟩
      · intro r hr
        simp only [List.mem_append, List.mem_singleton] at hr
        rcases hr with hr | rfl
        · exact h1 r hr
        · exact .inl (by rw [hc]; exact hx)
      · simp only [List.map_append, List.filter_append, h2, List.map_cons, List.map_nil, hc, ht]
        rw [List.filter_cons_of_pos hx]; simp
      · intro r hr
        simp only [List.mem_append, List.mem_singleton] at hr
        rcases hr with hr | rfl
        · exact h3 r hr
        · exact hs
theorem whole_head {G N : Int} (xs : List Int) (d : List UInt8) : ∀ i, wholeN G N xs d (i + 1) = (N + (((d.getD 0 0).toNat : Int) - 48)) :: (wholeN G N xs d (i + 1)).tail
  | 0 => by simp only [wholeN, cutB_zero]; rfl
  | i + 1 => by
    rw [wholeN, whole_head xs d i]; simp
theorem std_101 : stdR 101 := by unfold stdR; omega
theorem std_mark {P G M N : Int} (hg : GoodM P G M N) {b : UInt8} (h : PlB b) : stdR (markB P M N b) := by
  rcases h with rfl | rfl | rfl | h
  · exact hg.sP
  · exact hg.sM
  · exact std_101
  · rw [markB_dig h]
    have h4 := (isD_iff b).1 h
    have := hg.sN (b.toNat - 48) (by omega)
    rwa [show N + ((b.toNat - 48 : Nat) : Int) = N + ((b.toNat : Int) - 48) by omega] at this
theorem shp_split {l : List UInt8} {f e : Nat} (h : shpB l = (-1, f, e)) : l = (if 0 < f then [45] else []) ++ (l.take e).drop f ++ l.drop e := by
  obtain ⟨h1, h2, h3, h4, _⟩ := shp_ok h
  have e1 : l = l.take f ++ ((l.take e).drop f ++ l.drop e) := by
    have e2 : (l.take e).drop f ++ l.drop e = l.drop f := by
      have := congrArg (List.drop f) (List.take_append_drop e l)
      rw [List.drop_append_of_le_length (by rw [List.length_take]; omega)] at this
      exact this
    rw [e2, List.take_append_drop]
  have e3 : l.take f = if 0 < f then [45] else [] := by
    rcases h4 with ⟨h5, rfl⟩ | ⟨_, rfl⟩
    · cases l with
      | nil => simp at h5
      | cons a t => simp at h5; subst h5; simp
    · simp
  rw [e3] at e1
  rw [List.append_assoc]
  exact e1
/-- What the walk takes of a text that was put. -/
theorem tk_put {P G M N : Int} (hg : GoodM P G M N) (xs : List Int) {l : List UInt8} {f e : Nat} (hs : shpB l = (-1, f, e)) :
    (tkV P G M N ((putL P G M N xs l f e).flatMap encL)).plain = l ∧ (tkV P G M N ((putL P G M N xs l f e).flatMap encL)).runes = wholeN G N xs ((l.take e).drop f) ((l.take e).drop f).length := by
  obtain ⟨h1, h2, h3, h4, h5, h6⟩ := shp_ok hs
  have hsp := shp_split hs
  have hst := fun q => shp_stop hs q
  have hdd := drop_isD h5 h3
  have hdl : ((l.take e).drop f).length = e - f := by rw [List.length_drop, List.length_take]; omega
  have hpd : ∀ b ∈ l.drop e, PlB b := mem_getD (fun i hi => by
    rw [List.length_drop] at hi
    rw [List.getD_eq_getElem?_getD, List.getElem?_drop, ← List.getD_eq_getElem?_getD]
    exact h6 (e + i) (by omega) (by omega))
  unfold putL
  generalize (l.take e).drop f = d at *
  obtain ⟨j, hj⟩ : ∃ j, d.length = j + 1 := ⟨d.length - 1, by omega⟩
  obtain ⟨w1, w2, w3⟩ := whole_cl hg xs d hdd d.length (Nat.le_refl _)
  rw [List.take_of_length_le (Nat.le_refl _)] at w2
  have hhd := whole_head (G := G) (N := N) xs d j
  rw [← hj] at hhd
  obtain ⟨W, hW⟩ : ∃ W, wholeN G N xs d d.length = W := ⟨_, rfl⟩
  rw [hW] at w1 w2 w3 hhd ⊢
  obtain ⟨x, hx⟩ : ∃ x, d.getD 0 0 = x := ⟨_, rfl⟩
  have hxd : isD x = true := by
    rw [← hx, List.getD_eq_getElem?_getD, List.getElem?_eq_getElem (by omega : 0 < d.length)]; exact hdd _ (List.getElem_mem _)
  rw [hx] at hhd
  obtain ⟨r0, hr0⟩ : ∃ r0, N + ((x.toNat : Int) - 48) = r0 := ⟨_, rfl⟩
  have hc0 : isD (clsC P G M N r0 (encL r0).length) = true := by rw [← hr0, cl_dig hg hxd broken_no]; exact hxd
  rw [hr0] at hhd
  obtain ⟨T, hT⟩ : ∃ T, W.tail = T := ⟨_, rfl⟩
  rw [hT] at hhd
  subst hhd
  have hA : ∀ r ∈ (if 0 < f then [M] else []), stdR r ∧ isD (clsC P G M N r (encL r).length) = false := by
    intro r hr
    split at hr
    · rw [List.mem_singleton] at hr; subst hr
      have := cl_mark hg (b := 45) (.inr (.inl rfl)) (n := (encL r).length) broken_no
      exact ⟨hg.sM, by rw [show markB P r N 45 = r from rfl] at this; rw [this]; decide⟩
    · cases hr
  have hstd : ∀ r ∈ (if 0 < f then [M] else []) ++ (r0 :: T) ++ (l.drop e).map (markB P M N), stdR r := by
    intro r hr
    rcases List.mem_append.1 hr with hr | hr
    · rcases List.mem_append.1 hr with hr | hr
      · exact (hA r hr).1
      · exact w3 r hr
    · obtain ⟨b, hb, rfl⟩ := List.mem_map.1 hr
      exact std_mark hg (hpd b hb)
  rw [tkV_rns, rns_enc _ hstd]
  have hf := tk_form (P := P) (G := G) (M := M) (N := N) ((if 0 < f then [M] else []).map (fun r => (r, (encL r).length))) (r0, (encL r0).length) (T.map (fun r => (r, (encL r).length))) (((l.drop e).map (markB P M N)).map (fun r => (r, (encL r).length)))
    (by intro p hp; obtain ⟨r, hr, rfl⟩ := List.mem_map.1 hp; exact (hA r hr).2) hc0
    (by intro p hp; obtain ⟨r, hr, rfl⟩ := List.mem_map.1 hp; exact w1 r (List.mem_cons_of_mem _ hr))
    (by
      intro p E hE
      cases hq : l.drop e with
      | nil => rw [hq] at hE; simp at hE
      | cons b t =>
        rw [hq] at hE hpd
        simp only [List.map_cons, List.cons.injEq] at hE
        obtain ⟨rfl, _⟩ := hE
        have hb := hpd b (by simp)
        have hel : e < l.length := by
          have := congrArg List.length hq
          rw [List.length_drop] at this; simp at this; omega
        have hbe : l.getD e 0 = b := by
          have := congrArg (fun z => z.getD 0 0) hq
          simpa using this
        show isD (clsC P G M N (markB P M N b) _) = false ∧ clsC P G M N (markB P M N b) _ ≠ 103
        rw [cl_mark hg hb broken_no]
        exact ⟨by rw [← hbe]; exact hst hel, (PlB_not hb).1⟩)
  rw [List.map_append, List.map_append, List.map_cons]
  refine ⟨?_, ?_⟩
  · rw [hf.1]
    have e1 : List.map (cl P G M N) ((if 0 < f then [M] else []).map (fun r => (r, (encL r).length))) = if 0 < f then [45] else [] := by
      split
      · have := cl_mark hg (b := 45) (.inr (.inl rfl)) (n := (encL M).length) broken_no
        rw [show markB P M N 45 = M from rfl] at this
        simp [this]
      · rfl
    have e2 : (List.map (cl P G M N) ((r0, (encL r0).length) :: T.map (fun r => (r, (encL r).length)))).filter isD = d := by
      have := w2
      rw [List.map_cons] at this
      rw [List.map_cons, List.map_map]
      exact this
    have e3 : List.map (cl P G M N) (((l.drop e).map (markB P M N)).map (fun r => (r, (encL r).length))) = l.drop e := by
      rw [List.map_map, List.map_map]
      conv => rhs; rw [← List.map_id (l.drop e)]
      refine List.map_congr_left (fun b hb => ?_)
      exact cl_mark hg (hpd b hb) broken_no
    rw [e1, e2, e3]
    exact hsp.symm
  · rw [hf.2, List.map_cons, List.map_map]
    congr 1
    conv => rhs; rw [← List.map_id T]
    rfl
theorem misN_refl : ∀ (s : List Int) (i : Nat), misN s s i = none
  | [], _ => rfl
  | a :: s, i => by rw [misN, if_pos rfl, misN_refl]
theorem misN_none : ∀ (s t : List Int) (i : Nat), misN s t i = none → s = t
  | [], [], _, _ => rfl
  | [], _ :: _, _, h => by simp [misN] at h
  | _ :: _, [], _, h => by simp [misN] at h
  | a :: s, b :: t, i, h => by
    rw [misN] at h
    split at h
    · rename_i e; rw [e, misN_none s t _ h]
    · cases h
/-- What was put: its parts. -/
theorem put_parts {P G M N : Int} {xs : List Int} {l t : List UInt8} {z : Int} (h : putV P G M N xs l = (t, 0, z)) : ckv P G M N xs = 0 ∧ l.length ≤ 65536 ∧ ∃ f e, shpB l = (-1, f, e) ∧ t = (putL P G M N xs l f e).flatMap encL ∧ t.length ≤ 65536 ∧ z = 0 := by
  unfold putV at h
  split at h
  · rename_i q; simp only [Prod.mk.injEq] at h; exact absurd h.2.1 q
  rename_i q
  have q2 : rdy P G M N xs l.length = 0 := by simpa using q
  obtain ⟨h1, h2⟩ := rdy_ok q2
  split at h
  · simp only [Prod.mk.injEq] at h; omega
  rename_i q3
  split at h
  · simp only [Prod.mk.injEq] at h; omega
  rename_i q4
  simp only [Prod.mk.injEq, true_and] at h
  obtain ⟨h3, h4⟩ := h
  have hm := shpB_m1 l
  refine ⟨h1, h2, (shpB l).2.1, (shpB l).2.2, ?_, by rw [← h3, rb_flat], by rw [← h3]; omega, h4.symm⟩
  apply Prod.ext
  · show (shpB l).1 = -1
    omega
  · rfl
theorem put_of {P G M N : Int} {xs : List Int} {l : List UInt8} {f e : Nat} (h1 : ckv P G M N xs = 0) (h2 : l.length ≤ 65536) (h3 : shpB l = (-1, f, e)) (h4 : ((putL P G M N xs l f e).flatMap encL).length ≤ 65536) : putV P G M N xs l = ((putL P G M N xs l f e).flatMap encL, 0, 0) := by
  have hr : rdy P G M N xs l.length = 0 := by unfold rdy; rw [if_neg (fun q => q h1), if_neg (by omega)]
  unfold putV
  rw [if_neg (fun q => q hr), h3]
  dsimp only
  rw [if_neg (by decide), rb_flat, if_neg (by omega)]
/-- What is put is taken back. -/
theorem take_put {P G M N : Int} {xs : List Int} {l t : List UInt8} {z : Int} (h : putV P G M N xs l = (t, 0, z)) : takeV P G M N xs t = (l, 0, 0) := by
  obtain ⟨h1, h2, f, e, h3, h4, h5, _⟩ := put_parts h
  have hg := good_of h1
  obtain ⟨t1, t2⟩ := tk_put hg xs h3
  rw [← h4] at t1 t2
  have hr : rdy P G M N xs t.length = 0 := by unfold rdy; rw [if_neg (fun q => q h1), if_neg (by omega)]
  unfold takeV
  rw [if_neg (fun q => q hr), t1, t2, h3]
  dsimp only
  rw [if_neg (by decide)]
  split
  · rw [misN_refl]; rfl
  · rfl
end Go.Proofs.YtgedpfbokkambaaGreatDoor
end
section
/- Marks: what is taken is put again: the plain law. -/
namespace Go.Proofs.YtgedpfbokkambaaGreatDoor
open Go.RowKit Go.Maps
set_option maxHeartbeats 4000000
set_option maxRecDepth 100000
theorem whole_bare (N : Int) (d : List UInt8) : ∀ i, i ≤ d.length → wholeN 0 N [] d i = (d.take i).map (fun b => N + ((b.toNat : Int) - 48))
  | 0, _ => by simp [wholeN]
  | i + 1, hi => by
    have hc : ¬ (cutB 0 [] d.length i = true) := by unfold cutB; simp
    rw [wholeN, whole_bare N d i (by omega), if_neg hc, List.take_add_one, List.getElem?_eq_getElem (by omega : i < d.length), List.getD_eq_getElem?_getD, List.getElem?_eq_getElem (by omega : i < d.length), List.map_append, List.append_nil]
    rfl
theorem takeWhile_app (F D : List UInt8) (hF : ∀ b ∈ F, isD b = true) (hD : ∀ b E, D = b :: E → isD b = false) : (F ++ D).takeWhile isD = F := by
  induction F with
  | nil =>
    cases D with
    | nil => rfl
    | cons b E => rw [List.nil_append, List.takeWhile_cons_of_neg (by rw [hD b E rfl]; decide)]
  | cons x F ih =>
    rw [List.cons_append, List.takeWhile_cons_of_pos (hF x (by simp)), ih (fun b hb => hF b (by simp [hb]))]
/-- A text that is a number, in the parts of its runes. -/
theorem shp_parts {A F D : List UInt8} {f e : Nat} (hs : shpB (A ++ F ++ D) = (-1, f, e)) (hA : ∀ b ∈ A, isD b = false) (hF : ∀ b ∈ F, isD b = true) (hF0 : F ≠ []) (hD : ∀ b E, D = b :: E → isD b = false) :
    A = (if 0 < f then [45] else []) ∧ ((A ++ F ++ D).take e).drop f = F ∧ (A ++ F ++ D).drop e = D ∧ e = f + F.length ∧ ∀ b ∈ D, PlB b := by
  obtain ⟨h1, h2, h3, h4, h5, h6⟩ := shp_ok hs
  have hrow := shp_row hs
  have hF1 : 0 < F.length := List.length_pos_iff.2 hF0
  have hget : ∀ i, (A ++ F ++ D).getD i 0 = if i < A.length then A.getD i 0 else (F ++ D).getD (i - A.length) 0 := by
    intro i
    rw [List.append_assoc, List.getD_eq_getElem?_getD, List.getD_eq_getElem?_getD, List.getD_eq_getElem?_getD, List.getElem?_append]
    split <;> rfl
  have hfd := h5 f (Nat.le_refl _) h2
  have hAf : A.length ≤ f := by
    rcases Nat.lt_or_ge f A.length with q | q
    · rw [hget, if_pos q, List.getD_eq_getElem?_getD, List.getElem?_eq_getElem q] at hfd
      have := hA _ (List.getElem_mem q)
      simp only [Option.getD_some] at hfd
      rw [hfd] at this; cases this
    · exact q
  have hA45 : A = (if 0 < f then [45] else []) := by
    rcases h4 with ⟨h7, rfl⟩ | ⟨_, rfl⟩
    · cases A with
      | nil =>
        cases F with
        | nil => exact absurd rfl hF0
        | cons x F =>
          have hx := hF x (by simp)
          simp at h7
          subst h7
          exact absurd hx (by decide)
      | cons a A =>
        cases A with
        | nil => simp at h7; subst h7; simp
        | cons a2 A => simp at hAf
    · have : A = [] := List.eq_nil_of_length_eq_zero (by omega)
      rw [this]; simp
  have hAl : A.length = f := by
    rw [hA45]
    rcases h4 with ⟨_, rfl⟩ | ⟨_, rfl⟩ <;> simp
  have hdf : (A ++ F ++ D).drop f = F ++ D := by rw [← hAl, List.append_assoc, List.drop_left]
  have he : e = f + F.length := by
    unfold rowN at hrow
    rw [hdf, takeWhile_app F D hF hD] at hrow
    exact hrow
  refine ⟨hA45, ?_, ?_, he, ?_⟩
  · rw [List.drop_take, hdf, he, Nat.add_sub_cancel_left, List.take_left]
  · rw [he, ← List.drop_drop, hdf, List.drop_left]
  · refine mem_getD (fun i hi => ?_)
    have hlen : (A ++ F ++ D).length = f + F.length + D.length := by rw [List.length_append, List.length_append, hAl]
    have := h6 (e + i) (by omega) (by omega)
    have h9 : (A ++ F ++ D).drop e = D := by rw [he, ← List.drop_drop, hdf, List.drop_left]
    rw [← h9, List.getD_eq_getElem?_getD, List.getElem?_drop, ← List.getD_eq_getElem?_getD]
    exact this
/-- What Take answers where it tells no fault. -/
theorem take_parts {P G M N : Int} {xs : List Int} {s u : List UInt8} {z : Int} (h : takeV P G M N xs s = (u, 0, z)) : ckv P G M N xs = 0 ∧ s.length ≤ 65536 ∧ z = 0 ∧ u = (tkV P G M N s).plain ∧ ∃ f e, shpB u = (-1, f, e) ∧
    ((tkV P G M N s).runes = wholeN G N xs ((u.take e).drop f) ((u.take e).drop f).length ∨ (tkV P G M N s).runes.length ≤ e - f) := by
  have hm := shpB_m1 (tkV P G M N s).plain
  unfold takeV at h
  split at h
  · rename_i q; simp only [Prod.mk.injEq] at h; exact absurd h.2.1 q
  rename_i q
  have q2 : rdy P G M N xs s.length = 0 := by simpa using q
  obtain ⟨h1, h2⟩ := rdy_ok q2
  split at h
  · split at h
    · simp only [Prod.mk.injEq] at h; omega
    · simp only [Prod.mk.injEq] at h; omega
  rename_i q3
  obtain ⟨bad, f, e, hs⟩ : ∃ bad f e, shpB (tkV P G M N s).plain = (bad, f, e) := ⟨_, _, _, rfl⟩
  rw [hs] at h hm q3
  dsimp only at h hm q3
  have hb : bad = -1 := by omega
  subst hb
  split at h
  · rename_i q4
    obtain ⟨o, ho⟩ : ∃ o, misN (tkV P G M N s).runes (wholeN G N xs (((tkV P G M N s).plain.take e).drop f) (((tkV P G M N s).plain.take e).drop f).length) 0 = o := ⟨_, rfl⟩
    rw [ho] at h
    cases o with
    | some i => simp only [misA, Prod.mk.injEq] at h; omega
    | none =>
      simp only [misA, Prod.mk.injEq, true_and] at h
      obtain ⟨rfl, rfl⟩ := h
      exact ⟨h1, h2, rfl, rfl, f, e, hs, .inl (misN_none _ _ _ ho)⟩
  · rename_i q4
    simp only [Prod.mk.injEq, true_and] at h
    obtain ⟨rfl, rfl⟩ := h
    exact ⟨h1, h2, rfl, rfl, f, e, hs, .inr (by omega)⟩
theorem filter_full {α : Type} (p : α → Bool) : ∀ l : List α, l.length ≤ (l.filter p).length → ∀ x ∈ l, p x = true
  | [], _ => by simp
  | x :: l, h => by
    have h2 := List.length_filter_le p l
    cases hx : p x with
    | false =>
      rw [List.filter_cons_of_neg (by simp [hx])] at h
      simp at h; omega
    | true =>
      rw [List.filter_cons_of_pos hx] at h
      simp only [List.length_cons] at h
      intro y hy
      rcases List.mem_cons.1 hy with rfl | hy
      · exact hx
      · exact filter_full p l (by omega) y hy
/-- What is taken is what was put: with its Groups, or bare. -/
theorem put_take {P G M N : Int} {xs : List Int} {s u : List UInt8} {z : Int} (h : takeV P G M N xs s = (u, 0, z)) : ∃ f e, shpB u = (-1, f, e) ∧ (s = (putL P G M N xs u f e).flatMap encL ∨ s = (putL P 0 M N [] u f e).flatMap encL) := by
  obtain ⟨h1, h2, -, hu, f, e, hs, hr⟩ := take_parts h
  refine ⟨f, e, hs, ?_⟩
  rw [tkV_rns] at hu hr
  rcases tk_split P G M N (rns s) with hno | ⟨A, c, C, D, hR, hA, hc, hC, hD⟩
  · exfalso
    obtain ⟨t1, _⟩ := tk_none (rns s) hno
    rw [t1] at hu
    obtain ⟨_, k2, k3, _, k5, _⟩ := shp_ok hs
    have hd := k5 f (Nat.le_refl _) k2
    rw [List.getD_eq_getElem?_getD, List.getElem?_eq_getElem (by omega : f < u.length)] at hd
    simp only [Option.getD_some] at hd
    have hm : u[f] ∈ u := List.getElem_mem _
    obtain ⟨b, hb⟩ : ∃ b, u[f] = b := ⟨_, rfl⟩
    rw [hb] at hd hm
    rw [hu] at hm
    obtain ⟨p, hp, rfl⟩ := List.mem_map.1 hm
    rw [hno p hp] at hd; cases hd
  · obtain ⟨t1, t2⟩ := tk_form A c C D hA hc hC hD
    rw [← hR] at t1 t2
    rw [t1] at hu
    rw [t2] at hr
    obtain ⟨F, hF⟩ : ∃ F, ((c :: C).map (cl P G M N)).filter isD = F := ⟨_, rfl⟩
    rw [hF] at hu
    have hFd : ∀ b ∈ F, isD b = true := fun b hb => by rw [← hF] at hb; exact (List.mem_filter.1 hb).2
    have hF0 : F ≠ [] := by rw [← hF, List.map_cons, List.filter_cons_of_pos hc]; simp
    rw [hu] at hs
    obtain ⟨g1, g2, g3, g4, g5⟩ := shp_parts hs (by intro b hb; obtain ⟨p, hp, rfl⟩ := List.mem_map.1 hb; exact hA p hp) hFd hF0
      (by
        intro b E hE
        cases D with
        | nil => cases hE
        | cons p D =>
          simp only [List.map_cons, List.cons.injEq] at hE
          rw [← hE.1]; exact (hD p D rfl).1)
    rw [← hu] at hs g2 g3
    rw [g2] at hr
    have u45 : PlB 45 := .inr (.inl rfl)
    have hAp : ∀ p ∈ A, cl P G M N p = 45 := fun p hp => by
      have : cl P G M N p ∈ A.map (cl P G M N) := List.mem_map.2 ⟨p, hp, rfl⟩
      rw [g1] at this
      split at this
      · simpa using this
      · cases this
    have hDp : ∀ p ∈ D, PlB (cl P G M N p) := fun p hp => g5 _ (List.mem_map.2 ⟨p, hp, rfl⟩)
    have hCp : ∀ p ∈ c :: C, isD (cl P G M N p) = true ∨ cl P G M N p = 103 := by
      intro p hp
      rcases List.mem_cons.1 hp with rfl | hp
      · exact .inl hc
      · exact hC p hp
    have h120 : ∀ p ∈ rns s, cl P G M N p ≠ 120 := by
      intro p hp
      rw [hR] at hp
      rcases List.mem_append.1 hp with hp | hp
      · rcases List.mem_append.1 hp with hp | hp
        · rw [hAp p hp]; decide
        · rcases hCp p hp with q | q
          · intro e; rw [e] at q; revert q; decide
          · rw [q]; decide
      · exact (PlB_not (hDp p hp)).2
    have hsn := enc_rns s (fun p hp => (cl_inv (h120 p hp)).1)
    have hAm : A.map Prod.fst = if 0 < f then [M] else [] := by
      cases A with
      | nil =>
        rcases Nat.eq_zero_or_pos f with q | q
        · rw [if_neg (by omega)]; rfl
        · rw [if_pos q] at g1; cases g1
      | cons a A =>
        rcases Nat.eq_zero_or_pos f with q | q
        · rw [if_neg (by omega)] at g1; cases g1
        · rw [if_pos q] at g1 ⊢
          simp only [List.map_cons, List.cons.injEq, List.map_eq_nil_iff] at g1
          obtain ⟨g6, rfl⟩ := g1
          have := (cl_inv (P := P) (G := G) (M := M) (N := N) (r := a.1) (n := a.2) (by show cl P G M N a ≠ 120; rw [g6]; decide)).2.2 (by show cl P G M N a ≠ 103; rw [g6]; decide)
          have h9 : a.1 = markB P M N (cl P G M N a) := this.2
          rw [g6] at h9
          rw [List.map_cons, List.map_nil, h9]; rfl
    have hDm : D.map Prod.fst = (u.drop e).map (markB P M N) := by
      rw [g3, List.map_map]
      refine List.map_congr_left (fun p hp => ?_)
      have hpl := PlB_not (hDp p hp)
      exact ((cl_inv (P := P) (G := G) (M := M) (N := N) (r := p.1) (n := p.2) hpl.2).2.2 hpl.1).2
    have hall : (rns s).map Prod.fst = (if 0 < f then [M] else []) ++ (c :: C).map Prod.fst ++ (u.drop e).map (markB P M N) := by
      rw [hR, List.map_append, List.map_append, hAm, hDm]
    rcases hr with hr | hr
    · left
      rw [← hsn, hall, hr]
      unfold putL
      rw [g2]
    · right
      have hfull := filter_full isD ((c :: C).map (cl P G M N)) (by rw [hF, List.length_map]; rw [List.length_map] at hr; omega)
      have hF2 : F = (c :: C).map (cl P G M N) := by rw [← hF]; exact List.filter_eq_self.2 hfull
      rw [← hsn, hall]
      unfold putL
      rw [g2, whole_bare N F F.length (Nat.le_refl _), List.take_of_length_le (Nat.le_refl _), hF2, List.map_map]
      congr 3
      refine List.map_congr_left (fun p hp => ?_)
      have hpd := hfull _ (List.mem_map.2 ⟨p, hp, rfl⟩)
      have h3 : cl P G M N p ≠ 103 := fun e => by rw [e] at hpd; revert hpd; decide
      have h4 : cl P G M N p ≠ 120 := fun e => by rw [e] at hpd; revert hpd; decide
      have := ((cl_inv (P := P) (G := G) (M := M) (N := N) (r := p.1) (n := p.2) h4).2.2 h3).2
      rw [this]
      exact markB_dig hpd
end Go.Proofs.YtgedpfbokkambaaGreatDoor
end
