/- Lemmas of this proof, laid together: RatT, RatU, RatK0, RatK, RatM, RatN, TwBigL, TwBigM, TwBigN. -/
import Derived.Test.YtchbefambnhjjaaGreatDoorMg22
import Derived.Deep.DeepCutAuto
import Derived.Deep.RegionWith
import Derived.Deep.LoopGhost
import Derived.Test.YtchbefambnhjjaaGreatDoorMg21
import Derived.Test.YtchbefambnhjjaaGreatDoorMg18
import Derived.Test.YtchbefambnhjjaaGreatDoorMg19
import Derived.Shelf.Spec.TrailingZeros
set_option linter.unusedSimpArgs false
set_option linter.unusedVariables false
section
/- Fractions of the library's: out of whole numbers; differences, quotients. -/
namespace Go.Proofs.YtchbefambnhjjaaGreatDoor
open Go.RowKit
attribute [local go_sem] sz2 sz3 sz4 sz5 sz6 sz7 sz8
set_option maxHeartbeats 4000000
set_option maxRecDepth 100000
attribute [local irreducible] Calls
section
attribute [local go_sem] Oper.detAt detUpon relUpon
theorem bi_Setx (b o bx ox : Nat) (A : Option Addr) (n c : Nat) (z : Int) (hn : n ≤ 1000000) (w : World) (hr : Room w b o) (hx : IntIs w bx ox z A n c) :
    Calls Tryz.prog 120 #[.pointer (some ⟨b, o, none⟩), .pointer (some ⟨bx, ox, none⟩)] w fun e w' => e = .returned (.pointer (some ⟨b, o, none⟩)) ∧ ∃ (A : Option Addr) (n c : Nat), Hid (IntIs w' b o z A n c ∧ Fr w A) ∧ Tch b w w' ∧ Hid (∀ p, p ≠ o → p ≠ o + 1 → w'.cell? ⟨b, p, none⟩ = w.cell? ⟨b, p, none⟩ ∧ w'.frozen? ⟨b, p, none⟩ = w.frozen? ⟨b, p, none⟩) := by
  have HX := Lib.hid hx
  have HR := Lib.hid hr
  have lx := hx.room.lt
  have x0 := hx.neg
  have x1 := hx.words
  clear hx hr
  go_enter Tryz.func120, Tryz.ntmps120
  go_wp2
  refine wp_drawn_tail 10 (tab [(9, RWord w.heap.size z.natAbs)]) (by kernel_rfl) (by kernel_rfl) (by kernel_rfl) (tab_stays (by simp [stays_word])) (fun hq hqf => ?_)
  simp only [List.take_succ_cons, List.take_zero, List.drop_succ_cons, List.drop_zero]
  have y0 := fun nq => (hq nq bx ox lx).trans x0
  have y1 := fun nq => (hq nq bx (ox + 1) lx).trans x1
  iterate 9
    (refine wpK_det rfl (fun K hK => ?_)
     go_simp
     first
       | (refine hK _ ?_; clear hK K)
       | (apply Exists.intro; refine ⟨fun x => ?_, hK _ ?_⟩; (first | exact y0 x | exact y1 x | (simp [y0, y1]; rfl)); clear hK K))
  refine wpK_rel _ rfl rfl ?_ ?_
  · rintro _ ⟨nn, rfl⟩ _
    unfold Oper.relAt
    go_simp
    exact rel_copied _ _ _ _ _ hn _ _ (ext_size nn.use) (HX.out.rd.ext nn.use)
  rintro v ⟨_, ⟨nn, rfl⟩, hr⟩
  obtain ⟨A9, k9, c9, rfl, -, -⟩ := hr
  clear nn
  refine wpK_nil ?_
  intro nq2 hG
  have r9 : RWord w.heap.size z.natAbs [] (.slice A9 k9 c9) nq2.out := by have := hG.fact 9; simp [Facts.put] at this; exact this
  have hR9 := Lib.hid (rword_at r9)
  have hF9 : Fr w A9 := hR9.out.2
  have hO9 := hF9.off HR.out.lt k9
  clear r9 hG
  go_wp2_with (first
    | (go_at_call 119; (with_reducible refine (bi_setx b o _ A9 k9 c9 z.natAbs _ (HR.out.ext nq2.use) hR9.out.1 hO9).mono ?_); rintro e w3 ⟨rfl, hI3, xt3, hP3⟩)
   )
  refine bodyPost_ret (v := .pointer (some ⟨b, o, none⟩)) ?h rfl ⟨rfl, A9, k9, c9, ⟨by have := hI3.out; rwa [sgn_self] at this, hF9⟩, (Tch.of nq2.use).trans xt3, Lib.hid fun p h1 h2 => ⟨(hP3.out p h1 h2).1.trans (Below.cell (p := ⟨b, p, none⟩) nq2.use HR.out.lt), (hP3.out p h1 h2).2.trans (Below.frozen (p := ⟨b, p, none⟩) nq2.use HR.out.lt)⟩⟩
  case h => simp [results, Tryz.results120, go_sem]
end
section
attribute [local go_sem] D2.Oper.detAt D2.detUpon D2.relUpon
end
theorem br_SetInt (g bx : Nat) (z : Int) (A : Option Addr) (n c : Nat) (hn : n ≤ 1000000) (w : World) (hr : RatRoom w g) (hx : IntIs w bx 0 z A n c) :
    Calls Tryz.prog 57 #[.pointer (some ⟨g, 0, none⟩), .pointer (some ⟨bx, 0, none⟩)] w (FPost w g z 0) := by
  have HR := Lib.hid hr
  have kS := bi_Setx g 0 bx 0 A n c z hn w hr.int hx
  have hlt := hr.int.lt
  obtain ⟨v2, h2⟩ := hr.c2
  have f2 := hr.f2
  clear hx hr
  go_enter Tryz.func57, Tryz.ntmps57
  go_wp2_with (first
    | (go_at_call 120; (with_reducible refine kS.mono ?_); rintro e w3 ⟨rfl, A3, n3, c3, hI3, xt3, hP3⟩; have g2 := (hP3.out 2 (by decide) (by decide)).1.trans h2; have g3 := (hP3.out 2 (by decide) (by decide)).2.trans f2; have g4 := hI3.out.1.room.lt; have HT3 := Lib.hid xt3; clear xt3)
   )
  have hM := Lib.hid (rat_made (D := none) (m := 0) (k := 0) (d := 0) hI3.out.1 ⟨_, g2⟩ g3 (by rw [lim_zero]; exact Rd.nil w3) (fun x hx => by cases hx))
  refine bodyPost_ret (v := .pointer (some ⟨g, 0, none⟩)) ?h rfl ⟨rfl, A3, n3, c3, none, 0, 0, ⟨hM.out, hI3.out.2, fun a ha => by cases ha⟩, HT3.out.set _ _⟩
  case h => simp [results, Tryz.results57, go_sem]
end Go.Proofs.YtchbefambnhjjaaGreatDoor
end
section
/- Fractions of the library's: their texts; turned over. -/
namespace Go.Proofs.YtchbefambnhjjaaGreatDoor
open Go.RowKit
attribute [local go_sem] bs_size bs_extract bs_get bs_append bs_toList const_get
attribute [local go_sem] sz2 sz3 sz4 sz5 sz6 sz7 sz8
set_option maxHeartbeats 4000000
set_option maxRecDepth 100000
/-- A fraction's text. -/
def rtext (z : Int) (d : Nat) : List UInt8 := if d = 1 then itext z else itext z ++ 47 :: dtext d
theorem itext_nat (d : Nat) : itext ((d : Nat) : Int) = dtext d := by
  unfold itext; rw [if_neg (by omega), Int.natAbs_natCast]; rfl
attribute [local irreducible] Calls
theorem br_IsInt (g : Nat) (z : Int) (A : Option Addr) (n c d : Nat) (D : Option Addr) (m e : Nat) (w : World) (hx : RatIs w g z A n c d D m e) :
    Calls Tryz.prog 138 #[.pointer (some ⟨g, 0, none⟩)] w fun e' w' => e' = .returned (.bool (decide (denOf d = 1))) ∧ Ext w w' := by
  have c2 := hx.c2
  have hl := hx.int.room.lt
  have hmd := hx.rd.len
  have hcap := hx.rd.cap
  have hmx := hx.rd.mx
  have HR := Lib.hid hx.rd
  clear hx
  by_cases h0 : d = 0
  · subst h0
    rw [lim_zero] at hmd
    simp at hmd
    subst hmd
    have e1 : decide (denOf 0 = 1) = true := rfl
    rw [e1]
    clear e1
    go_enter Tryz.func138, Tryz.ntmps138
    go_wp2
    refine bodyPost_ret (v := .bool true) ?h rfl ⟨rfl, ?_⟩
    case h => simp [results, Tryz.results138, go_sem]
    repeat (first | exact ext_refl _ | assumption | refine ext_setCell ?_ (by simp; try omega) _ | refine ext_alloc ?_ _ | refine ext_drew ?_ | refine ext_drewN ?_ _ | refine ext_trans ?_ (Aft.use _) | refine ext_trans ?_ (by assumption))
  · have e1 : denOf d = d := by unfold denOf; rw [if_neg h0]
    rw [e1]
    by_cases h1 : m = 1
    · subst h1
      obtain ⟨bb, off, rfl⟩ : ∃ bb off, D = some ⟨bb, off, none⟩ := by
        rcases HR.out.shape with ⟨_, h, _⟩ | h
        · omega
        · exact h
      obtain ⟨y, hy, hyb, hc⟩ := HR.out.get 0 (by omega)
      have hdy : d = y := by
        have h2 : d < Bs := by have := lim_lt d; rw [hmd, Nat.pow_one] at this; exact this
        have h3 := hy.out
        rw [lim_pos h0] at h3
        rw [← h3]
        exact (Nat.mod_eq_of_lt h2).symm
      subst hdy
      rw [Nat.add_zero] at hc
      have hbl : bb < w.heap.size := World.block_lt_of_cell? w _ hc
      clear e1 hmd
      by_cases hd1 : d = 1
      · subst hd1
        go_enter Tryz.func138, Tryz.ntmps138
        go_wp2
        refine bodyPost_ret (v := .bool true) ?h rfl ⟨rfl, ?_⟩
        case h => simp [results, Tryz.results138, go_sem]
        repeat (first | exact ext_refl _ | assumption | refine ext_setCell ?_ (by simp; try omega) _ | refine ext_alloc ?_ _ | refine ext_drew ?_ | refine ext_drewN ?_ _ | refine ext_trans ?_ (Aft.use _) | refine ext_trans ?_ (by assumption))
      · rw [decide_eq_false hd1]
        have hne : ((d : Int) == 1) = false := by rw [beq_eq_false_iff_ne]; omega
        go_enter Tryz.func138, Tryz.ntmps138
        go_wp2
        refine bodyPost_ret (v := .bool false) ?h rfl ⟨rfl, ?_⟩
        case h => simp [results, Tryz.results138, go_sem]
        repeat (first | exact ext_refl _ | assumption | refine ext_setCell ?_ (by simp; try omega) _ | refine ext_alloc ?_ _ | refine ext_drew ?_ | refine ext_drewN ?_ _ | refine ext_trans ?_ (Aft.use _) | refine ext_trans ?_ (by assumption))
    · have hd1 : d ≠ 1 := by
        intro e; subst e
        have : (lim 1).length = 1 := by kernel_rfl
        omega
      have hm0 : m ≠ 0 := by
        intro e; subst e
        exact h0 (lim_nil.1 (List.eq_nil_of_length_eq_zero hmd))
      rw [decide_eq_false hd1]
      have hne0 : ((m : Int) == 0) = false := by rw [beq_eq_false_iff_ne]; omega
      have hne1 : ((m : Int) == 1) = false := by rw [beq_eq_false_iff_ne]; omega
      clear e1 hmd
      go_enter Tryz.func138, Tryz.ntmps138
      go_wp2
      refine bodyPost_ret (v := .bool false) ?h rfl ⟨rfl, ?_⟩
      case h => simp [results, Tryz.results138, go_sem]
      repeat (first | exact ext_refl _ | assumption | refine ext_setCell ?_ (by simp; try omega) _ | refine ext_alloc ?_ _ | refine ext_drew ?_ | refine ext_drewN ?_ _ | refine ext_trans ?_ (Aft.use _) | refine ext_trans ?_ (by assumption))
theorem br_String (g : Nat) (z : Int) (A : Option Addr) (n c d : Nat) (D : Option Addr) (m e : Nat) (hn : n ≤ 18000) (hm : m ≤ 18000) (w : World) (hx : RatIs w g z A n c d D m e) :
    Calls Tryz.prog 140 #[.pointer (some ⟨g, 0, none⟩)] w fun e' w' => e' = .returned (.string (bs (itext z ++ 47 :: dtext (denOf d)))) ∧ Ext w w' := by
  have HX := Lib.hid hx
  have hl := hx.int.room.lt
  have k1 := bi_String g z A n c (by omega) w hx.int
  have k2 : ∀ w', Ext w w' → Calls Tryz.prog 71 #[.pointer (some ⟨g, 0, none⟩)] w' (NPost w' (denOf d : Nat)) := fun w' he => br_Denom g z A n c d D m e (by omega) w' (HX.out.ext he)
  have k3 : ∀ (b : Nat) (B : Option Addr) (k l : Nat) (w' : World), IntIs w' b 0 (denOf d : Nat) B k l → Calls Tryz.prog 139 #[.pointer (some ⟨b, 0, none⟩)] w' fun e' w'' => e' = .returned (.string (bs (dtext (denOf d)))) ∧ Ext w' w'' := fun b B k l w' hI => by
    have h1 := hI.rd.len
    have h2 := denOf_len hx.rd.len
    rw [Int.natAbs_natCast] at h1
    have := bi_String b (denOf d : Nat) B k l (by omega) w' hI
    rwa [itext_nat] at this
  have l1 : (itext z).length ≤ 600002 := by
    have h1 := hx.int.rd.len
    unfold itext dtext
    rw [List.length_append]
    have h2 : (digs z.natAbs).length ≤ 32 * 18000 := digs_lim' (k := 18000) (by omega)
    split <;> split <;> simp <;> omega
  have l2 : (dtext (denOf d)).length ≤ 600002 := by
    have h1 := denOf_len hx.rd.len
    unfold dtext
    have h2 : (digs (denOf d)).length ≤ 32 * 18001 := digs_lim' (k := 18001) (by omega)
    split
    · simp
    · omega
  clear hx
  generalize itext z = a at *
  generalize dtext (denOf d) = b at *
  go_enter Tryz.func140, Tryz.ntmps140
  go_wp2_with (first
    | (go_at_call 139; (with_reducible refine k1.mono ?_); rintro e' w1 ⟨rfl, xb1⟩)
    | (go_at_call 71; (with_reducible refine (k2 _ xb1).mono ?_); rintro e w2 ⟨b2, B2, n2, c2, rfl, hI2, hb2, xb2⟩; obtain ⟨xc2, xf2, xl2, xz2⟩ := ext_use xb2; (try simp at xz2))
    | (go_at_call 139; (with_reducible refine (k3 _ _ _ _ _ hI2.out.1).mono ?_); rintro e' w3 ⟨rfl, xb3⟩)
   )
  have e1 : bs a ++ ({ data := #[47] } : ByteArray) ++ bs b = bs (a ++ 47 :: b) := by
    show bs a ++ bs [47] ++ bs b = _
    rw [bs_append, bs_append, List.append_assoc]; rfl
  refine bodyPost_ret (v := .string (bs (a ++ 47 :: b))) ?h rfl ⟨rfl, ext_trans xb1 (ext_trans xb2 xb3)⟩
  case h => simp [results, Tryz.results140, go_sem, e1]
theorem br_RatString (g : Nat) (z : Int) (A : Option Addr) (n c d : Nat) (D : Option Addr) (m e : Nat) (hn : n ≤ 18000) (hm : m ≤ 18000) (w : World) (hx : RatIs w g z A n c d D m e) :
    Calls Tryz.prog 78 #[.pointer (some ⟨g, 0, none⟩)] w fun e' w' => e' = .returned (.string (bs (rtext z (denOf d)))) ∧ Ext w w' := by
  have HX := Lib.hid hx
  have hl := hx.int.room.lt
  have k1 := br_IsInt g z A n c d D m e w hx
  have k2 : ∀ w', Ext w w' → Calls Tryz.prog 139 #[.pointer (some ⟨g, 0, none⟩)] w' fun e' w'' => e' = .returned (.string (bs (itext z))) ∧ Ext w' w'' := fun w' he => bi_String g z A n c (by omega) w' (HX.out.ext he).int
  have k3 : ∀ w', Ext w w' → Calls Tryz.prog 140 #[.pointer (some ⟨g, 0, none⟩)] w' fun e' w'' => e' = .returned (.string (bs (itext z ++ 47 :: dtext (denOf d)))) ∧ Ext w' w'' := fun w' he => br_String g z A n c d D m e hn hm w' (HX.out.ext he)
  clear hx
  by_cases h1 : denOf d = 1
  · rw [decide_eq_true h1] at k1
    have e1 : rtext z (denOf d) = itext z := by unfold rtext; rw [if_pos h1]
    rw [e1]
    clear h1 e1 k3
    generalize itext z = a at *
    go_enter Tryz.func78, Tryz.ntmps78
    go_wp2_with (first
      | (go_at_call 138; (with_reducible refine (k1).mono ?_); rintro e w1 ⟨rfl, xb1⟩; obtain ⟨xc1, xf1, xl1, xz1⟩ := ext_use xb1; (try simp at xz1))
      | (go_at_call 139; (with_reducible refine (k2 _ xb1).mono ?_); rintro e w2 ⟨rfl, xb2⟩; obtain ⟨xc2, xf2, xl2, xz2⟩ := ext_use xb2; (try simp at xz2))
     )
    refine bodyPost_ret (v := .string (bs a)) ?h rfl ⟨rfl, ext_trans xb1 xb2⟩
    case h => simp [results, Tryz.results78, go_sem]
  · rw [decide_eq_false h1] at k1
    have e1 : rtext z (denOf d) = itext z ++ 47 :: dtext (denOf d) := by unfold rtext; rw [if_neg h1]
    rw [e1]
    clear h1 e1 k2
    generalize itext z ++ 47 :: dtext (denOf d) = a at *
    go_enter Tryz.func78, Tryz.ntmps78
    go_wp2_with (first
      | (go_at_call 138; (with_reducible refine (k1).mono ?_); rintro e w1 ⟨rfl, xb1⟩; obtain ⟨xc1, xf1, xl1, xz1⟩ := ext_use xb1; (try simp at xz1))
      | (go_at_call 140; (with_reducible refine (k3 _ xb1).mono ?_); rintro e w2 ⟨rfl, xb2⟩; obtain ⟨xc2, xf2, xl2, xz2⟩ := ext_use xb2; (try simp at xz2))
     )
    refine bodyPost_ret (v := .string (bs a)) ?h rfl ⟨rfl, ext_trans xb1 xb2⟩
    case h => simp [results, Tryz.results78, go_sem]
end Go.Proofs.YtchbefambnhjjaaGreatDoor
end
section
/- The order of two fractions, plainly. -/
namespace Go.Proofs.YtchbefambnhjjaaGreatDoor
theorem sign_pos_mul (x : Int) {q : Nat} (hq : q ≠ 0) : (x * (q : Int)).sign = x.sign := by
  rw [Int.sign_mul, Int.sign_eq_one_of_pos (show (0 : Int) < q by omega), Int.mul_one]
theorem sign_three (z : Int) : (z < 0 ∧ z.sign = -1) ∨ (z = 0 ∧ z.sign = 0) ∨ (0 < z ∧ z.sign = 1) := by
  rcases Int.lt_trichotomy z 0 with h | h | h
  · exact .inl ⟨h, Int.sign_eq_neg_one_of_neg h⟩
  · exact .inr (.inl ⟨h, by rw [h]; rfl⟩)
  · exact .inr (.inr ⟨h, Int.sign_eq_one_of_pos h⟩)
/-- Fractions on different sides, or nought. -/
theorem rcmp_far {x y : Int} {p q : Nat} (hp : p ≠ 0) (hq : q ≠ 0) (h : x.sign ≠ y.sign) : (x * (q : Int) - y * (p : Int)).sign = if x.sign < y.sign then -1 else 1 := by
  have a := sign_pos_mul x hq
  have b := sign_pos_mul y hp
  generalize x * (q : Int) = X at a ⊢
  generalize y * (p : Int) = Y at b ⊢
  rw [← a, ← b] at h ⊢
  rcases sign_three X with ⟨h1, h2⟩ | ⟨h1, h2⟩ | ⟨h1, h2⟩ <;> rcases sign_three Y with ⟨k1, k2⟩ | ⟨k1, k2⟩ | ⟨k1, k2⟩ <;> rw [h2, k2] at h ⊢ <;>
    first
      | exact absurd rfl h
      | (rw [if_pos (by decide)]; exact Int.sign_eq_neg_one_of_neg (by omega))
      | (rw [if_neg (by decide)]; exact Int.sign_eq_one_of_pos (by omega))
theorem rcmp_nil {x y : Int} {p q : Nat} (hx : x = 0) (hy : y = 0) : (x * (q : Int) - y * (p : Int)).sign = 0 := by
  rw [hx, hy]; simp
theorem rcmp_near {x y : Int} {p q : Nat} (h : x.sign = y.sign) (h0 : x ≠ 0) :
    (x * (q : Int) - y * (p : Int)).sign = if x < 0 then - cmpN (x.natAbs * q) (y.natAbs * p) else cmpN (x.natAbs * q) (y.natAbs * p) := by
  rw [cmpN_sign]
  rcases sign_three x with ⟨h1, h2⟩ | ⟨h1, h2⟩ | ⟨h1, h2⟩
  · rcases sign_three y with ⟨k1, k2⟩ | ⟨k1, k2⟩ | ⟨k1, k2⟩
    · rw [if_pos h1, ← Int.sign_neg]
      congr 1
      obtain ⟨a, rfl⟩ : ∃ a : Nat, x = -(a : Int) := ⟨x.natAbs, by omega⟩
      obtain ⟨b, rfl⟩ : ∃ b : Nat, y = -(b : Int) := ⟨y.natAbs, by omega⟩
      simp only [Int.natAbs_neg, Int.natAbs_natCast, Int.natCast_mul]
      grind
    · rw [h2, k2] at h; exact absurd h (by decide)
    · rw [h2, k2] at h; exact absurd h (by decide)
  · exact absurd h1 h0
  · rcases sign_three y with ⟨k1, k2⟩ | ⟨k1, k2⟩ | ⟨k1, k2⟩
    · rw [h2, k2] at h; exact absurd h (by decide)
    · rw [h2, k2] at h; exact absurd h (by decide)
    · rw [if_neg (by omega)]
      congr 1
      obtain ⟨a, rfl⟩ : ∃ a : Nat, x = (a : Int) := ⟨x.natAbs, by omega⟩
      obtain ⟨b, rfl⟩ : ∃ b : Nat, y = (b : Int) := ⟨y.natAbs, by omega⟩
      simp only [Int.natAbs_natCast, Int.natCast_mul]
theorem wrap_neg_cmp (a b : Nat) : IntKind.i64.wrap (-(cmpN a b)) = -(cmpN a b) := by
  unfold cmpN
  split
  · decide
  · split <;> decide
end Go.Proofs.YtchbefambnhjjaaGreatDoor
end
section
/- Fractions of the library's: the order. -/
namespace Go.Proofs.YtchbefambnhjjaaGreatDoor
open Go.RowKit
attribute [local go_sem] sz2 sz3 sz4 sz5 sz6 sz7 sz8
set_option maxHeartbeats 4000000
set_option maxRecDepth 100000
attribute [local irreducible] Calls
attribute [local go_sem] D2.Oper.detAt D2.detUpon D2.relUpon
theorem br_Cmp_far (bx b2 : Nat) (x y : Int) (p q : Nat) (h : x.sign ≠ y.sign) (A : Option Addr) (n c : Nat) (D : Option Addr) (m e : Nat) (B : Option Addr) (n2 c2 : Nat) (C : Option Addr) (m2 e2 : Nat)
    (w : World) (hx : RatIs w bx x A n c p D m e) (hy : RatIs w b2 y B n2 c2 q C m2 e2) :
    Calls Tryz.prog 91 #[.pointer (some ⟨bx, 0, none⟩), .pointer (some ⟨b2, 0, none⟩)] w
      fun e w' => e = .returned (.int .i64 (x * (denOf q : Int) - y * (denOf p : Int)).sign) ∧ Ext w w' := by
  have kX : ∀ w', Ext w w' → Calls Tryz.prog 101 #[.pointer (some ⟨bx, 0, none⟩)] w' fun e w'' => e = .returned (.int .i64 x.sign) ∧ Ext w' w'' := fun w' he => br_Sign _ _ _ _ _ w' (hx.int.ext he)
  have kY : ∀ w', Ext w w' → Calls Tryz.prog 101 #[.pointer (some ⟨b2, 0, none⟩)] w' fun e w'' => e = .returned (.int .i64 y.sign) ∧ Ext w' w'' := fun w' he => br_Sign _ _ _ _ _ w' (hy.int.ext he)
  rw [rcmp_far (denOf_ne p) (denOf_ne q) h]
  have hb : (x.sign == y.sign) = false := by rw [beq_eq_false_iff_ne]; exact h
  have hgt : ¬ x.sign < y.sign → y.sign < x.sign := by omega
  generalize x.sign = X at *
  generalize y.sign = Y at *
  clear hx hy h
  by_cases hlt : X < Y
  · rw [if_pos hlt]
    clear hgt
    go_enter Tryz.func91, Tryz.ntmps91
    go_wp2_with (first
      | (go_at_call 101; (with_reducible refine (kX _ (by (repeat (first | exact ext_refl _ | assumption | refine ext_setCell ?_ (by simp; try omega) _ | refine ext_alloc ?_ _ | refine ext_drew ?_ | refine ext_drewN ?_ _ | refine ext_trans ?_ (Aft.use _) | refine ext_trans ?_ (by assumption))))).mono ?_); rintro e w1 ⟨rfl, xb1⟩)
      | (go_at_call 101; (with_reducible refine (kY _ (by (repeat (first | exact ext_refl _ | assumption | refine ext_setCell ?_ (by simp; try omega) _ | refine ext_alloc ?_ _ | refine ext_drew ?_ | refine ext_drewN ?_ _ | refine ext_trans ?_ (Aft.use _) | refine ext_trans ?_ (by assumption))))).mono ?_); rintro e w2 ⟨rfl, xb2⟩)
      | (go_at_call 101; (with_reducible refine (kX _ (by (repeat (first | exact ext_refl _ | assumption | refine ext_setCell ?_ (by simp; try omega) _ | refine ext_alloc ?_ _ | refine ext_drew ?_ | refine ext_drewN ?_ _ | refine ext_trans ?_ (Aft.use _) | refine ext_trans ?_ (by assumption))))).mono ?_); rintro e w3 ⟨rfl, xb3⟩)
      | (go_at_call 101; (with_reducible refine (kY _ (by (repeat (first | exact ext_refl _ | assumption | refine ext_setCell ?_ (by simp; try omega) _ | refine ext_alloc ?_ _ | refine ext_drew ?_ | refine ext_drewN ?_ _ | refine ext_trans ?_ (Aft.use _) | refine ext_trans ?_ (by assumption))))).mono ?_); rintro e w4 ⟨rfl, xb4⟩)
     )
    refine bodyPost_ret (v := .int .i64 (-1)) ?h rfl ⟨rfl, ?_⟩
    case h => simp [results, Tryz.results91, go_sem]
    repeat (first | exact ext_refl _ | assumption | refine ext_setCell ?_ (by simp; try omega) _ | refine ext_alloc ?_ _ | refine ext_drew ?_ | refine ext_drewN ?_ _ | refine ext_trans ?_ (Aft.use _) | refine ext_trans ?_ (by assumption))
  · rw [if_neg hlt]
    have hgt := hgt hlt
    go_enter Tryz.func91, Tryz.ntmps91
    go_wp2_with (first
      | (go_at_call 101; (with_reducible refine (kX _ (by (repeat (first | exact ext_refl _ | assumption | refine ext_setCell ?_ (by simp; try omega) _ | refine ext_alloc ?_ _ | refine ext_drew ?_ | refine ext_drewN ?_ _ | refine ext_trans ?_ (Aft.use _) | refine ext_trans ?_ (by assumption))))).mono ?_); rintro e w1 ⟨rfl, xb1⟩)
      | (go_at_call 101; (with_reducible refine (kY _ (by (repeat (first | exact ext_refl _ | assumption | refine ext_setCell ?_ (by simp; try omega) _ | refine ext_alloc ?_ _ | refine ext_drew ?_ | refine ext_drewN ?_ _ | refine ext_trans ?_ (Aft.use _) | refine ext_trans ?_ (by assumption))))).mono ?_); rintro e w2 ⟨rfl, xb2⟩)
     )
    refine bodyPost_ret (v := .int .i64 1) ?h rfl ⟨rfl, ?_⟩
    case h => simp [results, Tryz.results91, go_sem]
    repeat (first | exact ext_refl _ | assumption | refine ext_setCell ?_ (by simp; try omega) _ | refine ext_alloc ?_ _ | refine ext_drew ?_ | refine ext_drewN ?_ _ | refine ext_trans ?_ (Aft.use _) | refine ext_trans ?_ (by assumption))
theorem br_Cmp_nil (bx b2 : Nat) (x y : Int) (p q : Nat) (h1 : x = 0) (h2 : y = 0) (A : Option Addr) (n c : Nat) (D : Option Addr) (m e : Nat) (B : Option Addr) (n2 c2 : Nat) (C : Option Addr) (m2 e2 : Nat)
    (w : World) (hx : RatIs w bx x A n c p D m e) (hy : RatIs w b2 y B n2 c2 q C m2 e2) :
    Calls Tryz.prog 91 #[.pointer (some ⟨bx, 0, none⟩), .pointer (some ⟨b2, 0, none⟩)] w
      fun e w' => e = .returned (.int .i64 (x * (denOf q : Int) - y * (denOf p : Int)).sign) ∧ Ext w w' := by
  rw [rcmp_nil h1 h2]
  subst h1; subst h2
  have kX : ∀ w', Ext w w' → Calls Tryz.prog 101 #[.pointer (some ⟨bx, 0, none⟩)] w' fun e w'' => e = .returned (.int .i64 0) ∧ Ext w' w'' := fun w' he => br_Sign _ _ _ _ _ w' (hx.int.ext he)
  have kY : ∀ w', Ext w w' → Calls Tryz.prog 101 #[.pointer (some ⟨b2, 0, none⟩)] w' fun e w'' => e = .returned (.int .i64 0) ∧ Ext w' w'' := fun w' he => br_Sign _ _ _ _ _ w' (hy.int.ext he)
  clear hx hy
  go_enter Tryz.func91, Tryz.ntmps91
  go_wp2_with (first
    | (go_at_call 101; (with_reducible refine (kX _ (by (repeat (first | exact ext_refl _ | assumption | refine ext_setCell ?_ (by simp; try omega) _ | refine ext_alloc ?_ _ | refine ext_drew ?_ | refine ext_drewN ?_ _ | refine ext_trans ?_ (Aft.use _) | refine ext_trans ?_ (by assumption))))).mono ?_); rintro e w1 ⟨rfl, xb1⟩)
    | (go_at_call 101; (with_reducible refine (kY _ (by (repeat (first | exact ext_refl _ | assumption | refine ext_setCell ?_ (by simp; try omega) _ | refine ext_alloc ?_ _ | refine ext_drew ?_ | refine ext_drewN ?_ _ | refine ext_trans ?_ (Aft.use _) | refine ext_trans ?_ (by assumption))))).mono ?_); rintro e w2 ⟨rfl, xb2⟩)
   )
  refine bodyPost_ret (v := .int .i64 0) ?h rfl ⟨rfl, ?_⟩
  case h => simp [results, Tryz.results91, go_sem]
  repeat (first | exact ext_refl _ | assumption | refine ext_setCell ?_ (by simp; try omega) _ | refine ext_alloc ?_ _ | refine ext_drew ?_ | refine ext_drewN ?_ _ | refine ext_trans ?_ (Aft.use _) | refine ext_trans ?_ (by assumption))
theorem br_Cmp_near (bx b2 : Nat) (x y : Int) (p q : Nat) (h : x.sign = y.sign) (h0 : x ≠ 0) (A : Option Addr) (n c : Nat) (D : Option Addr) (m e : Nat) (B : Option Addr) (n2 c2 : Nat) (C : Option Addr) (m2 e2 : Nat)
    (hn : n ≤ 100000) (hm : m ≤ 100000) (hn2 : n2 ≤ 100000) (hm2 : m2 ≤ 100000) (w : World) (hx : RatIs w bx x A n c p D m e) (hy : RatIs w b2 y B n2 c2 q C m2 e2) :
    Calls Tryz.prog 91 #[.pointer (some ⟨bx, 0, none⟩), .pointer (some ⟨b2, 0, none⟩)] w
      fun e w' => e = .returned (.int .i64 (x * (denOf q : Int) - y * (denOf p : Int)).sign) ∧ Ext w w' := by
  have HX := Lib.hid hx
  have HY := Lib.hid hy
  have lx := hx.int.room.lt
  have x0 := hx.int.neg
  have x1 := hx.int.words
  have ly := hy.int.room.lt
  have y1 := hy.int.words
  simp only [Nat.zero_add] at x1 y1
  have kX : ∀ w', Ext w w' → Calls Tryz.prog 101 #[.pointer (some ⟨bx, 0, none⟩)] w' fun e w'' => e = .returned (.int .i64 x.sign) ∧ Ext w' w'' := fun w' he => br_Sign _ _ _ _ _ w' (hx.int.ext he)
  have kY : ∀ w', Ext w w' → Calls Tryz.prog 101 #[.pointer (some ⟨b2, 0, none⟩)] w' fun e w'' => e = .returned (.int .i64 x.sign) ∧ Ext w' w'' := fun w' he => by rw [h]; exact br_Sign _ _ _ _ _ w' (hy.int.ext he)
  have dl := den_len hx hm (by decide)
  have dl2 := den_len hy hm2 (by decide)
  have bX : ∀ w', Ext w w' → Calls Tryz.prog 129 #[.pointer (some ⟨bx, 0, none⟩)] w' fun e' w'' => ∃ (B : Option Addr) (k l : Nat), e' = .returned (.slice B k l) ∧ Hid (Rd w'' B k l (lim (denOf p))) ∧ Ext w' w'' := fun w' he => (br_below _ _ _ _ _ _ _ _ _ w' (HX.out.ext he)).mono fun _ _ ⟨B, k, l, h1, h2, h3⟩ => ⟨B, k, l, h1, h2.out.1, h3⟩
  have bY : ∀ w', Ext w w' → Calls Tryz.prog 129 #[.pointer (some ⟨b2, 0, none⟩)] w' fun e' w'' => ∃ (B : Option Addr) (k l : Nat), e' = .returned (.slice B k l) ∧ Hid (Rd w'' B k l (lim (denOf q))) ∧ Ext w' w'' := fun w' he => (br_below _ _ _ _ _ _ _ _ _ w' (HY.out.ext he)).mono fun _ _ ⟨B, k, l, h1, h2, h3⟩ => ⟨B, k, l, h1, h2.out.1, h3⟩
  have mX : ∀ P1 k l w', Ext w w' → Rd w' P1 k l (lim (denOf q)) → Calls Tryz.prog 147 #[.slice A n c, .slice P1 k l] w' (WPost w' (x.natAbs * denOf q)) := fun P1 k l w' he h1 => bw_mulA A P1 n c k l _ _ (by have := h1.len; omega) w' (HX.out.int.rd.ext he) h1
  have mY : ∀ P1 k l w', Ext w w' → Rd w' P1 k l (lim (denOf p)) → Calls Tryz.prog 147 #[.slice B n2 c2, .slice P1 k l] w' (WPost w' (y.natAbs * denOf p)) := fun P1 k l w' he h1 => bw_mulA B P1 n2 c2 k l _ _ (by have := h1.len; omega) w' (HY.out.int.rd.ext he) h1
  have hs0 : (x.sign == 0) = false := by
    rw [beq_eq_false_iff_ne]; intro h2; exact h0 (Int.sign_eq_zero_iff_zero.1 h2)
  generalize denOf p = p at *
  generalize denOf q = q at *
  rw [rcmp_near h h0]
  have hwr := wrap_neg_cmp (x.natAbs * q) (y.natAbs * p)
  have hcm : ∀ P1 k1 l1 Q1 k2 l2 w', Rd w' P1 k1 l1 (lim (x.natAbs * q)) → Rd w' Q1 k2 l2 (lim (y.natAbs * p)) → Calls Tryz.prog 146 #[.slice P1 k1 l1, .slice Q1 k2 l2] w' fun e w'' => e = .returned (.int .i64 (cmpN (x.natAbs * q) (y.natAbs * p))) ∧ Ext w' w'' := fun P1 k1 l1 Q1 k2 l2 w' h1 h2 => bw_cmp P1 Q1 k1 l1 k2 l2 _ _ w' h1 h2
  clear hx hy h h0
  generalize x.natAbs * q = U at *
  generalize y.natAbs * p = V at *
  generalize cmpN U V = K at *
  generalize x.sign = X at *
  by_cases hneg : x < 0
  · rw [if_pos hneg]
    rw [decide_eq_true hneg] at x0
    go_enter Tryz.func91, Tryz.ntmps91
    go_upto_region 7 with (first
      | (go_at_call 101; (with_reducible refine (kX _ (ext_trans xb1 xb2)).mono ?_); rintro e w3 ⟨rfl, xb3⟩)
      | (go_at_call 101; (with_reducible refine (kX _ (by (repeat (first | exact ext_refl _ | assumption | refine ext_setCell ?_ (by simp; try omega) _ | refine ext_alloc ?_ _ | refine ext_drew ?_ | refine ext_drewN ?_ _ | refine ext_trans ?_ (Aft.use _) | refine ext_trans ?_ (by assumption))))).mono ?_); rintro e w1 ⟨rfl, xb1⟩)
      | (go_at_call 101; (with_reducible refine (kY _ (by (repeat (first | exact ext_refl _ | assumption | refine ext_setCell ?_ (by simp; try omega) _ | refine ext_alloc ?_ _ | refine ext_drew ?_ | refine ext_drewN ?_ _ | refine ext_trans ?_ (Aft.use _) | refine ext_trans ?_ (by assumption))))).mono ?_); rintro e w2 ⟨rfl, xb2⟩)
     )
    have hE3 : Hid (Ext w w3) := by show Ext w w3; (repeat (first | exact ext_refl _ | assumption | refine ext_setCell ?_ (by simp; try omega) _ | refine ext_alloc ?_ _ | refine ext_drew ?_ | refine ext_drewN ?_ _ | refine ext_trans ?_ (Aft.use _) | refine ext_trans ?_ (by assumption)))
    have x0' := (Below.cell (p := ⟨bx, 0, none⟩) hE3.out lx).trans x0
    have x1' := (Below.cell (p := ⟨bx, 1, none⟩) hE3.out lx).trans x1
    have y1' := (Below.cell (p := ⟨b2, 1, none⟩) hE3.out ly).trans y1
    have lx' := ext_lt hE3.out bx lx
    have ly' := ext_lt hE3.out b2 ly
    clear kX kY xb1 xb2 xb3
    refine D2.wp_drawn_tail 16 (D2.tab [(6, D2.RRow q), (7, RWord w3.heap.size U), (14, D2.RRow p), (15, RWord w3.heap.size V)]) (by kernel_rfl) (by kernel_rfl) (by kernel_rfl) (D2.tab_stays (by simp [D2.stays_row, D2.stays_word])) (fun hq hqf => ?_)
    simp only [List.take_succ_cons, List.take_zero, List.drop_succ_cons, List.drop_zero]
    have z1 := fun nq => (hq nq bx 1 lx').trans x1'
    have z3 := fun nq => (hq nq b2 1 ly').trans y1'
    iterate 6
      (refine D2.wpK_det rfl (fun K hK => ?_)
       go_simp
       first
         | (refine hK _ ?_; clear hK K)
         | (apply Exists.intro; refine ⟨fun x => ?_, hK _ ?_⟩; (first | exact z1 x | exact z3 x); clear hK K))
    refine D2.wpK_rel _ rfl rfl ?_ ?_
    · rintro _ ⟨nn, rfl⟩ _
      unfold D2.Oper.relAt
      go_simp
      exact D2.rel_row (bY _ (ext_trans hE3.out nn.use))
    rintro v ⟨_, ⟨nn, rfl⟩, hr⟩
    obtain ⟨A5, k5, c5, rfl, -⟩ := hr
    clear nn
    refine D2.wpK_rel _ rfl rfl ?_ ?_
    · rintro _ ⟨nn, rfl⟩ hdep
      have q1 := hdep 6 (by kernel_rfl)
      simp only [D2.Facts.put] at q1
      have q2 := D2.row_at (vals := []) q1
      unfold D2.Oper.relAt
      go_simp
      exact D2.rel_wpost (ext_size nn.use) (mX _ _ _ _ (ext_trans hE3.out nn.use) q2)
    rintro v ⟨_, ⟨nn, rfl⟩, hr⟩
    obtain ⟨A6, k6, c6, rfl, -, -⟩ := hr
    clear nn
    iterate 6
      (refine D2.wpK_det rfl (fun K hK => ?_)
       go_simp
       first
         | (refine hK _ ?_; clear hK K)
         | (apply Exists.intro; refine ⟨fun x => ?_, hK _ ?_⟩; (first | exact z1 x | exact z3 x); clear hK K))
    refine D2.wpK_rel _ rfl rfl ?_ ?_
    · rintro _ ⟨nn, rfl⟩ _
      unfold D2.Oper.relAt
      go_simp
      exact D2.rel_row (bX _ (ext_trans hE3.out nn.use))
    rintro v ⟨_, ⟨nn, rfl⟩, hr⟩
    obtain ⟨A7, k7, c7, rfl, -⟩ := hr
    clear nn
    refine D2.wpK_rel _ rfl rfl ?_ ?_
    · rintro _ ⟨nn, rfl⟩ hdep
      have q1 := hdep 14 (by kernel_rfl)
      simp only [D2.Facts.put] at q1
      have q2 := D2.row_at (vals := []) q1
      unfold D2.Oper.relAt
      go_simp
      exact D2.rel_wpost (ext_size nn.use) (mY _ _ _ _ (ext_trans hE3.out nn.use) q2)
    rintro v ⟨_, ⟨nn, rfl⟩, hr⟩
    obtain ⟨A8, k8, c8, rfl, -, -⟩ := hr
    clear nn
    refine D2.wpK_nil ?_
    intro nq hG
    have r6 : RWord w3.heap.size U [] (.slice A6 k6 c6) nq.out := by have := hG.fact 7; simp [D2.Facts.put] at this; exact this
    have r8 : RWord w3.heap.size V [] (.slice A8 k8 c8) nq.out := by have := hG.fact 15; simp [D2.Facts.put] at this; exact this
    have hR6 := Lib.hid (rword_at r6)
    have hR8 := Lib.hid (rword_at r8)
    have hE := Lib.hid (ext_trans hE3.out nq.use)
    have x0q := (Below.cell (p := ⟨bx, 0, none⟩) nq.use lx').trans x0'
    have lxq := ext_lt nq.use bx lx'
    clear r6 r8 hG
    go_wp2_with (first
      | (go_at_call 146; (with_reducible refine (hcm _ _ _ _ _ _ _ hR6.out.1 hR8.out.1).mono ?_); rintro e w9 ⟨rfl, xb9⟩; obtain ⟨xc9, xf9, xl9, xz9⟩ := ext_use xb9; (try simp at xz9); obtain ⟨l9_0, gc, gf⟩ := kp xb9 (bx) (by first | omega | (simp; try omega)); have r9_0 := gc 0; have f9_0 := gf 0; have r9_0_1 := gc 1; have f9_0_1 := gf 1; clear gc gf)
     )
    refine bodyPost_ret (v := .int .i64 (-K)) ?h rfl ⟨rfl, ext_trans hE.out xb9⟩
    case h => simp [results, Tryz.results91, go_sem]
  · rw [if_neg hneg]
    rw [decide_eq_false hneg] at x0
    go_enter Tryz.func91, Tryz.ntmps91
    go_upto_region 7 with (first
      | (go_at_call 101; (with_reducible refine (kX _ (ext_trans xb1 xb2)).mono ?_); rintro e w3 ⟨rfl, xb3⟩)
      | (go_at_call 101; (with_reducible refine (kX _ (by (repeat (first | exact ext_refl _ | assumption | refine ext_setCell ?_ (by simp; try omega) _ | refine ext_alloc ?_ _ | refine ext_drew ?_ | refine ext_drewN ?_ _ | refine ext_trans ?_ (Aft.use _) | refine ext_trans ?_ (by assumption))))).mono ?_); rintro e w1 ⟨rfl, xb1⟩)
      | (go_at_call 101; (with_reducible refine (kY _ (by (repeat (first | exact ext_refl _ | assumption | refine ext_setCell ?_ (by simp; try omega) _ | refine ext_alloc ?_ _ | refine ext_drew ?_ | refine ext_drewN ?_ _ | refine ext_trans ?_ (Aft.use _) | refine ext_trans ?_ (by assumption))))).mono ?_); rintro e w2 ⟨rfl, xb2⟩)
     )
    have hE3 : Hid (Ext w w3) := by show Ext w w3; (repeat (first | exact ext_refl _ | assumption | refine ext_setCell ?_ (by simp; try omega) _ | refine ext_alloc ?_ _ | refine ext_drew ?_ | refine ext_drewN ?_ _ | refine ext_trans ?_ (Aft.use _) | refine ext_trans ?_ (by assumption)))
    have x0' := (Below.cell (p := ⟨bx, 0, none⟩) hE3.out lx).trans x0
    have x1' := (Below.cell (p := ⟨bx, 1, none⟩) hE3.out lx).trans x1
    have y1' := (Below.cell (p := ⟨b2, 1, none⟩) hE3.out ly).trans y1
    have lx' := ext_lt hE3.out bx lx
    have ly' := ext_lt hE3.out b2 ly
    clear kX kY xb1 xb2 xb3
    refine D2.wp_drawn_tail 16 (D2.tab [(6, D2.RRow q), (7, RWord w3.heap.size U), (14, D2.RRow p), (15, RWord w3.heap.size V)]) (by kernel_rfl) (by kernel_rfl) (by kernel_rfl) (D2.tab_stays (by simp [D2.stays_row, D2.stays_word])) (fun hq hqf => ?_)
    simp only [List.take_succ_cons, List.take_zero, List.drop_succ_cons, List.drop_zero]
    have z1 := fun nq => (hq nq bx 1 lx').trans x1'
    have z3 := fun nq => (hq nq b2 1 ly').trans y1'
    iterate 6
      (refine D2.wpK_det rfl (fun K hK => ?_)
       go_simp
       first
         | (refine hK _ ?_; clear hK K)
         | (apply Exists.intro; refine ⟨fun x => ?_, hK _ ?_⟩; (first | exact z1 x | exact z3 x); clear hK K))
    refine D2.wpK_rel _ rfl rfl ?_ ?_
    · rintro _ ⟨nn, rfl⟩ _
      unfold D2.Oper.relAt
      go_simp
      exact D2.rel_row (bY _ (ext_trans hE3.out nn.use))
    rintro v ⟨_, ⟨nn, rfl⟩, hr⟩
    obtain ⟨A5, k5, c5, rfl, -⟩ := hr
    clear nn
    refine D2.wpK_rel _ rfl rfl ?_ ?_
    · rintro _ ⟨nn, rfl⟩ hdep
      have q1 := hdep 6 (by kernel_rfl)
      simp only [D2.Facts.put] at q1
      have q2 := D2.row_at (vals := []) q1
      unfold D2.Oper.relAt
      go_simp
      exact D2.rel_wpost (ext_size nn.use) (mX _ _ _ _ (ext_trans hE3.out nn.use) q2)
    rintro v ⟨_, ⟨nn, rfl⟩, hr⟩
    obtain ⟨A6, k6, c6, rfl, -, -⟩ := hr
    clear nn
    iterate 6
      (refine D2.wpK_det rfl (fun K hK => ?_)
       go_simp
       first
         | (refine hK _ ?_; clear hK K)
         | (apply Exists.intro; refine ⟨fun x => ?_, hK _ ?_⟩; (first | exact z1 x | exact z3 x); clear hK K))
    refine D2.wpK_rel _ rfl rfl ?_ ?_
    · rintro _ ⟨nn, rfl⟩ _
      unfold D2.Oper.relAt
      go_simp
      exact D2.rel_row (bX _ (ext_trans hE3.out nn.use))
    rintro v ⟨_, ⟨nn, rfl⟩, hr⟩
    obtain ⟨A7, k7, c7, rfl, -⟩ := hr
    clear nn
    refine D2.wpK_rel _ rfl rfl ?_ ?_
    · rintro _ ⟨nn, rfl⟩ hdep
      have q1 := hdep 14 (by kernel_rfl)
      simp only [D2.Facts.put] at q1
      have q2 := D2.row_at (vals := []) q1
      unfold D2.Oper.relAt
      go_simp
      exact D2.rel_wpost (ext_size nn.use) (mY _ _ _ _ (ext_trans hE3.out nn.use) q2)
    rintro v ⟨_, ⟨nn, rfl⟩, hr⟩
    obtain ⟨A8, k8, c8, rfl, -, -⟩ := hr
    clear nn
    refine D2.wpK_nil ?_
    intro nq hG
    have r6 : RWord w3.heap.size U [] (.slice A6 k6 c6) nq.out := by have := hG.fact 7; simp [D2.Facts.put] at this; exact this
    have r8 : RWord w3.heap.size V [] (.slice A8 k8 c8) nq.out := by have := hG.fact 15; simp [D2.Facts.put] at this; exact this
    have hR6 := Lib.hid (rword_at r6)
    have hR8 := Lib.hid (rword_at r8)
    have hE := Lib.hid (ext_trans hE3.out nq.use)
    have x0q := (Below.cell (p := ⟨bx, 0, none⟩) nq.use lx').trans x0'
    have lxq := ext_lt nq.use bx lx'
    clear r6 r8 hG
    go_wp2_with (first
      | (go_at_call 146; (with_reducible refine (hcm _ _ _ _ _ _ _ hR6.out.1 hR8.out.1).mono ?_); rintro e w9 ⟨rfl, xb9⟩; obtain ⟨xc9, xf9, xl9, xz9⟩ := ext_use xb9; (try simp at xz9); obtain ⟨l9_0, gc, gf⟩ := kp xb9 (bx) (by first | omega | (simp; try omega)); have r9_0 := gc 0; have f9_0 := gf 0; have r9_0_1 := gc 1; have f9_0_1 := gf 1; clear gc gf)
     )
    refine bodyPost_ret (v := .int .i64 K) ?h rfl ⟨rfl, ext_trans hE.out xb9⟩
    case h => simp [results, Tryz.results91, go_sem]
theorem br_Cmp (bx b2 : Nat) (x y : Int) (p q : Nat) (A : Option Addr) (n c : Nat) (D : Option Addr) (m e : Nat) (B : Option Addr) (n2 c2 : Nat) (C : Option Addr) (m2 e2 : Nat)
    (hn : n ≤ 100000) (hm : m ≤ 100000) (hn2 : n2 ≤ 100000) (hm2 : m2 ≤ 100000) (w : World) (hx : RatIs w bx x A n c p D m e) (hy : RatIs w b2 y B n2 c2 q C m2 e2) :
    Calls Tryz.prog 91 #[.pointer (some ⟨bx, 0, none⟩), .pointer (some ⟨b2, 0, none⟩)] w
      fun e w' => e = .returned (.int .i64 (x * (denOf q : Int) - y * (denOf p : Int)).sign) ∧ Ext w w' := by
  by_cases h : x.sign = y.sign
  · by_cases h0 : x = 0
    · have hy0 : y = 0 := by rw [h0] at h; exact Int.sign_eq_zero_iff_zero.1 h.symm
      exact br_Cmp_nil bx b2 x y p q h0 hy0 A n c D m e B n2 c2 C m2 e2 w hx hy
    · exact br_Cmp_near bx b2 x y p q h h0 A n c D m e B n2 c2 C m2 e2 hn hm hn2 hm2 w hx hy
  · exact br_Cmp_far bx b2 x y p q h A n c D m e B n2 c2 C m2 e2 w hx hy
end Go.Proofs.YtchbefambnhjjaaGreatDoor
end
section
/- The program's fractions: sums, products, order. -/
namespace Go.Proofs.YtchbefambnhjjaaGreatDoor
open Go.RowKit
attribute [local go_sem] sz2 sz3 sz4 sz5 sz6 sz7 sz8
set_option maxHeartbeats 4000000
set_option maxRecDepth 100000
attribute [local irreducible] Calls
theorem run_makeFunc'' (P : Program) (fn : Fn) (first cap : Array Value) (w : World) : (Instr.makeFunc fn first cap).run P w = .ok (.func fn first cap) w := rfl
attribute [local go_sem] run_makeFunc''
theorem tch_set3 {g : Nat} {w W : World} (h : Tch g w W) {b : Nat} (hb : w.heap.size ≤ b) (v0 v1 v2 : Value) : Tch g w (((W.setCell ⟨b, 0, none⟩ v0).setCell ⟨b, 1, none⟩ v1).setCell ⟨b, 2, none⟩ v2) := by
  have one : ∀ {U : World} (o : Nat) (v : Value), Tch g w U → Tch g w (U.setCell ⟨b, o, none⟩ v) := fun o v h =>
    ⟨h.os, h.tape, h.output, by simpa using h.size, fun i hi hg => (Below.heap_setCell _ ⟨b, o, none⟩ v i (by simp only; omega)).trans (h.block i hi hg)⟩
  exact one 2 v2 (one 1 v1 (one 0 v0 h))
/-- A fraction that is told, while one block has been put to use. -/
abbrev OPost (g : Nat) (w : World) (z : Int) (d : Nat) : Ending → World → Prop := fun e w' => ∃ (A : Option Addr) (n c : Nat) (D : Option Addr) (m k : Nat), e = .returned (.tuple #[ratV (decide (z < 0)) A n c D m k, .int .i64 0]) ∧
  Hid (RdO w' A n c (lim z.natAbs) none ∧ Fr w A ∧ RdO w' D m k (lim d) A ∧ Fr w D) ∧ Tch g w w'
theorem ra_of_Add (g : Nat) (zn : Int) (zd : Nat) (hz1 : (lim zn.natAbs).length ≤ 16384) (hz2 : (lim zd).length ≤ 16384) (hz3 : (lim (denOf zd)).length ≤ 16384)
    (neg : Bool) (A : Option Addr) (n c a : Nat) (D : Option Addr) (m k d : Nat) (hd : d ≠ 0) (hn : n ≤ 16384) (hm : m ≤ 16384) (hg : Nat.gcd a d = 1) (hng : neg = true → a ≠ 0)
    (neg2 : Bool) (B : Option Addr) (n2 c2 b : Nat) (C : Option Addr) (m2 k2 q : Nat) (hq : q ≠ 0) (hn2 : n2 ≤ 16384) (hm2 : m2 ≤ 16384) (hg2 : Nat.gcd b q = 1) (hng2 : neg2 = true → b ≠ 0)
    (w : World) (hT : Tz w) (hr : RatRoom w g) (hA : Rd w A n c (lim a)) (hD : Rd w D m k (lim d)) (hB : Rd w B n2 c2 (lim b)) (hC : Rd w C m2 k2 (lim q))
    (hop : ∀ bx X n' c' Y m' k' b2 X2 n2' c2' Y2 m2' k2' w', Ext w w' → RatIs w' bx (sgn neg a) X n' c' (lowD a d) Y m' k' → RatIs w' b2 (sgn neg2 b) X2 n2' c2' (lowD b q) Y2 m2' k2' → Off Y m' g → Off Y2 m2' g → Calls Tryz.prog 67 #[.pointer (some ⟨g, 0, none⟩), .pointer (some ⟨bx, 0, none⟩), .pointer (some ⟨b2, 0, none⟩)] w' (FPost w' g zn zd)) :
    Calls Tryz.prog 65 #[ratV neg A n c D m k, ratV neg2 B n2 c2 C m2 k2, .func (.func 67) #[.pointer (some ⟨g, 0, none⟩)] #[]] w (OPost g w zn (denOf zd)) := by
  have HT := Lib.hid hT
  have hgl := hr.int.lt
  have kA : ∀ w', Ext w w' → Calls Tryz.prog 68 #[ratV neg A n c D m k] w' (KPost w' (sgn neg a) (lowD a d)) := fun w' he => ra_taken neg A n c a D m k d hd hn hm hg hng w' (hT.ext he) (hA.ext he) (hD.ext he)
  have kB : ∀ w', Ext w w' → Calls Tryz.prog 68 #[ratV neg2 B n2 c2 C m2 k2] w' (KPost w' (sgn neg2 b) (lowD b q)) := fun w' he => ra_taken neg2 B n2 c2 b C m2 k2 q hq hn2 hm2 hg2 hng2 w' (hT.ext he) (hB.ext he) (hC.ext he)
  clear hA hB hC hD hT hr hng hng2 hg hg2 hd hq
  generalize lowD a d = da at *
  generalize lowD b q = db at *
  generalize sgn neg a = za at *
  generalize sgn neg2 b = zb at *
  have HZ := Lib.hid (And.intro hz1 (And.intro hz2 hz3))
  clear hz1 hz2 hz3
  go_enter Tryz.func65, Tryz.ntmps65
  go_upto_region 7 with (first
    | (go_at_call 68; (with_reducible refine (kA _ (by (repeat (first | exact ext_refl _ | assumption | refine ext_setCell ?_ (by simp; try omega) _ | refine ext_alloc ?_ _ | refine ext_drew ?_ | refine ext_drewN ?_ _ | refine ext_trans ?_ (Aft.use _) | refine ext_trans ?_ (by assumption))))).mono ?_); rintro e w1 ⟨b1, A1, n1, c1, D1, m1, k1, rfl, hR1, hb1, xb1⟩; obtain ⟨xc1, xf1, xl1, xz1⟩ := ext_use xb1; (try simp at xz1); obtain ⟨l1_0, gc, gf⟩ := kp xb1 (w.heap.size) (by first | omega | (simp; try omega)); have r1_0 := gc 0; have f1_0 := gf 0; have r1_0_1 := gc 1; have f1_0_1 := gf 1; have r1_0_2 := gc 2; have f1_0_2 := gf 2; clear gc gf; obtain ⟨l1_1, gc, gf⟩ := kp xb1 (w.heap.size + 1) (by first | omega | (simp; try omega)); have r1_1 := gc 0; have f1_1 := gf 0; have r1_1_1 := gc 1; have f1_1_1 := gf 1; have r1_1_2 := gc 2; have f1_1_2 := gf 2; clear gc gf; obtain ⟨l1_2, gc, gf⟩ := kp xb1 (w.heap.size + 1 + 1) (by first | omega | (simp; try omega)); have r1_2 := gc 0; have f1_2 := gf 0; have r1_2_1 := gc 1; have f1_2_1 := gf 1; have r1_2_2 := gc 2; have f1_2_2 := gf 2; clear gc gf)
    | (go_at_call 68; (with_reducible refine (kB _ (by (repeat (first | exact ext_refl _ | assumption | refine ext_setCell ?_ (by simp; try omega) _ | refine ext_alloc ?_ _ | refine ext_drew ?_ | refine ext_drewN ?_ _ | refine ext_trans ?_ (Aft.use _) | refine ext_trans ?_ (by assumption))))).mono ?_); rintro e w2 ⟨b2, A2, n2, c2, D2, m2, k2, rfl, hR2, hb2, xb2⟩; obtain ⟨xc2, xf2, xl2, xz2⟩ := ext_use xb2; (try simp at xz2); obtain ⟨l2_0, gc, gf⟩ := kp xb2 (w.heap.size) (by first | omega | (simp; try omega)); have r2_0 := gc 0; have f2_0 := gf 0; have r2_0_1 := gc 1; have f2_0_1 := gf 1; have r2_0_2 := gc 2; have f2_0_2 := gf 2; clear gc gf; obtain ⟨l2_1, gc, gf⟩ := kp xb2 (w.heap.size + 1) (by first | omega | (simp; try omega)); have r2_1 := gc 0; have f2_1 := gf 0; have r2_1_1 := gc 1; have f2_1_1 := gf 1; have r2_1_2 := gc 2; have f2_1_2 := gf 2; clear gc gf; obtain ⟨l2_2, gc, gf⟩ := kp xb2 (w.heap.size + 1 + 1) (by first | omega | (simp; try omega)); have r2_2 := gc 0; have f2_2 := gf 0; have r2_2_1 := gc 1; have f2_2_1 := gf 1; have r2_2_2 := gc 2; have f2_2_2 := gf 2; clear gc gf)
   )
  have hEw : Hid (Ext w w2) := by show Ext w w2; (repeat (first | exact ext_refl _ | assumption | refine ext_setCell ?_ (by simp; try omega) _ | refine ext_alloc ?_ _ | refine ext_drew ?_ | refine ext_drewN ?_ _ | refine ext_trans ?_ (Aft.use _) | refine ext_trans ?_ (by assumption)))
  have hR1' := Lib.hid (hR1.out.1.ext (show Ext w1 w2 by (repeat (first | exact ext_refl _ | assumption | refine ext_setCell ?_ (by simp; try omega) _ | refine ext_alloc ?_ _ | refine ext_drew ?_ | refine ext_drewN ?_ _ | refine ext_trans ?_ (Aft.use _) | refine ext_trans ?_ (by assumption)))))
  have l1 := hR1'.out.int.room.lt
  have hO1 : Off D1 m1 g := hR1.out.2.2.off (by simp; omega) m1
  have hO2 : Off D2 m2 g := hR2.out.2.2.off (by have := ext_lt xb1 g (by simp; omega); simpa using this) m2
  have kop := hop b1 A1 n1 c1 D1 m1 k1 b2 A2 n2 c2 D2 m2 k2 w2 hEw.out hR1'.out hR2.out.1 hO1 hO2
  have z0 : w2.cell? ⟨w.heap.size + 1 + 1, 0, none⟩ = some (.bool false) := by simp [go_sem, *]
  have z1 : w2.cell? ⟨w.heap.size + 1 + 1, 1, none⟩ = some (.slice none 0 0) := by simp [go_sem, *]
  have z2 : w2.cell? ⟨w.heap.size + 1 + 1, 2, none⟩ = some (.slice none 0 0) := by simp [go_sem, *]
  have f0 : w2.frozen? ⟨w.heap.size + 1 + 1, 0, none⟩ = false := by simp [go_sem, *]
  have f1 : w2.frozen? ⟨w.heap.size + 1 + 1, 1, none⟩ = false := by simp [go_sem, *]
  have f2 : w2.frozen? ⟨w.heap.size + 1 + 1, 2, none⟩ = false := by simp [go_sem, *]
  have zl : w.heap.size + 1 + 1 < w2.heap.size := by assumption
  clear hop kA kB hO1 hO2
  go_wp2_with (first
    | (go_at_call 67; (with_reducible refine kop.mono ?_); rintro e w3 ⟨rfl, A3, n3, c3, D3, m3, k3, hR3, xt3⟩)
   )
  have g0 := (xt3.cell (p := ⟨w.heap.size + 1 + 1, 0, none⟩) zl (by simp only; omega)).trans z0
  have g1 := (xt3.cell (p := ⟨w.heap.size + 1 + 1, 1, none⟩) zl (by simp only; omega)).trans z1
  have g2 := (xt3.cell (p := ⟨w.heap.size + 1 + 1, 2, none⟩) zl (by simp only; omega)).trans z2
  have e0 := (xt3.frozen (p := ⟨w.heap.size + 1 + 1, 0, none⟩) zl (by simp only; omega)).trans f0
  have e1 := (xt3.frozen (p := ⟨w.heap.size + 1 + 1, 1, none⟩) zl (by simp only; omega)).trans f1
  have e2 := (xt3.frozen (p := ⟨w.heap.size + 1 + 1, 2, none⟩) zl (by simp only; omega)).trans f2
  have gl := Nat.lt_of_lt_of_le zl xt3.size
  have hl3 : n3 ≤ 16384 := by rw [← hR3.out.1.int.rd.len]; exact HZ.out.1
  have hm3 : m3 ≤ 100000 := by rw [← hR3.out.1.rd.len]; exact Nat.le_trans HZ.out.2.1 (by decide)
  clear z0 z1 z2 f0 f1 f2 xb1 xb2
  go_wp2_with (first
    | (go_at_call 60; (with_reducible refine (ra_told_ok g zn A3 n3 c3 zd D3 m3 k3 hl3 hm3 HZ.out.2.2 _ hR3.out.1).mono ?_); rintro e w4 ⟨A4, n4, c4, D4, m4, k4, rfl, hI4, xb4⟩; obtain ⟨xc4, xf4, xl4, xz4⟩ := ext_use xb4; (try simp at xz4); obtain ⟨l4_0, gc, gf⟩ := kp xb4 (w.heap.size + 1 + 1) (by first | omega | (simp; try omega)); have r4_0 := gc 0; have f4_0 := gf 0; have r4_0_1 := gc 1; have f4_0_1 := gf 1; have r4_0_2 := gc 2; have f4_0_2 := gf 2; clear gc gf)
   )
  have hlt4 : w.heap.size + 1 + 1 < w3.heap.size := gl
  have n5 : ∀ x, A4 = some x → w.heap.size + 1 + 1 < x.block := fun x hx => by have := hI4.out.2.1 x hx; omega
  have n6 : ∀ x, D4 = some x → w.heap.size + 1 + 1 < x.block := fun x hx => by have := hI4.out.2.2.2 x hx; omega
  have z0 : w4.cell? ⟨w.heap.size + 1 + 1, 0, none⟩ = some (.bool false) := by simp [go_sem, *]
  have z1 : w4.cell? ⟨w.heap.size + 1 + 1, 1, none⟩ = some (.slice none 0 0) := by simp [go_sem, *]
  have z2 : w4.cell? ⟨w.heap.size + 1 + 1, 2, none⟩ = some (.slice none 0 0) := by simp [go_sem, *]
  obtain ⟨q0, q1, q2⟩ := set3 (b := w.heap.size + 1 + 1) z0 z1 z2 (.bool (decide (zn < 0))) (.slice A4 n4 c4) (.slice D4 m4 k4)
  have hTT : Tch g w w4 := ((Tch.of hEw.out).trans xt3).trans (Tch.of xb4)
  refine bodyPost_ret (v := .tuple #[ratV (decide (zn < 0)) A4 n4 c4 D4 m4 k4, .int .i64 0]) ?h rfl ⟨A4, n4, c4, D4, m4, k4, rfl, ⟨hI4.out.1.set3 n5 _ _ _, fun x hx => Nat.le_of_lt (by have := n5 x hx; omega), hI4.out.2.2.1.set3 n6 _ _ _, fun x hx => Nat.le_of_lt (by have := n6 x hx; omega)⟩, tch_set3 hTT (by omega) _ _ _⟩
  case h => simp [results, Tryz.results65, go_sem, q0, q1, q2]
theorem canN_le (z : Int) (d : Nat) : (canN z d).natAbs ≤ z.natAbs := by unfold canN; rw [sgn_abs]; exact Nat.div_le_self _ _
theorem canD_le (z : Int) (d : Nat) : canD z d ≤ d := by unfold canD; exact Nat.div_le_self _ _
theorem canW_le (z : Int) (d : Nat) : canW z d ≤ d := by unfold canW; split; exact Nat.zero_le _; exact canD_le z d
theorem den_low {a d : Nat} (hd : d ≠ 0) (hg : Nat.gcd a d = 1) : denOf (lowD a d) = d := by
  unfold denOf lowD
  by_cases h0 : a = 0
  · rw [if_pos h0, if_pos rfl]; subst h0; rw [Nat.gcd_zero_left] at hg; exact hg.symm
  · rw [if_neg h0, hg, Nat.div_one, if_neg hd]
theorem lowD_le (a d : Nat) : lowD a d ≤ d := by unfold lowD; split; exact Nat.zero_le _; exact Nat.div_le_self _ _
theorem sum_room {x y : Int} {d q n : Nat} (h1 : (lim x.natAbs).length ≤ n) (h2 : (lim y.natAbs).length ≤ n) (h3 : (lim d).length ≤ n) (h4 : (lim q).length ≤ n) : (lim (x * (q : Int) + y * (d : Int)).natAbs).length ≤ 2 * n + 1 := by
  refine sum_len' ?_ ?_
  · rw [Int.natAbs_mul, Int.natAbs_natCast]; exact Nat.le_trans (lim_mul_len _ _) (by omega)
  · rw [Int.natAbs_mul, Int.natAbs_natCast]; exact Nat.le_trans (lim_mul_len _ _) (by omega)
theorem ra_Add (neg : Bool) (A : Option Addr) (n c a : Nat) (D : Option Addr) (m k d : Nat) (hd : d ≠ 0) (hn : n ≤ 4000) (hm : m ≤ 4000) (hg : Nat.gcd a d = 1) (hng : neg = true → a ≠ 0)
    (neg2 : Bool) (B : Option Addr) (n2 c2 b : Nat) (C : Option Addr) (m2 k2 q : Nat) (hq : q ≠ 0) (hn2 : n2 ≤ 4000) (hm2 : m2 ≤ 4000) (hg2 : Nat.gcd b q = 1) (hng2 : neg2 = true → b ≠ 0)
    (w : World) (hT : Tz w) (hA : Rd w A n c (lim a)) (hD : Rd w D m k (lim d)) (hB : Rd w B n2 c2 (lim b)) (hC : Rd w C m2 k2 (lim q)) :
    Calls Tryz.prog 37 #[ratV neg A n c D m k, ratV neg2 B n2 c2 C m2 k2] w (TPost w (canN (sgn neg a * (q : Int) + sgn neg2 b * (d : Int)) (d * q)) (canD (sgn neg a * (q : Int) + sgn neg2 b * (d : Int)) (d * q))) := by
  have h1 : (lim (sgn neg a).natAbs).length ≤ 4000 := by rw [sgn_abs, hA.len]; exact hn
  have h2 : (lim (sgn neg2 b).natAbs).length ≤ 4000 := by rw [sgn_abs, hB.len]; exact hn2
  have h3 : (lim d).length ≤ 4000 := by rw [hD.len]; exact hm
  have h4 : (lim q).length ≤ 4000 := by rw [hC.len]; exact hm2
  have hdq : (lim (d * q)).length ≤ 8001 := Nat.le_trans (lim_mul_len _ _) (by omega)
  have hz : (lim (sgn neg a * (q : Int) + sgn neg2 b * (d : Int)).natAbs).length ≤ 8001 := sum_room h1 h2 h3 h4
  rw [← canW_den (Nat.mul_ne_zero hd hq)]
  have kO : ∀ G W, RatRoom W G → Ext w W → Calls Tryz.prog 65 #[ratV neg A n c D m k, ratV neg2 B n2 c2 C m2 k2, .func (.func 67) #[.pointer (some ⟨G, 0, none⟩)] #[]] W (OPost G W (canN (sgn neg a * (q : Int) + sgn neg2 b * (d : Int)) (d * q)) (denOf (canW (sgn neg a * (q : Int) + sgn neg2 b * (d : Int)) (d * q)))) := fun G W hr hW => by
    refine ra_of_Add G _ _ (Nat.le_trans (lim_mono (canN_le _ _)) (by omega)) (Nat.le_trans (lim_mono (canW_le _ _)) (by omega)) ?_ neg A n c a D m k d hd (by omega) (by omega) hg hng neg2 B n2 c2 b C m2 k2 q hq (by omega) (by omega) hg2 hng2 W (hT.ext hW) hr (hA.ext hW) (hD.ext hW) (hB.ext hW) (hC.ext hW) ?_
    · rw [canW_den (Nat.mul_ne_zero hd hq)]; exact Nat.le_trans (lim_mono (canD_le _ _)) (by omega)
    · intro bx X n' c' Y m' k' b2 X2 n2' c2' Y2 m2' k2' w' he h5 h6 h7 h8
      have l1 := h5.int.rd.len
      have l2 := h5.rd.len
      have l3 := h6.int.rd.len
      have l4 := h6.rd.len
      have l5 := lim_mono (lowD_le a d)
      have l6 := lim_mono (lowD_le b q)
      have := br_Add G bx b2 (sgn neg a) (sgn neg2 b) (lowD a d) (lowD b q) (by rw [sgn_abs, den_low hd hg]; exact hg) (by rw [sgn_abs, den_low hq hg2]; exact hg2) X n' c' Y m' k' X2 n2' c2' Y2 m2' k2' (by omega) (by omega) (by omega) (by omega) w' ((hT.ext hW).ext he) (hr.ext he) h5 h6 h7 h8
      rwa [den_low hd hg, den_low hq hg2] at this
  clear hT hA hB hC hD hng hng2 hg hg2 hd hq h1 h2 h3 h4 hz hdq
  generalize canN (sgn neg a * (q : Int) + sgn neg2 b * (d : Int)) (d * q) = zn at kO ⊢
  generalize canW (sgn neg a * (q : Int) + sgn neg2 b * (d : Int)) (d * q) = zd at kO ⊢
  have kO' : Calls Tryz.prog 65 #[ratV neg A n c D m k, ratV neg2 B n2 c2 C m2 k2, .func (.func 67) #[.pointer (some ⟨w.heap.size + 1 + 1 + 1, 0, none⟩)] #[]] ((((w.alloc (Obj.cells #[.bool neg, .slice A n c, .slice D m k] 32)).alloc (Obj.cells #[.bool neg2, .slice B n2 c2, .slice C m2 k2] 32)).alloc (Obj.cells #[.bool false, .slice none 0 0, .slice none 0 0] 32)).alloc (Obj.cells #[.bool false, .slice none 0 0, .slice none 0 0] 81))
      fun e w' => ∃ (A : Option Addr) (n c : Nat) (D : Option Addr) (m k : Nat), e = .returned (.tuple #[ratV (decide (zn < 0)) A n c D m k, .int .i64 0]) ∧ Hid (RdO w' A n c (lim zn.natAbs) none ∧ (∀ x, A = some x → w.heap.size + 1 + 1 < x.block) ∧ RdO w' D m k (lim (denOf zd)) A ∧ (∀ x, D = some x → w.heap.size + 1 + 1 < x.block)) ∧
        w'.cell? ⟨w.heap.size + 1 + 1, 0, none⟩ = some (.bool false) ∧ w'.cell? ⟨w.heap.size + 1 + 1, 1, none⟩ = some (.slice none 0 0) ∧ w'.cell? ⟨w.heap.size + 1 + 1, 2, none⟩ = some (.slice none 0 0) ∧
        w'.frozen? ⟨w.heap.size + 1 + 1, 0, none⟩ = false ∧ w'.frozen? ⟨w.heap.size + 1 + 1, 1, none⟩ = false ∧ w'.frozen? ⟨w.heap.size + 1 + 1, 2, none⟩ = false ∧ w.heap.size + 1 + 1 < w'.heap.size ∧ Hid (Ext w w') := by
    have hr := rat_room (((w.alloc (Obj.cells #[.bool neg, .slice A n c, .slice D m k] 32)).alloc (Obj.cells #[.bool neg2, .slice B n2 c2, .slice C m2 k2] 32)).alloc (Obj.cells #[.bool false, .slice none 0 0, .slice none 0 0] 32))
    have e0 : (((w.alloc (Obj.cells #[.bool neg, .slice A n c, .slice D m k] 32)).alloc (Obj.cells #[.bool neg2, .slice B n2 c2, .slice C m2 k2] 32)).alloc (Obj.cells #[.bool false, .slice none 0 0, .slice none 0 0] 32)).heap.size = w.heap.size + 1 + 1 + 1 := by simp
    rw [e0] at hr
    have hEx : Ext w ((((w.alloc (Obj.cells #[.bool neg, .slice A n c, .slice D m k] 32)).alloc (Obj.cells #[.bool neg2, .slice B n2 c2, .slice C m2 k2] 32)).alloc (Obj.cells #[.bool false, .slice none 0 0, .slice none 0 0] 32)).alloc (Obj.cells #[.bool false, .slice none 0 0, .slice none 0 0] 81)) := ext_alloc (ext_alloc (ext_alloc (ext_alloc (ext_refl _) _) _) _) _
    refine (kO _ _ hr hEx).mono ?_
    rintro e w' ⟨A1, n1, c1, D1, m1, k1, rfl, h1, h2⟩
    have hsz := hr.int.lt
    have hs2 := h2.size
    have lt : ∀ o, (⟨w.heap.size + 1 + 1, o, none⟩ : Addr).block ≠ w.heap.size + 1 + 1 + 1 := fun o => by simp
    have lb : w.heap.size + 1 + 1 < ((((w.alloc (Obj.cells #[.bool neg, .slice A n c, .slice D m k] 32)).alloc (Obj.cells #[.bool neg2, .slice B n2 c2, .slice C m2 k2] 32)).alloc (Obj.cells #[.bool false, .slice none 0 0, .slice none 0 0] 32)).alloc (Obj.cells #[.bool false, .slice none 0 0, .slice none 0 0] 81)).heap.size := by simp
    refine ⟨A1, n1, c1, D1, m1, k1, rfl, ⟨h1.out.1, fun x hx => by have := h1.out.2.1 x hx; omega, h1.out.2.2.1, fun x hx => by have := h1.out.2.2.2 x hx; omega⟩,
      (h2.cell (p := ⟨w.heap.size + 1 + 1, 0, none⟩) lb (lt 0)).trans (by simp [go_sem]), (h2.cell (p := ⟨w.heap.size + 1 + 1, 1, none⟩) lb (lt 1)).trans (by simp [go_sem]), (h2.cell (p := ⟨w.heap.size + 1 + 1, 2, none⟩) lb (lt 2)).trans (by simp [go_sem]),
      (h2.frozen (p := ⟨w.heap.size + 1 + 1, 0, none⟩) lb (lt 0)).trans (by simp [go_sem]), (h2.frozen (p := ⟨w.heap.size + 1 + 1, 1, none⟩) lb (lt 1)).trans (by simp [go_sem]), (h2.frozen (p := ⟨w.heap.size + 1 + 1, 2, none⟩) lb (lt 2)).trans (by simp [go_sem]), Nat.lt_of_lt_of_le lb hs2, h2.ext hEx (by omega)⟩
  clear kO
  go_enter Tryz.func37, Tryz.ntmps37
  go_wp2_with (first
    | (go_at_call 65; (with_reducible refine kO'.mono ?_); rintro e w1 ⟨A1, n1, c1, D1, m1, k1, rfl, hI1, z0, z1, z2, f0, f1, f2, zl, hE1⟩)
   )
  obtain ⟨q0, q1, q2⟩ := set3 (b := w.heap.size + 1 + 1) z0 z1 z2 (.bool (decide (zn < 0))) (.slice A1 n1 c1) (.slice D1 m1 k1)
  have n5 := hI1.out.2.1
  have n6 := hI1.out.2.2.2
  refine bodyPost_ret (v := .tuple #[ratV (decide (zn < 0)) A1 n1 c1 D1 m1 k1, .int .i64 0]) ?h rfl ⟨A1, n1, c1, D1, m1, k1, rfl, ⟨hI1.out.1.set3 n5 _ _ _, fun x hx => Nat.le_of_lt (by have := n5 x hx; omega), hI1.out.2.2.1.set3 n6 _ _ _, fun x hx => Nat.le_of_lt (by have := n6 x hx; omega)⟩, ext_set3 hE1.out (by omega) _ _ _⟩
  case h => simp [results, Tryz.results37, go_sem, q0, q1, q2]
end Go.Proofs.YtchbefambnhjjaaGreatDoor
end
section
/- The program's fractions: order. -/
namespace Go.Proofs.YtchbefambnhjjaaGreatDoor
open Go.RowKit
attribute [local go_sem] sz2 sz3 sz4 sz5 sz6 sz7 sz8
set_option maxHeartbeats 4000000
set_option maxRecDepth 100000
attribute [local irreducible] Calls
theorem ra_Cmp (neg : Bool) (A : Option Addr) (n c a : Nat) (D : Option Addr) (m k d : Nat) (hd : d ≠ 0) (hn : n ≤ 16384) (hm : m ≤ 16384) (hg : Nat.gcd a d = 1) (hng : neg = true → a ≠ 0)
    (neg2 : Bool) (B : Option Addr) (n2 c2 b : Nat) (C : Option Addr) (m2 k2 q : Nat) (hq : q ≠ 0) (hn2 : n2 ≤ 16384) (hm2 : m2 ≤ 16384) (hg2 : Nat.gcd b q = 1) (hng2 : neg2 = true → b ≠ 0)
    (w : World) (hT : Tz w) (hA : Rd w A n c (lim a)) (hD : Rd w D m k (lim d)) (hB : Rd w B n2 c2 (lim b)) (hC : Rd w C m2 k2 (lim q)) :
    Calls Tryz.prog 35 #[ratV neg A n c D m k, ratV neg2 B n2 c2 C m2 k2] w fun e w' => e = .returned (.tuple #[.int .i64 (sgn neg a * (q : Int) - sgn neg2 b * (d : Int)).sign, .int .i64 0]) ∧ Ext w w' := by
  have kA : ∀ w', Ext w w' → Calls Tryz.prog 68 #[ratV neg A n c D m k] w' (KPost w' (sgn neg a) (lowD a d)) := fun w' he => ra_taken neg A n c a D m k d hd hn hm hg hng w' (hT.ext he) (hA.ext he) (hD.ext he)
  have kB : ∀ w', Ext w w' → Calls Tryz.prog 68 #[ratV neg2 B n2 c2 C m2 k2] w' (KPost w' (sgn neg2 b) (lowD b q)) := fun w' he => ra_taken neg2 B n2 c2 b C m2 k2 q hq hn2 hm2 hg2 hng2 w' (hT.ext he) (hB.ext he) (hC.ext he)
  have hla := hA.len
  have hld := hD.len
  have hlb := hB.len
  have hlq := hC.len
  have kC : ∀ bx X n' c' Y m' k' b2 X2 n2' c2' Y2 m2' k2' w', RatIs w' bx (sgn neg a) X n' c' (lowD a d) Y m' k' → RatIs w' b2 (sgn neg2 b) X2 n2' c2' (lowD b q) Y2 m2' k2' → Calls Tryz.prog 91 #[.pointer (some ⟨bx, 0, none⟩), .pointer (some ⟨b2, 0, none⟩)] w' fun e w'' => e = .returned (.int .i64 (sgn neg a * (q : Int) - sgn neg2 b * (d : Int)).sign) ∧ Ext w' w'' := fun bx X n' c' Y m' k' b2 X2 n2' c2' Y2 m2' k2' w' h5 h6 => by
    have l1 := h5.int.rd.len
    have l2 := h5.rd.len
    have l3 := h6.int.rd.len
    have l4 := h6.rd.len
    have l5 := lim_mono (lowD_le a d)
    have l6 := lim_mono (lowD_le b q)
    rw [sgn_abs] at l1 l3
    have := br_Cmp bx b2 (sgn neg a) (sgn neg2 b) (lowD a d) (lowD b q) X n' c' Y m' k' X2 n2' c2' Y2 m2' k2' (by omega) (by omega) (by omega) (by omega) w' h5 h6
    rwa [den_low hd hg, den_low hq hg2] at this
  clear hT hA hD hB hC hng hng2 hla hld hlb hlq
  generalize (sgn neg a * (q : Int) - sgn neg2 b * (d : Int)).sign = R at kC ⊢
  generalize lowD a d = da at *
  generalize lowD b q = db at *
  generalize sgn neg a = za at *
  generalize sgn neg2 b = zb at *
  clear hd hn hm hg hq hn2 hm2 hg2
  go_enter Tryz.func35, Tryz.ntmps35
  go_wp2_with (first
    | (go_at_call 68; (with_reducible refine (kA _ (by (repeat (first | exact ext_refl _ | assumption | refine ext_setCell ?_ (by simp; try omega) _ | refine ext_alloc ?_ _ | refine ext_drew ?_ | refine ext_drewN ?_ _ | refine ext_trans ?_ (Aft.use _) | refine ext_trans ?_ (by assumption))))).mono ?_); rintro e w1 ⟨b1, A1, n1, c1, D1, m1, k1, rfl, hR1, hb1, xb1⟩; obtain ⟨xc1, xf1, xl1, xz1⟩ := ext_use xb1; (try simp at xz1); obtain ⟨l1_0, gc, gf⟩ := kp xb1 (w.heap.size) (by first | omega | (simp; try omega)); have r1_0 := gc 0; have f1_0 := gf 0; have r1_0_1 := gc 1; have f1_0_1 := gf 1; have r1_0_2 := gc 2; have f1_0_2 := gf 2; clear gc gf; obtain ⟨l1_1, gc, gf⟩ := kp xb1 (w.heap.size + 1) (by first | omega | (simp; try omega)); have r1_1 := gc 0; have f1_1 := gf 0; have r1_1_1 := gc 1; have f1_1_1 := gf 1; have r1_1_2 := gc 2; have f1_1_2 := gf 2; clear gc gf)
    | (go_at_call 68; (with_reducible refine (kB _ (by (repeat (first | exact ext_refl _ | assumption | refine ext_setCell ?_ (by simp; try omega) _ | refine ext_alloc ?_ _ | refine ext_drew ?_ | refine ext_drewN ?_ _ | refine ext_trans ?_ (Aft.use _) | refine ext_trans ?_ (by assumption))))).mono ?_); rintro e w2 ⟨b2, A2, n2, c2, D2, m2, k2, rfl, hR2, hb2, xb2⟩; obtain ⟨xc2, xf2, xl2, xz2⟩ := ext_use xb2; (try simp at xz2); obtain ⟨l2_0, gc, gf⟩ := kp xb2 (w.heap.size) (by first | omega | (simp; try omega)); have r2_0 := gc 0; have f2_0 := gf 0; have r2_0_1 := gc 1; have f2_0_1 := gf 1; have r2_0_2 := gc 2; have f2_0_2 := gf 2; clear gc gf; obtain ⟨l2_1, gc, gf⟩ := kp xb2 (w.heap.size + 1) (by first | omega | (simp; try omega)); have r2_1 := gc 0; have f2_1 := gf 0; have r2_1_1 := gc 1; have f2_1_1 := gf 1; have r2_1_2 := gc 2; have f2_1_2 := gf 2; clear gc gf)
    | (go_at_call 91; (with_reducible refine (kC _ _ _ _ _ _ _ _ _ _ _ _ _ _ _ (hR1.out.1.ext (by (repeat (first | exact ext_refl _ | assumption | refine ext_setCell ?_ (by simp; try omega) _ | refine ext_alloc ?_ _ | refine ext_drew ?_ | refine ext_drewN ?_ _ | refine ext_trans ?_ (Aft.use _) | refine ext_trans ?_ (by assumption))))) hR2.out.1).mono ?_); rintro e w3 ⟨rfl, xb3⟩)
   )
  refine bodyPost_ret (v := .tuple #[.int .i64 R, .int .i64 0]) ?h rfl ⟨rfl, ?_⟩
  case h => simp [results, Tryz.results35, go_sem]
  repeat (first | exact ext_refl _ | assumption | refine ext_setCell ?_ (by simp; try omega) _ | refine ext_alloc ?_ _ | refine ext_drew ?_ | refine ext_drewN ?_ _ | refine ext_trans ?_ (Aft.use _) | refine ext_trans ?_ (by assumption))
end Go.Proofs.YtchbefambnhjjaaGreatDoor
end
section
/- (The document's library.) Words of the library's: how many bits, how many noughts last. -/

namespace Go.Proofs.YtchbefambnhjjaaGreatDoor.NB
open Go.RowKit
attribute [local go_sem] sz2 sz3 sz4 sz5 sz6 sz7 sz8
set_option maxHeartbeats 4000000
set_option maxRecDepth 100000
attribute [local irreducible] Calls
theorem bw_bitLen (A : Option Addr) (n c a : Nat) (hn : n ≤ 1000000) (w : World) (hA : Rd w A n c (lim a)) :
    Calls Tryz.prog 188 #[.slice A n c] w fun e w' => e = .returned (.int .i64 (bitsOf a : Nat)) ∧ Ext w w' := by
  have hmx := hA.mx
  have hcx := hA.cap
  have hl := hA.len
  by_cases h0 : n = 0
  · subst h0
    have ha : a = 0 := lim_nil.1 (List.eq_nil_of_length_eq_zero hl)
    have hb : bitsOf a = 0 := by rw [ha]; rfl
    rw [hb]
    clear hA hl ha hb
    go_enter Tryz.func188, Tryz.ntmps188
    go_wp2
    refine bodyPost_ret (v := .int .i64 0) ?h rfl ⟨rfl, ext_refl _⟩
    case h => simp [results, Tryz.results188, go_sem]
  · obtain ⟨k, rfl⟩ : ∃ k, n = k + 1 := ⟨n - 1, by omega⟩
    obtain ⟨bv, ov, hBe⟩ : ∃ b off, A = some ⟨b, off, none⟩ := by
      rcases hA.shape with ⟨_, h, _⟩ | h
      · omega
      · exact h
    subst hBe
    obtain ⟨top, ht, htb, hct⟩ := hA.get k (by omega)
    obtain ⟨hb, -, -, hbl⟩ := bitsOf_top hl ht.out
    rw [hb]
    have hk : ((k : Int) + 1 == 0) = false := by rw [beq_eq_false_iff_ne]; omega
    clear hA hl hb ht
    go_enter Tryz.func188, Tryz.ntmps188
    go_wp2_with (first
      | (go_at_call 102; (with_reducible refine (Tryz.bits_Len32 (top : Int) _ (by omega) (by omega)).mono ?_); rintro e w2 ⟨rfl, rfl⟩; simp only [Int.toNat_natCast])
     )
    refine bodyPost_ret (v := .int .i64 ↑(32 * k + Lib.bitLen top)) ?h rfl ⟨rfl, ext_refl _⟩
    case h => simp [results, Tryz.results188, go_sem]
theorem bw_zeros (A : Option Addr) (n c a : Nat) (hn : n ≤ 1000000) (w : World) (hT : Tz w) (hA : Rd w A n c (lim a)) :
    Calls Tryz.prog 187 #[.slice A n c] w fun e w' => e = .returned (.int .i64 (zz a : Nat)) ∧ Ext w w' := by
  have hmx := hA.mx
  have hcx := hA.cap
  have HA := Lib.hid hA
  have HT := Lib.hid hT
  have hlx := Lib.hid hA.len
  clear hA hT
  go_enter Tryz.func187, Tryz.ntmps187
  go_wp2
  go_loopw [3] (fun vi wr => ∃ i : Nat, i ≤ n ∧ vi = .int .i64 (i : Int) ∧ Hid (val ((lim a).take i) = 0) ∧ Hid (Ext w wr))
    (fun vi _ => n - (intOf vi).toNat)
  case atStart => exact ⟨0, Nat.zero_le _, rfl, (rfl : val [] = 0), ext_refl _⟩
  case round =>
    obtain ⟨i, hi, rfl, hv, hE⟩ := hrel
    by_cases h0 : i < n
    · obtain ⟨bv, ov, hBe⟩ : ∃ b off, A = some ⟨b, off, none⟩ := by
        rcases HA.out.shape with ⟨_, h, _⟩ | h
        · omega
        · exact h
      subst hBe
      obtain ⟨x, hx, hxb, hcell⟩ := (HA.out.ext hE.out).get i h0
      by_cases hx0 : x = 0
      · subst hx0
        go_wp2
        case roundEnd =>
          refine ⟨⟨i + 1, by omega, by simp, ?_, hE.out⟩, ?_⟩
          · show _ = _
            rw [val_take_succ, hv.out, hx.out, Nat.mul_zero]
          · simp [intOf]; omega
      · obtain ⟨hz, hc⟩ := zz_at hv.out hx.out hx0 hxb
        have hne : ((x : Int) == 0) = false := by rw [beq_eq_false_iff_ne]; omega
        have hni : ((i : Int) == (n : Int)) = false := by rw [beq_eq_false_iff_ne]; omega
        have HZ := Lib.hid hz
        have HX0 := Lib.hid hx0
        generalize hk : Lib.ctz 32 x = k at hz HZ hc
        have hcall : Calls Tryz.prog 217 #[.int .u32 (x : Int)] wr fun e w' => e = .returned (.int .i64 (k : Nat)) ∧ wr = w' := by rw [← hk]; exact bw_tz x hx0 hxb wr (HT.out.ext hE.out)
        clear hz hx0 hk
        go_wp2_with (first
          | (go_at_call 217; (with_reducible refine hcall.mono ?_); rintro e w2 ⟨rfl, rfl⟩)
         )
        refine bodyPost_ret (v := .int .i64 ↑(32 * i + k)) ?h rfl ⟨by rw [HZ.out], hE.out⟩
        case h => simp [results, Tryz.results187, go_sem]
    · obtain rfl : i = n := by omega
      have ha : zz a = 0 := by
        have h := hv.out
        rw [take_ge (by rw [hlx.out]; exact Nat.le_refl _), val_lim] at h
        rw [h]; rfl
      have HZ := Lib.hid ha
      clear ha
      go_wp2
      refine bodyPost_ret (v := .int .i64 0) ?h rfl ⟨by rw [HZ.out]; rfl, hE.out⟩
      case h => simp [results, Tryz.results187, go_sem]
end Go.Proofs.YtchbefambnhjjaaGreatDoor.NB
end
section
/- (The document's library.) Words of the library's: the first 64 bits; two rows blended. -/

namespace Go.Proofs.YtchbefambnhjjaaGreatDoor.NB
open Go.RowKit
attribute [local go_sem] sz2 sz3 sz4 sz5 sz6 sz7 sz8
set_option maxHeartbeats 4000000
set_option maxRecDepth 100000
attribute [local irreducible] Calls
theorem bw_topBits (A : Option Addr) (n c a z : Nat) (hn : n ≤ 1000000) (hz : z ≤ 100000000) (w : World) (hA : Rd w A n c (lim a)) :
    Calls Tryz.prog 190 #[.slice A n c, .int .i64 (z : Int)] w fun e w' => e = .returned (.int .u64 (a / 2 ^ z % 18446744073709551616 : Nat)) ∧ Ext w w' := by
  have hmx := hA.mx
  have hcx := hA.cap
  have HA := Lib.hid hA
  have hlx := Lib.hid hA.len
  obtain ⟨k, hk⟩ : ∃ k, k = z / 32 := ⟨_, rfl⟩
  obtain ⟨s, hs⟩ : ∃ s, s = z % 32 := ⟨_, rfl⟩
  have hs32 : s < 32 := by omega
  have hk5 : k ≤ 100000000 := by omega
  have hkz : z = 32 * k + s := by omega
  have e1 : (z : Int) / 32 = (k : Int) := by omega
  have e2 : (z : Int) % 32 = (s : Int) := by omega
  have e3 : (64 : Int) - (s : Int) = ((64 - s : Nat) : Int) := by omega
  have e4 : (32 : Int) - (s : Int) = ((32 - s : Nat) : Int) := by omega
  have HKZ := Lib.hid hkz
  obtain ⟨y0, hy0⟩ : ∃ y, y = (lim a).getD k 0 := ⟨_, rfl⟩
  obtain ⟨y1, hy1⟩ : ∃ y, y = (lim a).getD (k + 1) 0 := ⟨_, rfl⟩
  obtain ⟨y2, hy2⟩ : ∃ y, y = (lim a).getD (k + 2) 0 := ⟨_, rfl⟩
  obtain ⟨P2, P1, P0, PF⟩ := top_parts (D := a / Bs ^ k) (y0 := y0) (y1 := y1) (y2 := y2) hs32 (by rw [hy0, limb_at]) (by rw [hy1, limb_at, Nat.pow_succ, Nat.div_div_eq_div_mul]) (by rw [hy2, limb_at, Nat.pow_succ, Nat.pow_succ, Nat.div_div_eq_div_mul, Nat.div_div_eq_div_mul, Nat.mul_assoc])
  have hX2 : s = 0 ∨ y2 = 0 → 2 ^ (64 - s) * (y2 % 2 ^ s) = 0 := fun h => by
    rcases h with h | h
    · subst h; simp [Nat.mod_one]
    · subst h; simp
  have hX1 : y1 = 0 → 2 ^ (64 - s) * (y2 % 2 ^ s) + 2 ^ (32 - s) * y1 = 2 ^ (64 - s) * (y2 % 2 ^ s) := fun h => by rw [h]; simp
  have hX0 : y0 = 0 → 2 ^ (64 - s) * (y2 % 2 ^ s) + 2 ^ (32 - s) * y1 + y0 / 2 ^ s = 2 ^ (64 - s) * (y2 % 2 ^ s) + 2 ^ (32 - s) * y1 := fun h => by rw [h]; simp
  have hF : a / Bs ^ k / 2 ^ s = a / 2 ^ z := by rw [HKZ.out, Nat.pow_add, Nat.pow_mul, Nat.div_div_eq_div_mul]
  rw [hF] at PF
  have hb0 : 2 ^ (64 - s) * (y2 % 2 ^ s) + 2 ^ (32 - s) * y1 < 18446744073709551616 ∧ 2 ^ (64 - s) * (y2 % 2 ^ s) < 18446744073709551616 := by
    have h1 : a / 2 ^ z % 18446744073709551616 < 18446744073709551616 := Nat.mod_lt _ (by decide)
    rw [← PF] at h1
    exact ⟨Nat.lt_of_le_of_lt (Nat.le_add_right _ _) h1, Nat.lt_of_le_of_lt (Nat.le_trans (Nat.le_add_right _ _) (Nat.le_add_right _ _)) h1⟩
  rw [PF] at P0 hX0
  generalize a / 2 ^ z % 18446744073709551616 = X0 at *
  generalize 2 ^ (64 - s) * (y2 % 2 ^ s) + 2 ^ (32 - s) * y1 = X1 at *
  generalize 2 ^ (64 - s) * (y2 % 2 ^ s) = X2 at *
  have N1 := Lib.hid hb0.1
  have N2 := Lib.hid hb0.2
  have G2 := Lib.hid P2
  have G1 := Lib.hid P1
  have G0 := Lib.hid P0
  have Z2 := Lib.hid hX2
  have Z1 := Lib.hid hX1
  have Z0 := Lib.hid hX0
  have HY0 := Lib.hid hy0
  have HY1 := Lib.hid hy1
  have HY2 := Lib.hid hy2
  clear hb0 hA hk hs hkz P2 P1 P0 PF hX2 hX1 hX0 hF hy0 hy1 hy2
  go_enter Tryz.func190, Tryz.ntmps190
  go_wp2
  go_loopw [7, 8] (fun vx vi wr => ∃ (j x : Nat), j ≤ 3 ∧ vi = .int .i64 ((j : Int) - 1) ∧ vx = .int .u64 (x : Int) ∧ Hid ((j = 3 → x = 0) ∧ (j = 2 → x = X2) ∧ (j = 1 → x = X1) ∧ (j = 0 → x = X0)) ∧ Hid (Ext w wr))
    (fun _ vi _ => (intOf vi + 1).toNat)
  case atStart => exact ⟨3, 0, by omega, rfl, rfl, ⟨fun _ => rfl, fun h => by omega, fun h => by omega, fun h => by omega⟩, ext_refl _⟩
  case round =>
    obtain ⟨j, x, hj, rfl, rfl, hx, hE⟩ := hrel
    have hlim : ∀ i, k + i < n → ∃ (bv ov y : Nat), A = some ⟨bv, ov, none⟩ ∧ Hid ((lim a).getD (k + i) 0 = y) ∧ y < 4294967296 ∧ wr.cell? ⟨bv, ov + (k + i), none⟩ = some (.int .u32 (y : Int)) := fun i h => by
      obtain ⟨bv, ov, hBe⟩ : ∃ b off, A = some ⟨b, off, none⟩ := by
        rcases HA.out.shape with ⟨_, h, _⟩ | h
        · omega
        · exact h
      subst hBe
      obtain ⟨y, hy, hyb, hcell⟩ := (HA.out.ext hE.out).get (k + i) h
      exact ⟨bv, ov, y, rfl, hy, hyb, hcell⟩
    have hno : ∀ i, ¬ k + i < n → (lim a).getD (k + i) 0 = 0 := fun i h => getD_ge (by rw [hlx.out]; omega)
    have HN := Lib.hid hno
    have HL := Lib.hid hlim
    clear hno hlim
    match j, hj with
    | 0, _ =>
      have he := hx.out.2.2.2 rfl
      subst he
      go_wp2
      refine bodyPost_ret (v := .int .u64 ↑x) ?h rfl ⟨rfl, hE.out⟩
      case h => simp [results, Tryz.results190, go_sem]
    | 3, _ =>
      obtain rfl := hx.out.1 rfl
      by_cases h : k + 2 < n
      · obtain ⟨bv, ov, y, rfl, hy, hyb, hcell⟩ := HL.out 2 h
        have hyy : y2 = y := by rw [HY2.out, hy.out]
        subst hyy
        by_cases hs0 : 0 < s
        · go_wp2
          case roundEnd =>
            rw [G2.out]
            exact ⟨⟨2, X2, by omega, rfl, rfl, ⟨fun h => by omega, fun _ => rfl, fun h => by omega, fun h => by omega⟩, hE.out⟩, by simp [intOf]⟩
        · have hz := Z2.out (.inl (by omega))
          have hs0' : s = 0 := by omega
          subst hs0'
          go_wp2
          case roundEnd =>
            exact ⟨⟨2, 0, by omega, rfl, rfl, ⟨fun h => by omega, fun _ => hz.symm, fun h => by omega, fun h => by omega⟩, hE.out⟩, by simp [intOf]⟩
      · have hz := Z2.out (.inr (HY2.out.trans (HN.out 2 h)))
        by_cases hs0 : 0 < s
        · go_wp2
          case roundEnd =>
            refine ⟨⟨2, 0, by omega, rfl, by simp, ⟨fun h => by omega, fun _ => hz.symm, fun h => by omega, fun h => by omega⟩, hE.out⟩, by simp [intOf]⟩
        · have hs0' : s = 0 := by omega
          subst hs0'
          go_wp2
          case roundEnd =>
            exact ⟨⟨2, 0, by omega, rfl, rfl, ⟨fun h => by omega, fun _ => hz.symm, fun h => by omega, fun h => by omega⟩, hE.out⟩, by simp [intOf]⟩
    | 2, _ =>
      have he := hx.out.2.1 rfl
      subst he
      by_cases h : k + 1 < n
      · obtain ⟨bv, ov, y, rfl, hy, hyb, hcell⟩ := HL.out 1 h
        have hyy : y1 = y := by rw [HY1.out, hy.out]
        subst hyy
        go_wp2
        case roundEnd =>
          rw [G1.out]
          exact ⟨⟨1, X1, by omega, rfl, rfl, ⟨fun h => by omega, fun h => by omega, fun _ => rfl, fun h => by omega⟩, hE.out⟩, by simp [intOf]⟩
      · have hz := Z1.out (HY1.out.trans (HN.out 1 h))
        go_wp2
        case roundEnd =>
          rw [bits_or64_0 _ N2.out]
          exact ⟨⟨1, x, by omega, rfl, rfl, ⟨fun h => by omega, fun h => by omega, fun _ => hz.symm, fun h => by omega⟩, hE.out⟩, by simp [intOf]⟩
    | 1, _ =>
      have he := hx.out.2.2.1 rfl
      subst he
      by_cases h : k < n
      · obtain ⟨bv, ov, y, rfl, hy, hyb, hcell⟩ := HL.out 0 h
        have hyy : y0 = y := by rw [HY0.out]; exact hy.out
        subst hyy
        rw [Nat.add_zero] at hcell
        go_wp2
        case roundEnd =>
          rw [show (y0 : Int) / 2 ^ s = ((y0 / 2 ^ s : Nat) : Int) by simp, G0.out]
          exact ⟨⟨0, X0, by omega, rfl, rfl, ⟨fun h => by omega, fun h => by omega, fun h => by omega, fun _ => rfl⟩, hE.out⟩, by simp [intOf]⟩
      · have hz := Z0.out (HY0.out.trans (HN.out 0 h))
        go_wp2
        case roundEnd =>
          rw [bits_or64_0 _ N1.out]
          exact ⟨⟨0, x, by omega, rfl, rfl, ⟨fun h => by omega, fun h => by omega, fun h => by omega, fun _ => hz.symm⟩, hE.out⟩, by simp [intOf]⟩
end Go.Proofs.YtchbefambnhjjaaGreatDoor.NB
end
section
/- (The document's library.) Words of the library's: two rows blended. -/

namespace Go.Proofs.YtchbefambnhjjaaGreatDoor.NB
open Go.RowKit
attribute [local go_sem] sz2 sz3 sz4 sz5 sz6 sz7 sz8
set_option maxHeartbeats 4000000
set_option maxRecDepth 100000
attribute [local irreducible] Calls
theorem bw_blend (A B : Option Addr) (n c m d a b : Nat) (p q : Int) (T : Nat) (hmn : m ≤ n) (hn : n ≤ 500000) (hp1 : -1073741824 < p) (hp2 : p < 1073741824) (hq1 : -1073741824 < q) (hq2 : q < 1073741824) (hT : p * (a : Int) + q * (b : Int) = (T : Int)) (w : World) (hA : Rd w A n c (lim a)) (hB : Rd w B m d (lim b)) :
    Calls Tryz.prog 191 #[.slice A n c, .slice B m d, .int .i64 p, .int .i64 q] w (WPost w T) := by
  have hmx := hA.mx
  have hcx := hA.cap
  have hmy := hB.mx
  have hcy := hB.cap
  have HA := Lib.hid hA
  have HB := Lib.hid hB
  have hlx := Lib.hid hA.len
  have hly := Lib.hid hB.len
  have HT := Lib.hid hT
  clear hA hB hT
  go_enter Tryz.func191, Tryz.ntmps191
  go_wp2_with (first
    | (at_make; refine make_u32 rfl _ _ rfl _ _ _ _ (n + 1) rfl rfl (by simp) (by simp) (by omega) ?_; intro w1 hx1 ho1; have hext1 := Lib.hid hx1; clear hx1)
   )
  have hGl : w.heap.size < w1.heap.size := (ho1.out.lt w.heap.size rfl).2
  go_loopw [10, 11] (fun vc vi wr => ∃ (i : Nat) (cy : Int) (os : List Nat), i ≤ n ∧ (-2147483648 ≤ cy ∧ cy ≤ 2147483648) ∧ vi = .int .i64 (i : Int) ∧ vc = .int .i64 cy ∧
      Hid (os.length = n + 1 ∧ Lb os ∧ (val (os.take i) : Int) + (Bs : Int) ^ i * cy = p * (val ((lim a).take i) : Int) + q * (val ((lim b).take i) : Int)) ∧
      Hid (wr.ownsRow w.heap.size 54 1 (.slice (some ⟨w.heap.size, 0, none⟩) (n + 1) (n + 1)) (n + 1) (os.map u32V)) ∧ Hid (Ext w wr))
    (fun _ vi _ => n - (intOf vi).toNat)
  case atStart => exact ⟨0, 0, List.replicate (n + 1) 0, Nat.zero_le _, by omega, rfl, rfl, ⟨by simp, lb_replicate _, by simp [val]⟩, ho1.out, hext1.out⟩
  case round =>
    clear ho1 hext1
    obtain ⟨i, cy, os, hi, hcb, rfl, rfl, hos, hown, hE⟩ := hrel
    obtain ⟨hcb1, hcb2⟩ := hcb
    by_cases h0 : i < n
    · obtain ⟨bx, ox, hXe⟩ : ∃ b off, A = some ⟨b, off, none⟩ := by
        rcases HA.out.shape with ⟨_, h, _⟩ | h
        · omega
        · exact h
      subst hXe
      obtain ⟨x, hx, hxb, hcx1⟩ := (HA.out.ext hE.out).get i h0
      obtain ⟨hc1, hf1⟩ := own_at hown.out i (by omega)
      obtain ⟨px, hpx⟩ : ∃ px, p * (x : Int) = px := ⟨_, rfl⟩
      have hpb := prod_bound hp1 hp2 hxb
      rw [hpx] at hpb
      obtain ⟨hpb1, hpb2⟩ := hpb
      by_cases h1 : i < m
      · obtain ⟨by', oy, hYe⟩ : ∃ b off, B = some ⟨b, off, none⟩ := by
          rcases HB.out.shape with ⟨_, h, _⟩ | h
          · omega
          · exact h
        subst hYe
        obtain ⟨y, hy, hyb, hcy1⟩ := (HB.out.ext hE.out).get i h1
        obtain ⟨qy, hqy⟩ : ∃ qy, q * (y : Int) = qy := ⟨_, rfl⟩
        have hqb := prod_bound hq1 hq2 hyb
        rw [hqy] at hqb
        obtain ⟨hqb1, hqb2⟩ := hqb
        have hst := blend_step (t := px + cy + qy) (by rw [hos.out.1]; omega) hos.out.2.2 hx.out hy.out (by rw [hpx, hqy]; omega)
        have HST := Lib.hid hst
        clear hst
        go_wp2
        case roundEnd =>
          obtain ⟨r, hr⟩ : ∃ r : Nat, (px + cy + qy) % 4294967296 = (r : Int) := ⟨((px + cy + qy) % 4294967296).toNat, by omega⟩
          have hst := HST.out
          rw [hr, Int.toNat_natCast] at hst
          rw [hr]
          refine ⟨⟨i + 1, (px + cy + qy) / 4294967296, os.set i r, by omega, by omega, by simp, rfl, ⟨by simp [hos.out.1], lb_set hos.out.2.1 _ (by unfold Bs; omega), hst⟩, own_set hown.out i r, ext_setCell hE.out (Nat.le_refl _) _⟩, ?_⟩
          simp [intOf]; omega
      · have hy0 : (lim b).getD i 0 = 0 := getD_ge (by rw [hly.out]; omega)
        have hst := blend_step (t := px + cy) (by rw [hos.out.1]; omega) hos.out.2.2 hx.out hy0 (by rw [hpx]; simp)
        have HST := Lib.hid hst
        clear hst hy0
        go_wp2
        case roundEnd =>
          obtain ⟨r, hr⟩ : ∃ r : Nat, (px + cy) % 4294967296 = (r : Int) := ⟨((px + cy) % 4294967296).toNat, by omega⟩
          have hst := HST.out
          rw [hr, Int.toNat_natCast] at hst
          rw [hr]
          refine ⟨⟨i + 1, (px + cy) / 4294967296, os.set i r, by omega, by omega, by simp, rfl, ⟨by simp [hos.out.1], lb_set hos.out.2.1 _ (by unfold Bs; omega), hst⟩, own_set hown.out i r, ext_setCell hE.out (Nat.le_refl _) _⟩, ?_⟩
          simp [intOf]; omega
    · obtain rfl : i = n := by omega
      have hv := hos.out.2.2
      rw [take_ge (l := lim a) (by rw [hlx.out]; exact Nat.le_refl _), take_ge (l := lim b) (by rw [hly.out]; exact hmn), val_lim, val_lim, HT.out] at hv
      have hvl : val (os.take i) < Bs ^ i := by
        have h1 := val_lt (os.take i) (fun x hx => hos.out.2.1 x (List.mem_of_mem_take hx))
        rwa [List.length_take, hos.out.1, Nat.min_eq_left (by omega)] at h1
      have hc0 : 0 ≤ cy := by
        refine Int.not_lt.1 fun hneg => ?_
        have h1 : (Bs : Int) ^ i * cy ≤ (Bs : Int) ^ i * (-1) := Int.mul_le_mul_of_nonneg_left (by omega) (Int.pow_nonneg (by decide))
        have h2 : ((val (os.take i) : Nat) : Int) < ((Bs ^ i : Nat) : Int) := Int.ofNat_lt.2 hvl
        rw [Int.natCast_pow] at h2
        omega
      obtain ⟨cn, rfl⟩ : ∃ cn : Nat, cy = (cn : Int) := ⟨cy.toNat, by omega⟩
      have hvv : val (os.set i cn) = T := by
        have h1 : val ((os.set i cn).take (i + 1)) = val (os.set i cn) := by rw [take_ge (by rw [List.length_set, hos.out.1]; exact Nat.le_refl _)]
        rw [← h1, val_take_succ, take_set_self, List.getD_eq_getElem?_getD, List.getElem?_set_self (by rw [hos.out.1]; omega), Option.getD_some]
        have h2 := cast_step (val (os.take i)) i cn
        rw [hv] at h2
        exact Int.ofNat.inj h2
      obtain ⟨hc1, hf1⟩ := own_at hown.out i (by omega)
      have hT := bw_trim_own (own_set hown.out i cn) (lb_set hos.out.2.1 _ (by unfold Bs; omega)) hvv
      have hEE := Lib.hid (ext_setCell (p := ⟨w.heap.size, i, none⟩) hE.out (Nat.le_refl _) (.int .u32 (cn : Int)))
      have hcm : (cn : Int) % 4294967296 = cn := by omega
      clear hv hvl hvv hc0
      go_wp2_with (first
        | (go_at_call 162; (with_reducible refine hT.mono ?_); rintro e w' ⟨⟨j, rfl, hR⟩, rfl⟩)
       )
      refine bodyPost_ret (v := .slice (some ⟨w.heap.size, 0, none⟩) j (i + 1)) ?h rfl ⟨_, j, i + 1, rfl, ⟨hR.out, fun q hq => ?_⟩, hEE.out⟩
      case h => simp [results, Tryz.results191, go_sem]
      cases hq; exact Nat.le_refl _
end Go.Proofs.YtchbefambnhjjaaGreatDoor.NB
end
