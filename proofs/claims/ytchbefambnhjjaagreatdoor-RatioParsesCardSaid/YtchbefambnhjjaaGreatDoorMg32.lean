/- Lemmas of this proof, laid together: ParO. -/
import Derived.Test.YtchbefambnhjjaaGreatDoorMg29
import Derived.Test.YtchbefambnhjjaaGreatDoorMg31
import Derived.Test.YtchbefambnhjjaaGreatDoorMg30
set_option linter.unusedSimpArgs false
set_option linter.unusedVariables false
section
/- A text is read: the program's answer and the document's, together. -/
namespace Go.Proofs.YtchbefambnhjjaaGreatDoor
open Go.RowKit
attribute [local go_sem] bs_size bs_extract bs_get bs_append bs_toList const_get
attribute [local go_sem] sz2 sz3 sz4 sz5 sz6 sz7 sz8
set_option maxHeartbeats 4000000
set_option maxRecDepth 100000
attribute [local irreducible] Calls
/-- The document's answer to a text: a fraction of these limbs, a place, an error. -/
abbrev DcPost (w : World) (s : Bool) (xs ys : List Nat) (a E : Int) : Ending → World → Prop := fun e w' => ∃ F : FH, e = .returned (.tuple #[fV s F, .int .i64 a, .int .i64 E]) ∧ Hid (Rd w' F.A F.n F.c xs ∧ Rd w' F.D F.m F.k ys ∧ Fr w F.A ∧ Fr w F.D) ∧ Ext w w'
/-- The program's answer to a text: the limbs are the caller's own. -/
abbrev OwPost (w : World) (s : Bool) (xs ys : List Nat) (a E : Int) : Ending → World → Prop := fun e w' => ∃ F : FH, e = .returned (.tuple #[fV s F, .int .i64 a, .int .i64 E]) ∧ Hid (RdO w' F.A F.n F.c xs none ∧ Fr w F.A ∧ RdO w' F.D F.m F.k ys F.A ∧ Fr w F.D) ∧ Ext w w'
theorem RdO.nil (w : World) (Z : Option Addr) : RdO w none 0 0 [] Z := ⟨Rd.nil w, World.ownsRow_nil _ _ _ _, (fun a z h => by cases h), rfl⟩
theorem fr_none (w : World) : Fr w none := fun a h => by cases h
theorem own_no {w : World} {a E : Int} {f : FuncId} {v : Array Value} (h : Calls Tryz.prog f v w fun e w' => e = .returned (.tuple #[ratV false none 0 0 none 0 0, .int .i64 a, .int .i64 E]) ∧ Ext w w') : Calls Tryz.prog f v w (OwPost w false [] [] a E) := by
  refine h.mono ?_
  rintro e w' ⟨rfl, h1⟩
  exact ⟨⟨none, 0, 0, none, 0, 0⟩, rfl, Lib.hid ⟨RdO.nil _ _, fr_none _, RdO.nil _ _, fr_none _⟩, h1⟩
theorem dc_no {w : World} {a E : Int} {f : FuncId} {v : Array Value} (h : Calls Tryz.prog f v w fun e w' => e = .returned (.tuple #[ratV false none 0 0 none 0 0, .int .i64 a, .int .i64 E]) ∧ Ext w w') : Calls Tryz.prog f v w (DcPost w false [] [] a E) := by
  refine h.mono ?_
  rintro e w' ⟨rfl, h1⟩
  exact ⟨⟨none, 0, 0, none, 0, 0⟩, rfl, Lib.hid ⟨Rd.nil _, Rd.nil _, fr_none _, fr_none _⟩, h1⟩
theorem own_yes {w : World} {z : Int} {d : Nat} {f : FuncId} {v : Array Value} (h : Calls Tryz.prog f v w (PrPost w z d)) : Calls Tryz.prog f v w (OwPost w (decide (z < 0)) (lim z.natAbs) (lim d) 0 0) := by
  refine h.mono ?_
  rintro e w' ⟨A, n, c, D, m, k, rfl, h1, h2⟩
  exact ⟨⟨A, n, c, D, m, k⟩, rfl, h1, h2⟩
theorem dc_yes {w : World} {z : Int} {d : Nat} {f : FuncId} {v : Array Value} (h : Calls Tryz.prog f v w (NB.DYes w z d)) : Calls Tryz.prog f v w (DcPost w (decide (z < 0)) (lim z.natAbs) (lim d) 0 0) := by
  refine h.mono ?_
  rintro e w' ⟨F, rfl, h1, h2⟩
  exact ⟨F, rfl, Lib.hid ⟨h1.out.1.num, h1.out.1.den, h1.out.2.1, h1.out.2.2⟩, h2⟩
theorem ra_Parse_huge (l : List UInt8) (h1 : 65536 < l.length) (h2 : l.length ≤ 9223372036854775807) (w : World) :
    Calls Tryz.prog 11 #[.string (bs l)] w (NoPost w 0 3) := by
  have hlt : decide ((65536 : Int) < (l.length : Int)) = true := decide_eq_true (by omega)
  go_enter Tryz.func11, Tryz.ntmps11
  go_wp2
  refine bodyPost_ret (v := .tuple #[ratV false none 0 0 none 0 0, .int .i64 0, .int .i64 3]) ?h rfl ⟨rfl, ext_alloc (ext_refl w) _⟩
  case h => simp [results, Tryz.results11, go_sem]
abbrev Both (l : List UInt8) (s : Bool) (xs ys : List Nat) (a E : Int) : Prop := xs.length ≤ 1000000 ∧ ys.length ≤ 1000000 ∧
  (∀ w, Tz w → Calls Tryz.prog 10 #[.string (bs l)] w (DcPost w s xs ys a E)) ∧ (∀ w, Tz w → Calls Tryz.prog 11 #[.string (bs l)] w (OwPost w s xs ys a E))
theorem both_no {l : List UInt8} {a E : Int} (h1 : ∀ w, Tz w → Calls Tryz.prog 10 #[.string (bs l)] w (NB.DNo w a E)) (h2 : ∀ w, Tz w → Calls Tryz.prog 11 #[.string (bs l)] w fun e w' => e = .returned (.tuple #[ratV false none 0 0 none 0 0, .int .i64 a, .int .i64 E]) ∧ Ext w w') :
    ∃ s xs ys a E, Both l s xs ys a E := ⟨false, [], [], a, E, by simp, by simp, fun w h => dc_no (h1 w h), fun w h => own_no (h2 w h)⟩
theorem both_yes {l : List UInt8} {z : Int} {d : Nat} (hz : (lim z.natAbs).length ≤ 1000000) (hd : (lim d).length ≤ 1000000) (h1 : ∀ w, Tz w → Calls Tryz.prog 10 #[.string (bs l)] w (NB.DYes w z d)) (h2 : ∀ w, Tz w → Calls Tryz.prog 11 #[.string (bs l)] w (PrPost w z d)) :
    ∃ s xs ys a E, Both l s xs ys a E := ⟨_, _, _, 0, 0, hz, hd, fun w h => dc_yes (h1 w h), fun w h => own_yes (h2 w h)⟩
theorem parse_both (l : List UInt8) (hl : l.length ≤ 65536 ∨ 65536 < l.length) (hm : l.length ≤ 9223372036854775807) : ∃ s xs ys a E, Both l s xs ys a E := by
  rcases hl with hl | hl
  · obtain ⟨ei, i0, s, u, hh, hu, hd, hi, hsd⟩ : ∃ (ei : Int) (i0 : Nat) (s : Bool) (u : List UInt8), NB.Hd l ei i0 ∧ unm l = u ∧ l.drop i0 = u ∧ u.length + i0 = l.length ∧ ∀ (D : List UInt8), D <+: u → l.take (i0 + D.length) = if s then 45 :: D else D := by
      by_cases h : l.head? = some 45
      · cases l with
        | nil => simp at h
        | cons c r =>
          simp only [List.head?_cons, Option.some.injEq] at h
          subst h
          refine ⟨1, 1, true, r, ⟨rfl, .inl ⟨rfl, by simp, rfl⟩⟩, by simp [unm], by simp, by simp, fun D hD => ?_⟩
          rw [if_pos rfl, Nat.add_comm, List.take_succ_cons, List.prefix_iff_eq_take.1 hD]
          simp
      · refine ⟨0, 0, false, l, ⟨rfl, .inr ⟨rfl, h⟩⟩, by unfold unm; rw [if_neg h], by simp, by simp, fun D hD => ?_⟩
        rw [if_neg (by decide), Nat.zero_add]
        exact (List.prefix_iff_eq_take.1 hD).symm
    obtain ⟨D, hD⟩ : ∃ D, u.takeWhile isD = D := ⟨_, rfl⟩
    obtain ⟨i1, hi1⟩ : ∃ i1, i0 + D.length = i1 := ⟨_, rfl⟩
    have ht : l.take i1 = if s then 45 :: D else D := by rw [← hi1]; exact hsd D (by rw [← hD]; exact List.takeWhile_prefix _)
    have hei : ei = (i0 : Nat) := hh.1
    have hDl : D.length ≤ u.length := by rw [← hD]; exact (tw_run isD u).2.2
    have hDb : digsB D = true := by rw [← hD]; exact take_dig u
    by_cases h0 : D.length = 0
    · exact both_no (fun w hT => NB.rd_Parse_none s l u D ei i0 i1 hl hh hd hi hD hi1 ht h0 w hT) (fun w hT => by rw [hei]; exact ra_Parse_none l u i0 hl hu hi hd (by rw [hD]; exact h0) w)
    · have h0' : 0 < D.length := by omega
      have hDs := dval_small hDb (by omega : D.length ≤ 65536)
      by_cases hw : i1 = l.length
      · exact both_yes (by rw [sgn_abs]; omega) (by rw [show (lim 1).length = 1 by kernel_rfl]; decide) (fun w hT => by have := NB.rd_Parse_whole s l u D ei i0 i1 hl hh hd hi hD hi1 ht h0' hw w hT; rwa [(can_one _).1, (can_one _).2] at this) (fun w hT => ra_Parse_whole s l u D i0 i1 hl hu hi hd hD h0' hi1 ht hw w hT)
      · have hx : i1 < l.length := by omega
        by_cases hv : l[i1] = 47
        · obtain ⟨i2, hi2⟩ : ∃ i2, i1 + 1 = i2 := ⟨_, rfl⟩
          obtain ⟨E, hE⟩ : ∃ E, l.drop i2 = E := ⟨_, rfl⟩
          obtain ⟨k, hk⟩ : ∃ k, (E.takeWhile isD).length = k := ⟨_, rfl⟩
          obtain ⟨i3, hi3⟩ : ∃ i3, i2 + k = i3 := ⟨_, rfl⟩
          have hEl : E.length + i2 = l.length := by rw [← hE, List.length_drop]; omega
          have hkl : k ≤ E.length := by rw [← hk]; exact (tw_run isD E).2.2
          by_cases hk0 : k = 0
          · exact both_no (a := (i2 : Nat)) (fun w hT => by
              have := NB.rd_Parse_bare s l u D ei i0 i1 hl hh hd hi hD hi1 ht h0' E i2 i3 k hx hv hi2 hE hk hi3 hk0 w hT
              rwa [show i3 = i2 by omega] at this) (fun w hT => ra_Parse_bare s l u D i0 i1 hl hu hi hd hD h0' hi1 ht E i2 i3 k hx hv hi2 hE hk hi3 hk0 w hT)
          · by_cases h3 : i3 < l.length
            · exact both_no (fun w hT => NB.rd_Parse_more s l u D ei i0 i1 hl hh hd hi hD hi1 ht h0' E i2 i3 k hx hv hi2 hE hk hi3 (by omega) h3 w hT) (fun w hT => ra_Parse_more s l u D i0 i1 hl hu hi hd hD h0' hi1 ht E i2 i3 k hx hv hi2 hE hk hi3 (by omega) h3 w hT)
            · have hke : k = E.length := by omega
              by_cases hz : dval E = 0
              · exact both_no (fun w hT => NB.rd_Parse_nought s l u D ei i0 i1 hl hh hd hi hD hi1 ht h0' E i2 i3 k hx hv hi2 hE hk hi3 hke (by omega) hz w hT) (fun w hT => ra_Parse_nought s l u D i0 i1 hl hu hi hd hD h0' hi1 ht E i2 i3 k hx hv hi2 hE hk hi3 hke (by omega) hz w hT)
              · have hEb : digsB E = true := by
                  have h1 : E.takeWhile isD = E := (List.takeWhile_prefix isD).eq_of_length (by omega)
                  rw [← h1]; exact take_dig E
                have hEs := dval_small hEb (by omega : E.length ≤ 65536)
                have hc := Few.can (k := 16384) (z := sgn s (dval D)) (d := dval E) ⟨by rw [sgn_abs]; omega, by omega⟩
                exact both_yes (by have := hc.1; omega) (by have := hc.2; omega) (fun w hT => NB.rd_Parse_over s l u D ei i0 i1 hl hh hd hi hD hi1 ht h0' E i2 i3 k hx hv hi2 hE hk hi3 hke (by omega) hz w hT) (fun w hT => ra_Parse_over s l u D i0 i1 hl hu hi hd hD h0' hi1 ht E i2 i3 k hx hv hi2 hE hk hi3 hke (by omega) hz w hT)
        · exact both_no (fun w hT => NB.rd_Parse_other s l u D ei i0 i1 hl hh hd hi hD hi1 ht h0' hx hv w hT) (fun w hT => ra_Parse_other s l u D i0 i1 hl hu hi hd hD h0' hi1 ht hx hv w hT)
  · exact both_no (fun w hT => NB.rd_Parse_long l hl hm w) (fun w hT => ra_Parse_huge l hl hm w)
end Go.Proofs.YtchbefambnhjjaaGreatDoor
end
