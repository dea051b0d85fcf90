/- Lemmas of this proof, laid together: NtH. -/
import Derived.Test.YtkhkoeibpkglkaaGreatDoorMg09
import Derived.Deep.DeepCutAuto
import Derived.Deep.RegionWith
import Derived.Deep.CutRange
set_option linter.unusedSimpArgs false
set_option linter.unusedVariables false
section
/- The program reads digits. -/
namespace Go.Proofs.YtkhkoeibpkglkaaGreatDoor
open Go.RowKit
attribute [local go_sem] bs_size bs_extract bs_get bs_append bs_toList const_get
attribute [local go_sem] sz2 sz3 sz4 sz5 sz6 sz7 sz8
set_option maxHeartbeats 4000000
set_option maxRecDepth 100000
/-- One limb more of what is multiplied in its own place. -/
theorem inpl_step {O os : List Nat} {p k T N cy o : Nat} (hl : os.length = k) (hO : O.length = k) (hp : p < k) (hd : os.drop p = O.drop p) (hv : val (os.take p) + Bs ^ p * cy = val (O.take p) * T + N) (ho : O.getD p 0 = o) :
    (os.set p ((cy + o * T) % 4294967296)).drop (p + 1) = O.drop (p + 1) ∧ val ((os.set p ((cy + o * T) % 4294967296)).take (p + 1)) + Bs ^ (p + 1) * ((cy + o * T) / 4294967296) = val (O.take (p + 1)) * T + N := by
  refine ⟨?_, ?_⟩
  · rw [List.drop_set_of_lt (by omega)]
    have := congrArg (List.drop 1) hd
    rwa [List.drop_drop, List.drop_drop] at this
  · have h1 : (os.set p ((cy + o * T) % 4294967296)).take (p + 1) = os.take p ++ [(cy + o * T) % 4294967296] := by
      rw [List.take_succ_eq_append_getElem (by rw [List.length_set]; omega), List.getElem_set_self, List.take_set_of_le (by omega)]
    have h2 : (os.take p).length = p := by rw [List.length_take]; omega
    have h3 : (cy + o * T) % 4294967296 + Bs * ((cy + o * T) / 4294967296) = cy + o * T := Nat.mod_add_div _ _
    rw [h1, val_snoc, h2, val_take_succ, ho, Nat.pow_succ, Nat.mul_assoc, Nat.add_assoc, ← Nat.mul_add, h3, Nat.mul_add, Nat.add_mul, Nat.mul_assoc]
    omega
attribute [local irreducible] Calls
theorem pparse_any (l : List UInt8) (hd : digsB l = true) (h0 : 0 < l.length) (hl : l.length ≤ 65536) (w : World) :
    Calls Tryz.prog 104 #[.string (bs l)] w fun e w' => ∃ (A : Option Addr) (k : Nat), e = .returned (.tuple #[natV A k k, .int .i64 0, .int .i64 0]) ∧ Hid (Rd w' A k k (lim (dval l)) ∧ Fr w A) ∧ Ext w w' := by
  have HD := Lib.hid hd
  have hne : l.isEmpty = false := by simp [List.length_pos_iff.1 h0]
  clear hd
  go_enter Tryz.func104, Tryz.ntmps104
  go_wp2
  go_loop [19] (fun v => ∃ k : Nat, k ≤ l.length ∧ v = .int .i64 k) (fun v => l.length - (intOf v).toNat)
  case atStart => exact ⟨0, Nat.zero_le _, rfl⟩
  case round =>
    obtain ⟨k, hk, rfl⟩ := hrel
    by_cases hlt : k < l.length
    · obtain ⟨hb1, hb2⟩ := digs_at HD.out k hlt
      go_wp2
      go_round
      case rel => exact ⟨k + 1, by omega, by go_num⟩
      case measure => simp [intOf]; omega
    · obtain rfl : k = l.length := by omega
      clear hk hlt
      go_wp2
      go_loopw [0, 6] (fun vs vo wr => ∃ (i k : Nat) (os : List Nat), i ≤ l.length ∧ k ≤ i ∧ vs = .string (bs (l.drop i)) ∧ Hid (os.length = k ∧ Lb os ∧ val os = dval (l.take i)) ∧
          Hid (wr.ownsRow (w.alloc (Obj.cells #[Value.slice none 0 0] 31)).heap.size 60 1 vo k (os.map u32V)) ∧ Hid (Ext (w.alloc (Obj.cells #[Value.slice none 0 0] 31)) wr))
        (fun vs _ _ => strLen vs)
      case atStart => exact ⟨0, 0, [], Nat.zero_le _, Nat.le_refl _, by simp, ⟨rfl, (fun x hx => by cases hx), by simp [val, dval]⟩, World.ownsRow_nil _ _ _ _, ext_refl _⟩
      case round =>
        obtain ⟨i, k, os, hi, hki, rfl, hos, hown, hext⟩ := hrel
        obtain ⟨R, hR⟩ : ∃ R, l.drop i = R := ⟨_, rfl⟩
        have hRl : R.length = l.length - i := by rw [← hR, List.length_drop]
        rw [hR]
        by_cases hlt : i < l.length
        · have HRl := Lib.hid hRl
          have hRpos : 0 < R.length := by omega
          have hRmx : R.length ≤ 65536 := by omega
          clear hRl
          go_upto_region 15 with (fail)
          go_cut [0, 7, 8] from 38 to 94 (fun s p q wc => ∃ (P R2 : List UInt8), s = .string (bs R2) ∧ p = .string (bs P) ∧ q = .int .u64 0 ∧ Hid (P.length ≤ 9 ∧ 1 ≤ P.length ∧ R = P ++ R2) ∧ wc = wr)
          case first =>
            by_cases h9 : 9 ≤ R.length
            · go_wp2_with fail
              all_goals
                go_meet
                case rel => exact ⟨R.take 9, R.drop 9, rfl, rfl, rfl, Lib.hid ⟨by rw [List.length_take]; omega, by rw [List.length_take]; omega, (List.take_append_drop 9 R).symm⟩, rfl⟩
            · go_wp2_with fail
              all_goals
                go_meet
                case rel => exact ⟨R, [], by simp, by simp, rfl, Lib.hid ⟨by omega, by omega, by simp⟩, rfl⟩
          case rest =>
            obtain ⟨P, R2, rfl, rfl, rfl, hPR, rfl⟩ := hcut
            have HDP : Hid (digsB P = true) := Lib.hid (by
              have h1 := digs_drop HD.out i
              rw [hR, hPR.out.2.2] at h1
              have := digs_take h1 P.length
              rwa [List.take_left] at this)
            obtain ⟨AO, cO, rfl, hRdO⟩ := Rd.own hown.out hos.out.2.1
            have hcO := hRdO.cap
            have hcOm := hRdO.mx
            clear hRdO
            have hP9 := hPR.out.1
            have hP1 := hPR.out.2.1
            obtain ⟨cap, hcap⟩ : ∃ cap, cap = grownCap wc (bs P).size 0 5 := ⟨_, rfl⟩
            obtain ⟨C, hC⟩ : ∃ C, C = bytesRow (bs P) cap := ⟨_, rfl⟩
            have hconv : (convert 9 150 (.string (bs P))).run Tryz.prog wc = .ok (.slice (some ⟨wc.heap.size, 0, none⟩) P.length cap) (wc.drew.alloc (.cells C 5 (C.size, C.size + 1))) := by
              have := run_bytes_of_string (P := Tryz.prog) wc 9 150 5 (bs P) str_kind u8_under u8_kind
              rw [← hcap, ← hC, bs_size] at this
              exact this
            have hcell : ∀ q, q < P.length → C[q]? = some (.int .u8 ((P.getD q 0).toNat : Int)) := fun q hq => by
              have := bytesRow_at (bs P) cap q (by show q < P.toArray.size; simpa using hq)
              rw [← hC] at this
              rw [this, List.getD_eq_getElem?_getD, List.getElem?_eq_getElem hq]
              simp [bs]
            have HC := Lib.hid hcell
            clear hcap hC hcell
            go_wp2
            go_loop [8, 9, 53] (fun vn vt vi => ∃ q N T : Nat, q ≤ P.length ∧ vi = .int .i64 (q : Int) ∧ vn = .int .u64 (N : Int) ∧ vt = .int .u64 (T : Int) ∧ Hid (N = dval (P.take q) ∧ T = 10 ^ q) ∧ N < T ∧ T ≤ 1000000000 ∧ (q < 9 → T ≤ 100000000)) (fun _ _ vi => P.length - (intOf vi).toNat)
            case atStart => exact ⟨0, 0, 1, Nat.zero_le _, rfl, rfl, rfl, ⟨rfl, rfl⟩, by omega, by omega, by omega⟩
            case round =>
              obtain ⟨q, N, T, hq, rfl, rfl, rfl, hNT, hN1, hT1, hT2⟩ := hrel
              by_cases hgo : q < P.length
              · obtain ⟨hb1, hb2⟩ := digs_at HDP.out q hgo
                have hT3 := hT2 (by omega)
                have hcq := HC.out q hgo
                rw [List.getD_eq_getElem?_getD, List.getElem?_eq_getElem hgo] at hcq
                have hcq' : (wc.alloc (Obj.cells C 5 (C.size, C.size + 1))).cell? ⟨wc.heap.size, q, none⟩ = some (.int .u8 (P[q].toNat : Int)) := (World.cell?_alloc_mark wc C _ _ q).trans hcq
                clear hcq
                go_wp2
                go_round
                case rel =>
                  have e1 : P.take (q + 1) = P.take q ++ [P[q]] := List.take_succ_eq_append_getElem hgo
                  have e2 : 10 ^ (q + 1) ≤ 1000000000 := Nat.le_trans (Nat.pow_le_pow_right (by decide) (show q + 1 ≤ 9 by omega)) (by decide)
                  have e3 : q + 1 < 9 → 10 ^ (q + 1) ≤ 100000000 := fun h => Nat.le_trans (Nat.pow_le_pow_right (by decide) (show q + 1 ≤ 8 by omega)) (by decide)
                  have e4 : 10 ^ (q + 1) = 10 * T := by rw [hNT.out.2, Nat.pow_succ]; omega
                  refine ⟨q + 1, 10 * N + (P[q].toNat - 48), 10 * T, by omega, by go_num, by go_num, by go_num, ⟨?_, e4.symm⟩, by omega, by omega, fun h => ?_⟩
                  · rw [e1, dval_snoc, hNT.out.1]
                  · have := e3 h; omega
                case measure => simp [intOf]; omega
              · obtain rfl : q = P.length := by omega
                have hsum : Hid (dval (l.take i) * T + N = dval (l.take (i + P.length))) := Lib.hid (by
                  rw [hNT.out.1, hNT.out.2, List.take_length]
                  have e : l.take (i + P.length) = l.take i ++ P := by
                    rw [List.take_add, hR, hPR.out.2.2, List.take_left]
                  rw [e, dval_append])
                have hm2 := Lib.hid hT2
                clear hgo HC hT2
                go_wp2
                have hdrop : l.drop (i + P.length) = R2 := by rw [← List.drop_drop, hR, hPR.out.2.2, List.drop_left]
                have hRR2 : R2.length < R.length := by rw [hPR.out.2.2, List.length_append]; omega
                have hiP : i + P.length ≤ l.length := by
                  have h1 := HRl.out
                  rw [hPR.out.2.2, List.length_append] at h1
                  omega
                have HDR := Lib.hid hdrop
                have hown4 : Hid ((wc.alloc (Obj.cells C 5 (C.size, C.size + 1))).drew.ownsRow (w.alloc (Obj.cells #[Value.slice none 0 0] 31)).heap.size 60 1 (.slice AO k cO) k (os.map u32V)) := Lib.hid (own_ext hown.out (ext_drew (ext_alloc (ext_refl _) _)))
                have hext4 : Hid (Ext (w.alloc (Obj.cells #[Value.slice none 0 0] 31)) (wc.alloc (Obj.cells C 5 (C.size, C.size + 1))).drew) := Lib.hid (ext_drew (ext_alloc hext.out _))
                clear hdrop
                go_loopw [8, 68] (fun vc vi wr2 => ∃ (p cy : Nat) (os2 : List Nat), p ≤ k ∧ cy ≤ 1000000000 ∧ vi = .int .i64 (p : Int) ∧ vc = .int .u64 (cy : Int) ∧ Hid (os2.length = k ∧ Lb os2 ∧ os2.drop p = os.drop p ∧ val (os2.take p) + Bs ^ p * cy = val (os.take p) * T + N) ∧
                    Hid (wr2.ownsRow (w.alloc (Obj.cells #[Value.slice none 0 0] 31)).heap.size 60 1 (.slice AO k cO) k (os2.map u32V)) ∧ Hid (Ext (w.alloc (Obj.cells #[Value.slice none 0 0] 31)) wr2)) (fun _ vi _ => k - (intOf vi).toNat)
                case atStart => exact ⟨0, N, os, Nat.zero_le _, by omega, rfl, rfl, ⟨hos.out.1, hos.out.2.1, rfl, by simp [val]⟩, hown4.out, hext4.out⟩
                case round =>
                  clear hown4 hext4
                  obtain ⟨p, cy, os2, hp, hcy, rfl, rfl, hos2, hown2, hext2⟩ := hrel
                  by_cases hpk : p < k
                  · obtain ⟨g, hg⟩ : ∃ g, AO = some ⟨g, 0, none⟩ := by
                      rcases hown2.out.2 with ⟨_, h⟩ | ⟨g, cap', cur, h, _⟩
                      · omega
                      · simp only [Value.slice.injEq] at h
                        exact ⟨g, h.1⟩
                    subst hg
                    have hlt2 := hown2.out.lt g rfl
                    obtain ⟨o, ho, hob⟩ : ∃ o : Nat, Hid (os.getD p 0 = o) ∧ o < 4294967296 := ⟨_, rfl, lb_getD hos.out.2.1 _⟩
                    have ho2 : os2.getD p 0 = o := by
                      have h1 := congrArg (fun z : List Nat => z.getD 0 0) hos2.out.2.2.1
                      simp only [List.getD_eq_getElem?_getD, List.getElem?_drop, Nat.add_zero] at h1
                      rw [List.getD_eq_getElem?_getD, h1, ← List.getD_eq_getElem?_getD]
                      exact ho.out
                    obtain ⟨hc1, hf1⟩ := own_at hown2.out p hpk
                    rw [ho2] at hc1
                    obtain ⟨pr, hpr⟩ : ∃ pr, pr = o * T := ⟨_, rfl⟩
                    have hprb : pr ≤ 4294967295000000000 := by
                      rw [hpr]
                      exact Nat.mul_le_mul (show o ≤ 4294967295 by omega) hT1
                    have hpri : (o : Int) * (T : Int) = (pr : Int) := by rw [hpr]; exact (Int.natCast_mul _ _).symm
                    have HPR := Lib.hid hpr
                    have hlg := hlt2.2
                    clear hpr ho2 hlt2
                    go_wp2
                    case roundEnd =>
                      have hst := inpl_step (T := T) hos2.out.1 hos.out.1 hpk hos2.out.2.2.1 hos2.out.2.2.2 ho.out
                      rw [← HPR.out] at hst
                      refine ⟨⟨p + 1, (cy + pr) / 4294967296, os2.set p ((cy + pr) % 4294967296), by omega, by omega, by simp, by simp, ⟨by rw [List.length_set]; exact hos2.out.1, lb_set hos2.out.2.1 _ (Nat.mod_lt _ (by decide)), hst.1, hst.2⟩, ?_, ?_⟩, ?_⟩
                      · have e : ((cy : Int) + (pr : Int)) % 4294967296 = (((cy + pr) % 4294967296 : Nat) : Int) := by omega
                        show World.ownsRow _ _ _ _ _ _ _
                        rw [e]
                        exact own_set hown2.out p _
                      · exact ext_setCell hext2.out ((hown2.out.lt g rfl).1) _
                      · simp [intOf]; omega
                  · obtain rfl : p = k := by omega
                    have hfin : Hid (val os2 + Bs ^ p * cy = dval (l.take (i + P.length))) := Lib.hid (by
                      have h1 := hos2.out.2.2.2
                      rw [take_ge (by rw [hos2.out.1]; exact Nat.le_refl _), take_ge (by rw [hos.out.1]; exact Nat.le_refl _), hos.out.2.2] at h1
                      rw [h1]; exact hsum.out)
                    clear hpk
                    by_cases hc0 : 0 < cy
                    · go_wp2_with (first
                        | (at_builtin; refine push_u32 rfl _ _ rfl _ rfl hext2.out hown2.out rfl cy ⟨wr.heap.size, 0, none⟩ 1 rfl (by rw [World.cell?_alloc_at _ _ _ _ rfl]; simp [u32V]) (by omega) ?_)
                        | go_in)
                      all_goals
                        intro v' w3 hx3 ho3
                        have HX3 := Lib.hid hx3
                        have HO3 := Lib.hid ho3
                        clear hx3 ho3 hown hown2 hext hext2
                        go_wp2
                        go_roundw
                        case rel =>
                          refine ⟨i + P.length, p + 1, os2 ++ [cy], hiP, by omega, by rw [HDR.out], ⟨by simp [hos2.out.1], lb_snoc.2 ⟨hos2.out.2.1, show cy < 4294967296 by omega⟩, by rw [val_snoc, hos2.out.1]; exact hfin.out⟩, ?_, HX3.out⟩
                          show World.ownsRow _ _ _ _ _ _ _
                          rw [List.map_append]
                          have e : (w.alloc (Obj.cells #[Value.slice none 0 0] 31)).heap.size = w.heap.size + 1 := by simp
                          rw [e]
                          exact HO3.out
                        case measure => show (bs R2).size < (bs R).size; rw [bs_size, bs_size]; exact hRR2
                    · obtain rfl : cy = 0 := by omega
                      go_wp2
                      go_roundw
                      case rel => exact ⟨i + P.length, p, os2, hiP, by omega, by rw [HDR.out], ⟨hos2.out.1, hos2.out.2.1, by have := hfin.out; simpa using this⟩, hown2.out, hext2.out⟩
                      case measure => show (bs R2).size < (bs R).size; rw [bs_size, bs_size]; exact hRR2
        · have hR0 : R = [] := List.eq_nil_of_length_eq_zero (by omega)
          subst hR0
          have hval : val os = dval l := by
            have h1 := hos.out.2.2
            rwa [List.take_of_length_le (by omega)] at h1
          obtain ⟨AO, cO, rfl, hRdO⟩ := Rd.own hown.out hos.out.2.1
          have hfrO : Hid (∀ a, AO = some a → w.heap.size + 1 ≤ a.block) := Lib.hid (fun a ha => by subst ha; have := (hown.out.lt a.block rfl).1; simpa using this)
          have HR := Lib.hid hRdO
          have HV := Lib.hid hval
          clear hRdO hval hown
          obtain ⟨xc7, xf7, xl7, xz7⟩ := ext_use (hext.out)
          obtain ⟨l7_0, gc, gf⟩ := kp (hext.out) (w.heap.size) (by first | omega | (simp; try omega))
          have r7_0 := gc 0
          have f7_0 := gf 0
          clear gc gf
          go_wp2_with (first
            | (go_at_call 110; (with_reducible refine (trimmed_any AO k cO os _ HR.out).mono ?_); rintro e w8 ⟨A', k', rfl, hF, xb8⟩; obtain ⟨xc8, xf8, xl8, xz8⟩ := ext_use xb8; (try simp at xz8); obtain ⟨l8_0, gc, gf⟩ := kp xb8 (w.heap.size) (by first | omega | (simp; try omega)); have r8_0 := gc 0; have f8_0 := gf 0; clear gc gf)
           )
          have hext' := hext.out
          refine bodyPost_ret (v := .tuple #[natV A' k' k', .int .i64 0, .int .i64 0]) ?h rfl ⟨A', k', rfl, ⟨?_, ?_⟩, ?_⟩
          case h => simp [results, Tryz.results104, go_sem, *]
          · have h1 := (hF.out.1 _ HR.out).ext xb8
            rw [HV.out] at h1
            refine h1.set _ (fun q hq => ?_)
            have h2 := hF.out.2 q hq
            have h3 := hfrO.out q h2
            show w.heap.size < q.block
            omega
          · intro q hq
            have h2 := hF.out.2 q hq
            have h3 := hfrO.out q h2
            omega
          · exact ext_setCell (ext_trans (ext_alloc (ext_refl _) _) (ext_trans hext' xb8)) (Nat.le_refl _) _
end Go.Proofs.YtkhkoeibpkglkaaGreatDoor
end
