/- Lemmas of this proof, laid together: NtH, BigE, BigF, BigG, BigH, NtI. -/
import Derived.Test.YtdjegfnkpagdaaaGreatDoorMg08
import Derived.Deep.DeepCutAuto
import Derived.Deep.RegionWith
import Derived.Deep.CutRange
import Derived.Test.YtdjegfnkpagdaaaGreatDoorMg11
import Derived.Test.YtdjegfnkpagdaaaGreatDoorMg03
import Derived.Test.YtdjegfnkpagdaaaGreatDoorMg07
set_option linter.unusedSimpArgs false
set_option linter.unusedVariables false
section
/- The program reads digits. -/
namespace Go.Proofs.YtdjegfnkpagdaaaGreatDoor
open Go.RowKit
attribute [local go_sem] bs_size bs_extract bs_get bs_append bs_toList const_get
attribute [local go_sem] sz2 sz3 sz4 sz5 sz6 sz7 sz8
set_option maxHeartbeats 4000000
set_option maxRecDepth 100000
/-- One limb more of what is multiplied in its own place. -/
theorem inpl_step {O os : List Nat} {p k T N cy o : Nat} (hl : os.length = k) (hO : O.length = k) (hp : p < k) (hd : os.drop p = O.drop p) (hv : val (os.take p) + Bs ^ p * cy = val (O.take p) * T + N) (ho : O.getD p 0 = o) :
    (os.set p ((cy + o * T) % 4294967296)).drop (p + 1) = O.drop (p + 1) ∧ val ((os.set p ((cy + o * T) % 4294967296)).take (p + 1)) + Bs ^ (p + 1) * ((cy + o * T) / 4294967296) = val (O.take (p + 1)) * T + N := by
  refine ⟨?_, ?_⟩
  · rw [List.drop_set_of_lt (by omega)]
    have := congrArg (List.drop 1) hd
    rwa [List.drop_drop, List.drop_drop] at this
  · have h1 : (os.set p ((cy + o * T) % 4294967296)).take (p + 1) = os.take p ++ [(cy + o * T) % 4294967296] := by
      rw [List.take_succ_eq_append_getElem (by rw [List.length_set]; omega), List.getElem_set_self, List.take_set_of_le (by omega)]
    have h2 : (os.take p).length = p := by rw [List.length_take]; omega
    have h3 : (cy + o * T) % 4294967296 + Bs * ((cy + o * T) / 4294967296) = cy + o * T := Nat.mod_add_div _ _
    rw [h1, val_snoc, h2, val_take_succ, ho, Nat.pow_succ, Nat.mul_assoc, Nat.add_assoc, ← Nat.mul_add, h3, Nat.mul_add, Nat.add_mul, Nat.mul_assoc]
    omega
attribute [local irreducible] Calls
theorem pparse_any (l : List UInt8) (hd : digsB l = true) (h0 : 0 < l.length) (hl : l.length ≤ 65536) (w : World) :
    Calls Tryz.prog 55 #[.string (bs l)] w fun e w' => ∃ (A : Option Addr) (k : Nat), e = .returned (.tuple #[natV A k k, .int .i64 0, .int .i64 0]) ∧ Hid (Rd w' A k k (lim (dval l)) ∧ Fr w A) ∧ Ext w w' := by
  have HD := Lib.hid hd
  have hne : l.isEmpty = false := by simp [List.length_pos_iff.1 h0]
  clear hd
  go_enter Tryz.func55, Tryz.ntmps55
  go_wp2
  go_loop [19] (fun v => ∃ k : Nat, k ≤ l.length ∧ v = .int .i64 k) (fun v => l.length - (intOf v).toNat)
  case atStart => exact ⟨0, Nat.zero_le _, rfl⟩
  case round =>
    obtain ⟨k, hk, rfl⟩ := hrel
    by_cases hlt : k < l.length
    · obtain ⟨hb1, hb2⟩ := digs_at HD.out k hlt
      go_wp2
      go_round
      case rel => exact ⟨k + 1, by omega, by go_num⟩
      case measure => simp [intOf]; omega
    · obtain rfl : k = l.length := by omega
      clear hk hlt
      go_wp2
      go_loopw [0, 6] (fun vs vo wr => ∃ (i k : Nat) (os : List Nat), i ≤ l.length ∧ k ≤ i ∧ vs = .string (bs (l.drop i)) ∧ Hid (os.length = k ∧ Lb os ∧ val os = dval (l.take i)) ∧
          Hid (wr.ownsRow (w.alloc (Obj.cells #[Value.slice none 0 0] 26)).heap.size 60 1 vo k (os.map u32V)) ∧ Hid (Ext (w.alloc (Obj.cells #[Value.slice none 0 0] 26)) wr))
        (fun vs _ _ => strLen vs)
      case atStart => exact ⟨0, 0, [], Nat.zero_le _, Nat.le_refl _, by simp, ⟨rfl, (fun x hx => by cases hx), by simp [val, dval]⟩, World.ownsRow_nil _ _ _ _, ext_refl _⟩
      case round =>
        obtain ⟨i, k, os, hi, hki, rfl, hos, hown, hext⟩ := hrel
        obtain ⟨R, hR⟩ : ∃ R, l.drop i = R := ⟨_, rfl⟩
        have hRl : R.length = l.length - i := by rw [← hR, List.length_drop]
        rw [hR]
        by_cases hlt : i < l.length
        · have HRl := Lib.hid hRl
          have hRpos : 0 < R.length := by omega
          have hRmx : R.length ≤ 65536 := by omega
          clear hRl
          go_upto_region 15 with (fail)
          go_cut [0, 7, 8] from 38 to 94 (fun s p q wc => ∃ (P R2 : List UInt8), s = .string (bs R2) ∧ p = .string (bs P) ∧ q = .int .u64 0 ∧ Hid (P.length ≤ 9 ∧ 1 ≤ P.length ∧ R = P ++ R2) ∧ wc = wr)
          case first =>
            by_cases h9 : 9 ≤ R.length
            · go_wp2_with fail
              all_goals
                go_meet
                case rel => exact ⟨R.take 9, R.drop 9, rfl, rfl, rfl, Lib.hid ⟨by rw [List.length_take]; omega, by rw [List.length_take]; omega, (List.take_append_drop 9 R).symm⟩, rfl⟩
            · go_wp2_with fail
              all_goals
                go_meet
                case rel => exact ⟨R, [], by simp, by simp, rfl, Lib.hid ⟨by omega, by omega, by simp⟩, rfl⟩
          case rest =>
            obtain ⟨P, R2, rfl, rfl, rfl, hPR, rfl⟩ := hcut
            have HDP : Hid (digsB P = true) := Lib.hid (by
              have h1 := digs_drop HD.out i
              rw [hR, hPR.out.2.2] at h1
              have := digs_take h1 P.length
              rwa [List.take_left] at this)
            obtain ⟨AO, cO, rfl, hRdO⟩ := Rd.own hown.out hos.out.2.1
            have hcO := hRdO.cap
            have hcOm := hRdO.mx
            clear hRdO
            have hP9 := hPR.out.1
            have hP1 := hPR.out.2.1
            obtain ⟨cap, hcap⟩ : ∃ cap, cap = grownCap wc (bs P).size 0 5 := ⟨_, rfl⟩
            obtain ⟨C, hC⟩ : ∃ C, C = bytesRow (bs P) cap := ⟨_, rfl⟩
            have hconv : (convert 9 113 (.string (bs P))).run Tryz.prog wc = .ok (.slice (some ⟨wc.heap.size, 0, none⟩) P.length cap) (wc.drew.alloc (.cells C 5 (C.size, C.size + 1))) := by
              have := run_bytes_of_string (P := Tryz.prog) wc 9 113 5 (bs P) str_kind u8_under u8_kind
              rw [← hcap, ← hC, bs_size] at this
              exact this
            have hcell : ∀ q, q < P.length → C[q]? = some (.int .u8 ((P.getD q 0).toNat : Int)) := fun q hq => by
              have := bytesRow_at (bs P) cap q (by show q < P.toArray.size; simpa using hq)
              rw [← hC] at this
              rw [this, List.getD_eq_getElem?_getD, List.getElem?_eq_getElem hq]
              simp [bs]
            have HC := Lib.hid hcell
            clear hcap hC hcell
            go_wp2
            go_loop [8, 9, 53] (fun vn vt vi => ∃ q N T : Nat, q ≤ P.length ∧ vi = .int .i64 (q : Int) ∧ vn = .int .u64 (N : Int) ∧ vt = .int .u64 (T : Int) ∧ Hid (N = dval (P.take q) ∧ T = 10 ^ q) ∧ N < T ∧ T ≤ 1000000000 ∧ (q < 9 → T ≤ 100000000)) (fun _ _ vi => P.length - (intOf vi).toNat)
            case atStart => exact ⟨0, 0, 1, Nat.zero_le _, rfl, rfl, rfl, ⟨rfl, rfl⟩, by omega, by omega, by omega⟩
            case round =>
              obtain ⟨q, N, T, hq, rfl, rfl, rfl, hNT, hN1, hT1, hT2⟩ := hrel
              by_cases hgo : q < P.length
              · obtain ⟨hb1, hb2⟩ := digs_at HDP.out q hgo
                have hT3 := hT2 (by omega)
                have hcq := HC.out q hgo
                rw [List.getD_eq_getElem?_getD, List.getElem?_eq_getElem hgo] at hcq
                have hcq' : (wc.alloc (Obj.cells C 5 (C.size, C.size + 1))).cell? ⟨wc.heap.size, q, none⟩ = some (.int .u8 (P[q].toNat : Int)) := (World.cell?_alloc_mark wc C _ _ q).trans hcq
                clear hcq
                go_wp2
                go_round
                case rel =>
                  have e1 : P.take (q + 1) = P.take q ++ [P[q]] := List.take_succ_eq_append_getElem hgo
                  have e2 : 10 ^ (q + 1) ≤ 1000000000 := Nat.le_trans (Nat.pow_le_pow_right (by decide) (show q + 1 ≤ 9 by omega)) (by decide)
                  have e3 : q + 1 < 9 → 10 ^ (q + 1) ≤ 100000000 := fun h => Nat.le_trans (Nat.pow_le_pow_right (by decide) (show q + 1 ≤ 8 by omega)) (by decide)
                  have e4 : 10 ^ (q + 1) = 10 * T := by rw [hNT.out.2, Nat.pow_succ]; omega
                  refine ⟨q + 1, 10 * N + (P[q].toNat - 48), 10 * T, by omega, by go_num, by go_num, by go_num, ⟨?_, e4.symm⟩, by omega, by omega, fun h => ?_⟩
                  · rw [e1, dval_snoc, hNT.out.1]
                  · have := e3 h; omega
                case measure => simp [intOf]; omega
              · obtain rfl : q = P.length := by omega
                have hsum : Hid (dval (l.take i) * T + N = dval (l.take (i + P.length))) := Lib.hid (by
                  rw [hNT.out.1, hNT.out.2, List.take_length]
                  have e : l.take (i + P.length) = l.take i ++ P := by
                    rw [List.take_add, hR, hPR.out.2.2, List.take_left]
                  rw [e, dval_append])
                have hm2 := Lib.hid hT2
                clear hgo HC hT2
                go_wp2
                have hdrop : l.drop (i + P.length) = R2 := by rw [← List.drop_drop, hR, hPR.out.2.2, List.drop_left]
                have hRR2 : R2.length < R.length := by rw [hPR.out.2.2, List.length_append]; omega
                have hiP : i + P.length ≤ l.length := by
                  have h1 := HRl.out
                  rw [hPR.out.2.2, List.length_append] at h1
                  omega
                have HDR := Lib.hid hdrop
                have hown4 : Hid ((wc.alloc (Obj.cells C 5 (C.size, C.size + 1))).drew.ownsRow (w.alloc (Obj.cells #[Value.slice none 0 0] 26)).heap.size 60 1 (.slice AO k cO) k (os.map u32V)) := Lib.hid (own_ext hown.out (ext_drew (ext_alloc (ext_refl _) _)))
                have hext4 : Hid (Ext (w.alloc (Obj.cells #[Value.slice none 0 0] 26)) (wc.alloc (Obj.cells C 5 (C.size, C.size + 1))).drew) := Lib.hid (ext_drew (ext_alloc hext.out _))
                clear hdrop
                go_loopw [8, 68] (fun vc vi wr2 => ∃ (p cy : Nat) (os2 : List Nat), p ≤ k ∧ cy ≤ 1000000000 ∧ vi = .int .i64 (p : Int) ∧ vc = .int .u64 (cy : Int) ∧ Hid (os2.length = k ∧ Lb os2 ∧ os2.drop p = os.drop p ∧ val (os2.take p) + Bs ^ p * cy = val (os.take p) * T + N) ∧
                    Hid (wr2.ownsRow (w.alloc (Obj.cells #[Value.slice none 0 0] 26)).heap.size 60 1 (.slice AO k cO) k (os2.map u32V)) ∧ Hid (Ext (w.alloc (Obj.cells #[Value.slice none 0 0] 26)) wr2)) (fun _ vi _ => k - (intOf vi).toNat)
                case atStart => exact ⟨0, N, os, Nat.zero_le _, by omega, rfl, rfl, ⟨hos.out.1, hos.out.2.1, rfl, by simp [val]⟩, hown4.out, hext4.out⟩
                case round =>
                  clear hown4 hext4
                  obtain ⟨p, cy, os2, hp, hcy, rfl, rfl, hos2, hown2, hext2⟩ := hrel
                  by_cases hpk : p < k
                  · obtain ⟨g, hg⟩ : ∃ g, AO = some ⟨g, 0, none⟩ := by
                      rcases hown2.out.2 with ⟨_, h⟩ | ⟨g, cap', cur, h, _⟩
                      · omega
                      · simp only [Value.slice.injEq] at h
                        exact ⟨g, h.1⟩
                    subst hg
                    have hlt2 := hown2.out.lt g rfl
                    obtain ⟨o, ho, hob⟩ : ∃ o : Nat, Hid (os.getD p 0 = o) ∧ o < 4294967296 := ⟨_, rfl, lb_getD hos.out.2.1 _⟩
                    have ho2 : os2.getD p 0 = o := by
                      have h1 := congrArg (fun z : List Nat => z.getD 0 0) hos2.out.2.2.1
                      simp only [List.getD_eq_getElem?_getD, List.getElem?_drop, Nat.add_zero] at h1
                      rw [List.getD_eq_getElem?_getD, h1, ← List.getD_eq_getElem?_getD]
                      exact ho.out
                    obtain ⟨hc1, hf1⟩ := own_at hown2.out p hpk
                    rw [ho2] at hc1
                    obtain ⟨pr, hpr⟩ : ∃ pr, pr = o * T := ⟨_, rfl⟩
                    have hprb : pr ≤ 4294967295000000000 := by
                      rw [hpr]
                      exact Nat.mul_le_mul (show o ≤ 4294967295 by omega) hT1
                    have hpri : (o : Int) * (T : Int) = (pr : Int) := by rw [hpr]; exact (Int.natCast_mul _ _).symm
                    have HPR := Lib.hid hpr
                    have hlg := hlt2.2
                    clear hpr ho2 hlt2
                    go_wp2
                    case roundEnd =>
                      have hst := inpl_step (T := T) hos2.out.1 hos.out.1 hpk hos2.out.2.2.1 hos2.out.2.2.2 ho.out
                      rw [← HPR.out] at hst
                      refine ⟨⟨p + 1, (cy + pr) / 4294967296, os2.set p ((cy + pr) % 4294967296), by omega, by omega, by simp, by simp, ⟨by rw [List.length_set]; exact hos2.out.1, lb_set hos2.out.2.1 _ (Nat.mod_lt _ (by decide)), hst.1, hst.2⟩, ?_, ?_⟩, ?_⟩
                      · have e : ((cy : Int) + (pr : Int)) % 4294967296 = (((cy + pr) % 4294967296 : Nat) : Int) := by omega
                        show World.ownsRow _ _ _ _ _ _ _
                        rw [e]
                        exact own_set hown2.out p _
                      · exact ext_setCell hext2.out ((hown2.out.lt g rfl).1) _
                      · simp [intOf]; omega
                  · obtain rfl : p = k := by omega
                    have hfin : Hid (val os2 + Bs ^ p * cy = dval (l.take (i + P.length))) := Lib.hid (by
                      have h1 := hos2.out.2.2.2
                      rw [take_ge (by rw [hos2.out.1]; exact Nat.le_refl _), take_ge (by rw [hos.out.1]; exact Nat.le_refl _), hos.out.2.2] at h1
                      rw [h1]; exact hsum.out)
                    clear hpk
                    by_cases hc0 : 0 < cy
                    · go_wp2_with (first
                        | (at_builtin; refine push_u32 rfl _ _ rfl _ rfl hext2.out hown2.out rfl cy ⟨wr.heap.size, 0, none⟩ 1 rfl (by rw [World.cell?_alloc_at _ _ _ _ rfl]; simp [u32V]) (by omega) ?_)
                        | go_in)
                      all_goals
                        intro v' w3 hx3 ho3
                        have HX3 := Lib.hid hx3
                        have HO3 := Lib.hid ho3
                        clear hx3 ho3 hown hown2 hext hext2
                        go_wp2
                        go_roundw
                        case rel =>
                          refine ⟨i + P.length, p + 1, os2 ++ [cy], hiP, by omega, by rw [HDR.out], ⟨by simp [hos2.out.1], lb_snoc.2 ⟨hos2.out.2.1, show cy < 4294967296 by omega⟩, by rw [val_snoc, hos2.out.1]; exact hfin.out⟩, ?_, HX3.out⟩
                          show World.ownsRow _ _ _ _ _ _ _
                          rw [List.map_append]
                          have e : (w.alloc (Obj.cells #[Value.slice none 0 0] 26)).heap.size = w.heap.size + 1 := by simp
                          rw [e]
                          exact HO3.out
                        case measure => show (bs R2).size < (bs R).size; rw [bs_size, bs_size]; exact hRR2
                    · obtain rfl : cy = 0 := by omega
                      go_wp2
                      go_roundw
                      case rel => exact ⟨i + P.length, p, os2, hiP, by omega, by rw [HDR.out], ⟨hos2.out.1, hos2.out.2.1, by have := hfin.out; simpa using this⟩, hown2.out, hext2.out⟩
                      case measure => show (bs R2).size < (bs R).size; rw [bs_size, bs_size]; exact hRR2
        · have hR0 : R = [] := List.eq_nil_of_length_eq_zero (by omega)
          subst hR0
          have hval : val os = dval l := by
            have h1 := hos.out.2.2
            rwa [List.take_of_length_le (by omega)] at h1
          obtain ⟨AO, cO, rfl, hRdO⟩ := Rd.own hown.out hos.out.2.1
          have hfrO : Hid (∀ a, AO = some a → w.heap.size + 1 ≤ a.block) := Lib.hid (fun a ha => by subst ha; have := (hown.out.lt a.block rfl).1; simpa using this)
          have HR := Lib.hid hRdO
          have HV := Lib.hid hval
          clear hRdO hval hown
          obtain ⟨xc7, xf7, xl7, xz7⟩ := ext_use (hext.out)
          have l7_0 := xl7 (w.heap.size) (by first | omega | (simp; try omega))
          have r7_0 := xc7 (w.heap.size) 0 (by first | omega | (simp; try omega))
          have f7_0 := xf7 (w.heap.size) 0 (by first | omega | (simp; try omega))
          go_wp2_with (first
            | (go_at_call 62; (with_reducible refine (trimmed_any AO k cO os _ HR.out).mono ?_); rintro e w8 ⟨A', k', rfl, hF, xb8⟩; obtain ⟨xc8, xf8, xl8, xz8⟩ := ext_use xb8; (try simp at xz8); have l8_0 := xl8 (w.heap.size) (by first | omega | (simp; try omega)); have r8_0 := xc8 (w.heap.size) 0 (by first | omega | (simp; try omega)); have f8_0 := xf8 (w.heap.size) 0 (by first | omega | (simp; try omega)))
           )
          have hext' := hext.out
          refine bodyPost_ret (v := .tuple #[natV A' k' k', .int .i64 0, .int .i64 0]) ?h rfl ⟨A', k', rfl, ⟨?_, ?_⟩, ?_⟩
          case h => simp [results, Tryz.results55, go_sem, *]
          · have h1 := (hF.out.1 _ HR.out).ext xb8
            rw [HV.out] at h1
            refine h1.set _ (fun q hq => ?_)
            have h2 := hF.out.2 q hq
            have h3 := hfrO.out q h2
            show w.heap.size < q.block
            omega
          · intro q hq
            have h2 := hF.out.2 q hq
            have h3 := hfrO.out q h2
            omega
          · exact ext_setCell (ext_trans (ext_alloc (ext_refl _) _) (ext_trans hext' xb8)) (Nat.le_refl _) _
end Go.Proofs.YtdjegfnkpagdaaaGreatDoor
end
section
/- Words of the library's: products of any length (Karatsuba's way). -/
namespace Go.Proofs.YtdjegfnkpagdaaaGreatDoor
open Go.RowKit
attribute [local go_sem] sz2 sz3 sz4 sz5 sz6 sz7 sz8
attribute [local go_sem] Oper.detAt detUpon relUpon
set_option maxHeartbeats 4000000
set_option maxRecDepth 100000
attribute [local irreducible] Calls
theorem Rd.drop {w : World} {b off n c : Nat} {xs : List Nat} (h : Rd w (some ⟨b, off, none⟩) n c xs) {k : Nat} (hk : k ≤ n) : Rd w (some ⟨b, off + k, none⟩) (n - k) (c - k) (xs.drop k) := by
  have hl := h.len
  have hc := h.cap
  have hm := h.mx
  refine ⟨by rw [List.length_drop]; omega, by omega, by omega, fun x hx => h.lb x (List.mem_of_mem_drop hx), (fun e => by cases e), (fun a ha => by cases ha; rfl), fun b' off' hA i hi => ?_⟩
  cases hA
  rw [List.length_drop] at hi
  obtain ⟨h1, h2⟩ := h.cells b off rfl (k + i) (by omega)
  refine ⟨h1, ?_⟩
  rw [Nat.add_assoc, h2, List.getElem_drop]
theorem lim_drop : ∀ (k a : Nat), (lim a).drop k = lim (a / Bs ^ k)
  | 0, a => by simp
  | k + 1, a => by
    by_cases h : a = 0
    · subst h; simp [lim_zero]
    · rw [lim_pos h, List.drop_succ_cons, lim_drop k, Nat.div_div_eq_div_mul, Nat.pow_succ, Nat.mul_comm]
theorem val_take_lim (k a : Nat) : val ((lim a).take k) = a % Bs ^ k := by
  rcases Nat.lt_or_ge k (lim a).length with h | h
  · have h1 := val_append ((lim a).take k) ((lim a).drop k)
    rw [List.take_append_drop, val_lim, lim_drop, val_lim, List.length_take, Nat.min_eq_left (Nat.le_of_lt h)] at h1
    have h2 : val ((lim a).take k) < Bs ^ k := by
      have := val_lt ((lim a).take k) (fun x hx => lb_lim a x (List.mem_of_mem_take hx))
      rwa [List.length_take, Nat.min_eq_left (Nat.le_of_lt h)] at this
    have h3 := Nat.mod_add_div a (Bs ^ k)
    have : a % Bs ^ k < Bs ^ k := Nat.mod_lt _ (Nat.pow_pos (by decide))
    omega
  · rw [take_ge h, val_lim, Nat.mod_eq_of_lt]
    exact Nat.lt_of_lt_of_le (lim_lt a) (Nat.pow_le_pow_right (by decide) h)
theorem Fr.at {W : World} {A : Option Addr} (h : Fr W A) {a : Addr} (ha : A = some a) : W.heap.size ≤ a.block := h a ha
abbrev WPost (w : World) (V : Nat) : Ending → World → Prop := fun e w' => ∃ (A : Option Addr) (k c : Nat), e = .returned (.slice A k c) ∧ Hid (Rd w' A k c (lim V) ∧ Fr w A) ∧ Ext w w'
/-- A row that a call answered, in memory of its own. -/
def RWord (N : Nat) (v : Nat) : List Value → Value → World → Prop := fun _ u w => ∃ (A : Option Addr) (k c : Nat), u = .slice A k c ∧ Rd w A k c (lim v) ∧ ∀ a, A = some a → N ≤ a.block
theorem stays_word (N v : Nat) : Stays (RWord N v) := fun _ _ _ _ ⟨A, k, c, h1, h2, h3⟩ he => ⟨A, k, c, h1, h2.ext he, h3⟩
theorem rword_at {N v : Nat} {vals : List Value} {A : Option Addr} {k c : Nat} {w : World} (h : RWord N v vals (.slice A k c) w) : Rd w A k c (lim v) ∧ ∀ a, A = some a → N ≤ a.block := by
  obtain ⟨A', k', c', e, h2, h3⟩ := h
  simp only [Value.slice.injEq] at e
  obtain ⟨rfl, rfl, rfl⟩ := e
  exact ⟨h2, h3⟩
theorem rel_add (N : Nat) (A B : Option Addr) (n c m d a b : Nat) (hn : n ≤ 1000000) (hm : m ≤ 1000000) (vals : List Value) (w : World) (hN : N ≤ w.heap.size) (hA : Rd w A n c (lim a)) (hB : Rd w B m d (lim b)) :
    Calls Tryz.prog 118 #[.slice A n c, .slice B m d] w fun e w' => ∃ v, e = .returned v ∧ Ext w w' ∧ Fresh w v w' ∧ RWord N (a + b) vals v w' := by
  refine (bw_add A B n c m d a b hn hm w hA hB).mono ?_
  rintro e w' ⟨A', k, c', he, h1, h2⟩
  refine ⟨_, he, h2, ?_, A', k, c', rfl, h1.out.1, fun a ha => Nat.le_trans hN (h1.out.2.1 a ha)⟩
  intro q hq
  cases A' with
  | none => simp [blk] at hq
  | some z =>
    simp only [blk, Option.some.injEq] at hq
    subst hq
    exact ⟨h1.out.2.1 z rfl, h1.out.2.2 z rfl⟩
theorem bw_trim_det (A : Option Addr) (n c : Nat) (xs : List Nat) (w : World) (hR : Rd w A n c xs) :
    Calls Tryz.prog 117 #[.slice A n c] w fun e w' => e = .returned (.slice A (lim (val xs)).length c) ∧ Ext w w' := by
  refine (bw_trim A n c xs w hR).mono ?_
  rintro e w' ⟨k, rfl, h2, rfl⟩
  have := h2.len
  rw [trimZ_lim _ hR.lb] at this
  exact ⟨by rw [this], ext_refl _⟩
theorem rd_trimmed {A : Option Addr} {n c : Nat} {xs : List Nat} {w : World} (hR : Rd w A n c xs) : Rd w A (lim (val xs)).length c (lim (val xs)) := by
  obtain ⟨k, hk, he⟩ := trimZ_prefix xs
  rw [trimZ_lim _ hR.lb] at he
  have e : (lim (val xs)).length = k := by rw [he, List.length_take, Nat.min_eq_left hk]
  rw [e, he]
  exact hR.take (by rw [← hR.len]; exact hk)
end Go.Proofs.YtdjegfnkpagdaaaGreatDoor
end
section
/- Words of the library's: products of any length. -/
namespace Go.Proofs.YtdjegfnkpagdaaaGreatDoor
open Go.RowKit
attribute [local go_sem] sz2 sz3 sz4 sz5 sz6 sz7 sz8
attribute [local go_sem] Oper.detAt detUpon relUpon
set_option maxHeartbeats 4000000
set_option maxRecDepth 100000
attribute [local irreducible] Calls
theorem piece_val {a m at_ k n : Nat} (hk : k = min (at_ + m) n - at_) (hn : (lim a).length = n) (h0 : at_ ≤ n) : val ((lim a).take (at_ + m)) = val ((lim a).take at_) + Bs ^ at_ * val (((lim a).drop at_).take k) := by
  have e : ((lim a).drop at_).take k = ((lim a).drop at_).take m := by
    rcases Nat.le_total (at_ + m) n with h | h
    · rw [hk, Nat.min_eq_left h]; congr 1; omega
    · rw [hk, Nat.min_eq_right h, List.take_of_length_le (by simp; omega), List.take_of_length_le (by simp; omega)]
  rw [e, List.take_add, val_append, List.length_take, Nat.min_eq_left (by omega)]
theorem bw_mul_small (A B : Option Addr) (n c m d a b : Nat) (hnm : m ≤ n) (hs : n + m ≤ 200000) (hm : m < 40) (w : World) (hA : Rd w A n c (lim a)) (hB : Rd w B m d (lim b)) :
    (Calls Tryz.prog 85 #[.slice A n c, .slice B m d] w (WPost w (a * b))) ∧ (m < n → Calls Tryz.prog 85 #[.slice B m d, .slice A n c] w (WPost w (a * b))) := by
  have hp := bw_plain A B n c m d _ _ (by omega) (by omega) w hA hB
  rw [val_lim, val_lim] at hp
  have hmx := hA.mx
  have hcx := hA.cap
  have hmy := hB.mx
  have hcy := hB.cap
  clear hA hB
  refine ⟨?_, fun hlt => ?_⟩
  all_goals
    go_enter Tryz.func85, Tryz.ntmps85
    go_wp2_with (first
      | (go_at_call 115; (with_reducible refine (hp).mono ?_); rintro e w1 ⟨A', k, c', rfl, hR, xb1⟩; obtain ⟨xc1, xf1, xl1, xz1⟩ := ext_use xb1; (try simp at xz1))
     )
    refine bodyPost_ret (v := .slice A' k c') ?h rfl ⟨A', k, c', rfl, hR, xb1⟩
    case h => simp [results, Tryz.results85, go_sem]
theorem bw_mul_long (A B : Option Addr) (n c m d a b : Nat) (hnm : 2 * m ≤ n) (hs : n + m ≤ 200000) (hm : 40 ≤ m) (w : World) (hA : Rd w A n c (lim a)) (hB : Rd w B m d (lim b))
    (IH : ∀ (A B : Option Addr) (n' c m' d a b : Nat), n' + m' < n + m → ∀ w, Rd w A n' c (lim a) → Rd w B m' d (lim b) → Calls Tryz.prog 85 #[.slice A n' c, .slice B m' d] w (WPost w (a * b))) :
    (Calls Tryz.prog 85 #[.slice A n c, .slice B m d] w (WPost w (a * b))) ∧ (m < n → Calls Tryz.prog 85 #[.slice B m d, .slice A n c] w (WPost w (a * b))) := by
  have hmx := hA.mx
  have hcx := hA.cap
  have hmy := hB.mx
  have hcy := hB.cap
  have HA := Lib.hid hA
  have HB := Lib.hid hB
  have hlx := Lib.hid hA.len
  have hly := Lib.hid hB.len
  clear hA hB
  refine ⟨?_, fun hlt => ?_⟩
  all_goals
    go_enter Tryz.func85, Tryz.ntmps85
    go_wp2_with (first
      | (at_make; refine make_u32 rfl _ _ rfl _ _ _ _ (n + m + 1) rfl rfl (by simp) (by simp) (by omega) ?_; intro w1 hx1 ho1; have hext1 := Lib.hid hx1; clear hx1)
     )
    have hGl : w.heap.size < w1.heap.size := (ho1.out.lt w.heap.size rfl).2
    go_loopw [6] (fun vi wr => ∃ (at_ : Nat) (os : List Nat), at_ < n + m ∧ vi = .int .i64 (at_ : Int) ∧ Hid (Lb os ∧ val os = val ((lim a).take at_) * b) ∧
        Hid (wr.ownsRow w.heap.size 60 1 (.slice (some ⟨w.heap.size, 0, none⟩) (n + m + 1) (n + m + 1)) (n + m + 1) (os.map u32V)) ∧ Hid (Ext w wr))
      (fun vi _ => n - (intOf vi).toNat)
    case atStart => exact ⟨0, List.replicate (n + m + 1) 0, by omega, rfl, ⟨lb_replicate _, by rw [val_replicate]; simp [val]⟩, ho1.out, hext1.out⟩
    case round =>
      clear ho1 hext1
      obtain ⟨at_, os, hat, rfl, hos, hown, hext⟩ := hrel
      by_cases h0 : at_ < n
      · obtain ⟨bx, ox, hXe⟩ : ∃ b off, A = some ⟨b, off, none⟩ := by
          rcases HA.out.shape with ⟨_, h, _⟩ | h
          · omega
          · exact h
        subst hXe
        obtain ⟨k, hk⟩ : ∃ k, k = min (at_ + m) n - at_ := ⟨_, rfl⟩
        have hP : Rd wr (some ⟨bx, ox + at_, none⟩) k (c - at_) (((lim a).drop at_).take k) := ((HA.out.ext hext.out).drop (by omega)).take (by omega)
        have hpv := piece_val hk hlx.out (Nat.le_of_lt h0)
        have hPT := rd_trimmed hP
        have hPl : (lim (val (((lim a).drop at_).take k))).length ≤ k := by have h1 := hPT.len; have h2 := lim_le (val_lt _ hP.lb); rwa [hP.len] at h2
        have htr : ∀ L, L = k → Calls Tryz.prog 117 #[.slice (some ⟨bx, ox + at_, none⟩) L (c - at_)] wr fun e w' => e = .returned (.slice (some ⟨bx, ox + at_, none⟩) (lim (val (((lim a).drop at_).take k))).length (c - at_)) ∧ Ext wr w' := fun L hL => by subst hL; exact bw_trim_det _ _ _ _ wr hP
        clear hP
        generalize val (((lim a).drop at_).take k) = P at hpv hPT hPl htr
        have hmul : ∀ w', Hid (Ext wr w') → Calls Tryz.prog 85 #[.slice (some ⟨bx, ox + at_, none⟩) (lim P).length (c - at_), .slice B m d] w' (WPost w' (P * b)) := fun w' he => IH _ _ _ _ _ _ _ _ (by omega) w' (hPT.ext he.out) ((HB.out.ext hext.out).ext he.out)
        have hfit : Hid ((val os + Bs ^ at_ * (P * b) = val ((lim a).take (at_ + m)) * b) ∧ val os + Bs ^ at_ * (P * b) < Bs ^ (n + m + 1) ∧ at_ + (lim (P * b)).length ≤ n + m + 1) := by
          have e1 : val os + Bs ^ at_ * (P * b) = val ((lim a).take (at_ + m)) * b := by rw [hos.out.2, hpv, Nat.add_mul, Nat.mul_assoc]
          refine ⟨e1, ?_, ?_⟩
          · rw [e1, val_take_lim]
            have h1 : a % Bs ^ (at_ + m) ≤ a := Nat.mod_le _ _
            have h2 : a < Bs ^ n := by have := lim_lt a; rwa [hlx.out] at this
            have h3 : b < Bs ^ m := by have := lim_lt b; rwa [hly.out] at this
            have h4 : (a % Bs ^ (at_ + m)) * b < Bs ^ n * Bs ^ m := Nat.mul_lt_mul'' (Nat.lt_of_le_of_lt h1 h2) h3
            rw [← Nat.pow_add] at h4
            exact Nat.lt_of_lt_of_le h4 (Nat.pow_le_pow_right (by decide) (by omega))
          · have h2 : P < Bs ^ k := Nat.lt_of_lt_of_le (lim_lt P) (Nat.pow_le_pow_right (by decide) hPl)
            have h3 : b < Bs ^ m := by have := lim_lt b; rwa [hly.out] at this
            have h4 : P * b < Bs ^ k * Bs ^ m := Nat.mul_lt_mul'' h2 h3
            rw [← Nat.pow_add] at h4
            have := lim_le h4
            omega
        clear hPT hpv
        have HK := Lib.hid hk
        have HPL := Lib.hid hPl
        go_wp2_with (first
          | (go_at_call 117; (with_reducible refine (htr _ (by omega)).mono ?_); rintro e w2 ⟨rfl, xb2⟩; obtain ⟨xc2, xf2, xl2, xz2⟩ := ext_use xb2; (try simp at xz2))
          | (go_at_call 85; (with_reducible refine (hmul _ (Lib.hid xb2)).mono ?_); rintro e w3 ⟨A3, k3, c3, rfl, hR3, xb3⟩; obtain ⟨xc3, xf3, xl3, xz3⟩ := ext_use xb3; (try simp at xz3))
          | (go_at_call 116; (with_reducible refine (bw_addAt w.heap.size w.heap.size (n + m + 1) A3 k3 c3 (lim (P * b)) at_ os w3 (own_ext (own_ext hown.out xb2) xb3) hos.out.1 hR3.out.1 (fun q hq _ e => by have h1 := Fr.at hR3.out.2 hq; have h2 := (hown.out.lt w.heap.size rfl).2; have h3 := ext_size xb2; omega) (by rw [val_lim]; exact hfit.out.2.1) (by omega) (by have h1 := hR3.out.1.len; have h2 := hfit.out.2.2; omega)).mono ?_); rintro e w4 ⟨os4, rfl, hown4, hos4, hg4⟩)
         )
        all_goals
          go_roundw
          case rel =>
            exact ⟨at_ + m, by omega, by simp, os4, ⟨hos4.out.1, by rw [hos4.out.2, val_lim]; exact hfit.out.1⟩, hown4, only_ext (ext_trans (ext_trans hext.out xb2) xb3) hg4.out (Nat.le_refl _)⟩
          case measure => simp [intOf]; omega
      · have hv : val os = a * b := by rw [hos.out.2, take_ge (by rw [hlx.out]; omega), val_lim]
        have hT := bw_trim_own hown.out hos.out.1 hv
        have hE := hext.out
        clear hv
        go_wp2_with (first
          | (go_at_call 117; (with_reducible refine hT.mono ?_); rintro e w' ⟨⟨k, rfl, hR⟩, rfl⟩)
         )
        refine bodyPost_ret (v := .slice (some ⟨w.heap.size, 0, none⟩) k (n + m + 1)) ?h rfl ⟨_, k, n + m + 1, rfl, ⟨hR.out, fun q hq => ?_⟩, hE⟩
        case h => simp [results, Tryz.results85, go_sem]
        cases hq; exact Nat.le_refl _
end Go.Proofs.YtdjegfnkpagdaaaGreatDoor
end
section
/- Words of the library's: products by three smaller ones. -/
namespace Go.Proofs.YtdjegfnkpagdaaaGreatDoor
open Go.RowKit
attribute [local go_sem] sz2 sz3 sz4 sz5 sz6 sz7 sz8
attribute [local go_sem] Oper.detAt detUpon relUpon
set_option maxHeartbeats 4000000
set_option maxRecDepth 100000
attribute [local irreducible] Calls
theorem kara (R a0 a1 b0 b1 : Nat) : ((a0 + a1) * (b0 + b1) - a0 * b0 - a1 * b1 = a0 * b1 + a1 * b0 ∧ a0 * b0 ≤ (a0 + a1) * (b0 + b1) ∧ a1 * b1 ≤ (a0 + a1) * (b0 + b1) - a0 * b0) ∧
    (a0 + R * a1) * (b0 + R * b1) = a0 * b0 + R * (a0 * b1 + a1 * b0) + R * R * (a1 * b1) := by
  have e : (a0 + a1) * (b0 + b1) = a0 * b0 + a0 * b1 + (a1 * b0 + a1 * b1) := by rw [Nat.add_mul, Nat.mul_add, Nat.mul_add]
  refine ⟨⟨by omega, by omega, by omega⟩, ?_⟩
  have e2 : R * a1 * (R * b1) = R * R * (a1 * b1) := by rw [Nat.mul_mul_mul_comm]
  have e3 : a0 * (R * b1) = R * (a0 * b1) := by rw [← Nat.mul_assoc, Nat.mul_comm a0 R, Nat.mul_assoc]
  rw [Nat.add_mul, Nat.mul_add, Nat.mul_add, e2, e3, Nat.mul_add, Nat.mul_assoc R a1 b0]
  omega
theorem split_lim (a h : Nat) : a = a % Bs ^ h + Bs ^ h * (a / Bs ^ h) := (Nat.mod_add_div a (Bs ^ h)).symm
theorem len_mod (a h : Nat) : (lim (a % Bs ^ h)).length ≤ h := lim_le (Nat.mod_lt _ (Nat.pow_pos (by decide)))
theorem len_div {a h n : Nat} (hn : (lim a).length = n) : (lim (a / Bs ^ h)).length = n - h := by rw [← lim_drop, List.length_drop, hn]
theorem lim_mul_len (x y : Nat) : (lim (x * y)).length ≤ (lim x).length + (lim y).length := by
  refine lim_le ?_
  rw [Nat.pow_add]
  exact Nat.mul_lt_mul'' (lim_lt x) (lim_lt y)
theorem lim_part {P V e k : Nat} (h : Bs ^ e * P ≤ V) (hV : V < Bs ^ k) (he : e ≤ k) : e + (lim P).length ≤ k := by
  have h1 : Bs ^ e * P < Bs ^ e * Bs ^ (k - e) := by
    rw [← Nat.pow_add, show e + (k - e) = k by omega]; omega
  have h2 := lim_le (Nat.lt_of_mul_lt_mul_left h1)
  omega
theorem addAt_call (base g n : Nat) (B : Option Addr) (m d v : Nat) (at_ : Nat) (z : Int) (hz : z = at_) (os : List Nat) (w : World) (hown : Hid (w.ownsRow base 60 1 (.slice (some ⟨g, 0, none⟩) n n) n (os.map u32V))) (hos : Lb os)
    (hB : Rd w B m d (lim v)) (hap : ∀ a, B = some a → a.block ≠ g) (hfit : val os + Bs ^ at_ * v < Bs ^ n) (hn : n ≤ 3000000) (hat : at_ + (lim v).length ≤ n) :
    Calls Tryz.prog 116 #[.slice (some ⟨g, 0, none⟩) n n, .slice B m d, .int .i64 z] w fun e w' => ∃ os' : List Nat, e = .returned (.tuple #[]) ∧ Hid (w'.ownsRow base 60 1 (.slice (some ⟨g, 0, none⟩) n n) n (os'.map u32V)) ∧
      Hid (Lb os' ∧ val os' = val os + Bs ^ at_ * v) ∧ Hid (w.grownBy w' (some g)) := by
  subst hz
  have := bw_addAt base g n B m d (lim v) at_ os w hown.out hos hB (fun a ha _ => hap a ha) (by rw [val_lim]; exact hfit) hn (by rw [← hB.len]; exact hat)
  rwa [val_lim] at this
theorem rd_only {w w' : World} {g : Nat} {A : Option Addr} {n c : Nat} {xs : List Nat} (h : Rd w A n c xs) (hg : Hid (w.grownBy w' (some g))) (hap : ∀ a, A = some a → a.block ≠ g) : Rd w' A n c xs :=
  rd_grown h hg.out (fun a ha _ e => hap a ha (by simp at e; exact e.symm))
theorem bw_mul_kara (A B : Option Addr) (n c m d a b : Nat) (hnm : m ≤ n) (h2 : n < 2 * m) (hs : n + m ≤ 200000) (hm : 40 ≤ m) (w : World) (hA : Rd w A n c (lim a)) (hB : Rd w B m d (lim b))
    (IH : ∀ (A B : Option Addr) (n' c m' d a b : Nat), n' + m' < n + m → ∀ w, Rd w A n' c (lim a) → Rd w B m' d (lim b) → Calls Tryz.prog 85 #[.slice A n' c, .slice B m' d] w (WPost w (a * b))) :
    (Calls Tryz.prog 85 #[.slice A n c, .slice B m d] w (WPost w (a * b))) ∧ (m < n → Calls Tryz.prog 85 #[.slice B m d, .slice A n c] w (WPost w (a * b))) := by
  have hmx := hA.mx
  have hcx := hA.cap
  have hmy := hB.mx
  have hcy := hB.cap
  obtain ⟨bx, ox, hXe⟩ : ∃ b off, A = some ⟨b, off, none⟩ := by
    rcases hA.shape with ⟨_, h, _⟩ | h
    · omega
    · exact h
  obtain ⟨by', oy, hYe⟩ : ∃ b off, B = some ⟨b, off, none⟩ := by
    rcases hB.shape with ⟨_, h, _⟩ | h
    · omega
    · exact h
  subst hXe hYe
  obtain ⟨h, hh⟩ : ∃ h, h = (n + 1) / 2 := ⟨_, rfl⟩
  have hhn : h < n := by omega
  have hhm : h ≤ m := by omega
  have h2h : 2 * h ≤ n + 1 := by omega
  have hh1 : 1 ≤ h := by omega
  have hlx := hA.len
  have hly := hB.len
  -- the halves
  have A0 : ∀ w', Ext w w' → Rd w' (some ⟨bx, ox, none⟩) h c ((lim a).take h) := fun w' he => (hA.ext he).take (by omega)
  have B0 : ∀ w', Ext w w' → Rd w' (some ⟨by', oy, none⟩) h d ((lim b).take h) := fun w' he => (hB.ext he).take hhm
  have A1 : ∀ w', Ext w w' → Rd w' (some ⟨bx, ox + h, none⟩) (n - h) (c - h) (lim (a / Bs ^ h)) := fun w' he => by rw [← lim_drop]; exact (hA.ext he).drop (by omega)
  obtain ⟨ob, hob, B1⟩ : ∃ ob, (if d = h then some (⟨by', oy, none⟩ : Addr) else some ⟨by', oy + h, none⟩) = some ⟨by', ob, none⟩ ∧ ∀ w', Ext w w' → Rd w' (some ⟨by', ob, none⟩) (m - h) (d - h) (lim (b / Bs ^ h)) := by
    by_cases e : d = h
    · refine ⟨oy, by rw [if_pos e], fun w' he => ?_⟩
      have hz : lim (b / Bs ^ h) = [] := by
        rw [← lim_drop]
        exact List.drop_eq_nil_of_le (by rw [hly]; omega)
      rw [hz, show m - h = 0 by omega, show d - h = 0 by omega]
      exact ⟨rfl, Nat.le_refl _, by omega, (fun x hx => by cases hx), (fun e => by cases e), (fun a ha => by cases ha; rfl), fun b off hA i hi => by simp at hi⟩
    · refine ⟨oy + h, by rw [if_neg e], fun w' he => ?_⟩
      rw [← lim_drop]
      exact (hB.ext he).drop hhm
  have tA : ∀ w', Ext w w' → Calls Tryz.prog 117 #[.slice (some ⟨bx, ox, none⟩) h c] w' fun e w'' => e = .returned (.slice (some ⟨bx, ox, none⟩) (lim (a % Bs ^ h)).length c) ∧ Ext w' w'' := fun w' he => by have := bw_trim_det _ _ _ _ w' (A0 w' he); rwa [val_take_lim] at this
  have tB : ∀ w', Ext w w' → Calls Tryz.prog 117 #[.slice (some ⟨by', oy, none⟩) h d] w' fun e w'' => e = .returned (.slice (some ⟨by', oy, none⟩) (lim (b % Bs ^ h)).length d) ∧ Ext w' w'' := fun w' he => by have := bw_trim_det _ _ _ _ w' (B0 w' he); rwa [val_take_lim] at this
  have rA : ∀ w', Ext w w' → Rd w' (some ⟨bx, ox, none⟩) (lim (a % Bs ^ h)).length c (lim (a % Bs ^ h)) := fun w' he => by have := rd_trimmed (A0 w' he); rwa [val_take_lim] at this
  have rB : ∀ w', Ext w w' → Rd w' (some ⟨by', oy, none⟩) (lim (b % Bs ^ h)).length d (lim (b % Bs ^ h)) := fun w' he => by have := rd_trimmed (B0 w' he); rwa [val_take_lim] at this
  have la := len_mod a h
  have lb := len_mod b h
  have la1 : (lim (a / Bs ^ h)).length = n - h := len_div hlx
  have lb1 : (lim (b / Bs ^ h)).length = m - h := len_div hly
  have hab : a * b < Bs ^ (n + m) := by
    rw [Nat.pow_add]
    exact Nat.mul_lt_mul'' (by have := lim_lt a; rwa [hlx] at this) (by have := lim_lt b; rwa [hly] at this)
  have K := kara (Bs ^ h) (a % Bs ^ h) (a / Bs ^ h) (b % Bs ^ h) (b / Bs ^ h)
  rw [← split_lim a h, ← split_lim b h] at K
  have lsa : (lim (a % Bs ^ h + a / Bs ^ h)).length ≤ h + 1 := by
    refine lim_le ?_
    have h1 : a % Bs ^ h < Bs ^ h := Nat.mod_lt _ (Nat.pow_pos (by decide))
    have h2 : a / Bs ^ h < Bs ^ h := by
      have := lim_lt (a / Bs ^ h)
      rw [la1] at this
      exact Nat.lt_of_lt_of_le this (Nat.pow_le_pow_right (by decide) (by omega))
    have h3 : Bs ^ (h + 1) = Bs ^ h * Bs := Nat.pow_succ ..
    have h4 : Bs ^ h * 2 ≤ Bs ^ h * Bs := Nat.mul_le_mul_left _ (by decide)
    omega
  have lsb : (lim (b % Bs ^ h + b / Bs ^ h)).length ≤ h + 1 := by
    refine lim_le ?_
    have h1 : b % Bs ^ h < Bs ^ h := Nat.mod_lt _ (Nat.pow_pos (by decide))
    have h2 : b / Bs ^ h < Bs ^ h := by
      have := lim_lt (b / Bs ^ h)
      rw [lb1] at this
      exact Nat.lt_of_lt_of_le this (Nat.pow_le_pow_right (by decide) (by omega))
    have h3 : Bs ^ (h + 1) = Bs ^ h * Bs := Nat.pow_succ ..
    have h4 : Bs ^ h * 2 ≤ Bs ^ h * Bs := Nat.mul_le_mul_left _ (by decide)
    omega
  generalize hV : a * b = V at hab K ⊢
  clear hV A0 B0 hA hB hlx hly
  generalize a % Bs ^ h = a0 at K tA rA la lsa
  generalize b % Bs ^ h = b0 at K tB rB lb lsb
  generalize a / Bs ^ h = a1 at K A1 la1 lsa
  generalize b / Bs ^ h = b1 at K B1 lb1 lsb
  have HH := Lib.hid hh
  clear hh
  have HF : Hid ((lim (a0 * b0)).length ≤ n + m ∧ h + (lim ((a0 + a1) * (b0 + b1) - a0 * b0 - a1 * b1)).length ≤ n + m ∧ 2 * h + (lim (a1 * b1)).length ≤ n + m) := by
    rw [K.1.1]
    refine ⟨?_, lim_part (V := V) (by omega) hab (by omega), lim_part (V := V) ?_ hab (by omega)⟩
    · have := lim_part (P := a0 * b0) (e := 0) (V := V) (by simp; omega) hab (by omega); omega
    · rw [show 2 * h = h + h by omega, Nat.pow_add]; omega
  have KK := Lib.hid K
  have TA := Lib.hid tA
  have TB := Lib.hid tB
  have RA := Lib.hid rA
  have RB := Lib.hid rB
  have AA1 := Lib.hid A1
  have BB1 := Lib.hid B1
  have HAB := Lib.hid hab
  have LSA := Lib.hid lsa
  have LSB := Lib.hid lsb
  clear K tA tB rA rB A1 B1 hab lsa lsb
  refine ⟨?_, fun hlt => ?_⟩
  all_goals
    go_enter Tryz.func85, Tryz.ntmps85
    go_upto_region 13 with (first
      | (at_make; refine make_u32 rfl _ _ rfl _ _ _ _ (n + m + 1) rfl rfl (by simp) (by simp) (by omega) ?_; intro w1 hx1 ho1; have hext1 := Lib.hid hx1; clear hx1)
     )
    have hhi2 : ((n : Int) + 1) / 2 = (h : Int) := by have := HH.out; omega
    simp only [hhi2]
    clear hhi2
    have hGl : w.heap.size < w1.heap.size := (ho1.out.lt w.heap.size rfl).2
    have hTA : ∀ x : Aft w1, Calls Tryz.prog 117 #[.slice (some ⟨bx, ox, none⟩) h c] x.out fun e w'' => e = .returned (.slice (some ⟨bx, ox, none⟩) (lim a0).length c) ∧ Ext x.out w'' := fun x => TA.out _ (ext_trans hext1.out x.use)
    have hTB : ∀ x : Aft w1, Calls Tryz.prog 117 #[.slice (some ⟨by', oy, none⟩) h d] x.out fun e w'' => e = .returned (.slice (some ⟨by', oy, none⟩) (lim b0).length d) ∧ Ext x.out w'' := fun x => TB.out _ (ext_trans hext1.out x.use)
    refine wp_aft_tail 8 (by kernel_rfl) (by kernel_rfl) (by kernel_rfl) (fun hq hqf => ?_)
    simp only [List.take_succ_cons, List.take_zero, List.drop_succ_cons, List.drop_zero]
    repeat (go_big_quiet_step (first
      | (go_at_call 117; exact aft_of (hTA _))
      | (go_at_call 117; exact aft_of (hTB _))
      ))
    refine wpQuiet_nil ?_
    rintro _ ⟨nq, rfl⟩
    have xl := ext_lt nq.use
    have xz := ext_size nq.use
    try simp at xz
    have hE2 := Lib.hid (ext_trans hext1.out nq.use)
    go_wp2_with (first
      | (go_at_call 85; (with_reducible refine (IH _ _ _ _ _ _ _ _ (by omega) _ (RA.out _ hE2.out) (RB.out _ hE2.out)).mono ?_); rintro e w3 ⟨A3, k3, c3, rfl, hR3, xb3⟩; obtain ⟨xc3, xf3, xl3, xz3⟩ := ext_use xb3; (try simp at xz3))
     )
    have hQ1 := Lib.hid nq.use
    have hE3 := Lib.hid (ext_trans hE2.out xb3)
    go_wp2
    refine wp_aft_tail 6 (by kernel_rfl) (by kernel_rfl) (by kernel_rfl) (fun hq hqf => ?_)
    simp only [List.take_succ_cons, List.take_zero, List.drop_succ_cons, List.drop_zero]
    repeat (go_big_quiet_step (first | fail
      ))
    refine wpQuiet_nil ?_
    rintro _ ⟨nq, rfl⟩
    have xl := ext_lt nq.use
    have xz := ext_size nq.use
    try simp at xz
    have hQ3 := Lib.hid nq.use
    have hE4 := Lib.hid (ext_trans hE3.out nq.use)
    go_wp2_with (first
      | (go_at_call 85; (with_reducible refine (IH _ _ _ _ _ _ _ _ (by omega) _ (AA1.out _ hE4.out) (BB1.out _ hE4.out)).mono ?_); rintro e w5 ⟨A5, k5, c5, rfl, hR5, xb5⟩; obtain ⟨xc5, xf5, xl5, xz5⟩ := ext_use xb5; (try simp at xz5))
     )
    have hE5 := Lib.hid (ext_trans hE4.out xb5)
    go_wp2
    have hTA5 : ∀ x : Aft w5, Calls Tryz.prog 117 #[.slice (some ⟨bx, ox, none⟩) h c] x.out fun e w'' => e = .returned (.slice (some ⟨bx, ox, none⟩) (lim a0).length c) ∧ Ext x.out w'' := fun x => TA.out _ (ext_trans hE5.out x.use)
    have hTB5 : ∀ x : Aft w5, Calls Tryz.prog 117 #[.slice (some ⟨by', oy, none⟩) h d] x.out fun e w'' => e = .returned (.slice (some ⟨by', oy, none⟩) (lim b0).length d) ∧ Ext x.out w'' := fun x => TB.out _ (ext_trans hE5.out x.use)
    have f1 : h ≤ c := by omega
    have f2 : h ≤ d := by omega
    have f3 : h ≤ n := by omega
    have f5 : ¬ c = h := by omega
    refine wp_drawn_tail 16 (tab [(7, RWord w5.heap.size (a0 + a1)), (15, RWord w5.heap.size (b0 + b1))]) (by kernel_rfl) (by kernel_rfl) (by kernel_rfl)
      (tab_stays (by simp [stays_word])) (fun hq hqf => ?_)
    simp only [List.take_succ_cons, List.take_zero, List.drop_succ_cons, List.drop_zero]
    iterate 7
      (refine wpK_det rfl (fun K hK => ?_)
       go_simp
       first
         | (refine hK _ ?_; clear hK K)
         | (apply Exists.intro; refine ⟨fun x => ?_, hK _ ?_⟩; (first | exact hTA5 x | (simp [f1, f2, f3, hhm, f5, hcx, hcy, hob]; rfl)); clear hK K))
    refine wpK_rel _ rfl rfl ?_ ?_
    · rintro _ ⟨nn, rfl⟩ _
      unfold Oper.relAt
      go_simp
      exact rel_add _ _ _ _ _ _ _ _ _ (by omega) (by omega) _ _ (ext_size nn.use) (RA.out _ (ext_trans hE5.out nn.use)) (AA1.out _ (ext_trans hE5.out nn.use))
    rintro v ⟨_, ⟨nn, rfl⟩, hr⟩
    obtain ⟨A6, k6, c6, rfl, -, -⟩ := hr
    clear nn
    iterate 7
      (refine wpK_det rfl (fun K hK => ?_)
       go_simp
       first
         | (refine hK _ ?_; clear hK K)
         | (apply Exists.intro; refine ⟨fun x => ?_, hK _ ?_⟩; (first | exact hTB5 x | (simp [f1, f2, f3, hhm, f5, hcx, hcy, hob]; rfl)); clear hK K))
    refine wpK_rel _ rfl rfl ?_ ?_
    · rintro _ ⟨nn, rfl⟩ _
      unfold Oper.relAt
      go_simp
      exact rel_add _ _ _ _ _ _ _ _ _ (by omega) (by omega) _ _ (ext_size nn.use) (RB.out _ (ext_trans hE5.out nn.use)) (BB1.out _ (ext_trans hE5.out nn.use))
    rintro v ⟨_, ⟨nn, rfl⟩, hr⟩
    obtain ⟨A7, k7, c7, rfl, -, -⟩ := hr
    clear nn
    refine wpK_nil ?_
    intro nq2 hG
    have r6 : RWord w5.heap.size (a0 + a1) [] (.slice A6 k6 c6) nq2.out := by have := hG.fact 7; simp [Facts.put] at this; exact this
    have r7 : RWord w5.heap.size (b0 + b1) [] (.slice A7 k7 c7) nq2.out := by have := hG.fact 15; simp [Facts.put] at this; exact this
    have hR6 := Lib.hid (rword_at r6).1
    have hR7 := Lib.hid (rword_at r7).1
    have hl6 := hR6.out.len
    have hl7 := hR7.out.len
    have ha6 := LSA.out
    have ha7 := LSB.out
    clear r6 r7 hG
    have hE6 := Lib.hid (ext_trans hE5.out nq2.use)
    have hk8 : (lim ((a0 + a1) * (b0 + b1))).length ≤ 1000000 := by have := lim_mul_len (a0 + a1) (b0 + b1); omega
    have hQ5 := Lib.hid nq2.use
    have hQ15 := Lib.hid (ext_trans (ext_trans (ext_trans hQ1.out xb3) (ext_trans hQ3.out xb5)) nq2.use)
    have hz3 := ext_size hQ1.out
    have hz5 := ext_size (ext_trans (ext_trans hQ1.out xb3) hQ3.out)
    have ap3 : Hid (∀ q, A3 = some q → q.block ≠ w.heap.size) := fun q hq => by have := Fr.at hR3.out.2 hq; omega
    have ap5 : Hid (∀ q, A5 = some q → q.block ≠ w.heap.size) := fun q hq => by have := Fr.at hR5.out.2 hq; omega
    clear hTA hTB hTA5 hTB5
    go_wp2_with (first
      | (go_at_call 85; (with_reducible refine (IH _ _ _ _ _ _ _ _ (by omega) _ hR6.out hR7.out).mono ?_); rintro e w8 ⟨A8, k8, c8, rfl, hR8, xb8⟩; obtain ⟨xc8, xf8, xl8, xz8⟩ := ext_use xb8; (try simp at xz8))
      | (go_at_call 119; (with_reducible refine (bw_sub A8 A3 k8 c8 k3 c3 ((a0 + a1) * (b0 + b1)) (a0 * b0) KK.out.1.2.1 (by rw [← hR8.out.1.len]; exact hk8) _ hR8.out.1 (hR3.out.1.ext (ext_trans (ext_trans (ext_trans hQ3.out xb5) hQ5.out) xb8))).mono ?_); rintro e w9 ⟨A9, k9, c9, rfl, hR9, xb9⟩; obtain ⟨xc9, xf9, xl9, xz9⟩ := ext_use xb9; (try simp at xz9))
      | (go_at_call 119; (with_reducible refine (bw_sub A9 A5 k9 c9 k5 c5 ((a0 + a1) * (b0 + b1) - a0 * b0) (a1 * b1) KK.out.1.2.2 (by rw [← hR9.out.1.len]; exact Nat.le_trans (lim_mono (Nat.sub_le _ _)) hk8) _ hR9.out.1 (hR5.out.1.ext (ext_trans (ext_trans hQ5.out xb8) xb9))).mono ?_); rintro e w10 ⟨A10, k10, c10, rfl, hR10, xb10⟩; obtain ⟨xc10, xf10, xl10, xz10⟩ := ext_use xb10; (try simp at xz10))
     )
    have hE10 := Lib.hid (ext_trans (ext_trans (ext_trans hE6.out xb8) xb9) xb10)
    have hown10 := Lib.hid (own_ext ho1.out (ext_trans (ext_trans (ext_trans hQ15.out xb8) xb9) xb10))
    have hz10 := ext_size (ext_trans (ext_trans hQ15.out xb8) xb9)
    have ap10 : Hid (∀ q, A10 = some q → q.block ≠ w.heap.size) := fun q hq => by have := Fr.at hR10.out.2 hq; omega
    have hR3' := Lib.hid (hR3.out.1.ext (ext_trans (ext_trans (ext_trans (ext_trans (ext_trans hQ3.out xb5) hQ5.out) xb8) xb9) xb10))
    have hR5' := Lib.hid (hR5.out.1.ext (ext_trans (ext_trans (ext_trans hQ5.out xb8) xb9) xb10))
    have hR10' := Lib.hid hR10.out.1
    have hv0 : val (List.replicate (n + m + 1) 0) = 0 := val_replicate _
    have hBig : V < Bs ^ (n + m + 1) := Nat.lt_of_lt_of_le HAB.out (Nat.pow_le_pow_right (by decide) (by omega))
    obtain ⟨M, hM⟩ : ∃ M, M = (a0 + a1) * (b0 + b1) - a0 * b0 - a1 * b1 := ⟨_, rfl⟩
    have hVV : V = a0 * b0 + Bs ^ h * M + Bs ^ (2 * h) * (a1 * b1) := by
      rw [hM, KK.out.1.1, show 2 * h = h + h by omega, Nat.pow_add]
      exact KK.out.2
    have HFF := HF.out
    rw [← hM] at HFF hR10'
    have HFF := Lib.hid HFF
    have HVV := Lib.hid hVV
    have HBig := Lib.hid hBig
    have HV0 := Lib.hid hv0
    clear hv0 hBig hVV hM
    go_wp2_with (first
      | (go_at_call 116; (with_reducible refine (addAt_call w.heap.size w.heap.size (n + m + 1) A3 k3 c3 (a0 * b0) 0 0 rfl (List.replicate (n + m + 1) 0) w10 hown10 (lb_replicate _) hR3'.out ap3.out (by rw [HV0.out]; have := HVV.out; have := HBig.out; simp; omega) (by omega) (by have := HFF.out.1; omega)).mono ?_); rintro e w11 ⟨os1, rfl, hown11, hos11, hg11⟩)
      | (go_at_call 116; (with_reducible refine (addAt_call w.heap.size w.heap.size (n + m + 1) A10 k10 c10 M h (h : Int) rfl os1 w11 hown11 hos11.out.1 (rd_only hR10'.out hg11 ap10.out) ap10.out (by rw [hos11.out.2, HV0.out]; have := HVV.out; have := HBig.out; simp; omega) (by omega) (by have := HFF.out.2.1; omega)).mono ?_); rintro e w12 ⟨os2, rfl, hown12, hos12, hg12⟩)
      | (go_at_call 116; (with_reducible refine (addAt_call w.heap.size w.heap.size (n + m + 1) A5 k5 c5 (a1 * b1) (2 * h) (2 * (h : Int)) (by omega) os2 w12 hown12 hos12.out.1 (rd_only (rd_only hR5'.out hg11 ap5.out) hg12 ap5.out) ap5.out (by rw [hos12.out.2, hos11.out.2, HV0.out]; have := HVV.out; have := HBig.out; simp; omega) (by omega) (by have := HFF.out.2.2; omega)).mono ?_); rintro e w13 ⟨os3, rfl, hown13, hos13, hg13⟩)
      | (go_at_call 117; (with_reducible refine (bw_trim_own (V := V) hown13.out hos13.out.1 (by rw [hos13.out.2, hos12.out.2, hos11.out.2, HV0.out]; have := HVV.out; simp; omega)).mono ?_); rintro e w' ⟨⟨k, rfl, hR⟩, rfl⟩)
     )
    refine bodyPost_ret (v := .slice (some ⟨w.heap.size, 0, none⟩) k (n + m + 1)) ?h rfl ⟨_, k, n + m + 1, rfl, ⟨hR.out, fun q hq => ?_⟩, only_ext (only_ext (only_ext hE10.out hg11.out (Nat.le_refl _)) hg12.out (Nat.le_refl _)) hg13.out (Nat.le_refl _)⟩
    case h => simp [results, Tryz.results85, go_sem]
    cases hq; exact Nat.le_refl _
theorem bw_mul : ∀ (N : Nat) (A B : Option Addr) (n c m d a b : Nat), n + m = N → N ≤ 200000 → ∀ w, Rd w A n c (lim a) → Rd w B m d (lim b) → Calls Tryz.prog 85 #[.slice A n c, .slice B m d] w (WPost w (a * b)) := by
  intro N
  induction N using Nat.strongRecOn with
  | _ N ih =>
    have core : ∀ (A B : Option Addr) (n c m d a b : Nat), m ≤ n → n + m = N → N ≤ 200000 → ∀ w, Rd w A n c (lim a) → Rd w B m d (lim b) →
        (Calls Tryz.prog 85 #[.slice A n c, .slice B m d] w (WPost w (a * b))) ∧ (m < n → Calls Tryz.prog 85 #[.slice B m d, .slice A n c] w (WPost w (a * b))) := by
      intro A B n c m d a b hnm hN hs w hA hB
      subst hN
      have IH : ∀ (A B : Option Addr) (n' c m' d a b : Nat), n' + m' < n + m → ∀ w, Rd w A n' c (lim a) → Rd w B m' d (lim b) → Calls Tryz.prog 85 #[.slice A n' c, .slice B m' d] w (WPost w (a * b)) :=
        fun A B n' c m' d a b h w hA hB => ih _ h A B n' c m' d a b rfl (by omega) w hA hB
      by_cases hm : m < 40
      · exact bw_mul_small A B n c m d a b hnm hs hm w hA hB
      · by_cases h2 : 2 * m ≤ n
        · exact bw_mul_long A B n c m d a b h2 hs (by omega) w hA hB IH
        · exact bw_mul_kara A B n c m d a b hnm (by omega) hs (by omega) w hA hB IH
    intro A B n c m d a b hN hs w hA hB
    rcases Nat.lt_or_ge n m with h | h
    · have := (core B A m d n c b a (by omega) (by omega) hs w hB hA).2 h
      rwa [Nat.mul_comm] at this
    · exact (core A B n c m d a b h hN hs w hA hB).1
end Go.Proofs.YtdjegfnkpagdaaaGreatDoor
end
section
/- Words of the library's: shifts. -/
namespace Go.Proofs.YtdjegfnkpagdaaaGreatDoor
open Go.RowKit
attribute [local go_sem] sz2 sz3 sz4 sz5 sz6 sz7 sz8
set_option maxHeartbeats 4000000
set_option maxRecDepth 100000
attribute [local irreducible] Calls
theorem or_add {q c s : Nat} (h : c < 2 ^ s) : c ||| 2 ^ s * q = 2 ^ s * q + c := by rw [Nat.two_pow_add_eq_or_of_lt h, Nat.or_comm]
theorem bw_one (A : Option Addr) (n c a : Nat) (w : World) (hA : Rd w A n c (lim a)) : Calls Tryz.prog 141 #[.slice A n c] w fun e w' => e = .returned (.bool (decide (a = 1))) ∧ w = w' := by
  have hlen := hA.len
  have hmx := hA.mx
  have hcap := hA.cap
  by_cases hn : n = 1
  · subst hn
    rcases hA.shape with ⟨_, h, _⟩ | ⟨b, off, rfl⟩
    · cases h
    obtain ⟨x, hx, hxb, hcx⟩ := hA.get 0 (by omega)
    rw [Nat.add_zero] at hcx
    have hax : a = x := by
      have hv := val_lim a
      match hq : lim a, hlen with
      | [z], _ =>
        rw [hq] at hv
        have h1 := hx.out
        rw [hq] at h1
        simp [val] at hv h1
        omega
    subst hax
    clear hA hlen hx
    by_cases h1 : a = 1
    · subst h1
      go_enter Tryz.func141, Tryz.ntmps141
      go_wp2
      go_ret
      exact ⟨rfl, rfl⟩
    · have hne : ((a : Int) == 1) = false := by rw [beq_eq_false_iff_ne]; omega
      have hd : decide (a = 1) = false := by simp [h1]
      rw [hd]
      go_enter Tryz.func141, Tryz.ntmps141
      go_wp2
      go_ret
      exact ⟨rfl, rfl⟩
  · have hd : decide (a = 1) = false := by
      simp
      rintro rfl
      have : lim 1 = [1] := by rw [lim_pos (by decide)]; simp [lim_zero, Bs]
      rw [this] at hlen
      simp at hlen; omega
    have hne : ((n : Int) == 1) = false := by rw [beq_eq_false_iff_ne]; omega
    rw [hd]
    clear hA hlen hd
    go_enter Tryz.func141, Tryz.ntmps141
    go_wp2
    go_ret
    exact ⟨rfl, rfl⟩
theorem pow_s {s : Nat} (h : s < 32) : 2 ^ s * 2 ^ (32 - s) = 4294967296 ∧ 0 < 2 ^ s ∧ 2 ^ s ≤ 2147483648 := by
  refine ⟨by rw [← Nat.pow_add, show s + (32 - s) = 32 by omega], Nat.two_pow_pos s, ?_⟩
  exact Nat.pow_le_pow_right (by decide) (show s ≤ 31 by omega)
theorem shl_wrap {x s : Nat} (hx : x < 4294967296) (hs : s < 32) : IntKind.u64.wrap ((x : Int) * 2 ^ s) = ((2 ^ s * x : Nat) : Int) ∧ 2 ^ s * x < 9223372036854775808 ∧ 2 ^ s * x / 4294967296 < 2 ^ s := by
  obtain ⟨h1, h2, h3⟩ := pow_s hs
  have h4 : 2 ^ s * x ≤ 2147483648 * 4294967295 := Nat.mul_le_mul h3 (by omega)
  have e : (x : Int) * 2 ^ s = ((2 ^ s * x : Nat) : Int) := by rw [Nat.mul_comm]; simp
  refine ⟨?_, by omega, ?_⟩
  · rw [e, IntKind.wrap_u64]; omega
  · rw [Nat.div_lt_iff_lt_mul (by decide)]
    exact Nat.mul_lt_mul_of_pos_left (by omega) h2
theorem or_low {x s cy : Nat} (hs : s < 32) (hc : cy < 2 ^ s) : bits .or .u32 (cy : Int) (((2 ^ s * x : Nat) : Int) % 4294967296) = ((2 ^ s * x % 4294967296 + cy : Nat) : Int) ∧ 2 ^ s * x % 4294967296 + cy < 4294967296 := by
  obtain ⟨h1, h2, h3⟩ := pow_s hs
  have e : 2 ^ s * x % 4294967296 = 2 ^ s * (x % 2 ^ (32 - s)) := by rw [← h1, Nat.mul_mod_mul_left]
  have hlt : 2 ^ s * (x % 2 ^ (32 - s)) + cy < 4294967296 := by
    have h5 : x % 2 ^ (32 - s) + 1 ≤ 2 ^ (32 - s) := Nat.mod_lt _ (Nat.two_pow_pos _)
    have h6 := Nat.mul_le_mul_left (2 ^ s) h5
    rw [h1, Nat.mul_add, Nat.mul_one] at h6
    omega
  have e2 : (((2 ^ s * x : Nat) : Int) % 4294967296) = ((2 ^ s * x % 4294967296 : Nat) : Int) := by omega
  rw [e2, bits_or32 _ _ (by omega) (by omega), e, or_add hc]
  exact ⟨rfl, hlt⟩
theorem up_step {os : List Nat} {N i k s x cy V : Nat} (hs : s < 32) (hl : os.length = N) (hN : i + k + 1 < N) (hb : Lb os) (hc : os.getD (i + k) 0 = cy) (hcs : cy < 2 ^ s) (hz : ∀ p, i + k < p → os.getD p 0 = 0) (hx : x < 4294967296) (hv : val os = Bs ^ k * (2 ^ s * V)) :
    Lb ((os.set (i + k) (2 ^ s * x % 4294967296 + cy)).set (i + k + 1) (2 ^ s * x / 4294967296)) ∧ val ((os.set (i + k) (2 ^ s * x % 4294967296 + cy)).set (i + k + 1) (2 ^ s * x / 4294967296)) = Bs ^ k * (2 ^ s * (V + Bs ^ i * x)) := by
  have hw := shl_wrap hx hs
  have ho := (or_low (x := x) hs hcs).2
  have hp := pow_s hs
  refine ⟨lb_set (lb_set hb _ ho) _ (by unfold Bs; omega), ?_⟩
  have h1 := val_set os (i + k) (2 ^ s * x % 4294967296 + cy) (by omega)
  have h2 := val_set (os.set (i + k) (2 ^ s * x % 4294967296 + cy)) (i + k + 1) (2 ^ s * x / 4294967296) (by rw [List.length_set]; omega)
  rw [hc] at h1
  rw [getD_set_ne (by omega), hz _ (by omega), Nat.mul_zero, Nat.add_zero] at h2
  rw [h2]
  have h3 : Bs ^ (i + k) * (2 ^ s * x % 4294967296 + cy) + Bs ^ (i + k + 1) * (2 ^ s * x / 4294967296) = Bs ^ (i + k) * (2 ^ s * x) + Bs ^ (i + k) * cy := by
    rw [Nat.pow_succ, Nat.mul_assoc, ← Nat.mul_add, ← Nat.mul_add]
    congr 1
    have := Nat.mod_add_div (2 ^ s * x) 4294967296
    unfold Bs
    omega
  have h4 : Bs ^ k * (2 ^ s * (V + Bs ^ i * x)) = Bs ^ k * (2 ^ s * V) + Bs ^ (i + k) * (2 ^ s * x) := by
    rw [Nat.mul_add, Nat.mul_add]
    congr 1
    rw [Nat.pow_add, Nat.mul_left_comm (2 ^ s), ← Nat.mul_assoc, Nat.mul_comm (Bs ^ k)]
  rw [h4]
  omega
theorem bw_up (A : Option Addr) (n c a : Nat) (z : Nat) (hn : n ≤ 500000) (hz : z ≤ 16000000) (w : World) (hA : Rd w A n c (lim a)) :
    Calls Tryz.prog 135 #[.slice A n c, .int .i64 (z : Int)] w (WPost w (a * 2 ^ z)) := by
  have hmx := hA.mx
  have hcx := hA.cap
  have HA := Lib.hid hA
  have hlx := Lib.hid hA.len
  have hlen := hA.len
  clear hA
  by_cases h0 : n = 0
  · subst h0
    have ha : a = 0 := lim_nil.1 (List.eq_nil_of_length_eq_zero hlen)
    subst ha
    clear hlen
    go_enter Tryz.func135, Tryz.ntmps135
    go_wp2
    refine bodyPost_ret (v := .slice none 0 0) ?h rfl ⟨none, 0, 0, rfl, ⟨by rw [Nat.zero_mul, lim_zero]; exact Rd.nil _, fun a h => by cases h⟩, ext_refl _⟩
    case h => simp [results, Tryz.results135, go_sem]
  · obtain ⟨bx, ox, hXe⟩ : ∃ b off, A = some ⟨b, off, none⟩ := by
      rcases HA.out.shape with ⟨_, h, _⟩ | h
      · omega
      · exact h
    subst hXe
    obtain ⟨k, hk⟩ : ∃ k, k = z / 32 := ⟨_, rfl⟩
    obtain ⟨s, hs⟩ : ∃ s, s = z % 32 := ⟨_, rfl⟩
    have hs32 : s < 32 := by omega
    have hk5 : k ≤ 500000 := by omega
    have hkz : z = 32 * k + s := by omega
    have e1 : (z : Int) / 32 = (k : Int) := by omega
    have e2 : (z : Int) % 32 = (s : Int) := by omega
    have HKZ := Lib.hid hkz
    clear hlen hk hs hkz
    go_enter Tryz.func135, Tryz.ntmps135
    go_wp2_with (first
      | (at_make; refine make_u32 rfl _ _ rfl _ _ _ _ (n + k + 1) rfl rfl (by simp) (by simp) (by omega) ?_; intro w1 hx1 ho1; have hext1 := Lib.hid hx1; clear hx1)
     )
    have hGl : w.heap.size < w1.heap.size := (ho1.out.lt w.heap.size rfl).2
    go_loopw [8] (fun vi wr => ∃ (i cy : Nat) (os : List Nat), i ≤ n ∧ vi = .int .i64 (i : Int) ∧ Hid (os.length = n + k + 1 ∧ Lb os ∧ val os = Bs ^ k * (2 ^ s * val ((lim a).take i)) ∧ (os.getD (i + k) 0 = cy ∧ cy < 2 ^ s) ∧ ∀ p, i + k < p → os.getD p 0 = 0) ∧
        Hid (wr.ownsRow w.heap.size 60 1 (.slice (some ⟨w.heap.size, 0, none⟩) (n + k + 1) (n + k + 1)) (n + k + 1) (os.map u32V)) ∧ Hid (Ext w wr))
      (fun vi _ => n - (intOf vi).toNat)
    case atStart => exact ⟨0, 0, List.replicate (n + k + 1) 0, Nat.zero_le _, rfl, ⟨by simp, lb_replicate _, by rw [val_replicate]; simp [val], ⟨getD_replicate0 _ _, Nat.two_pow_pos s⟩, fun p _ => getD_replicate0 _ _⟩, ho1.out, hext1.out⟩
    case round =>
      clear ho1 hext1
      obtain ⟨i, cy, os, hi, rfl, hos, hown, hext⟩ := hrel
      by_cases h1 : i < n
      · obtain ⟨x, hx, hxb, hcx1⟩ := (HA.out.ext hext.out).get i h1
        obtain ⟨hc1, hf1⟩ := own_at hown.out (i + k) (by omega)
        obtain ⟨hc2, hf2⟩ := own_at hown.out (i + k + 1) (by omega)
        rw [hos.out.2.2.2.1.1] at hc1
        rw [hos.out.2.2.2.2 (i + k + 1) (by omega)] at hc2
        obtain ⟨w1', w2', w3'⟩ := shl_wrap hxb hs32
        obtain ⟨o1, o2⟩ := or_low (x := x) hs32 hos.out.2.2.2.1.2
        have hu := up_step (V := val ((lim a).take i)) hs32 hos.out.1 (by omega) hos.out.2.1 hos.out.2.2.2.1.1 hos.out.2.2.2.1.2 hos.out.2.2.2.2 hxb hos.out.2.2.1
        have O1 := Lib.hid o1
        have O2 := Lib.hid w1'
        have O3 := Lib.hid (show 2 ^ s * x / 4294967296 < 4294967296 ∧ 2 ^ s * x / 4294967296 < 2 ^ s from ⟨by omega, w3'⟩)
        have HU := Lib.hid hu
        clear o1 o2 w1' w2' w3' hu
        go_wp2
        case roundEnd =>
          refine ⟨⟨i + 1, 2 ^ s * x / 4294967296, (os.set (i + k) (2 ^ s * x % 4294967296 + cy)).set (i + k + 1) (2 ^ s * x / 4294967296), by omega, by simp, ⟨by simp [hos.out.1], HU.out.1, ?_, ⟨?_, O3.out.2⟩, fun p hp => ?_⟩, ?_, ?_⟩, ?_⟩
          · rw [HU.out.2, val_take_succ, hx.out]
          · rw [show i + 1 + k = i + k + 1 by omega, List.getD_eq_getElem?_getD, List.getElem?_set_self (by rw [List.length_set, hos.out.1]; omega)]; rfl
          · rw [getD_set_ne (by omega), getD_set_ne (by omega)]; exact hos.out.2.2.2.2 p (by omega)
          · show World.ownsRow _ _ _ _ _ _ _
            rw [O2.out, O1.out, show ((2 ^ s * x : Nat) : Int) / 4294967296 % 4294967296 = ((2 ^ s * x / 4294967296 : Nat) : Int) by have := O3.out.1; omega]
            exact own_set (own_set hown.out _ _) _ _
          · exact ext_setCell (ext_setCell hext.out (Nat.le_refl _) _) (Nat.le_refl _) _
          · simp [intOf]; omega
      · obtain rfl : i = n := by omega
        have hv : val os = a * 2 ^ z := by
          rw [hos.out.2.2.1, take_ge (by rw [hlx.out]; exact Nat.le_refl _), val_lim, HKZ.out, Nat.pow_add, Nat.mul_comm a, Nat.pow_mul, ← Nat.mul_assoc]
        have hT := bw_trim_own hown.out hos.out.2.1 hv
        have hE := hext.out
        clear hv
        go_wp2_with (first
          | (go_at_call 117; (with_reducible refine hT.mono ?_); rintro e w' ⟨⟨j, rfl, hR⟩, rfl⟩)
         )
        refine bodyPost_ret (v := .slice (some ⟨w.heap.size, 0, none⟩) j (i + k + 1)) ?h rfl ⟨_, j, i + k + 1, rfl, ⟨hR.out, fun q hq => ?_⟩, hE⟩
        case h => simp [results, Tryz.results135, go_sem]
        cases hq; exact Nat.le_refl _
theorem or_shift' (r x : Nat) (hr : r < 4294967296) (hx : x < 4294967296) : bits BinOp.or IntKind.u64 (x : Int) ((r : Int) * 4294967296) = ((r * 4294967296 + x : Nat) : Int) := by
  rw [← or_shift r x hr hx]
  show IntKind.u64.wrap ((BitVec.ofInt 64 _ ||| BitVec.ofInt 64 _).toNat : Int) = IntKind.u64.wrap ((BitVec.ofInt 64 _ ||| BitVec.ofInt 64 _).toNat : Int)
  rw [BitVec.or_comm]
theorem limb_at (a j : Nat) : (lim a).getD j 0 = a / Bs ^ j % Bs := by
  have h := lim_drop j a
  have e : (lim a).getD j 0 = ((lim a).drop j).getD 0 0 := by rw [List.getD_eq_getElem?_getD, List.getD_eq_getElem?_getD, List.getElem?_drop, Nat.add_zero]
  rw [e, h]
  by_cases h0 : a / Bs ^ j = 0
  · rw [h0, lim_zero]; rfl
  · rw [lim_pos h0]; rfl
theorem div_limb_aux (T R s M : Nat) : (T + 2 ^ s * (R * M)) / 2 ^ s % M = T / 2 ^ s % M := by rw [Nat.add_mul_div_left _ _ (Nat.two_pow_pos s), Nat.add_mul_mod_self_right]
theorem div_limb {D s T : Nat} (hs : s < 32) (hT : T = D / Bs % Bs * 4294967296 + D % Bs) : T / 2 ^ s % 4294967296 = D / 2 ^ s % Bs := by
  obtain ⟨h1, h2, h3⟩ := pow_s hs
  have e : D = T + 2 ^ s * ((2 ^ (32 - s) * (D / Bs / Bs)) * Bs) := by
    have a1 := Nat.mod_add_div D Bs
    have a2 := Nat.mod_add_div (D / Bs) Bs
    have a3 : 2 ^ s * ((2 ^ (32 - s) * (D / Bs / Bs)) * Bs) = Bs * (Bs * (D / Bs / Bs)) := by
      rw [Nat.mul_comm _ Bs, Nat.mul_left_comm, ← Nat.mul_assoc (2 ^ s), h1]
    rw [a3]
    have a4 : Bs * (D / Bs) = Bs * (D / Bs % Bs) + Bs * (Bs * (D / Bs / Bs)) := by rw [← Nat.mul_add, a2]
    have a5 : D / Bs % Bs * 4294967296 = Bs * (D / Bs % Bs) := by rw [Nat.mul_comm]
    omega
  have h := div_limb_aux T (2 ^ (32 - s) * (D / Bs / Bs)) s Bs
  rw [← e] at h
  exact h.symm
theorem take_set_self {l : List Nat} {i y : Nat} : (l.set i y).take i = l.take i := by
  rw [List.take_set_of_le (Nat.le_refl _)]
theorem bw_down_core (A : Option Addr) (n c a : Nat) (z : Nat) (hn : n ≤ 500000) (hz : z ≤ 16000000) (w : World) (hA : Rd w A n c (lim a)) :
    Calls Tryz.prog 153 #[.slice A n c, .int .i64 (z : Int)] w fun e w' => ∃ (A : Option Addr) (k c : Nat), e = .returned (.slice A k c) ∧ Hid (Rd w' A k c (lim (a / 2 ^ z)) ∧ Fr w A ∧ ∀ q, A = some q → q.block < w'.heap.size) ∧ Ext w w' := by
  have hmx := hA.mx
  have hcx := hA.cap
  have HA := Lib.hid hA
  have hlx := Lib.hid hA.len
  clear hA
  obtain ⟨k, hk⟩ : ∃ k, k = z / 32 := ⟨_, rfl⟩
  obtain ⟨s, hs⟩ : ∃ s, s = z % 32 := ⟨_, rfl⟩
  have hs32 : s < 32 := by omega
  have hk5 : k ≤ 500000 := by omega
  have hkz : z = 32 * k + s := by omega
  have e1 : (z : Int) / 32 = (k : Int) := by omega
  have e2 : (z : Int) % 32 = (s : Int) := by omega
  have HKZ := Lib.hid hkz
  clear hk hs hkz
  have hpz : Hid (a / 2 ^ z = (a / Bs ^ k) / 2 ^ s) := by
    show _ = _
    rw [HKZ.out, Nat.pow_add, Nat.pow_mul, Nat.div_div_eq_div_mul]
  by_cases h0 : n ≤ k
  · have hv : Hid (a / 2 ^ z = 0) := by
      show _ = _
      rw [hpz.out, Nat.div_eq_of_lt (Nat.lt_of_lt_of_le (lim_lt a) (Nat.pow_le_pow_right (by decide) (by rw [hlx.out]; exact h0))), Nat.zero_div]
    go_enter Tryz.func153, Tryz.ntmps153
    go_wp2
    refine bodyPost_ret (v := .slice none 0 0) ?h rfl ⟨none, 0, 0, rfl, ⟨by rw [hv.out, lim_zero]; exact Rd.nil _, (fun a h => by cases h), (fun a h => by cases h)⟩, ext_refl _⟩
    case h => simp [results, Tryz.results153, go_sem]
  · obtain ⟨bx, ox, hXe⟩ : ∃ b off, A = some ⟨b, off, none⟩ := by
      rcases HA.out.shape with ⟨_, h, _⟩ | h
      · omega
      · exact h
    subst hXe
    obtain ⟨q, hq⟩ : ∃ q, n = k + q := ⟨n - k, by omega⟩
    subst hq
    have hq0 : 0 < q := by omega
    go_enter Tryz.func153, Tryz.ntmps153
    go_wp2_with (first
      | (at_make; refine make_u32 rfl _ _ rfl _ _ _ _ q rfl rfl (by omega) (by omega) (by omega) ?_; intro w1 hx1 ho1; have hext1 := Lib.hid hx1; clear hx1)
     )
    have hGl : w.heap.size < w1.heap.size := (ho1.out.lt w.heap.size rfl).2
    go_loopw [8] (fun vi wr => ∃ (i : Nat) (os : List Nat), i ≤ q ∧ vi = .int .i64 (i : Int) ∧ Hid (os.length = q ∧ Lb os ∧ val (os.take i) = (a / Bs ^ k / 2 ^ s) % Bs ^ i ∧ ∀ p, i ≤ p → os.getD p 0 = 0) ∧
        Hid (wr.ownsRow w.heap.size 60 1 (.slice (some ⟨w.heap.size, 0, none⟩) q q) q (os.map u32V)) ∧ Hid (Ext w wr))
      (fun vi _ => q - (intOf vi).toNat)
    case atStart => exact ⟨0, List.replicate q 0, Nat.zero_le _, rfl, ⟨by simp, lb_replicate _, by simp [val, Nat.mod_one], fun p _ => getD_replicate0 _ _⟩, ho1.out, hext1.out⟩
    case round =>
      clear ho1 hext1
      obtain ⟨i, os, hi, rfl, hos, hown, hext⟩ := hrel
      by_cases h1 : i < q
      · obtain ⟨x, hx, hxb, hcx1⟩ := (HA.out.ext hext.out).get (i + k) (by omega)
        obtain ⟨hc1, hf1⟩ := own_at hown.out i (by omega)
        have fin : ∀ (y : Nat) (v : Int), (lim a).getD (i + k + 1) 0 = y → v = (((y * 4294967296 + x) / 2 ^ s % 4294967296 : Nat) : Int) → ∃ (i' : Nat) (os' : List Nat), i' ≤ q ∧ Value.int IntKind.i64 ((i : Int) + 1) = .int .i64 (i' : Int) ∧ Hid (os'.length = q ∧ Lb os' ∧ val (os'.take i') = (a / Bs ^ k / 2 ^ s) % Bs ^ i' ∧ ∀ p, i' ≤ p → os'.getD p 0 = 0) ∧
            Hid ((wr.setCell ⟨w.heap.size, i, none⟩ (.int .u32 v)).ownsRow w.heap.size 60 1 (.slice (some ⟨w.heap.size, 0, none⟩) q q) q (os'.map u32V)) ∧ Hid (Ext w (wr.setCell ⟨w.heap.size, i, none⟩ (.int .u32 v))) := by
          rintro y v hy rfl
          refine ⟨i + 1, os.set i ((y * 4294967296 + x) / 2 ^ s % 4294967296), by omega, by simp, ⟨by simp [hos.out.1], lb_set hos.out.2.1 _ (Nat.mod_lt _ (by decide)), ?_, fun p hp => by rw [getD_set_ne (by omega)]; exact hos.out.2.2.2 p (by omega)⟩, own_set hown.out _ _, ext_setCell hext.out (Nat.le_refl _) _⟩
          have e1 : x = a / Bs ^ (i + k) % Bs := by rw [← hx.out]; exact limb_at _ _
          have e2 : y = a / Bs ^ (i + k) / Bs % Bs := by rw [← hy, limb_at, Nat.pow_succ, Nat.div_div_eq_div_mul]
          have e3 : a / Bs ^ k / 2 ^ s / Bs ^ i = a / Bs ^ (i + k) / 2 ^ s := by rw [Nat.div_div_eq_div_mul, Nat.div_div_eq_div_mul, Nat.div_div_eq_div_mul, Nat.pow_add, Nat.mul_comm (2 ^ s), ← Nat.mul_assoc, Nat.mul_comm (Bs ^ k)]
          have e4 := div_limb (D := a / Bs ^ (i + k)) (T := y * 4294967296 + x) hs32 (by rw [← e1, ← e2])
          have e5 : (os.set i ((y * 4294967296 + x) / 2 ^ s % 4294967296)).getD i 0 = (y * 4294967296 + x) / 2 ^ s % 4294967296 := by
            rw [List.getD_eq_getElem?_getD, List.getElem?_set_self (by rw [hos.out.1]; omega), Option.getD_some]
          rw [val_take_succ, take_set_self, hos.out.2.2.1, Nat.mod_pow_succ, e5, e4, e3]
        have HF := Lib.hid fin
        clear fin
        by_cases h2 : i + k + 1 < k + q
        · obtain ⟨y, hy, hyb, hcy1⟩ := (HA.out.ext hext.out).get (i + k + 1) (by omega)
          have O1 := Lib.hid (or_shift' y x hyb hxb)
          go_wp2
          case roundEnd =>
            refine ⟨HF.out y _ hy.out (by rw [O1.out]; simp), ?_⟩
            simp [intOf]; omega
        · have hy0 : (lim a).getD (i + k + 1) 0 = 0 := getD_ge (by rw [hlx.out]; omega)
          have HY := Lib.hid hy0
          clear hy0
          go_wp2
          case roundEnd =>
            refine ⟨HF.out 0 _ HY.out (by simp), ?_⟩
            simp [intOf]; omega
      · obtain rfl : i = q := by omega
        have hv : val os = a / 2 ^ z := by
          have h3 := hos.out.2.2.1
          rw [take_ge (by rw [hos.out.1]; exact Nat.le_refl _)] at h3
          rw [h3, hpz.out]
          refine Nat.mod_eq_of_lt (Nat.lt_of_le_of_lt (Nat.div_le_self _ _) ?_)
          rw [Nat.div_lt_iff_lt_mul (Nat.pow_pos (by decide)), ← Nat.pow_add]
          have := lim_lt a
          rw [hlx.out] at this
          rwa [Nat.add_comm i k]
        have hT := bw_trim_own hown.out hos.out.2.1 hv
        have hE := hext.out
        have hlt := (hown.out.lt w.heap.size rfl).2
        clear hv
        go_wp2_with (first
          | (go_at_call 117; (with_reducible refine hT.mono ?_); rintro e w' ⟨⟨j, rfl, hR⟩, rfl⟩)
         )
        refine bodyPost_ret (v := .slice (some ⟨w.heap.size, 0, none⟩) j i) ?h rfl ⟨_, j, i, rfl, ⟨hR.out, fun q hq => ?_, fun q hq => ?_⟩, hE⟩
        case h => simp [results, Tryz.results153, go_sem]
        · cases hq; exact Nat.le_refl _
        · cases hq; exact hlt
theorem bw_down (A : Option Addr) (n c a : Nat) (z : Nat) (hn : n ≤ 500000) (hz : z ≤ 16000000) (w : World) (hA : Rd w A n c (lim a)) :
    Calls Tryz.prog 153 #[.slice A n c, .int .i64 (z : Int)] w (WPost w (a / 2 ^ z)) := by
  refine (bw_down_core A n c a z hn hz w hA).mono ?_
  rintro e w' ⟨A', k, c', he, h1, h2⟩
  exact ⟨A', k, c', he, ⟨h1.out.1, h1.out.2.1⟩, h2⟩
end Go.Proofs.YtdjegfnkpagdaaaGreatDoor
end
section
/- The document's differences, order, product. -/
namespace Go.Proofs.YtdjegfnkpagdaaaGreatDoor
open Go.RowKit
attribute [local go_sem] sz2 sz3 sz4 sz5 sz6 sz7 sz8
set_option maxHeartbeats 4000000
set_option maxRecDepth 100000
theorem less_step {os xs ys : List Nat} {k lt x y : Nat} (hl : os.length = k) (hb : lt ≤ 1) (hxb : x < 4294967296) (hyb : y < 4294967296) (hv : val os + val (ys.take k) = val (xs.take k) + Bs ^ k * lt) (hx : xs.getD k 0 = x) (hy : ys.getD k 0 = y) :
    val (os ++ [(x + 4294967296 - y - lt) % 4294967296]) + val (ys.take (k + 1)) = val (xs.take (k + 1)) + Bs ^ (k + 1) * (1 - (x + 4294967296 - y - lt) / 4294967296) := by
  have h2 : (x + 4294967296 - y - lt) % 4294967296 + y + lt = x + Bs * (1 - (x + 4294967296 - y - lt) / 4294967296) := by
    unfold Bs
    omega
  have h3 : Bs ^ k * ((x + 4294967296 - y - lt) % 4294967296) + Bs ^ k * y + Bs ^ k * lt = Bs ^ k * x + Bs ^ (k + 1) * (1 - (x + 4294967296 - y - lt) / 4294967296) := by
    rw [← Nat.mul_add, ← Nat.mul_add, h2, Nat.mul_add, Nat.pow_succ, Nat.mul_assoc]
  rw [val_snoc, hl, val_take_succ, val_take_succ, hx, hy]
  omega
attribute [local irreducible] Calls
theorem rcmp_any (A B : Option Addr) (n c m d a b : Nat) (w : World) (hA : Rd w A n c (lim a)) (hB : Rd w B m d (lim b)) :
    Calls Tryz.prog 73 #[.slice A n c, .slice B m d] w fun e w' => e = .returned (.int .i64 (cmpN a b)) ∧ Ext w w' := by
  have hmx := hA.mx
  have hmy := hB.mx
  have hcx := hA.cap
  have hcy := hB.cap
  have HA := Lib.hid hA
  have HB := Lib.hid hB
  have hlx := Lib.hid hA.len
  have hly := Lib.hid hB.len
  clear hA hB
  by_cases h1 : n < m
  · have e : cmpN a b = -1 := by
      unfold cmpN
      rw [if_pos (val_lt_len (by rw [hlx.out, hly.out]; exact h1))]
    rw [e]
    clear e
    have hnm : ((n : Int) == (m : Int)) = false := by rw [beq_eq_false_iff_ne]; omega
    go_enter Tryz.func73, Tryz.ntmps73
    go_wp2
    go_ret
    exact ⟨rfl, ext_refl _⟩
  by_cases h2 : m < n
  · have e : cmpN a b = 1 := by
      have := val_lt_len (a := b) (b := a) (by rw [hlx.out, hly.out]; exact h2)
      unfold cmpN
      rw [if_neg (by omega), if_pos this]
    rw [e]
    clear e
    have hnm : ((n : Int) == (m : Int)) = false := by rw [beq_eq_false_iff_ne]; omega
    go_enter Tryz.func73, Tryz.ntmps73
    go_wp2
    go_ret
    exact ⟨rfl, ext_refl _⟩
  obtain rfl : m = n := by omega
  clear h1 h2
  go_enter Tryz.func73, Tryz.ntmps73
  go_wp2
  go_loopw [5] (fun vi wr => ∃ k : Nat, k ≤ m ∧ vi = .int .i64 ((k : Int) - 1) ∧ Hid ((lim a).drop k = (lim b).drop k) ∧ Hid (Ext w wr)) (fun vi _ => (intOf vi + 1).toNat)
  case atStart => exact ⟨m, Nat.le_refl _, by go_num, by show List.drop m (lim a) = List.drop m (lim b); rw [List.drop_eq_nil_of_le (by rw [hlx.out]; exact Nat.le_refl _), List.drop_eq_nil_of_le (by rw [hly.out]; exact Nat.le_refl _)], ext_refl _⟩
  case round =>
    obtain ⟨k, hk, rfl, hd, hext⟩ := hrel
    by_cases h0 : 0 < k
    · obtain ⟨ba, oa, hAe⟩ : ∃ b off, A = some ⟨b, off, none⟩ := by
        rcases HA.out.shape with ⟨_, h, _⟩ | h
        · omega
        · exact h
      obtain ⟨bb, ob, hBe⟩ : ∃ b off, B = some ⟨b, off, none⟩ := by
        rcases HB.out.shape with ⟨_, h, _⟩ | h
        · omega
        · exact h
      subst hAe hBe
      obtain ⟨x, hx, hxb, hcx1⟩ := (HA.out.ext hext.out).get (k - 1) (by omega)
      obtain ⟨y, hy, hyb, hcy1⟩ := (HB.out.ext hext.out).get (k - 1) (by omega)
      have hsp : Hid (∀ l : List Nat, l.length = m → l.drop (k - 1) = l.getD (k - 1) 0 :: l.drop k) := fun l hl => by
        rw [List.drop_eq_getElem_cons (by omega), show k - 1 + 1 = k by omega, List.getD_eq_getElem?_getD, List.getElem?_eq_getElem (by omega)]; rfl
      have hd' : Hid ((lim a).drop (k - 1 + 1) = (lim b).drop (k - 1 + 1)) := by
        show _ = _
        rw [show k - 1 + 1 = k by omega]; exact hd.out
      have hext' := hext.out
      rcases Nat.lt_trichotomy x y with hlt | heq | hgt
      · have e : cmpN a b = -1 := by
          have := val_cmp (lb_lim a) (lb_lim b) (k := k - 1) (by rw [hlx.out]; omega) (by rw [hlx.out, hly.out]) hx.out hy.out hd'.out hlt
          rw [val_lim, val_lim] at this
          unfold cmpN; rw [if_pos this]
        have E := Lib.hid e
        clear e
        go_wp2
        go_quiet (fail)
        go_wp2
        go_ret
        exact ⟨ret_int E.out.symm, (show Ext _ _ by (repeat (first | exact ext_refl _ | assumption | refine ext_setCell ?_ (by simp; try omega) _ | refine ext_alloc ?_ _ | refine ext_drew ?_ | refine ext_drewN ?_ _ | refine ext_trans ?_ (Aft.use _) | refine ext_trans ?_ (by assumption))))⟩
      · subst heq
        go_wp2
        go_quiet (fail)
        go_wp2
        go_quiet (fail)
        go_wp2
        go_roundw
        case rel => exact ⟨k - 1, by omega, by go_num, by show _ = _; rw [hsp.out _ hlx.out, hsp.out _ hly.out, hx.out, hy.out, hd.out], (show Ext _ _ by (repeat (first | exact ext_refl _ | assumption | refine ext_setCell ?_ (by simp; try omega) _ | refine ext_alloc ?_ _ | refine ext_drew ?_ | refine ext_drewN ?_ _ | refine ext_trans ?_ (Aft.use _) | refine ext_trans ?_ (by assumption))))⟩
        case measure => simp [intOf]; omega
      · have e : cmpN a b = 1 := by
          have := val_cmp (lb_lim b) (lb_lim a) (k := k - 1) (by rw [hly.out]; omega) (by rw [hlx.out, hly.out]) hy.out hx.out hd'.out.symm hgt
          rw [val_lim, val_lim] at this
          unfold cmpN; rw [if_neg (by omega), if_pos this]
        have E := Lib.hid e
        clear e
        go_wp2
        go_quiet (fail)
        go_wp2
        go_quiet (fail)
        go_wp2
        go_ret
        exact ⟨ret_int E.out.symm, (show Ext _ _ by (repeat (first | exact ext_refl _ | assumption | refine ext_setCell ?_ (by simp; try omega) _ | refine ext_alloc ?_ _ | refine ext_drew ?_ | refine ext_drewN ?_ _ | refine ext_trans ?_ (Aft.use _) | refine ext_trans ?_ (by assumption))))⟩
    · obtain rfl : k = 0 := by omega
      have e : cmpN a b = 0 := by
        have := hd.out
        rw [List.drop_zero, List.drop_zero] at this
        have h := congrArg val this
        rw [val_lim, val_lim] at h
        unfold cmpN; rw [if_neg (by omega), if_neg (by omega)]
      have E := Lib.hid e
      clear e
      have hext' := hext.out
      go_wp2
      go_ret
      exact ⟨ret_int E.out.symm, hext'⟩
end Go.Proofs.YtdjegfnkpagdaaaGreatDoor
end
