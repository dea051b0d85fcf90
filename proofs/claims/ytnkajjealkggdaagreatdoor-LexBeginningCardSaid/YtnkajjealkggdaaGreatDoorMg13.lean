/- Lemmas of this proof, laid together: BigA, BigB, BigC. -/
import Derived.Test.YtnkajjealkggdaaGreatDoorRows
import Derived.Test.YtnkajjealkggdaaGreatDoorMg04
import Derived.Test.YtnkajjealkggdaaGreatDoorMg06
import Derived.Test.YtnkajjealkggdaaGreatDoorMg07
import Derived.Test.YtnkajjealkggdaaGreatDoorMg01
import Derived.Laws.CopyOwn
import Derived.Laws.Bits64b
import Derived.Laws.Bits64
import Derived.Test.YtnkajjealkggdaaGreatDoorMg08
set_option linter.unusedSimpArgs false
set_option linter.unusedVariables false
section
/- Words of the library's: the small pieces. -/
namespace Go.Proofs.YtnkajjealkggdaaGreatDoor
open Go.RowKit
attribute [local go_sem] sz2 sz3 sz4 sz5 sz6 sz7 sz8
set_option maxHeartbeats 4000000
set_option maxRecDepth 100000
theorem bw_trim (A : Option Addr) (n c : Nat) (xs : List Nat) (w : World) (hR : Rd w A n c xs) :
    Calls Tryz.prog 111 #[.slice A n c] w fun e w' => ∃ k, e = .returned (.slice A k c) ∧ Rd w A k c (trimZ xs) ∧ w = w' := by
  have hmx := hR.mx
  have hcap := hR.cap
  rcases hR.shape with ⟨rfl, rfl, rfl, rfl⟩ | ⟨b, off, rfl⟩
  · skip
    go_enter Tryz.func111, Tryz.ntmps111
    go_wp2
    go_loop [3] (fun v => v = .int .i64 0) (fun v => (intOf v).toNat)
    case atStart => rfl
    case round =>
      subst hrel
      go_wp2
      go_ret
      exact ⟨0, rfl, Rd.nil w, rfl⟩
  · have HR := Lib.hid hR
    have hlen := Lib.hid hR.len
    clear hR
    go_enter Tryz.func111, Tryz.ntmps111
    go_wp2
    go_loop [3] (fun v => ∃ k : Nat, k ≤ n ∧ v = .int .i64 k ∧ Hid (trimZ (xs.take k) = trimZ xs)) (fun v => (intOf v).toNat)
    case atStart => exact ⟨n, Nat.le_refl _, rfl, by show trimZ (xs.take n) = trimZ xs; rw [← hlen.out, List.take_length]⟩
    case round =>
      obtain ⟨k, hk, rfl, hT⟩ := hrel
      by_cases h0 : 0 < k
      · obtain ⟨x, hx, hb, hc⟩ := HR.out.get (k - 1) (by omega)
        have hcell : w.cell? ⟨b, off + (k - 1), none⟩ = some (.int .u32 (x : Int)) := hc
        have hsnoc : Hid (xs.take k = xs.take (k - 1) ++ [x]) := by
          have hl : k - 1 < xs.length := by rw [hlen.out]; omega
          have := List.take_succ_eq_append_getElem hl
          rw [show k - 1 + 1 = k by omega] at this
          show xs.take k = xs.take (k - 1) ++ [x]
          rw [this, ← hx.out, List.getD_eq_getElem?_getD, List.getElem?_eq_getElem hl]; rfl
        by_cases hz : x = 0
        · subst hz
          go_wp2
          go_round
          case rel => exact ⟨k - 1, by omega, by go_num, by show trimZ _ = _; rw [← hT.out, hsnoc.out, trimZ_snoc, if_pos rfl]⟩
          case measure => simp [intOf]; omega
        · have hne : ((x : Int) == 0) = false := by simp; omega
          have HZ := Lib.hid hz
          clear hz
          go_wp2
          go_ret
          have e : trimZ xs = xs.take k := by rw [← hT.out, hsnoc.out, trimZ_snoc, if_neg HZ.out]
          exact ⟨k, rfl, by rw [e]; exact HR.out.take hk, rfl⟩
      · have : k = 0 := by omega
        subst this
        have e : trimZ xs = xs.take 0 := by rw [← hT.out]; rfl
        have HE := Lib.hid e
        clear e h0
        go_wp2
        go_ret
        exact ⟨0, rfl, by rw [HE.out]; exact HR.out.take (Nat.zero_le _), rfl⟩

attribute [local irreducible] Calls
theorem bw_cmp (A B : Option Addr) (n c m d a b : Nat) (w : World) (hA : Rd w A n c (lim a)) (hB : Rd w B m d (lim b)) :
    Calls Tryz.prog 184 #[.slice A n c, .slice B m d] w fun e w' => e = .returned (.int .i64 (cmpN a b)) ∧ Ext w w' := by
  have hmx := hA.mx
  have hmy := hB.mx
  have hcx := hA.cap
  have hcy := hB.cap
  have HA := Lib.hid hA
  have HB := Lib.hid hB
  have hlx := Lib.hid hA.len
  have hly := Lib.hid hB.len
  clear hA hB
  by_cases h1 : n < m
  · have e : cmpN a b = -1 := by
      unfold cmpN
      rw [if_pos (val_lt_len (by rw [hlx.out, hly.out]; exact h1))]
    rw [e]
    clear e
    have hnm : ((n : Int) == (m : Int)) = false := by rw [beq_eq_false_iff_ne]; omega
    go_enter Tryz.func184, Tryz.ntmps184
    go_wp2
    go_ret
    exact ⟨rfl, ext_refl _⟩
  by_cases h2 : m < n
  · have e : cmpN a b = 1 := by
      have := val_lt_len (a := b) (b := a) (by rw [hlx.out, hly.out]; exact h2)
      unfold cmpN
      rw [if_neg (by omega), if_pos this]
    rw [e]
    clear e
    have hnm : ((n : Int) == (m : Int)) = false := by rw [beq_eq_false_iff_ne]; omega
    go_enter Tryz.func184, Tryz.ntmps184
    go_wp2
    go_ret
    exact ⟨rfl, ext_refl _⟩
  obtain rfl : m = n := by omega
  clear h1 h2
  go_enter Tryz.func184, Tryz.ntmps184
  go_wp2
  go_loopw [5] (fun vi wr => ∃ k : Nat, k ≤ m ∧ vi = .int .i64 ((k : Int) - 1) ∧ Hid ((lim a).drop k = (lim b).drop k) ∧ Hid (Ext w wr)) (fun vi _ => (intOf vi + 1).toNat)
  case atStart => exact ⟨m, Nat.le_refl _, by go_num, by show List.drop m (lim a) = List.drop m (lim b); rw [List.drop_eq_nil_of_le (by rw [hlx.out]; exact Nat.le_refl _), List.drop_eq_nil_of_le (by rw [hly.out]; exact Nat.le_refl _)], ext_refl _⟩
  case round =>
    obtain ⟨k, hk, rfl, hd, hext⟩ := hrel
    by_cases h0 : 0 < k
    · obtain ⟨ba, oa, hAe⟩ : ∃ b off, A = some ⟨b, off, none⟩ := by
        rcases HA.out.shape with ⟨_, h, _⟩ | h
        · omega
        · exact h
      obtain ⟨bb, ob, hBe⟩ : ∃ b off, B = some ⟨b, off, none⟩ := by
        rcases HB.out.shape with ⟨_, h, _⟩ | h
        · omega
        · exact h
      subst hAe hBe
      obtain ⟨x, hx, hxb, hcx1⟩ := (HA.out.ext hext.out).get (k - 1) (by omega)
      obtain ⟨y, hy, hyb, hcy1⟩ := (HB.out.ext hext.out).get (k - 1) (by omega)
      have hsp : Hid (∀ l : List Nat, l.length = m → l.drop (k - 1) = l.getD (k - 1) 0 :: l.drop k) := fun l hl => by
        rw [List.drop_eq_getElem_cons (by omega), show k - 1 + 1 = k by omega, List.getD_eq_getElem?_getD, List.getElem?_eq_getElem (by omega)]; rfl
      have hd' : Hid ((lim a).drop (k - 1 + 1) = (lim b).drop (k - 1 + 1)) := by
        show _ = _
        rw [show k - 1 + 1 = k by omega]; exact hd.out
      have hext' := hext.out
      rcases Nat.lt_trichotomy x y with hlt | heq | hgt
      · have e : cmpN a b = -1 := by
          have := val_cmp (lb_lim a) (lb_lim b) (k := k - 1) (by rw [hlx.out]; omega) (by rw [hlx.out, hly.out]) hx.out hy.out hd'.out hlt
          rw [val_lim, val_lim] at this
          unfold cmpN; rw [if_pos this]
        have E := Lib.hid e
        clear e
        go_wp2
        go_quiet (fail)
        go_wp2
        go_ret
        exact ⟨ret_int E.out.symm, (show Ext _ _ by (repeat (first | exact ext_refl _ | assumption | refine ext_setCell ?_ (by simp; try omega) _ | refine ext_alloc ?_ _ | refine ext_drew ?_ | refine ext_drewN ?_ _ | refine ext_trans ?_ (Aft.use _) | refine ext_trans ?_ (by assumption))))⟩
      · subst heq
        go_wp2
        go_quiet (fail)
        go_wp2
        go_quiet (fail)
        go_wp2
        go_roundw
        case rel => exact ⟨k - 1, by omega, by go_num, by show _ = _; rw [hsp.out _ hlx.out, hsp.out _ hly.out, hx.out, hy.out, hd.out], (show Ext _ _ by (repeat (first | exact ext_refl _ | assumption | refine ext_setCell ?_ (by simp; try omega) _ | refine ext_alloc ?_ _ | refine ext_drew ?_ | refine ext_drewN ?_ _ | refine ext_trans ?_ (Aft.use _) | refine ext_trans ?_ (by assumption))))⟩
        case measure => simp [intOf]; omega
      · have e : cmpN a b = 1 := by
          have := val_cmp (lb_lim b) (lb_lim a) (k := k - 1) (by rw [hly.out]; omega) (by rw [hlx.out, hly.out]) hy.out hx.out hd'.out.symm hgt
          rw [val_lim, val_lim] at this
          unfold cmpN; rw [if_neg (by omega), if_pos this]
        have E := Lib.hid e
        clear e
        go_wp2
        go_quiet (fail)
        go_wp2
        go_quiet (fail)
        go_wp2
        go_ret
        exact ⟨ret_int E.out.symm, (show Ext _ _ by (repeat (first | exact ext_refl _ | assumption | refine ext_setCell ?_ (by simp; try omega) _ | refine ext_alloc ?_ _ | refine ext_drew ?_ | refine ext_drewN ?_ _ | refine ext_trans ?_ (Aft.use _) | refine ext_trans ?_ (by assumption))))⟩
    · obtain rfl : k = 0 := by omega
      have e : cmpN a b = 0 := by
        have := hd.out
        rw [List.drop_zero, List.drop_zero] at this
        have h := congrArg val this
        rw [val_lim, val_lim] at h
        unfold cmpN; rw [if_neg (by omega), if_neg (by omega)]
      have E := Lib.hid e
      clear e
      have hext' := hext.out
      go_wp2
      go_ret
      exact ⟨ret_int E.out.symm, hext'⟩

theorem bw_trim_own {w : World} {base g n : Nat} {os : List Nat} (hown : w.ownsRow base 48 1 (.slice (some ⟨g, 0, none⟩) n n) n (os.map u32V)) (hb : Lb os) {V : Nat} (hv : val os = V) :
    Calls Tryz.prog 111 #[.slice (some ⟨g, 0, none⟩) n n] w fun e w'' => (∃ k, e = .returned (.slice (some ⟨g, 0, none⟩) k n) ∧ Hid (Rd w (some ⟨g, 0, none⟩) k n (lim V))) ∧ w = w'' := by
  obtain ⟨A', c', he, hR⟩ := Rd.own hown hb
  cases he
  refine (bw_trim _ _ _ _ w hR).mono ?_
  rintro e w'' ⟨k, rfl, h2, rfl⟩
  rw [trimZ_lim _ hb, hv] at h2
  exact ⟨⟨k, rfl, h2⟩, rfl⟩
theorem u32_one : (Tryz.prog.info? 48).map (·.size) = some 1 := by kernel_rfl
/-- 'copy' of words into a row of the call's own. -/
theorem copy_u32 {ops : Array Oper} {rest : List Oper} {o : Oper} {a : Act} {Q : Exit → Act → World → Prop} {w : World} (hgd : o.guard = none) (d s : Operand)
    (ho : o.op = .call { callee := .builtin .copy, args := #[d, s], argTypes := #[26, 26] }) {base g n cap : Nat} {xs : List Nat} (hown : w.ownsRow base 48 1 (.slice (some ⟨g, 0, none⟩) n cap) n (xs.map u32V))
    {A : Option Addr} {m c : Nat} {zs : List Nat} (hR : Rd w A m c zs) (hd : a.eval d = .slice (some ⟨g, 0, none⟩) n cap) (hs : a.eval s = .slice A m c) (hmn : m ≤ n) {W : World} (hW : Ext W w) (hb : W.heap.size ≤ base)
    (h : ∀ w', Ext W w' → Hid (w'.ownsRow base 48 1 (.slice (some ⟨g, 0, none⟩) n cap) n ((zs ++ xs.drop m).map u32V)) → wpList Tryz.prog ops Q rest (a.put o.dst (goInt m)) w') : wpList Tryz.prog ops Q (o :: rest) a w := by
  have hbg : base ≤ g := (hown.lt g rfl).1
  have hzl := hR.len
  obtain ⟨hx, h2⟩ := hown
  rcases h2 with ⟨h', _⟩ | ⟨g', cap', cur, h', hbb, hg, hnc, hcm, hcs, htake⟩
  · simp at h'
  simp only [Value.slice.injEq, Option.some.injEq, Addr.mk.injEq, and_true, true_and] at h'
  obtain ⟨rfl, rfl⟩ := h'
  have hx' : xs.length = n := by simpa using hx
  have hcl : cur.toList.length = cap := by simpa using hcs
  refine wpList_copy_splice hgd d s _ _ ho 48 u32_under u32_one (some ⟨g, 0, none⟩) A n cap m c hd hs g 0 cur.toList _ (by simpa using hg) (zs.map u32V) (by rw [List.length_map, hzl]; exact (Nat.min_eq_left hmn).symm) ?_ (by simp at hcl ⊢; omega) (fun v hv => by obtain ⟨b, _, rfl⟩ := List.mem_map.1 hv; rfl) W.heap.size W hW (Nat.le_trans hb hbg) ?_
  · intro hpos
    refine ⟨rfl, ?_⟩
    rcases hR.shape with ⟨_, _, _, e⟩ | ⟨b, off, rfl⟩
    · subst e; simp at hpos
    · refine ⟨_, rfl, fun j v hj => ?_⟩
      rw [List.getElem?_map] at hj
      cases hzj : zs[j]? with
      | none => rw [hzj] at hj; cases hj
      | some z =>
        rw [hzj] at hj
        obtain rfl : u32V z = v := by simpa using hj
        have hlt := (List.getElem?_eq_some_iff.1 hzj)
        obtain ⟨hlt, hz⟩ := hlt
        have := (hR.cells b off rfl j hlt).2
        rw [hz] at this
        rw [Addr.add_lit]
        exact this
  · intro w' hg' hb'
    have hE : Ext W w' := hb'
    have hlen : (zs.map u32V).length = m := by simp [hzl]
    rw [hlen]
    refine h w' hE ⟨by simp; omega, .inr ⟨g, cap, (splice cur.toList 0 (zs.map u32V)).toArray, rfl, hbb, hg'.out, hnc, hcm, ?_, ?_⟩⟩
    · simp [splice] at hcl ⊢; omega
    · simp only [Nat.mul_one] at htake ⊢
      have e2 : (cur.toList.drop m).take (n - m) = (xs.map u32V).drop m := by rw [← htake, List.drop_take]
      simp only [splice, List.take_zero, List.nil_append, Nat.zero_add, hlen]
      rw [List.take_append, hlen, List.take_of_length_le (by omega), e2, List.map_append, List.map_drop]
theorem bw_copied (A : Option Addr) (n c : Nat) (xs : List Nat) (hn : n ≤ 1000000) (w : World) (hA : Rd w A n c xs) :
    Calls Tryz.prog 151 #[.slice A n c] w fun e w' => e = .returned (.slice (some ⟨w.heap.size, 0, none⟩) n n) ∧ Hid (Rd w' (some ⟨w.heap.size, 0, none⟩) n n xs) ∧ Ext w w' := by
  have HA := Lib.hid hA
  have hlen := Lib.hid hA.len
  clear hA
  go_enter Tryz.func151, Tryz.ntmps151
  go_wp2_with (first
    | (at_make; refine make_u32 rfl _ _ rfl _ _ _ _ n rfl rfl (by simp) (by simp) (by omega) ?_; intro w1 hx1 ho1; have hext1 := Lib.hid hx1; clear hx1)
    | (with_reducible refine copy_u32 rfl (.tmp 7) (.tmp 8) rfl ho1.out (HA.out.ext hext1.out) rfl rfl (Nat.le_refl _) hext1.out (Nat.le_refl _) ?_; intro w2 hx2 ho2; have hext2 := Lib.hid hx2; clear hx2)
    | go_in)
  refine bodyPost_ret (v := .slice (some ⟨w.heap.size, 0, none⟩) n n) ?h rfl ⟨rfl, ?_, hext2.out⟩
  case h => simp [results, Tryz.results151, go_sem]
  have e : xs ++ (List.replicate n 0).drop n = xs := by simp
  rw [e] at ho2
  obtain ⟨A', c', he, hR⟩ := Rd.own ho2.out HA.out.lb
  cases he
  exact hR
theorem bw_fromUint (v : Nat) (hv : v < 18446744073709551616) (w : World) :
    Calls Tryz.prog 147 #[.int .u64 (v : Int)] w fun e w' => ∃ (A : Option Addr) (k c : Nat), e = .returned (.slice A k c) ∧ Hid (Rd w' A k c (lim v) ∧ Fr w A) ∧ Ext w w' := by
  have hval : val [v % 4294967296, v / 4294967296] = v := by
    have := Nat.mod_add_div v 4294967296
    simp [val, Bs]; omega
  have hlb : Lb [v % 4294967296, v / 4294967296] := by
    intro x hx
    simp at hx
    unfold Bs
    rcases hx with rfl | rfl <;> omega
  obtain ⟨W, hW⟩ : ∃ W, W = w.alloc (Obj.cells #[.int .u32 ((v : Int) % 4294967296), .int .u32 ((v : Int) / 4294967296)] 48) := ⟨_, rfl⟩
  have hR : Rd W (some ⟨w.heap.size, 0, none⟩) 2 2 [v % 4294967296, v / 4294967296] := by
    rw [hW]
    exact Rd.made _ _ _ _ hlb (by simp [u32V]) (by simp) rfl rfl
  have hT : Calls Tryz.prog 111 #[.slice (some ⟨w.heap.size, 0, none⟩) 2 2] W fun e w'' => ∃ k, (e = .returned (.slice (some ⟨w.heap.size, 0, none⟩) k 2) ∧ Hid (Rd W (some ⟨w.heap.size, 0, none⟩) k 2 (lim v))) ∧ W = w'' := by
    refine (bw_trim _ _ _ _ W hR).mono ?_
    rintro e w'' ⟨j, rfl, h2, rfl⟩
    rw [trimZ_lim _ hlb, hval] at h2
    exact ⟨j, ⟨rfl, h2⟩, rfl⟩
  clear hR hval hlb
  subst hW
  go_enter Tryz.func147, Tryz.ntmps147
  go_wp2_with (first
    | (go_at_call 111; (with_reducible refine hT.mono ?_); rintro e w' ⟨k, ⟨rfl, hR⟩, rfl⟩)
   )
  refine bodyPost_ret (v := .slice (some ⟨w.heap.size, 0, none⟩) k 2) ?h rfl ⟨_, k, 2, rfl, ⟨hR.out, fun a ha => ?_⟩, ?_⟩
  case h => simp [results, Tryz.results147, go_sem]
  · cases ha; exact Nat.le_refl _
  · (repeat (first | exact ext_refl _ | assumption | refine ext_setCell ?_ (by simp; try omega) _ | refine ext_alloc ?_ _ | refine ext_drew ?_ | refine ext_drewN ?_ _ | refine ext_trans ?_ (Aft.use _) | refine ext_trans ?_ (by assumption)))
end Go.Proofs.YtnkajjealkggdaaGreatDoor
end
section
/- Words of the library's: sums and differences. -/
namespace Go.Proofs.YtnkajjealkggdaaGreatDoor
open Go.RowKit
attribute [local go_sem] sz2 sz3 sz4 sz5 sz6 sz7 sz8
set_option maxHeartbeats 4000000
set_option maxRecDepth 100000
attribute [local irreducible] Calls
theorem bw_add_core (A B : Option Addr) (n c m d a b : Nat) (hnm : m ≤ n) (hn : n ≤ 1000000) (w : World) (hA : Rd w A n c (lim a)) (hB : Rd w B m d (lim b)) :
    (Calls Tryz.prog 136 #[.slice A n c, .slice B m d] w fun e w' => ∃ (A' : Option Addr) (k c' : Nat), e = .returned (.slice A' k c') ∧ Hid (Rd w' A' k c' (lim (a + b)) ∧ Fr w A' ∧ ∀ q, A' = some q → q.block < w'.heap.size) ∧ Ext w w') ∧
    (m < n → Calls Tryz.prog 136 #[.slice B m d, .slice A n c] w fun e w' => ∃ (A' : Option Addr) (k c' : Nat), e = .returned (.slice A' k c') ∧ Hid (Rd w' A' k c' (lim (a + b)) ∧ Fr w A' ∧ ∀ q, A' = some q → q.block < w'.heap.size) ∧ Ext w w') := by
  have hmx := hA.mx
  have hmy := hB.mx
  have hcx := hA.cap
  have hcy := hB.cap
  have HA := Lib.hid hA
  have HB := Lib.hid hB
  have hlx := Lib.hid hA.len
  have hly := Lib.hid hB.len
  clear hA hB
  refine ⟨?_, fun hlt => ?_⟩
  all_goals
    go_enter Tryz.func136, Tryz.ntmps136
    go_wp2_with (first
      | (at_make; refine make_u32 rfl _ _ rfl _ _ _ _ (n + 1) rfl rfl (by simp) (by simp) (by omega) ?_; intro w1 hx1 ho1; have hext1 := Lib.hid hx1; clear hx1)
      | go_in)
    have hGl : w.heap.size < w1.heap.size := (ho1.out.lt w.heap.size rfl).2
    go_loopw [6, 7] (fun vc vi wr => ∃ (i cy : Nat) (os : List Nat), i ≤ n ∧ cy ≤ 1 ∧ vi = .int .i64 (i : Int) ∧ vc = .int .u64 (cy : Int) ∧ Hid (os.length = n + 1 ∧ Lb os ∧ val os + Bs ^ i * cy = val ((lim a).take i) + val ((lim b).take i) ∧ ∀ p, i ≤ p → os.getD p 0 = 0) ∧
        Hid (wr.ownsRow w.heap.size 48 1 (.slice (some ⟨w.heap.size, 0, none⟩) (n + 1) (n + 1)) (n + 1) (os.map u32V)) ∧ Hid (Ext w wr))
      (fun _ vi _ => n - (intOf vi).toNat)
    case atStart => exact ⟨0, 0, List.replicate (n + 1) 0, Nat.zero_le _, by omega, rfl, rfl, ⟨by simp, lb_replicate _, by rw [val_replicate]; simp [val], fun p _ => getD_replicate0 _ _⟩, ho1.out, hext1.out⟩
    case round =>
      clear ho1 hext1
      obtain ⟨i, cy, os, hi, hcy1, rfl, rfl, hos, hown, hext⟩ := hrel
      by_cases h0 : i < n
      · obtain ⟨bx, ox, hXe⟩ : ∃ b off, A = some ⟨b, off, none⟩ := by
          rcases HA.out.shape with ⟨_, h, _⟩ | h
          · omega
          · exact h
        subst hXe
        obtain ⟨x, hx, hxb, hcx1⟩ := (HA.out.ext hext.out).get i h0
        obtain ⟨hc1, hf1⟩ := own_at hown.out i (by omega)
        rw [hos.out.2.2.2 i (Nat.le_refl _)] at hc1
        by_cases hm0 : i < m
        · obtain ⟨by', oy, hYe⟩ : ∃ b off, B = some ⟨b, off, none⟩ := by
            rcases HB.out.shape with ⟨_, h, _⟩ | h
            · omega
            · exact h
          subst hYe
          obtain ⟨y, hy, hyb, hcy2⟩ := (HB.out.ext hext.out).get i hm0
          go_wp2
          case roundEnd =>
            have e1 : (x : Int) + cy + y = ((x + y + cy : Nat) : Int) := by omega
            refine ⟨⟨i + 1, (x + y + cy) / 4294967296, os.set i ((x + y + cy) % 4294967296), by omega, by omega, by simp, by rw [e1]; simp, ⟨by rw [List.length_set]; exact hos.out.1, lb_set hos.out.2.1 _ (Nat.mod_lt _ (by decide)), sum_step (by rw [hos.out.1]; omega) hos.out.2.2.1 (hos.out.2.2.2 i (Nat.le_refl _)) hx.out hy.out, fun p hp => by rw [getD_set_ne (by omega)]; exact hos.out.2.2.2 p (by omega)⟩, ?_, ext_setCell hext.out (Nat.le_refl _) _⟩, ?_⟩
            · have := own_set hown.out i ((x + y + cy) % 4294967296)
              show World.ownsRow _ _ _ _ _ _ _
              rw [e1]
              simpa using this
            · simp [intOf]; omega
        · have hy0 : (lim b).getD i 0 = 0 := getD_ge (by rw [hly.out]; omega)
          have HY := Lib.hid hy0
          clear hy0
          go_wp2
          case roundEnd =>
            have e1 : (x : Int) + cy = ((x + 0 + cy : Nat) : Int) := by omega
            refine ⟨⟨i + 1, (x + 0 + cy) / 4294967296, os.set i ((x + 0 + cy) % 4294967296), by omega, by omega, by simp, by rw [e1]; simp, ⟨by rw [List.length_set]; exact hos.out.1, lb_set hos.out.2.1 _ (Nat.mod_lt _ (by decide)), sum_step (y := 0) (by rw [hos.out.1]; omega) hos.out.2.2.1 (hos.out.2.2.2 i (Nat.le_refl _)) hx.out HY.out, fun p hp => by rw [getD_set_ne (by omega)]; exact hos.out.2.2.2 p (by omega)⟩, ?_, ext_setCell hext.out (Nat.le_refl _) _⟩, ?_⟩
            · have := own_set hown.out i ((x + 0 + cy) % 4294967296)
              show World.ownsRow _ _ _ _ _ _ _
              rw [e1]
              simpa using this
            · simp [intOf]; omega
      · obtain rfl : i = n := by omega
        obtain ⟨hc1, hf1⟩ := own_at hown.out i (by omega)
        rw [hos.out.2.2.2 i (Nat.le_refl _)] at hc1
        have hrow : Hid ((wr.setCell ⟨w.heap.size, i, none⟩ (.int .u32 (cy : Int))).ownsRow w.heap.size 48 1 (.slice (some ⟨w.heap.size, 0, none⟩) (i + 1) (i + 1)) (i + 1) ((os.set i cy).map u32V)) := Lib.hid (own_set hown.out i cy)
        have hval : val (os.set i cy) = a + b := by
          have h1 := val_set os i cy (by rw [hos.out.1]; omega)
          rw [hos.out.2.2.2 i (Nat.le_refl _), Nat.mul_zero, Nat.add_zero] at h1
          rw [h1, hos.out.2.2.1, take_ge (by rw [hlx.out]; exact Nat.le_refl _), take_ge (by rw [hly.out]; omega), val_lim, val_lim]
        have hT := bw_trim_own hrow.out (lb_set hos.out.2.1 i (show cy < 4294967296 by omega)) hval
        have hE3 := ext_setCell hext.out (Nat.le_refl _) (p := ⟨w.heap.size, i, none⟩) (.int .u32 (cy : Int))
        clear hval hrow
        go_wp2_with (first
          | (go_at_call 111; (with_reducible refine hT.mono ?_); rintro e w' ⟨⟨k, rfl, hR⟩, rfl⟩)
         )
        refine bodyPost_ret (v := .slice (some ⟨w.heap.size, 0, none⟩) k (i + 1)) ?h rfl ⟨_, k, i + 1, rfl, ⟨hR.out, fun q hq => ?_, fun q hq => ?_⟩, hE3⟩
        case h => simp [results, Tryz.results136, go_sem]
        · cases hq; exact Nat.le_refl _
        · cases hq; have := ext_size hext.out; simp; exact (hown.out.lt w.heap.size rfl).2
theorem bw_add (A B : Option Addr) (n c m d a b : Nat) (hn : n ≤ 1000000) (hm : m ≤ 1000000) (w : World) (hA : Rd w A n c (lim a)) (hB : Rd w B m d (lim b)) :
    Calls Tryz.prog 136 #[.slice A n c, .slice B m d] w fun e w' => ∃ (A' : Option Addr) (k c' : Nat), e = .returned (.slice A' k c') ∧ Hid (Rd w' A' k c' (lim (a + b)) ∧ Fr w A' ∧ ∀ q, A' = some q → q.block < w'.heap.size) ∧ Ext w w' := by
  rcases Nat.lt_or_ge n m with h | h
  · have := (bw_add_core B A m d n c b a (by omega) hm w hB hA).2 h
    rwa [Nat.add_comm] at this
  · exact (bw_add_core A B n c m d a b h hn w hA hB).1
theorem bw_sub (A B : Option Addr) (n c m d a b : Nat) (hab : b ≤ a) (hn : n ≤ 1000000) (w : World) (hA : Rd w A n c (lim a)) (hB : Rd w B m d (lim b)) :
    Calls Tryz.prog 202 #[.slice A n c, .slice B m d] w fun e w' => ∃ (A' : Option Addr) (k c' : Nat), e = .returned (.slice A' k c') ∧ Hid (Rd w' A' k c' (lim (a - b)) ∧ Fr w A') ∧ Ext w w' := by
  have hmx := hA.mx
  have hmy := hB.mx
  have hcx := hA.cap
  have hcy := hB.cap
  have HA := Lib.hid hA
  have HB := Lib.hid hB
  have hlx := Lib.hid hA.len
  have hly := Lib.hid hB.len
  have hmn : m ≤ n := by
    have h1 := hA.len
    have h2 := hB.len
    have := lim_mono hab
    omega
  clear hA hB
  go_enter Tryz.func202, Tryz.ntmps202
  go_wp2_with (first
    | (at_make; refine make_u32 rfl _ _ rfl _ _ _ _ n rfl rfl (by simp) (by simp) (by omega) ?_; intro w1 hx1 ho1; have hext1 := Lib.hid hx1; clear hx1)
    | go_in)
  have hGl : w.heap.size < w1.heap.size := (ho1.out.lt w.heap.size rfl).2
  go_loopw [6, 7] (fun vc vi wr => ∃ (i lt : Nat) (os : List Nat), i ≤ n ∧ lt ≤ 1 ∧ vi = .int .i64 (i : Int) ∧ vc = .int .u64 (lt : Int) ∧ Hid (os.length = n ∧ Lb os ∧ val os + val ((lim b).take i) = val ((lim a).take i) + Bs ^ i * lt ∧ ∀ p, i ≤ p → os.getD p 0 = 0) ∧
      Hid (wr.ownsRow w.heap.size 48 1 (.slice (some ⟨w.heap.size, 0, none⟩) n n) n (os.map u32V)) ∧ Hid (Ext w wr))
    (fun _ vi _ => n - (intOf vi).toNat)
  case atStart => exact ⟨0, 0, List.replicate n 0, Nat.zero_le _, by omega, rfl, rfl, ⟨by simp, lb_replicate _, by rw [val_replicate]; simp [val], fun p _ => getD_replicate0 _ _⟩, ho1.out, hext1.out⟩
  case round =>
    clear ho1 hext1
    obtain ⟨i, lt, os, hi, hlt1, rfl, rfl, hos, hown, hext⟩ := hrel
    by_cases h0 : i < n
    · obtain ⟨bx, ox, hXe⟩ : ∃ b off, A = some ⟨b, off, none⟩ := by
        rcases HA.out.shape with ⟨_, h, _⟩ | h
        · omega
        · exact h
      subst hXe
      obtain ⟨x, hx, hxb, hcx1⟩ := (HA.out.ext hext.out).get i h0
      obtain ⟨hc1, hf1⟩ := own_at hown.out i (by omega)
      rw [hos.out.2.2.2 i (Nat.le_refl _)] at hc1
      have fin : ∀ (y : Nat) (z q : Int), y < 4294967296 → (lim b).getD i 0 = y → z = (((x + 8589934592 - y - lt) % 4294967296 : Nat) : Int) → q = ((if x < y + lt then 1 else 0 : Nat) : Int) → ∃ (i' lt' : Nat) (os' : List Nat), i' ≤ n ∧ lt' ≤ 1 ∧ Value.int IntKind.i64 ((i : Int) + 1) = .int .i64 (i' : Int) ∧ Value.int IntKind.u64 q = .int .u64 (lt' : Int) ∧
          Hid (os'.length = n ∧ Lb os' ∧ val os' + val ((lim b).take i') = val ((lim a).take i') + Bs ^ i' * lt' ∧ ∀ p, i' ≤ p → os'.getD p 0 = 0) ∧
          Hid ((wr.setCell ⟨w.heap.size, i, none⟩ (.int .u32 z)).ownsRow w.heap.size 48 1 (.slice (some ⟨w.heap.size, 0, none⟩) n n) n (os'.map u32V)) ∧ Hid (Ext w (wr.setCell ⟨w.heap.size, i, none⟩ (.int .u32 z))) := by
        rintro y z q hyb hy rfl rfl
        refine ⟨i + 1, if x < y + lt then 1 else 0, os.set i ((x + 8589934592 - y - lt) % 4294967296), by omega, by split <;> omega, by simp, rfl, ⟨by rw [List.length_set]; exact hos.out.1, lb_set hos.out.2.1 _ (Nat.mod_lt _ (by decide)), dif_step (by rw [hos.out.1]; omega) hlt1 hxb hyb hos.out.2.2.1 (hos.out.2.2.2 i (Nat.le_refl _)) hx.out hy, fun p hp => by rw [getD_set_ne (by omega)]; exact hos.out.2.2.2 p (by omega)⟩, own_set hown.out _ _, ext_setCell hext.out (Nat.le_refl _) _⟩
      by_cases hm0 : i < m
      · obtain ⟨by', oy, hYe⟩ : ∃ b off, B = some ⟨b, off, none⟩ := by
          rcases HB.out.shape with ⟨_, h, _⟩ | h
          · omega
          · exact h
        subst hYe
        obtain ⟨y, hy, hyb, hcy2⟩ := (HB.out.ext hext.out).get i hm0
        have HF := Lib.hid (fun z q => fin y z q hyb hy.out)
        clear fin
        go_wp2
        case roundEnd =>
          refine ⟨HF.out _ _ (by simp only [IntKind.wrap_u64]; omega) (by simp only [IntKind.wrap_u64]; split <;> omega), ?_⟩
          simp [intOf]; omega
      · have hy0 : (lim b).getD i 0 = 0 := getD_ge (by rw [hly.out]; omega)
        have HF := Lib.hid (fun z q => fin 0 z q (by decide) hy0)
        clear fin hy0
        go_wp2
        case roundEnd =>
          refine ⟨HF.out _ _ (by simp only [IntKind.wrap_u64]; omega) (by simp only [IntKind.wrap_u64]; split <;> omega), ?_⟩
          simp [intOf]; omega
    · obtain rfl : i = n := by omega
      have hval : val os = a - b := by
        have h1 := hos.out.2.2.1
        rw [take_ge (l := lim a) (by rw [hlx.out]; exact Nat.le_refl _), take_ge (l := lim b) (by rw [hly.out]; omega), val_lim, val_lim] at h1
        have h2 := val_lt os hos.out.2.1
        rw [hos.out.1] at h2
        have h3 : lt = 0 ∨ lt = 1 := by omega
        rcases h3 with rfl | rfl
        · omega
        · exfalso
          have h4 : a < Bs ^ i := by have := lim_lt a; rw [hlx.out] at this; exact this
          omega
      have hT := bw_trim_own hown.out hos.out.2.1 hval
      have hE3 := hext.out
      clear hval
      go_wp2_with (first
        | (go_at_call 111; (with_reducible refine hT.mono ?_); rintro e w' ⟨⟨k, rfl, hR⟩, rfl⟩)
       )
      refine bodyPost_ret (v := .slice (some ⟨w.heap.size, 0, none⟩) k i) ?h rfl ⟨_, k, i, rfl, ⟨hR.out, fun q hq => ?_⟩, hE3⟩
      case h => simp [results, Tryz.results202, go_sem]
      cases hq; exact Nat.le_refl _
end Go.Proofs.YtnkajjealkggdaaGreatDoor
end
section
/- Words of the library's: products word by word, quotients by a word. -/
namespace Go.Proofs.YtnkajjealkggdaaGreatDoor
open Go.RowKit
attribute [local go_sem] sz2 sz3 sz4 sz5 sz6 sz7 sz8
set_option maxHeartbeats 4000000
set_option maxRecDepth 100000
attribute [local irreducible] Calls
theorem bw_plain (A B : Option Addr) (n c m d : Nat) (xs ys : List Nat) (hn : n ≤ 1000000) (hm : m ≤ 1000000) (w : World) (hA : Rd w A n c xs) (hB : Rd w B m d ys) :
    Calls Tryz.prog 200 #[.slice A n c, .slice B m d] w fun e w' => ∃ (A' : Option Addr) (k c' : Nat), e = .returned (.slice A' k c') ∧ Hid (Rd w' A' k c' (lim (val xs * val ys)) ∧ Fr w A') ∧ Ext w w' := by
  have hmx := hA.mx
  have hcx := hA.cap
  have hmy := hB.mx
  have hcy := hB.cap
  have HA := Lib.hid hA
  have HB := Lib.hid hB
  have hlx := Lib.hid hA.len
  have hly := Lib.hid hB.len
  have hbx := Lib.hid hA.lb
  have hby := Lib.hid hB.lb
  clear hA hB
  go_enter Tryz.func200, Tryz.ntmps200
  go_wp2_with (first
    | (at_make; refine make_u32 rfl _ _ rfl _ _ _ _ (n + m) rfl rfl (by simp) (by simp) (by omega) ?_; intro w1 hx1 ho1; have hext1 := Lib.hid hx1; clear hx1)
    | go_in)
  have hfr : w.heap.size < w1.heap.size := (ho1.out.lt w.heap.size rfl).2
  go_loopw [6] (fun vi wr => ∃ i : Nat, ∃ os : List Nat, i ≤ n ∧ vi = .int .i64 (i : Int) ∧ Hid (os.length = n + m ∧ Lb os ∧ val os = val (xs.take i) * val ys ∧ ∀ p, i + m ≤ p → os.getD p 0 = 0) ∧
      Hid (wr.ownsRow w.heap.size 48 1 (.slice (some ⟨w.heap.size, 0, none⟩) (n + m) (n + m)) (n + m) (os.map u32V)) ∧ Hid (Ext w wr))
    (fun vi _ => n - (intOf vi).toNat)
  case atStart =>
    exact ⟨0, List.replicate (n + m) 0, Nat.zero_le _, rfl, ⟨by simp, lb_replicate _, by rw [val_replicate]; simp [val], fun p _ => getD_replicate0 _ _⟩, ho1.out, hext1.out⟩
  case round =>
    obtain ⟨i, os, hi, rfl, hos, hown, hext⟩ := hrel
    by_cases h0 : i < n
    · obtain ⟨a, off, hAe⟩ : ∃ b off, A = some ⟨b, off, none⟩ := by
        rcases HA.out.shape with ⟨_, h, _⟩ | h
        · omega
        · exact h
      subst hAe
      obtain ⟨x, hx, hxb, hcx0⟩ := (HA.out.ext hext.out).get i h0
      go_wp2
      go_loopw [7, 9] (fun vc vk wr2 => ∃ k cy : Nat, ∃ os : List Nat, k ≤ m ∧ cy < 4294967296 ∧ vk = .int .i64 (k : Int) ∧ vc = .int .u64 (cy : Int) ∧
          Hid (os.length = n + m ∧ Lb os ∧ val os + Bs ^ (i + k) * cy = val (xs.take i) * val ys + Bs ^ i * (x * val (ys.take k)) ∧ ∀ p, i + m ≤ p → os.getD p 0 = 0) ∧
          Hid (wr2.ownsRow w.heap.size 48 1 (.slice (some ⟨w.heap.size, 0, none⟩) (n + m) (n + m)) (n + m) (os.map u32V)) ∧ Hid (Ext w wr2))
        (fun _ vk _ => m - (intOf vk).toNat)
      case atStart =>
        exact ⟨0, 0, os, Nat.zero_le _, by omega, rfl, rfl, ⟨hos.out.1, hos.out.2.1, by rw [hos.out.2.2.1]; simp [val], hos.out.2.2.2⟩, hown.out, hext.out⟩
      case round =>
        clear hos hown hext os
        obtain ⟨k, cy, os, hk, hcyb, rfl, rfl, hos, hown, hext⟩ := hrel
        by_cases hkm : k < m
        · obtain ⟨b, off2, hBe⟩ : ∃ b off, B = some ⟨b, off, none⟩ := by
            rcases HB.out.shape with ⟨_, h, _⟩ | h
            · omega
            · exact h
          subst hBe
          obtain ⟨y, hy, hyb, hcelly⟩ := (HB.out.ext hext.out).get k hkm
          obtain ⟨o, ho, hob⟩ : ∃ o : Nat, Hid (os.getD (i + k) 0 = o) ∧ o < 4294967296 := ⟨_, rfl, lb_getD hos.out.2.1 _⟩
          obtain ⟨hc1, hf1⟩ := own_at hown.out (i + k) (by omega)
          rw [ho.out] at hc1
          obtain ⟨p, hp⟩ : ∃ p, p = x * y := ⟨_, rfl⟩
          have hpb : p ≤ 18446744065119617025 := by
            rw [hp]
            exact Nat.mul_le_mul (show x ≤ 4294967295 by omega) (show y ≤ 4294967295 by omega)
          have hpi : (x : Int) * (y : Int) = (p : Int) := by rw [hp]; exact (Int.natCast_mul _ _).symm
          have HP := Lib.hid hp
          clear hp
          go_wp2
          go_quiet (fail)
          go_wp2
          case roundEnd =>
            have hP := HP.out
            refine ⟨⟨k + 1, (p + o + cy) / 4294967296, os.set (i + k) ((p + o + cy) % 4294967296), by omega, by omega, by simp, by simp, ⟨?_, ?_, ?_, ?_⟩, ?_, ?_⟩, ?_⟩
            · simp [hos.out.1]
            · exact lb_set hos.out.2.1 _ (Nat.mod_lt _ (by decide))
            · rw [hP]
              exact times_step (by rw [hos.out.1]; omega) hos.out.2.2.1 ho.out hy.out
            · intro q hq
              rw [getD_set_ne (by omega)]
              exact hos.out.2.2.2 q hq
            · show World.ownsRow _ _ _ _ _ _ _
              have := own_set (own_drewN hown.out nq) (i + k) ((p + o + cy) % 4294967296)
              simpa using this
            · exact ext_setCell (ext_drewN hext.out nq) (Nat.le_refl _) _
            · simp [intOf]; omega
        · obtain rfl : k = m := by omega
          obtain ⟨hc1, hf1⟩ := own_at hown.out (i + k) (by omega)
          rw [hos.out.2.2.2 _ (Nat.le_refl _)] at hc1
          clear hkm
          go_wp2
          case roundEnd =>
            refine ⟨⟨i + 1, os.set (i + k) cy, by omega, by simp, ⟨?_, ?_, ?_, ?_⟩, ?_, ?_⟩, ?_⟩
            · simp [hos.out.1]
            · exact lb_set hos.out.2.1 _ hcyb
            · have h := hos.out.2.2.1
              rw [take_ge (l := ys) (by rw [hly.out]; exact Nat.le_refl _)] at h
              exact times_last (by rw [hos.out.1]; omega) h (hos.out.2.2.2 _ (Nat.le_refl _)) hx.out
            · intro q hq
              rw [getD_set_ne (by omega)]
              exact hos.out.2.2.2 q (by omega)
            · exact own_set hown.out _ _
            · exact ext_setCell hext.out (Nat.le_refl _) _
            · simp [intOf]; omega
    · obtain rfl : i = n := by omega
      obtain ⟨A', c', he, hR⟩ := Rd.own hown.out hos.out.2.1
      cases he
      have hv := hos.out.2.2.1
      rw [take_ge (by rw [hlx.out]; exact Nat.le_refl _)] at hv
      have hT := bw_trim_own hown.out hos.out.2.1 hv
      clear hR hv h0 hi
      go_wp2_with (first
        | (go_at_call 111; (with_reducible refine hT.mono ?_); rintro e w' ⟨⟨k, rfl, hR⟩, rfl⟩)
       )
      refine bodyPost_ret (v := .slice (some ⟨w.heap.size, 0, none⟩) k (i + m)) ?h rfl ⟨_, k, i + m, rfl, ⟨hR.out, ?_⟩, hext.out⟩
      case h => simp [results, Tryz.results200, go_sem]
      intro a ha; cases ha; exact Nat.le_refl _
theorem bw_divSmall (A : Option Addr) (n c : Nat) (xs : List Nat) (d : Nat) (hd : 0 < d) (hd2 : d < 4294967296) (hn : n ≤ 1000000) (w : World) (hA : Rd w A n c xs) :
    Calls Tryz.prog 185 #[.slice A n c, .int .u32 (d : Int)] w fun e w' => ∃ (A' : Option Addr) (k c' r : Nat), e = .returned (.tuple #[.slice A' k c', .int .u32 (r : Int)]) ∧ (r = val xs % d ∧ r < 4294967296) ∧ Hid (Rd w' A' k c' (lim (val xs / d)) ∧ Fr w A') ∧ Ext w w' := by
  have hmx := hA.mx
  have hcx := hA.cap
  have HA := Lib.hid hA
  have hlx := Lib.hid hA.len
  have hbx := Lib.hid hA.lb
  clear hA
  go_enter Tryz.func185, Tryz.ntmps185
  go_wp2_with (first
    | (at_make; refine make_u32 rfl _ _ rfl _ _ _ _ n rfl rfl rfl rfl (by omega) ?_; intro w1 hx1 ho1; have hext1 := Lib.hid hx1; clear hx1)
    | go_in)
  have hfr : w.heap.size < w1.heap.size := (ho1.out.lt w.heap.size rfl).2
  go_loopw [7, 8] (fun vr vi wr => ∃ j r : Nat, ∃ os : List Nat, j ≤ n ∧ r < d ∧ vi = .int .i64 ((j : Int) - 1) ∧ vr = .int .u64 (r : Int) ∧ Hid (os.length = n ∧ Lb os ∧ val (xs.drop j) = d * val (os.drop j) + r) ∧
      Hid (wr.ownsRow w.heap.size 48 1 (.slice (some ⟨w.heap.size, 0, none⟩) n n) n (os.map u32V)) ∧ Hid (Ext w wr))
    (fun _ vi _ => (intOf vi + 1).toNat)
  case atStart => exact ⟨n, 0, List.replicate n 0, Nat.le_refl _, hd, by go_num, rfl, ⟨by simp, lb_replicate n, by rw [List.drop_eq_nil_of_le (by rw [hlx.out]; exact Nat.le_refl _), List.drop_eq_nil_of_le (by simp)]; rfl⟩, ho1.out, hext1.out⟩
  case round =>
    obtain ⟨j, r, os, hj, hr, rfl, rfl, hos, hown, hext⟩ := hrel
    by_cases h0 : 0 < j
    · obtain ⟨b, off, hAe⟩ : ∃ b off, A = some ⟨b, off, none⟩ := by
        rcases HA.out.shape with ⟨_, h, _⟩ | h
        · omega
        · exact h
      subst hAe
      obtain ⟨x, hx, hxb, hcell⟩ := (HA.out.ext hext.out).get (j - 1) (by omega)
      obtain ⟨hc1, hf1⟩ := own_at hown.out (j - 1) (by omega)
      have hs : r * 4294967296 + x < d * 4294967296 := by omega
      have hor := or_shift r x (by omega) hxb
      obtain ⟨s, hse⟩ : ∃ s, s = r * 4294967296 + x := ⟨_, rfl⟩
      have hq : s / d < 4294967296 := (Nat.div_lt_iff_lt_mul hd).2 (by rw [hse]; omega)
      have hs64 : s < 18446744073709551616 := by
        have : d * 4294967296 ≤ 4294967296 * 4294967296 := Nat.mul_le_mul_right _ (by omega)
        omega
      have hm : s % d < d := Nat.mod_lt _ hd
      have hq1 : IntKind.u64.wrap ((s : Int) / (d : Int)) % 4294967296 = ((s / d : Nat) : Int) := by
        rw [← Int.natCast_ediv, IntKind.wrap_u64]
        generalize s / d = u at hq
        omega
      have hne : ((d : Int) == 0) = false := by simp; omega
      rw [← hse] at hor hs
      have HQ := Lib.hid hq1
      have HM := Lib.hid hm
      have HSE := Lib.hid hse
      have HQL := Lib.hid hq
      clear hq1 hm hse hq hs
      go_wp2
      case roundEnd =>
        refine ⟨⟨j - 1, s % d, os.set (j - 1) (s / d), by omega, HM.out, ?_, ?_, ⟨?_, ?_, ?_⟩, ?_, ?_⟩, ?_⟩
        · simp; omega
        · simp
        · simp [hos.out.1]
        · exact lb_set hos.out.2.1 _ HQL.out
        · have h := over_step hd h0 (by rw [hlx.out]; omega) (by rw [hos.out.1, hlx.out]) hos.out.2.2 hx.out
          rwa [← HSE.out] at h
        · show World.ownsRow _ _ _ _ _ _ _
          rw [HQ.out]
          exact own_set hown.out _ _
        · exact ext_setCell hext.out (Nat.le_refl _) _
        · simp [intOf]; omega
    · obtain rfl : j = 0 := by omega
      obtain ⟨A', c', he, hR⟩ := Rd.own hown.out hos.out.2.1
      cases he
      have hv := hos.out.2.2
      simp only [List.drop_zero] at hv
      have hdv : val os = val xs / d := by
        rw [hv, Nat.mul_add_div hd, Nat.div_eq_of_lt hr]; omega
      have hdm : r = val xs % d := by
        rw [hv, Nat.mul_add_mod, Nat.mod_eq_of_lt hr]
      have HDM := Lib.hid hdm
      have hT := bw_trim_own hown.out hos.out.2.1 hdv
      clear hR hv hdv hdm h0 hj
      go_wp2_with (first
        | (go_at_call 111; (with_reducible refine hT.mono ?_); rintro e w' ⟨⟨k, rfl, hR⟩, rfl⟩)
       )
      refine bodyPost_ret (v := .tuple #[.slice (some ⟨w.heap.size, 0, none⟩) k n, .int .u32 (r : Int)]) ?h rfl ⟨_, k, n, r, rfl, ⟨HDM.out, by omega⟩, ⟨hR.out, ?_⟩, hext.out⟩
      case h =>
        simp [results, Tryz.results185, go_sem]
        try omega
      intro a ha; cases ha; exact Nat.le_refl _
end Go.Proofs.YtnkajjealkggdaaGreatDoor
end
