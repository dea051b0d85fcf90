/- Lemmas of this proof, laid together: SlB, DecD, NatY, DecO, NtF, NtG, DecNo, DecN, DecS. -/
import Derived.Test.YtiapoflkeliljaaGreatDoorRows
import Derived.Test.YtiapoflkeliljaaGreatDoorMg03
import Derived.Test.YtiapoflkeliljaaGreatDoorMg04
import Derived.Test.YtiapoflkeliljaaGreatDoorMg06
import Derived.Laws.IdiomStrings
import Derived.Laws.BytesArg
import Derived.Laws.CopyRow
import Derived.Laws.CopyOwn
import Derived.Maps.AppendAt
import Derived.Deep.Heap
import Derived.Test.YtiapoflkeliljaaGreatDoorMg05
import Derived.Test.YtiapoflkeliljaaGreatDoorMg01
import Derived.Test.YtiapoflkeliljaaGreatDoorMg07
set_option linter.unusedSimpArgs false
set_option linter.unusedVariables false
section
/- Slices of bytes in memory. -/
namespace Go.Proofs.YtiapoflkeliljaaGreatDoor
open Go.RowKit
abbrev bV (b : UInt8) : Value := .int .u8 (b.toNat : Int)
theorem u8_under : Tryz.prog.underlying 70 = some (.slice 5) := by kernel_rfl
theorem u8_kind : Tryz.prog.underlying 5 = some (.int .u8) := by kernel_rfl
theorem str_kind : Tryz.prog.underlying 9 = some .string := by kernel_rfl
theorem u8_info : (Tryz.prog.info? 5).map (fun i => (i.zero, i.size, i.bytes)) = some (some (.int .u8 0), 1, 1) := by kernel_rfl
/-- A row of the call's own and a slice that lie in blocks of their own. -/
def Apt (v : Value) (A : Option Addr) (zs : List Nat) : Prop := ∀ a, A = some a → zs ≠ [] → v.ownBlock ≠ some a.block
theorem rd_lt {w : World} {A : Option Addr} {n c : Nat} {xs : List Nat} (h : Rd w A n c xs) {a : Addr} (ha : A = some a) (hne : xs ≠ []) : a.block < w.heap.size := by
  subst ha
  have h1 := h.at_ a rfl
  obtain ⟨b, off, s⟩ := a
  simp only at h1
  subst h1
  exact (h.cells b off rfl 0 (List.length_pos_iff.2 hne)).1
theorem rd_grown {w w' : World} {A : Option Addr} {n c : Nat} {xs : List Nat} {row : Option Nat} (h : Rd w A n c xs) (hg : w.grownBy w' row) (hne : ∀ a, A = some a → xs ≠ [] → row ≠ some a.block) : Rd w' A n c xs :=
  ⟨h.len, h.cap, h.mx, h.lb, h.none_, h.at_, fun b off hA i hi => by
    obtain ⟨h1, h2⟩ := h.cells b off hA i hi
    refine ⟨Nat.lt_of_lt_of_le h1 hg.size, ?_⟩
    rw [World.cell?_of_block (hg.block b h1 (fun e => hne _ hA (by intro e2; rw [e2] at hi; simp at hi) e.symm))]
    exact h2⟩
theorem own_ext {w w' : World} {base : Nat} {e : TypeId} {size : Nat} {v : Value} {n : Nat} {xs : List Value} (h : w.ownsRow base e size v n xs) (he : Ext w w') : w'.ownsRow base e size v n xs :=
  h.kept (row := none) ⟨he.os, he.tape, he.output, he.size, fun k hk _ => he.block k hk⟩ (by cases hv : v.ownBlock <;> simp)
theorem own_far {w : World} {base : Nat} {e : TypeId} {size : Nat} {v : Value} {n : Nat} {xs : List Value} (h : w.ownsRow base e size v n xs) (p : Addr) (u : Value) (hne : v.ownBlock ≠ some p.block) : (w.setCell p u).ownsRow base e size v n xs := by
  refine h.kept (row := some p.block) ⟨rfl, rfl, rfl, by simp, fun k _ hk => Go.Deep.blk_setCell_other w p u k (fun e => hk (by rw [e]))⟩ (.inr hne)
theorem push_u8 {ops : Array Oper} {rest : List Oper} {o : Oper} {a : Act} {Q : Exit → Act → World → Prop} {w : World} (hgd : o.guard = none) (s x : Operand)
    (ho : o.op = .call { callee := .builtin .append, args := #[s, x], argTypes := #[70, 70] })
    {W : World} {w0 : World} (ob : Obj) (hw : w = w0.alloc ob) (hW : Ext W w0) {base : Nat} (hbase : W.heap.size ≤ base) (hsz0 : base ≤ w0.heap.size) {v : Value} {n : Nat} {xs : List UInt8} (hown : w0.ownsRow base 5 1 v n (xs.map bV)) (hs : a.eval s = v)
    (y : UInt8) (ad : Addr) (c : Nat) (hx : a.eval x = .slice (some ad) 1 c) (hnew : w.cell? ad = some (bV y)) (hn : n ≤ 1000000000)
    (h : ∀ v' w', Ext W w' → Hid (w'.ownsRow base 5 1 v' (n + 1) ((xs ++ [y]).map bV)) → Hid (∀ A n' c' zs, Rd w0 A n' c' zs → Apt v A zs → Rd w' A n' c' zs ∧ Apt v' A zs) → wpList Tryz.prog ops Q rest (a.put o.dst v') w') : wpList Tryz.prog ops Q (o :: rest) a w := by
  obtain ⟨i, hi, hz, hsz, hby⟩ := info_parts u8_info
  subst hw
  refine wpList_append_own_at _ hgd s x _ ho base 5 i _ 1 1 u8_under hi hz hsz hby rfl (by decide) v n _ hs (hown.alloc _) ad 1 c [bV y] hx rfl ?_ ?_ ?_ ?_ ?_ ?_
  · intro j u hj
    match j, hj with
    | 0, hj => simp at hj; subst hj; simpa [Addr.add] using hnew
  · intro u hu; simp at hu; subst hu; rfl
  · unfold maxLen; omega
  · omega
  · simp; omega
  · intro v' w' ho' hg _ hat
    refine h v' w' (ext_grown (ext_alloc hW _) (hown.alloc _) hbase hg) ?_ ?_
    · show World.ownsRow _ _ _ _ _ _ _
      simpa using ho'
    · intro A n' c' zs hR hA
      have hR1 : Rd (w0.alloc ob) A n' c' zs := hR.ext (ext_alloc (ext_refl _) _)
      refine ⟨rd_grown hR1 hg hA, fun q hq hne => ?_⟩
      have hlt := rd_lt hR hq hne
      rcases hat with e | e
      · rw [e]; exact hA q hq hne
      · rw [e]; intro e2; simp at e2; omega
theorem made_zero8 (n : Nat) : (madeCells (Value.int .u8 0).cells (n * 1)).toList = (List.replicate n (0 : UInt8)).map bV := by
  unfold madeCells
  refine List.ext_getElem (by simp) fun i h1 h2 => ?_
  simp [Value.cells, bV, Nat.mod_one]
theorem make_u8 {ops : Array Oper} {rest : List Oper} {o : Oper} {a : Act} {Q : Exit → Act → World → Prop} {w : World} (hg : o.guard = none) (l c : Operand) (hop : o.op = Op.makeSlice 70 l c)
    (kl kc : IntKind) (L C : Int) (n : Nat) (hl : a.eval l = .int kl L) (hc : a.eval c = .int kc C) (hL : L = (n : Int)) (hC : C = (n : Int)) (hn : n ≤ 1000000000)
    (hK : ∀ w', Ext w w' → Hid (w'.ownsRow w.heap.size 5 1 (.slice (some ⟨w.heap.size, 0, none⟩) n n) n ((List.replicate n (0 : UInt8)).map bV)) → wpList Tryz.prog ops Q rest (a.put o.dst (.slice (some ⟨w.heap.size, 0, none⟩) n n)) w') :
    wpList Tryz.prog ops Q (o :: rest) a w := by
  obtain ⟨i, hi, hz, hsz, hby⟩ := info_parts u8_info
  refine wpList_make_full w hg l c _ hop w.heap.size 5 i _ 1 u8_under hi hz hsz kl kc L C n hl hc hL hC (by rw [hby]; omega) (by unfold maxLen; omega) (Nat.le_refl _) fun w' h1 h2 => ?_
  rw [made_zero8] at h1
  exact hK w' (ext_grown_none (ext_refl _) h2) h1
theorem ownb_at {w : World} {base : Nat} {e : TypeId} {g n cap : Nat} {xs : List UInt8} (h : w.ownsRow base e 1 (.slice (some ⟨g, 0, none⟩) n cap) n (xs.map bV)) (i : Nat) (hi : i < n) :
    w.cell? ⟨g, i, none⟩ = some (.int .u8 ((xs.getD i 0).toNat : Int)) ∧ w.frozen? ⟨g, i, none⟩ = false := by
  have hl : xs.length = n := by have := h.1; simpa using this
  rcases h.2 with ⟨h', _⟩ | ⟨g', cap', cur, h', hb, hg, hnc, hcm, hcs, htake⟩
  · simp at h'
  · simp only [Value.slice.injEq, Option.some.injEq, Addr.mk.injEq, and_true, true_and] at h'
    obtain ⟨rfl, rfl⟩ := h'
    refine ⟨?_, ?_⟩
    · rw [cell_of_row w g i cur e (0, 0) hg]
      have h1 : (cur.toList.take (n * 1))[i]? = (xs.map bV)[i]? := by rw [htake]
      rw [List.getElem?_take_of_lt (by omega), List.getElem?_map, List.getElem?_eq_getElem (show i < xs.length by omega)] at h1
      rw [List.getD_eq_getElem?_getD, List.getElem?_eq_getElem (show i < xs.length by omega)]
      simpa using h1
    · simp [World.frozen?, hg]
theorem ownb_set {w : World} {base : Nat} {e : TypeId} {g n cap : Nat} {xs : List UInt8} (h : w.ownsRow base e 1 (.slice (some ⟨g, 0, none⟩) n cap) n (xs.map bV)) (j : Nat) (y : UInt8) :
    (w.setCell ⟨g, j, none⟩ (bV y)).ownsRow base e 1 (.slice (some ⟨g, 0, none⟩) n cap) n ((xs.set j y).map bV) := by
  have := (h.stored j (bV y)).1
  rw [List.map_set]
  exact this
/-- 'string(b)' of a row of the call's own, cut or not. -/
theorem ownb_str {w : World} {base : Nat} {e : TypeId} {g n cap : Nat} {xs : List UInt8} (h : w.ownsRow base e 1 (.slice (some ⟨g, 0, none⟩) n cap) n (xs.map bV)) (i k c : Nat) (hk : i + k ≤ n) (l : List UInt8) (hl : l = (xs.drop i).take k) :
    (convert 70 9 (.slice (some ⟨g, i, none⟩) k c)).run Tryz.prog w = .ok (.string (bs l)) w := by
  have hx : xs.length = n := by have := h.1; simpa using this
  have hlen : l.length = k := by rw [hl, List.length_take, List.length_drop]; omega
  have := run_convert_bytes_back (P := Tryz.prog) w 70 9 5 ⟨g, i, none⟩ c l u8_under u8_kind str_kind (fun j hj => by
    have h1 := (ownb_at h (i + j) (by omega)).1
    rw [Addr.add_lit, h1, List.getD_eq_getElem?_getD, List.getElem?_eq_getElem (by omega)]
    have e1 : l[j] = xs[i + j]'(by omega) := by simp only [hl, List.getElem_take, List.getElem_drop]
    rw [e1]; rfl)
  rw [hlen] at this
  exact this
/-- 'copy' of a string into a row of the call's own. -/
theorem copy_str {w : World} {base : Nat} {g n cap : Nat} {xs : List UInt8} (h : w.ownsRow base 5 1 (.slice (some ⟨g, 0, none⟩) n cap) n (xs.map bV)) (i k c : Nat) (l : List UInt8) (hk : l.length = k) (hik : i + k ≤ n) (sT ty : TypeId) :
    ∃ w', (Builtin.copy_ #[70, sT] ty #[.slice (some ⟨g, i, none⟩) k c, .string (bs l)]).run Tryz.prog w = .ok (goInt k) w' ∧
      w'.ownsRow base 5 1 (.slice (some ⟨g, 0, none⟩) n cap) n ((xs.take i ++ l ++ xs.drop (i + k)).map bV) ∧ (∀ W, Ext W w → W.heap.size ≤ base → Ext W w') := by
  obtain ⟨hx, h2⟩ := h
  rcases h2 with ⟨h', _⟩ | ⟨g', cap', cur, h', hb, hg, hnc, hcm, hcs, htake⟩
  · simp at h'
  simp only [Value.slice.injEq, Option.some.injEq, Addr.mk.injEq, and_true, true_and] at h'
  obtain ⟨rfl, rfl⟩ := h'
  have hx' : xs.length = n := by simpa using hx
  have hcl : cur.toList.length = cap := by simpa using hcs
  obtain ⟨ii, hi, hz, hsz, hby⟩ := info_parts u8_info
  refine ⟨w.setRow g (cur.toList.take i ++ l.map bV ++ cur.toList.drop (i + k)).toArray, ?_, ?_, ?_⟩
  · have hst := run_storeCells_at Tryz.prog g i 5 (l.map bV) 0 cur w hg (by simp at hcl ⊢; omega) (fun v hv => by obtain ⟨b, _, rfl⟩ := List.mem_map.1 hv; rfl)
    simp only [Nat.add_zero, List.length_map, hk] at hst
    simp [Builtin.copy_, run_underlying u8_under, Builtin.lenOf, Builtin.firstCells, sizeOf, typeInfo, hi, bs_size, hk]
    have he2 : List.take k (List.map (fun b => Value.int .u8 (b.toNat : Int)) (bs l).data.toList) = l.map bV := by
      rw [bs_data, ← hk, List.take_of_length_le (by simp)]
    rw [he2]
    simp [hst]
  · refine ⟨by simp; omega, .inr ⟨g, cap, _, rfl, hb, setRow_heap w g cur _ _ _ hg, hnc, hcm, by simp at hcl ⊢; omega, ?_⟩⟩
    simp only [Nat.mul_one] at htake ⊢
    have e1 : cur.toList.take i = (xs.map bV).take i := by rw [← htake, List.take_take, Nat.min_eq_left (by omega)]
    have e2 : (cur.toList.drop (i + k)).take (n - (i + k)) = (xs.map bV).drop (i + k) := by rw [← htake, List.drop_take]
    have l1 : (cur.toList.take i ++ l.map bV).length = i + k := by simp at hcl ⊢; omega
    rw [List.toList_toArray, List.take_append, l1, List.take_of_length_le (by omega), e2, e1, List.map_append, List.map_append, List.map_take, List.map_drop]
  · intro W he hW
    have : Below W.heap.size W w := he
    exact below_setRow this (by omega) _
end Go.Proofs.YtiapoflkeliljaaGreatDoor
end
section
/- What rounding decimals comes to; the refusals. -/
namespace Go.Proofs.YtiapoflkeliljaaGreatDoor
open Go.RowKit
attribute [local go_sem] bs_size bs_extract bs_get bs_append bs_toList const_get
attribute [local go_sem] sz2 sz3 sz4 sz5 sz6 sz7 sz8
set_option maxHeartbeats 4000000
set_option maxRecDepth 100000
attribute [local irreducible] Calls
/-- Check's error. -/
def dcE (d : Dc) : Int :=
  if 65536 < d.dig.length then 4 else if d.dig.length = 0 then (if d.exp = 0 then 0 else 100) else
  if digsB d.dig = false then 100 else if d.dig.head? = some 48 ∨ d.dig.getLast? = some 48 ∨ far d.exp = true then 100 else 0
/-- A decimal that may be, and is not nought. -/
structure Ok (d : Dc) : Prop where
  len : d.dig.length ≤ 65536
  pos : 0 < d.dig.length
  digs : digsB d.dig = true
  lead : lead d.dig
  exp : -1073741824 ≤ d.exp ∧ d.exp ≤ 1073741824
theorem far_false {n : Int} (h : far n = false) : -1073741824 ≤ n ∧ n ≤ 1073741824 := by
  unfold far at h
  simp at h
  omega
theorem dc_ok {d : Dc} (h : dcE d = 0) (h0 : 0 < d.dig.length) : Ok d := by
  unfold dcE at h
  split at h
  · cases h
  · rw [if_neg (by omega)] at h
    split at h
    · cases h
    · split at h
      · cases h
      · rename_i h1 h2 h3
        refine ⟨by omega, h0, by simpa using h2, fun x hx e => h3 (.inl (by rw [hx, e])), far_false ?_⟩
        cases hf : far d.exp
        · rfl
        · exact absurd (.inr (.inr hf)) h3
theorem check_any' (d : Dc) (hl : d.dig.length ≤ 9223372036854775807) (w : World) : Calls Tryz.prog 132 #[dcV d] w fun e w' => e = .returned (.int .i64 (dcE d)) ∧ Ext w w' := by
  obtain ⟨neg, l, exp⟩ := d
  simp only [dcE]
  simp only at hl
  by_cases h1 : 65536 < l.length
  · rw [if_pos h1]
    go_enter Tryz.func132, Tryz.ntmps132
    go_wp2
    refine bodyPost_ret (v := _) ?h rfl ⟨rfl, ?_⟩
    case h => simp [results, Tryz.results132, go_sem]
    repeat (first | exact ext_refl _ | assumption | refine ext_setCell ?_ (by simp; try omega) _ | refine ext_alloc ?_ _ | refine ext_drew ?_ | refine ext_drewN ?_ _ | refine ext_trans ?_ (Aft.use _) | refine ext_trans ?_ (by assumption))
  rw [if_neg h1]
  by_cases h2 : l.length = 0
  · rw [if_pos h2]
    obtain rfl : l = [] := List.eq_nil_of_length_eq_zero h2
    by_cases h3 : exp = 0
    · subst h3
      go_enter Tryz.func132, Tryz.ntmps132
      go_wp2
      refine bodyPost_ret (v := _) ?h rfl ⟨rfl, ?_⟩
      case h => simp [results, Tryz.results132, go_sem]
      repeat (first | exact ext_refl _ | assumption | refine ext_setCell ?_ (by simp; try omega) _ | refine ext_alloc ?_ _ | refine ext_drew ?_ | refine ext_drewN ?_ _ | refine ext_trans ?_ (Aft.use _) | refine ext_trans ?_ (by assumption))
    · rw [if_neg h3]
      have hne : (exp == 0) = false := by simp [h3]
      clear h3
      go_enter Tryz.func132, Tryz.ntmps132
      go_wp2
      refine bodyPost_ret (v := _) ?h rfl ⟨rfl, ?_⟩
      case h => simp [results, Tryz.results132, go_sem]
      repeat (first | exact ext_refl _ | assumption | refine ext_setCell ?_ (by simp; try omega) _ | refine ext_alloc ?_ _ | refine ext_drew ?_ | refine ext_drewN ?_ _ | refine ext_trans ?_ (Aft.use _) | refine ext_trans ?_ (by assumption))
  rw [if_neg h2]
  have hne : ((l.length : Int) == 0) = false := by rw [beq_eq_false_iff_ne]; omega
  have h0 : 0 < l.length := by omega
  clear h2
  cases h4 : digsB l
  · rw [if_pos rfl]
    go_enter Tryz.func132, Tryz.ntmps132
    go_wp2_with (first
      | (go_at_call 200; (with_reducible refine (digits_any _ hl _).mono ?_); rintro e w' ⟨rfl, rfl⟩)
     )
    refine bodyPost_ret (v := _) ?h rfl ⟨rfl, ?_⟩
    case h => simp [results, Tryz.results132, go_sem]
    repeat (first | exact ext_refl _ | assumption | refine ext_setCell ?_ (by simp; try omega) _ | refine ext_alloc ?_ _ | refine ext_drew ?_ | refine ext_drewN ?_ _ | refine ext_trans ?_ (Aft.use _) | refine ext_trans ?_ (by assumption))
  rw [if_neg (by simp)]
  have hh : l.head? = some l[0] := by rw [List.head?_eq_getElem?, List.getElem?_eq_getElem h0]
  have hg : l.getLast? = some l[l.length - 1] := by rw [List.getLast?_eq_getElem?, List.getElem?_eq_getElem (show l.length - 1 < l.length by omega)]
  rw [hh, hg]
  clear hh hg
  by_cases h5 : l[0] = 48
  · rw [if_pos (.inl (by rw [h5]))]
    have hc := (byte_48 l[0]).2 h5
    clear h5
    go_enter Tryz.func132, Tryz.ntmps132
    go_wp2_with (first
      | (go_at_call 200; (with_reducible refine (digits_any _ hl _).mono ?_); rintro e w' ⟨rfl, rfl⟩)
     )
    refine bodyPost_ret (v := _) ?h rfl ⟨rfl, ?_⟩
    case h => simp [results, Tryz.results132, go_sem]
    repeat (first | exact ext_refl _ | assumption | refine ext_setCell ?_ (by simp; try omega) _ | refine ext_alloc ?_ _ | refine ext_drew ?_ | refine ext_drewN ?_ _ | refine ext_trans ?_ (Aft.use _) | refine ext_trans ?_ (by assumption))
  have hc := (byte_48n l[0]).2 h5
  by_cases h6 : l[l.length - 1] = 48
  · rw [if_pos (.inr (.inl (by rw [h6])))]
    have hc2 := (byte_48 l[l.length - 1]).2 h6
    clear h5 h6
    go_enter Tryz.func132, Tryz.ntmps132
    go_wp2_with (first
      | (go_at_call 200; (with_reducible refine (digits_any _ hl _).mono ?_); rintro e w' ⟨rfl, rfl⟩)
     )
    refine bodyPost_ret (v := _) ?h rfl ⟨rfl, ?_⟩
    case h => simp [results, Tryz.results132, go_sem]
    repeat (first | exact ext_refl _ | assumption | refine ext_setCell ?_ (by simp; try omega) _ | refine ext_alloc ?_ _ | refine ext_drew ?_ | refine ext_drewN ?_ _ | refine ext_trans ?_ (Aft.use _) | refine ext_trans ?_ (by assumption))
  have hc2 := (byte_48n l[l.length - 1]).2 h6
  cases h7 : far exp
  · rw [if_neg (by simp [h5, h6])]
    clear h5 h6
    go_enter Tryz.func132, Tryz.ntmps132
    go_wp2_with (first
      | (go_at_call 200; (with_reducible refine (digits_any _ hl _).mono ?_); rintro e w' ⟨rfl, rfl⟩)
      | (go_at_call 201; (with_reducible refine (far_any _ _).mono ?_); rintro e w' ⟨rfl, rfl⟩)
     )
    refine bodyPost_ret (v := _) ?h rfl ⟨rfl, ?_⟩
    case h => simp [results, Tryz.results132, go_sem]
    repeat (first | exact ext_refl _ | assumption | refine ext_setCell ?_ (by simp; try omega) _ | refine ext_alloc ?_ _ | refine ext_drew ?_ | refine ext_drewN ?_ _ | refine ext_trans ?_ (Aft.use _) | refine ext_trans ?_ (by assumption))
  · rw [if_pos (.inr (.inr rfl))]
    clear h5 h6
    go_enter Tryz.func132, Tryz.ntmps132
    go_wp2_with (first
      | (go_at_call 200; (with_reducible refine (digits_any _ hl _).mono ?_); rintro e w' ⟨rfl, rfl⟩)
      | (go_at_call 201; (with_reducible refine (far_any _ _).mono ?_); rintro e w' ⟨rfl, rfl⟩)
     )
    refine bodyPost_ret (v := _) ?h rfl ⟨rfl, ?_⟩
    case h => simp [results, Tryz.results132, go_sem]
    repeat (first | exact ext_refl _ | assumption | refine ext_setCell ?_ (by simp; try omega) _ | refine ext_alloc ?_ _ | refine ext_drew ?_ | refine ext_drewN ?_ _ | refine ext_trans ?_ (Aft.use _) | refine ext_trans ?_ (by assumption))
end Go.Proofs.YtiapoflkeliljaaGreatDoor
end
section
/- The document writes digits. -/
namespace Go.Proofs.YtiapoflkeliljaaGreatDoor
open Go.RowKit
attribute [local go_sem] bs_size bs_extract bs_get bs_append bs_toList const_get
attribute [local go_sem] sz2 sz3 sz4 sz5 sz6 sz7 sz8
set_option maxHeartbeats 4000000
set_option maxRecDepth 100000
/-- The number that a slice bears. -/
def svalAt (w : World) : Value → Nat
  | .slice (some a) n _ => val ((List.range n).map fun i => match w.cell? ⟨a.block, a.off + i, none⟩ with | some (.int _ x) => x.toNat | _ => 0)
  | _ => 0
theorem sval_rd {w : World} {A : Option Addr} {n c : Nat} {xs : List Nat} (h : Rd w A n c xs) : svalAt w (.slice A n c) = val xs := by
  rcases h.shape with ⟨rfl, _, _, rfl⟩ | ⟨b, off, rfl⟩
  · rfl
  · unfold svalAt
    refine congrArg val (List.ext_getElem (by rw [List.length_map, List.length_range, h.len]) fun i h1 h2 => ?_)
    rw [List.getElem_map, List.getElem_range, (h.cells b off rfl i h2).2]
    simp
theorem digs_lim' {v k : Nat} (h : (lim v).length ≤ k) : (digs v).length ≤ 32 * k := by
  refine digs_len (Nat.lt_of_lt_of_le (lim_lt v) ?_)
  have h1 : Bs ^ (lim v).length ≤ Bs ^ k := Nat.pow_le_pow_right (by decide) h
  have h2 : Bs ^ k ≤ (10 ^ 32) ^ k := Nat.pow_le_pow_left (by decide) _
  rw [← Nat.pow_mul] at h2
  exact Nat.le_trans h1 h2
theorem digs_lim {v : Nat} (h : (lim v).length ≤ 16384) : (digs v).length ≤ 524288 := digs_lim' h
attribute [local irreducible] Calls
end Go.Proofs.YtiapoflkeliljaaGreatDoor
end
section
/- Small pieces: nought; sizes. -/
namespace Go.Proofs.YtiapoflkeliljaaGreatDoor
open Go.RowKit
attribute [local go_sem] bs_size bs_extract bs_get bs_append bs_toList const_get
attribute [local go_sem] sz2 sz3 sz4 sz5 sz6 sz7 sz8
set_option maxHeartbeats 4000000
set_option maxRecDepth 100000
attribute [local irreducible] Calls
theorem none_any (neg : Bool) (l : List UInt8) (exp : Int) (w : World) : Calls Tryz.prog 193 #[.agg #[.bool neg, .string (bs l), .int .i64 exp]] w fun e w' => e = .returned (.bool l.isEmpty) ∧ Ext w w' := by
  rcases hl : l with _ | ⟨a, t⟩
  all_goals
    go_enter Tryz.func193, Tryz.ntmps193
    go_wp2
    refine bodyPost_ret (v := _) ?h rfl ⟨rfl, ?_⟩
    case h => simp [results, Tryz.results193, go_sem]
    repeat (first | exact ext_refl _ | assumption | refine ext_setCell ?_ (by simp; try omega) _ | refine ext_alloc ?_ _ | refine ext_drew ?_ | refine ext_drewN ?_ _ | refine ext_trans ?_ (Aft.use _) | refine ext_trans ?_ (by assumption))
theorem big_pow {n k : Nat} (h : n ≤ 4 * k) (hk : k ≠ 0) : 10 ^ n < Bs ^ k := by
  have h1 : 10 ^ n ≤ 10 ^ (4 * k) := Nat.pow_le_pow_right (by decide) h
  have h2 : (10 ^ 4) ^ k < Bs ^ k := Nat.pow_lt_pow_left (by decide) hk
  rw [← Nat.pow_mul] at h2
  exact Nat.lt_of_le_of_lt h1 h2
theorem lim_fits {v n k : Nat} (hv : v ≤ 10 ^ n) (h : n ≤ 4 * k) (hk : k ≠ 0) : (lim v).length ≤ k := lim_le (Nat.lt_of_le_of_lt hv (big_pow h hk))
end Go.Proofs.YtiapoflkeliljaaGreatDoor
end
section
/- The program's quotient by a small number; its text. -/
namespace Go.Proofs.YtiapoflkeliljaaGreatDoor
open Go.RowKit
attribute [local go_sem] bs_size bs_extract bs_get bs_append bs_toList const_get
attribute [local go_sem] sz2 sz3 sz4 sz5 sz6 sz7 sz8
set_option maxHeartbeats 4000000
set_option maxRecDepth 100000
attribute [local irreducible] Calls
theorem div32_any (r x d : Nat) (hr : r < d) (hx : x < 4294967296) (hd2 : d < 4294967296) (w : World) : Calls Tryz.prog 268 #[.int .u32 (r : Int), .int .u32 (x : Int), .int .u32 (d : Int)] w fun e w' =>
    e = .returned (.tuple #[.int .u32 (((r * 4294967296 + x) / d : Nat) : Int), .int .u32 (((r * 4294967296 + x) % d : Nat) : Int)]) ∧ Ext w w' := by
  have hd : 0 < d := by omega
  have hs : r * 4294967296 + x < d * 4294967296 := by omega
  have hor := or_shift r x (by omega) hx
  obtain ⟨s, hse⟩ : ∃ s, s = r * 4294967296 + x := ⟨_, rfl⟩
  have hq : s / d < 4294967296 := (Nat.div_lt_iff_lt_mul hd).2 (by rw [hse]; omega)
  have hs64 : s < 18446744073709551616 := by
    have : d * 4294967296 ≤ 4294967296 * 4294967296 := Nat.mul_le_mul_right _ (by omega)
    omega
  have hm : s % d < d := Nat.mod_lt _ hd
  obtain ⟨u, hu⟩ : ∃ u, s / d = u := ⟨_, rfl⟩
  obtain ⟨v, hv⟩ : ∃ v, s % d = v := ⟨_, rfl⟩
  have hui : (s : Int) / (d : Int) = (u : Int) := by rw [← hu]; exact (Int.natCast_ediv s d).symm
  have hvi : (s : Int) % (d : Int) = (v : Int) := by rw [← hv]; exact (Int.natCast_emod s d).symm
  have hub : u < 4294967296 := by omega
  have hvb : v < 4294967296 := by omega
  have hne : ((d : Int) == 0) = false := by rw [beq_eq_false_iff_ne]; omega
  rw [← hse] at hor ⊢
  rw [hu, hv]
  clear hs hse hq hm hu hv
  go_enter Tryz.func268, Tryz.ntmps268
  go_wp2
  go_quiet (fail)
  go_wp2
  refine bodyPost_ret (v := .tuple #[.int .u32 (u : Int), .int .u32 (v : Int)]) ?h rfl ⟨rfl, ?_⟩
  case h => simp [results, Tryz.results268, go_sem]
  exact ext_drewN (ext_refl _) _
theorem small_any (A : Option Addr) (n c : Nat) (xs : List Nat) (d : Nat) (hd : 0 < d) (hd2 : d < 4294967296) (hn : n ≤ 1000000) (w : World) (hA : Rd w A n c xs) :
    Calls Tryz.prog 210 #[.slice A n c, .int .u32 (d : Int)] w fun e w' => ∃ (A' : Option Addr) (os : List Nat) (r : Nat), e = .returned (.tuple #[.slice A' n n, .int .u32 (r : Int)]) ∧ Hid (r = val xs % d ∧ Rd w' A' n n os ∧ val os = val xs / d ∧ Fr w A') ∧ Ext w w' := by
  have hmx := hA.mx
  have hcx := hA.cap
  have HA := Lib.hid hA
  have hlx := Lib.hid hA.len
  clear hA
  go_enter Tryz.func210, Tryz.ntmps210
  go_wp2_with (first
    | (at_make; refine make_u32 rfl _ _ rfl _ _ _ _ n rfl rfl rfl rfl (by omega) ?_; intro w1 hx1 ho1; have hext1 := Lib.hid hx1; clear hx1)
    | go_in)
  have hfr : w.heap.size < w1.heap.size := (ho1.out.lt w.heap.size rfl).2
  go_loopw [7, 8] (fun vr vi wr => ∃ j r : Nat, ∃ os : List Nat, j ≤ n ∧ r < d ∧ vi = .int .i64 ((j : Int) - 1) ∧ vr = .int .u32 (r : Int) ∧ Hid (os.length = n ∧ Lb os ∧ val (xs.drop j) = d * val (os.drop j) + r) ∧
      Hid (wr.ownsRow w.heap.size 54 1 (.slice (some ⟨w.heap.size, 0, none⟩) n n) n (os.map u32V)) ∧ Hid (Ext w wr))
    (fun _ vi _ => (intOf vi + 1).toNat)
  case atStart => exact ⟨n, 0, List.replicate n 0, Nat.le_refl _, hd, by go_num, rfl, ⟨by simp, lb_replicate n, by rw [List.drop_eq_nil_of_le (by rw [hlx.out]; exact Nat.le_refl _), List.drop_eq_nil_of_le (by simp)]; rfl⟩, ho1.out, hext1.out⟩
  case round =>
    obtain ⟨j, r, os, hj, hr, rfl, rfl, hos, hown, hext⟩ := hrel
    by_cases h0 : 0 < j
    · obtain ⟨b, off, hAe⟩ : ∃ b off, A = some ⟨b, off, none⟩ := by
        rcases HA.out.shape with ⟨_, h, _⟩ | h
        · omega
        · exact h
      subst hAe
      obtain ⟨x, hx, hxb, hcell⟩ := (HA.out.ext hext.out).get (j - 1) (by omega)
      obtain ⟨hc1, hf1⟩ := own_at hown.out (j - 1) (by omega)
      have hst := Lib.hid (over_step (d := d) hd h0 (by rw [hlx.out]; omega) (by rw [hos.out.1, hlx.out]) hos.out.2.2 hx.out)
      have hdv := div32_any r x d hr hxb hd2
      have hql : (r * 4294967296 + x) / d < 4294967296 := (Nat.div_lt_iff_lt_mul hd).2 (by omega)
      have hrl : (r * 4294967296 + x) % d < d := Nat.mod_lt _ hd
      generalize (r * 4294967296 + x) / d = u at hst hdv hql
      generalize (r * 4294967296 + x) % d = v at hst hdv hrl
      have hgl : w.heap.size < wr.heap.size := (hown.out.lt w.heap.size (by simp [Value.ownBlock])).2
      go_wp2_with (first
        | (go_at_call 268; (with_reducible refine (hdv _).mono ?_); rintro e w2 ⟨rfl, xb2⟩; obtain ⟨xc2, xf2, xl2, xz2⟩ := ext_use xb2; (try simp at xz2); obtain ⟨l2_0, gc, gf⟩ := kp xb2 (w.heap.size) (by first | omega | (simp; try omega)); have r2_0 := gc 0; have f2_0 := gf 0; clear gc gf)
       )
      case roundEnd =>
        refine ⟨⟨j - 1, v, os.set (j - 1) u, by omega, hrl, ?_, rfl, ⟨by rw [List.length_set]; exact hos.out.1, lb_set hos.out.2.1 _ hql, hst.out⟩, own_set (own_ext hown.out xb2) _ _, ext_setCell (ext_trans hext.out xb2) (Nat.le_refl _) _⟩, ?_⟩
        · simp; omega
        · simp [intOf]; omega
    · obtain rfl : j = 0 := by omega
      obtain ⟨A', c', he, hR⟩ := Rd.own hown.out hos.out.2.1
      cases he
      have hv := hos.out.2.2
      simp only [List.drop_zero] at hv
      have hdv : val os = val xs / d := by
        rw [hv, Nat.mul_add_div hd, Nat.div_eq_of_lt hr]; omega
      have hdm : r = val xs % d := by
        rw [hv, Nat.mul_add_mod, Nat.mod_eq_of_lt hr]
      have HX := Lib.hid (show r = val xs % d ∧ Rd wr (some ⟨w.heap.size, 0, none⟩) n n os ∧ val os = val xs / d ∧ Fr w (some ⟨w.heap.size, 0, none⟩) from ⟨hdm, hR, hdv, fun q hq => by cases hq; exact Nat.le_refl _⟩)
      clear hR hv hdv hdm h0 hj
      go_wp2
      refine bodyPost_ret (v := .tuple #[.slice (some ⟨w.heap.size, 0, none⟩) n n, .int .u32 (r : Int)]) ?h rfl ⟨_, os, r, rfl, HX, hext.out⟩
      case h => simp [results, Tryz.results210, go_sem]
theorem digit_of (d : Nat) (h : d < 10) : (UInt8.ofNat (48 + d)).toNat = 48 + d := by simp; omega
theorem dval_cons (b : UInt8) (l : List UInt8) : dval (b :: l) = (b.toNat - 48) * 10 ^ l.length + dval l := by
  have := dval_append [b] l
  rw [show [b] ++ l = b :: l from rfl] at this
  rw [this]
  simp [dval]
/-- One digit more. -/
theorem back_step {v q P r : Nat} {back : List UInt8} (h : v = (q * (10 * P) + r) * 10 ^ back.length + dval back.reverse) :
    v = (q * P + r / 10) * 10 ^ (back ++ [UInt8.ofNat (48 + r % 10)]).length + dval (back ++ [UInt8.ofNat (48 + r % 10)]).reverse := by
  rw [List.reverse_append]
  show v = _ + dval (UInt8.ofNat (48 + r % 10) :: back.reverse)
  rw [dval_cons, digit_of _ (Nat.mod_lt _ (by decide)), List.length_append, List.length_reverse, h]
  have e1 : q * (10 * P) + r = 10 * (q * P + r / 10) + r % 10 := by
    have := Nat.div_add_mod r 10
    have e : q * (10 * P) = 10 * (q * P) := Nat.mul_left_comm _ _ _
    omega
  rw [e1]
  simp only [List.length_cons, List.length_nil, Nat.zero_add]
  rw [Nat.pow_succ, Nat.add_mul, show 48 + r % 10 - 48 = r % 10 by omega, Nat.mul_comm (10 ^ back.length) 10, Nat.mul_comm 10 (q * P + r / 10), Nat.mul_assoc, Nat.add_assoc]
theorem strip_zeros {back : List UInt8} {k : Nat} (hk : k ≤ back.length) (h : ∀ p, k ≤ p → p < back.length → back.getD p 0 = 48) : dval back.reverse = dval (back.take k).reverse := by
  have e : back = back.take k ++ List.replicate (back.length - k) 48 := by
    refine List.ext_getElem (by simp; omega) fun p h1 h2 => ?_
    by_cases hp : p < k
    · rw [List.getElem_append_left (by simp; omega), List.getElem_take]
    · rw [List.getElem_append_right (by simp; omega), List.getElem_replicate]
      have := h p (by omega) h1
      rwa [List.getD_eq_getElem?_getD, List.getElem?_eq_getElem h1] at this
  conv => lhs; rw [e]
  rw [List.reverse_append, dval_append, List.reverse_replicate, dval_noughts]
  simp
end Go.Proofs.YtiapoflkeliljaaGreatDoor
end
section
/- The program writes digits. -/
namespace Go.Proofs.YtiapoflkeliljaaGreatDoor
open Go.RowKit
attribute [local go_sem] bs_size bs_extract bs_get bs_append bs_toList const_get
attribute [local go_sem] sz2 sz3 sz4 sz5 sz6 sz7 sz8
set_option maxHeartbeats 4000000
set_option maxRecDepth 100000
theorem v_lt {v k : Nat} (h : (lim v).length ≤ k) : v < 10 ^ (32 * k) := by
  refine Nat.lt_of_lt_of_le (lim_lt v) ?_
  have h1 : Bs ^ (lim v).length ≤ Bs ^ k := Nat.pow_le_pow_right (by decide) h
  have h2 : Bs ^ k ≤ (10 ^ 32) ^ k := Nat.pow_le_pow_left (by decide) _
  rw [← Nat.pow_mul] at h2
  exact Nat.le_trans h1 h2
theorem back_len {v u K : Nat} {back : List UInt8} (hK : v < 10 ^ K) (hu : 0 < u) (h : v = u * 10 ^ back.length + dval back.reverse) : back.length ≤ K := by
  rcases Nat.lt_or_ge K back.length with h1 | h1
  · have h2 : 10 ^ K ≤ 10 ^ back.length := Nat.pow_le_pow_right (by decide) (by omega)
    have h3 : 1 * 10 ^ back.length ≤ u * 10 ^ back.length := Nat.mul_le_mul_right _ hu
    omega
  · exact h1
theorem dtext_back {v k : Nat} {back : List UInt8} (hk0 : 0 < k) (hk : k ≤ back.length) (hv : v = dval back.reverse) (hd : digsB back = true) (hz : ∀ p, k ≤ p → p < back.length → back.getD p 0 = 48) (hn : back.getD (k - 1) 0 ≠ 48) : dtext v = (back.take k).reverse := by
  have hd1 : digsB (back.take k).reverse = true := by
    have := digs_take hd k
    unfold digsB at *
    rw [List.all_reverse]; exact this
  have hl : lead (back.take k).reverse := by
    intro x hx e
    rw [List.head?_reverse, List.getLast?_eq_getElem?, List.length_take, Nat.min_eq_left hk, List.getElem?_take_of_lt (by omega)] at hx
    rw [List.getD_eq_getElem?_getD, hx] at hn
    exact hn e
  have hne : (back.take k).reverse ≠ [] := by
    intro e
    have := congrArg List.length e
    rw [List.length_reverse, List.length_take, Nat.min_eq_left hk] at this
    exact absurd this (by show k ≠ 0; omega)
  have hvv : v = dval (back.take k).reverse := hv.trans (strip_zeros hk hz)
  have hp := dval_pos hd1 hl hne
  have h0 : v ≠ 0 := by rw [hvv]; omega
  unfold dtext
  rw [if_neg h0, hvv, digs_dval hd1 hl]
theorem field_nat (A : Option Addr) (k c : Nat) (w : World) : (Instr.field 30 (natV A k c) 0).run Tryz.prog w = .ok (.slice A k c) w := by kernel_rfl
attribute [local irreducible] Calls
attribute [local go_sem] field_nat
theorem ptext_any (A : Option Addr) (n c v : Nat) (hs : (lim v).length ≤ 16384) (w : World) (hA : Rd w A n c (lim v)) :
    Calls Tryz.prog 140 #[natV A n c] w fun e w' => e = .returned (.tuple #[.string (bs (dtext v)), .int .i64 0]) ∧ Ext w w' := by
  have hn := hA.len
  have hcx := hA.cap
  have hmx := hA.mx
  obtain ⟨K, hK, hvK⟩ : ∃ K, K ≤ 524288 ∧ Hid (v < 10 ^ K) := ⟨32 * n, by omega, v_lt (by omega)⟩
  have hck : ∀ w', Hid (Ext w w') → Calls Tryz.prog 98 #[natV A n c] w' fun e w'' => e = .returned (.int .i64 0) ∧ Ext w' w'' := fun w' he => by
    have := ncheck_any A n c _ w' (hA.ext he.out)
    rwa [chk_lim hs] at this
  have hnn : n ≤ 16384 := by omega
  have HA := Lib.hid hA
  clear hA hs
  go_enter Tryz.func140, Tryz.ntmps140
  go_wp2_with (first
    | (go_at_call 98; (with_reducible refine (hck _ (Lib.hid (by (repeat (first | exact ext_refl _ | assumption | refine ext_setCell ?_ (by simp; try omega) _ | refine ext_alloc ?_ _ | refine ext_drew ?_ | refine ext_drewN ?_ _ | refine ext_trans ?_ (Aft.use _) | refine ext_trans ?_ (by assumption)))))).mono ?_); rintro e w' ⟨rfl, xb⟩; obtain ⟨xc, xf, xl, xz⟩ := ext_use xb; (try simp at xz))
   )
  have HE : Hid (Ext w w') := Lib.hid (by (repeat (first | exact ext_refl _ | assumption | refine ext_setCell ?_ (by simp; try omega) _ | refine ext_alloc ?_ _ | refine ext_drew ?_ | refine ext_drewN ?_ _ | refine ext_trans ?_ (Aft.use _) | refine ext_trans ?_ (by assumption))))
  have HA' := Lib.hid (HA.out.ext HE.out)
  clear xc xf xl xz hck HA xb
  go_loopw [5, 6] (fun vb vl wr => ∃ (A' : Option Addr) (k' c' u : Nat) (back : List UInt8), vl = .slice A' k' c' ∧ Hid (Rd wr A' k' c' (lim u)) ∧ k' ≤ 16384 ∧ back.length ≤ 600000 ∧ Hid (v = u * 10 ^ back.length + dval back.reverse ∧ digsB back = true) ∧ Hid (wr.ownsRow w'.heap.size 5 1 vb back.length (back.map bV)) ∧ Hid (Ext w' wr))
    (fun _ vl wr => svalAt wr vl)
  case atStart => exact ⟨A, n, c, v, [], rfl, HA'.out, hnn, by simp, Lib.hid ⟨by simp [dval], rfl⟩, World.ownsRow_nil _ _ _ _, ext_refl _⟩
  case round =>
    obtain ⟨A', k', c', u, back, rfl, hR, hk', hbl, hdig, hown, hext⟩ := hrel
    have hkc := hR.out.cap
    have hcm := hR.out.mx
    by_cases hk0 : 0 < k'
    · have hu0 : 0 < u := by
        rcases Nat.eq_zero_or_pos u with e | e
        · have := hR.out.len
          rw [e, lim_zero] at this
          simp at this; omega
        · exact e
      have hbl1 : back.length ≤ 524288 := Nat.le_trans (back_len hvK.out hu0 hdig.out.1) hK
      obtain ⟨q, hq⟩ : ∃ q, q = u / 1000000000 := ⟨_, rfl⟩
      have hsm : Calls Tryz.prog 210 #[.slice A' k' c', .int .u32 1000000000] wr fun e w'' => ∃ (A2 : Option Addr) (os : List Nat) (r : Nat), e = .returned (.tuple #[.slice A2 k' k', .int .u32 (r : Int)]) ∧ Hid (r = u % 1000000000 ∧ Rd w'' A2 k' k' os ∧ val os = q ∧ Fr wr A2) ∧ Ext wr w'' := by
        refine (small_any A' k' c' (lim u) 1000000000 (by decide) (by decide) (by omega) wr hR.out).mono ?_
        rintro e w'' ⟨A2, os, r, he, h1, h2⟩
        have h3 := h1.out
        rw [val_lim, ← hq] at h3
        exact ⟨A2, os, r, he, h3, h2⟩
      have HQ := Lib.hid hq
      clear hq
      go_wp2_with (first
        | (go_at_call 210; (with_reducible refine (hsm).mono ?_); rintro e w1 ⟨A2, os, r, rfl, hR2, xb1⟩; obtain ⟨xc1, xf1, xl1, xz1⟩ := ext_use xb1; (try simp at xz1))
        | (go_at_call 205; (with_reducible refine (trimmed_any A2 k' k' os _ hR2.out.2.1).mono ?_); rintro e w2 ⟨A3, k3, rfl, hT, xb2⟩; obtain ⟨xc2, xf2, xl2, xz2⟩ := ext_use xb2; (try simp at xz2))
       )
      have hR3 : Hid (Rd w2 A3 k3 k3 (lim q)) := by
        have := (hT.out.1 _ hR2.out.2.1).ext xb2
        rw [hR2.out.2.2.1] at this
        exact this
      have hk3 : k3 ≤ 16384 := by
        have h1 := hR3.out.len
        have h2 : (lim q).length ≤ (lim u).length := lim_mono (by rw [HQ.out]; exact Nat.div_le_self _ _)
        have h3 := hR.out.len
        omega
      have hkm3 := hR3.out.mx
      have hr9 : r < 1000000000 := by rw [hR2.out.1]; exact Nat.mod_lt _ (by decide)
      have HX2 : Hid (Ext wr w2) := Lib.hid (ext_trans xb1 xb2)
      have hapt : Hid (∀ a, A3 = some a → wr.heap.size ≤ a.block) := Lib.hid (fun a ha => hR2.out.2.2.2 a (hT.out.2 a ha))
      clear hsm xc1 xf1 xl1 xz1 xb1 xc2 xf2 xl2 xz2 xb2
      go_loopw [5, 8, 30] (fun vb vr vi wr2 => ∃ (j r' : Nat) (back2 : List UInt8), j ≤ 9 ∧ vi = .int .i64 (j : Int) ∧ vr = .int .u32 (r' : Int) ∧ r' < 1000000000 ∧ back2.length ≤ 524288 + j ∧ Hid (r' < 10 ^ (9 - j) ∧ v = (q * 10 ^ (9 - j) + r') * 10 ^ back2.length + dval back2.reverse ∧ digsB back2 = true) ∧
          Hid (wr2.ownsRow w'.heap.size 5 1 vb back2.length (back2.map bV)) ∧ Hid (Rd wr2 A3 k3 k3 (lim q) ∧ Apt vb A3 (lim q)) ∧ Hid (Ext w' wr2))
        (fun _ _ vi _ => 9 - (intOf vi).toNat)
      case atStart =>
        refine ⟨0, r, back, Nat.zero_le _, rfl, rfl, hr9, hbl1, ⟨hr9, ?_, hdig.out.2⟩, own_ext hown.out HX2.out, ⟨hR3.out, fun a ha _ e => ?_⟩, ext_trans hext.out HX2.out⟩
        · have e1 := hdig.out.1
          have e2 : q * 10 ^ (9 - 0) + r = u := by
            rw [HQ.out, hR2.out.1]
            have := Nat.div_add_mod u 1000000000
            simp; omega
          rw [e2]; exact e1
        · have h1 := (hown.out.lt _ e).2
          have h2 := hapt.out a ha
          omega
      case round =>
        clear hown
        obtain ⟨j, r', back2, hj, rfl, rfl, hr', hbl2, hd2, hown, hRA, hext2⟩ := hrel
        have hext2' := hext2.out.size
        obtain ⟨dg, hdg⟩ : ∃ dg : UInt8, Hid (dg = UInt8.ofNat (48 + r' % 10)) := ⟨_, rfl⟩
        by_cases hgo : j < 9
        · go_wp2_with (first
            | (at_builtin; refine push_u8 rfl _ _ rfl _ rfl hext2.out (Nat.le_refl _) (hext2.out.size) hown.out rfl dg ⟨wr.heap.size, 0, none⟩ 1 rfl (by rw [World.cell?_alloc_at _ _ _ _ rfl]; simp [bV, hdg.out]; omega) (by omega) ?_)
            | go_in)
          all_goals
            intro v' w3 hx3 ho3 hk3
            have HX3 := Lib.hid hx3
            clear hx3 hown
            go_wp2
            go_roundw
            case rel =>
              have e1 : 10 ^ (9 - j) = 10 * 10 ^ (9 - (j + 1)) := by
                rw [show 9 - j = 9 - (j + 1) + 1 by omega, Nat.pow_succ]; omega
              have hd3 := hd2.out
              rw [e1] at hd3
              refine ⟨j + 1, r' / 10, back2 ++ [dg], by omega, by go_num, by go_num, by omega, by simp; omega, ⟨by omega, by rw [hdg.out]; exact back_step hd3.2.1, ?_⟩, ?_, ?_, HX3.out⟩
              · have h1 := hd3.2.2
                have h2 := ofNat_isD (d := r' % 10) (Nat.mod_lt _ (by decide))
                rw [hdg.out]
                unfold digsB at *
                rw [List.all_append, h1, List.all_cons, h2]; rfl
              · show World.ownsRow _ _ _ _ _ _ _
                rw [List.length_append, List.map_append]
                exact ho3.out
              · exact hk3.out _ _ _ _ hRA.out.1 hRA.out.2
            case measure => simp [intOf]; omega
        · obtain rfl : j = 9 := by omega
          have h1 := hd2.out
          have hr0 : r' = 0 := by have := h1.1; simp at this; exact this
          have hvd : Hid (v = q * 10 ^ back2.length + dval back2.reverse ∧ digsB back2 = true) := Lib.hid ⟨by rw [hr0] at h1; simpa using h1.2.1, h1.2.2⟩
          clear h1 hr0
          go_wp2
          go_roundw
          case rel => exact ⟨A3, k3, k3, q, back2, rfl, hRA.out.1, hk3, by omega, hvd.out, hown.out, hext2.out⟩
          case measure =>
            show svalAt _ (.slice A3 k3 k3) < svalAt _ (.slice A' k' c')
            rw [sval_rd hRA.out.1, sval_rd hR.out, val_lim, val_lim, HQ.out]
            exact Nat.div_lt_self hu0 (by decide)
    · obtain rfl : k' = 0 := by omega
      have hu0 : u = 0 := lim_nil.1 (List.eq_nil_of_length_eq_zero hR.out.len)
      have hv : Hid (v = dval back.reverse) := by
        have := hdig.out.1
        rw [hu0] at this
        show v = _
        omega
      clear hk0 hu0
      obtain ⟨wo, rfl⟩ : ∃ wo, wo = wr := ⟨_, rfl⟩
      rcases Nat.eq_zero_or_pos back.length with hb0 | hb0
      · obtain rfl : back = [] := List.eq_nil_of_length_eq_zero hb0
        obtain rfl : v = 0 := hv.out
        have hext' := hext.out
        have HE' := HE.out
        rcases hown.out.2 with ⟨rfl, _⟩ | ⟨gb, cb, cur, rfl, _, _, _, hcb, _, _⟩
        · go_wp2
          go_loop [9] (fun vn => vn = .int .i64 0) (fun vn => (intOf vn).toNat)
          case atStart => rfl
          case round =>
            subst hrel
            go_wp2
            refine bodyPost_ret (v := .tuple #[.string ⟨#[48]⟩, .int .i64 0]) ?h rfl ⟨rfl, ext_trans HE' hext'⟩
            case h => simp [results, Tryz.results140, go_sem]
        · have hcb' : cb ≤ 9223372036854775807 := hcb
          go_wp2
          go_loop [9] (fun vn => vn = .int .i64 0) (fun vn => (intOf vn).toNat)
          case atStart => rfl
          case round =>
            subst hrel
            go_wp2
            refine bodyPost_ret (v := .tuple #[.string ⟨#[48]⟩, .int .i64 0]) ?h rfl ⟨rfl, ext_trans HE' hext'⟩
            case h => simp [results, Tryz.results140, go_sem]
      · have hlt := hown.out.lt
        rcases hown.out.2 with ⟨_, h0⟩ | ⟨gb, cb, cur, rfl, hgb, _, hbc, hcb, _, _⟩
        · omega
        have hgl := (hlt gb rfl).2
        have hcb' : cb ≤ 9223372036854775807 := hcb
        clear hlt
        go_wp2
        go_loop [9] (fun vn => ∃ k : Nat, k ≤ back.length ∧ vn = .int .i64 (k : Int) ∧ Hid (∀ p, k ≤ p → p < back.length → back.getD p 0 = 48)) (fun vn => (intOf vn).toNat)
        case atStart => exact ⟨back.length, Nat.le_refl _, rfl, fun p h1 h2 => absurd h2 (by omega)⟩
        case round =>
          obtain ⟨k, hk, rfl, hz⟩ := hrel
          by_cases hk0 : 0 < k
          · obtain ⟨y, hy⟩ : ∃ y : UInt8, Hid (back.getD (k - 1) 0 = y) := ⟨_, rfl⟩
            obtain ⟨hc1, hf1⟩ := ownb_at hown.out (k - 1) (by omega)
            rw [hy.out] at hc1
            by_cases hy48 : y = 48
            · have hyc := (byte_48 y).2 hy48
              have HY := Lib.hid hy48
              clear hy48
              go_wp2
              go_round
              case rel =>
                refine ⟨k - 1, by omega, by go_num, fun p h1 h2 => ?_⟩
                by_cases e : p = k - 1
                · rw [e, hy.out, HY.out]
                · exact hz.out p (by omega) h2
              case measure => simp [intOf]; omega
            · have hyc := (byte_48n y).2 hy48
              have hkne : ((k : Int) == 0) = false := by rw [beq_eq_false_iff_ne]; omega
              have hT : Hid (dtext v = (back.take k).reverse) := Lib.hid (dtext_back hk0 hk hv.out hdig.out.2 hz.out (by rw [hy.out]; exact hy48))
              clear hy48
              go_wp2_with (first
                | (at_make; refine make_u8 rfl _ _ rfl _ _ _ _ k rfl rfl rfl rfl (by omega) ?_; intro w1 hx1 ho1; have hext1 := Lib.hid hx1; clear hx1)
                | go_in)
              have hgl1 : wo.heap.size < w1.heap.size := (ho1.out.lt wo.heap.size rfl).2
              go_loopw [62] (fun vi wr2 => ∃ (i : Nat) (os : List UInt8), i ≤ k ∧ vi = .int .i64 (i : Int) ∧ Hid (os.length = k ∧ ∀ p, p < i → os.getD p 0 = back.getD (k - 1 - p) 0) ∧
                  Hid (wr2.ownsRow wo.heap.size 5 1 (.slice (some ⟨wo.heap.size, 0, none⟩) k k) k (os.map bV)) ∧
                  Hid (wr2.ownsRow w'.heap.size 5 1 (.slice (some ⟨gb, 0, none⟩) back.length cb) back.length (back.map bV)) ∧ Hid (Ext wo wr2))
                (fun vi _ => k - (intOf vi).toNat)
              case atStart => exact ⟨0, List.replicate k 0, Nat.zero_le _, rfl, ⟨by simp, fun p hp => absurd hp (Nat.not_lt_zero _)⟩, ho1.out, own_ext hown.out hext1.out, hext1.out⟩
              case round =>
                obtain ⟨i, os, hi, rfl, hos, ho, hb, hx⟩ := hrel
                by_cases hlt : i < k
                · obtain ⟨z, hzz⟩ : ∃ z : UInt8, Hid (back.getD (k - 1 - i) 0 = z) := ⟨_, rfl⟩
                  obtain ⟨hc3, hf3⟩ := ownb_at hb.out (k - 1 - i) (by omega)
                  rw [hzz.out] at hc3
                  obtain ⟨hc2, hf2⟩ := ownb_at ho.out i hlt
                  go_wp2
                  case roundEnd =>
                    refine ⟨⟨i + 1, os.set i z, by omega, by simp, ⟨by rw [List.length_set]; exact hos.out.1, fun p hp => ?_⟩, ownb_set ho.out i z, own_far hb.out _ _ (by simp [Value.ownBlock]; omega), ext_setCell hx.out (Nat.le_refl _) _⟩, ?_⟩
                    · by_cases e : p = i
                      · subst e
                        rw [List.getD_eq_getElem?_getD, List.getElem?_set_self (by rw [hos.out.1]; exact hlt), hzz.out]; rfl
                      · rw [List.getD_eq_getElem?_getD, List.getElem?_set_ne (by omega), ← List.getD_eq_getElem?_getD]
                        exact hos.out.2 p (by omega)
                    · simp [intOf]; omega
                · obtain rfl : i = k := by omega
                  have hfin : os = dtext v := by
                    rw [hT.out]
                    refine List.ext_getElem (by rw [List.length_reverse, List.length_take, Nat.min_eq_left hk]; exact hos.out.1) fun p h1 h2 => ?_
                    have h3 := hos.out.2 p (by rw [← hos.out.1]; exact h1)
                    have h4 : p < i := by rw [← hos.out.1]; exact h1
                    rw [List.getD_eq_getElem?_getD, List.getD_eq_getElem?_getD, List.getElem?_eq_getElem h1, List.getElem?_eq_getElem (by omega)] at h3
                    rw [List.getElem_reverse, List.getElem_take]
                    simp only [List.length_take, Nat.min_eq_left hk]
                    exact h3
                  have hcv := ownb_str ho.out 0 i i (by omega) (dtext v) (by rw [← hfin, List.drop_zero, ← hos.out.1, List.take_length])
                  have hext' := hext.out
                  have hx' := hx.out
                  have HE' := HE.out
                  clear hfin hlt
                  go_wp2
                  refine bodyPost_ret (v := .tuple #[.string (bs (dtext v)), .int .i64 0]) ?h rfl ⟨rfl, ext_trans HE' (ext_trans hext' hx')⟩
                  case h => simp [results, Tryz.results140, go_sem]
          · obtain rfl : k = 0 := by omega
            have hv0 : v = 0 := by
              rw [hv.out, strip_zeros (Nat.zero_le _) hz.out]; rfl
            subst hv0
            have hext' := hext.out
            have HE' := HE.out
            go_wp2
            refine bodyPost_ret (v := .tuple #[.string ⟨#[48]⟩, .int .i64 0]) ?h rfl ⟨rfl, ext_trans HE' hext'⟩
            case h => simp [results, Tryz.results140, go_sem]
end Go.Proofs.YtiapoflkeliljaaGreatDoor
end
section
/- Noughts. -/
namespace Go.Proofs.YtiapoflkeliljaaGreatDoor
open Go.RowKit
attribute [local go_sem] bs_size bs_extract bs_get bs_append bs_toList const_get
attribute [local go_sem] sz2 sz3 sz4 sz5 sz6 sz7 sz8
set_option maxHeartbeats 4000000
set_option maxRecDepth 100000
attribute [local irreducible] Calls
def zerosL (n : Nat) : List UInt8 := List.replicate n 48
end Go.Proofs.YtiapoflkeliljaaGreatDoor
end
section
/- The program's next: digits and one. -/
namespace Go.Proofs.YtiapoflkeliljaaGreatDoor
open Go.RowKit
attribute [local go_sem] bs_size bs_extract bs_get bs_append bs_toList const_get
attribute [local go_sem] sz2 sz3 sz4 sz5 sz6 sz7 sz8
set_option maxHeartbeats 4000000
set_option maxRecDepth 100000
attribute [local irreducible] Calls
theorem byte_57 (a : UInt8) : (((a.toNat : Int) == 57) = true) ↔ a = 57 := byte_eqc a 57 (by decide)
theorem byte_57n (a : UInt8) : (((a.toNat : Int) == 57) = false) ↔ a ≠ 57 := by rw [← Bool.not_eq_true, byte_57]
theorem getD_eq {l : List UInt8} {i : Nat} (h : i < l.length) : l.getD i 0 = l[i] := by
  rw [List.getD_eq_getElem?_getD, List.getElem?_eq_getElem h]; rfl
/-- All nines. -/
theorem next_all {l os : List UInt8} (hlen : os.length = l.length + 1) (h : ∀ p, 0 < p → p ≤ l.length → os.getD p 0 = 48 ∧ (48 :: l).getD p 0 = 57) : os.set 0 49 = nx l := by
  have e : l = List.replicate l.length 57 := by
    refine List.ext_getElem (by simp) fun p h1 h2 => ?_
    have := (h (p + 1) (by omega) (by omega)).2
    rw [List.getD_cons_succ, getD_eq h1] at this
    rw [this, List.getElem_replicate]
  rw [e, nx_all]
  refine List.ext_getElem (by simp; omega) fun p h1 h2 => ?_
  rw [List.length_set] at h1
  by_cases h0 : p = 0
  · subst h0; simp
  · have := (h p (by omega) (by omega)).1
    rw [getD_eq h1] at this
    rw [List.getElem_set_ne (by omega), this]
    obtain ⟨q, rfl⟩ : ∃ q, p = q + 1 := ⟨p - 1, by omega⟩
    simp
theorem next_at {l os : List UInt8} {i : Nat} {x : UInt8} (hd : digsB l = true) (hld : lead l) (hlen : os.length = l.length + 1) (hi : 0 < i) (hil : i ≤ l.length) (hx : (48 :: l).getD i 0 = x) (hx9 : x ≠ 57)
    (h1 : ∀ p, p ≤ i → os.getD p 0 = (48 :: l).getD p 0) (h : ∀ p, i < p → p ≤ l.length → os.getD p 0 = 48 ∧ (48 :: l).getD p 0 = 57) : (os.set i (UInt8.ofNat (x.toNat + 1))).drop 1 = nx l := by
  obtain ⟨j, rfl⟩ : ∃ j, i = j + 1 := ⟨i - 1, by omega⟩
  rw [List.getD_cons_succ, getD_eq (by omega)] at hx
  have e1 : l.take j ++ [x] = l.take (j + 1) := by rw [← hx, ← List.take_succ_eq_append_getElem]
  have e : l = l.take j ++ [x] ++ List.replicate (l.length - (j + 1)) 57 := by
    rw [e1]
    have : List.replicate (l.length - (j + 1)) 57 = l.drop (j + 1) := by
      refine List.ext_getElem (by simp) fun p h2 h3 => ?_
      simp at h2
      have := (h (j + 1 + p + 1) (by omega) (by omega)).2
      rw [List.getD_cons_succ, getD_eq (by omega)] at this
      rw [List.getElem_replicate, List.getElem_drop, this]
    rw [this, List.take_append_drop]
  have hda : digsB (l.take j ++ [x]) = true := by rw [e1]; exact digs_take hd _
  have hla : lead (l.take j ++ [x]) := by
    intro y hy
    refine hld y ?_
    rw [e1] at hy
    rw [List.head?_take] at hy
    simpa using hy
  have hn := nx_at (l.take j) x (l.length - (j + 1)) hda hla hx9
  rw [← e] at hn
  rw [hn]
  refine List.ext_getElem (by simp; omega) fun p h2 h3 => ?_
  rw [List.length_drop, List.length_set] at h2
  rw [List.getElem_drop, List.getElem_set]
  by_cases c1 : p < j
  · rw [if_neg (by omega), List.getElem_append_left (by simp; omega), List.getElem_append_left (by simp; omega), List.getElem_take]
    have := h1 (p + 1) (by omega)
    rw [getD_eq (by omega), List.getD_cons_succ, getD_eq (by omega)] at this
    rw [← this]
    congr 1
    omega
  · by_cases c2 : p = j
    · subst c2
      rw [if_pos (by omega), List.getElem_append_left (by simp; omega), List.getElem_append_right (by simp; omega)]
      simp
    · rw [if_neg (by omega), List.getElem_append_right (by simp; omega), List.getElem_replicate]
      have := (h (1 + p) (by omega) (by omega)).1
      rwa [getD_eq (by omega)] at this
theorem next_any (l : List UInt8) (hd : digsB l = true) (hld : lead l) (hl : l.length ≤ 65536) (w : World) :
    Calls Tryz.prog 258 #[.string (bs l)] w fun e w' => e = .returned (.string (bs (nx l))) ∧ Ext w w' := by
  have HD := Lib.hid hd
  have HL := Lib.hid hld
  clear hd hld
  by_cases h0 : l = []
  · subst h0
    clear HD HL
    rw [show nx [] = [49] by unfold nx; rw [show dval [] + 1 = 1 from rfl, digs_pos (by decide), show 1 / 10 = 0 from rfl, digs_zero]; rfl]
    go_enter Tryz.func258, Tryz.ntmps258
    go_wp2_with (first
      | (at_make; refine make_u8 rfl _ _ rfl _ _ _ _ 1 rfl rfl (by simp) (by simp) (by omega) ?_; intro w1 hx1 ho1; have hext1 := Lib.hid hx1; clear hx1; have hgl1 : w.heap.size < w1.heap.size := (ho1.out.lt w.heap.size rfl).2; obtain ⟨hc0, hf0⟩ := ownb_at ho1.out 0 (by omega);
          have hos : (w1.setCell ⟨w.heap.size, 0, none⟩ (.int .u8 48)).ownsRow w.heap.size 5 1 (.slice (some ⟨w.heap.size, 0, none⟩) 1 1) 1 (((List.replicate 1 (0 : UInt8)).set 0 48).map bV) := ownb_set ho1.out 0 48;
          obtain ⟨w2, hcp, how2, hx2⟩ := copy_str hos 0 0 0 [] rfl (by omega) 9 3; have HO2 := Lib.hid how2; have HX2 := Lib.hid hx2; clear how2 hx2 hos)
      | go_in)
    have hX : Hid (Ext w w2) := Lib.hid (HX2.out w (ext_setCell hext1.out (Nat.le_refl _) _) (Nat.le_refl _))
    obtain ⟨hc2, hf2⟩ := ownb_at HO2.out 0 (by omega)
    have hc2' : w2.cell? ⟨w.heap.size, 0, none⟩ = some (.int .u8 48) := hc2
    have hrow2 : (w2.setCell ⟨w.heap.size, 0, none⟩ (.int .u8 49)).ownsRow w.heap.size 5 1 (.slice (some ⟨w.heap.size, 0, none⟩) 1 1) 1 _ := ownb_set HO2.out 0 49
    have hcv := ownb_str hrow2 0 1 1 (by omega) [49] (by rfl)
    have HX := Lib.hid (show Ext w (w2.setCell ⟨w.heap.size, 0, none⟩ (.int .u8 49)) from ext_setCell hX.out (Nat.le_refl _) _)
    clear hcp HO2 HX2 hext1 ho1 hc0 hf0 hc2 hrow2 hX
    go_loop [4] (fun vi => vi = .int .i64 0) (fun vi => (intOf vi).toNat)
    case atStart => rfl
    case round =>
      subst hrel
      go_wp2
      go_ret
      exact ⟨rfl, HX.out⟩
  · have hpos : 0 < l.length := List.length_pos_iff.2 h0
    have hne : ((l.length : Int) == 0) = false := by rw [beq_eq_false_iff_ne]; omega
    clear h0
    go_enter Tryz.func258, Tryz.ntmps258
    go_wp2_with (first
      | (at_make; refine make_u8 rfl _ _ rfl _ _ _ _ (l.length + 1) rfl rfl (by simp) (by simp) (by omega) ?_; intro w1 hx1 ho1; have hext1 := Lib.hid hx1; clear hx1; have hgl1 : w.heap.size < w1.heap.size := (ho1.out.lt w.heap.size rfl).2; obtain ⟨hc0, hf0⟩ := ownb_at ho1.out 0 (by omega);
          have hos : (w1.setCell ⟨w.heap.size, 0, none⟩ (.int .u8 48)).ownsRow w.heap.size 5 1 (.slice (some ⟨w.heap.size, 0, none⟩) (l.length + 1) (l.length + 1)) (l.length + 1) (((List.replicate (l.length + 1) (0 : UInt8)).set 0 48).map bV) := ownb_set ho1.out 0 48;
          obtain ⟨w2, hcp, how2, hx2⟩ := copy_str hos 1 l.length l.length l rfl (by omega) 9 3; have HO2 := Lib.hid how2; have HX2 := Lib.hid hx2; clear how2 hx2 hos)
      | go_in)
    · exact absurd hpos (by simp_all)
    have hX : Hid (Ext w w2) := Lib.hid (HX2.out w (ext_setCell hext1.out (Nat.le_refl _) _) (Nat.le_refl _))
    have hrow : Hid (w2.ownsRow w.heap.size 5 1 (.slice (some ⟨w.heap.size, 0, none⟩) (l.length + 1) (l.length + 1)) (l.length + 1) ((48 :: l).map bV)) := by
      have h := HO2.out
      have e : List.take 1 ((List.replicate (l.length + 1) (0 : UInt8)).set 0 48) ++ l ++ List.drop (1 + l.length) ((List.replicate (l.length + 1) (0 : UInt8)).set 0 48) = 48 :: l := by
        rw [List.replicate_succ, List.set_cons_zero, List.take_succ_cons, List.take_zero, Nat.add_comm 1, List.drop_succ_cons, List.drop_eq_nil_of_le (by simp)]
        simp
      rw [e] at h
      exact h
    clear hcp HO2 HX2 hext1 ho1 hc0 hf0
    go_loopw [4] (fun vi wr => ∃ (i : Nat) (os : List UInt8), i ≤ l.length ∧ vi = .int .i64 (i : Int) ∧ Hid (os.length = l.length + 1 ∧ (∀ p, p ≤ i → os.getD p 0 = (48 :: l).getD p 0) ∧ ∀ p, i < p → p ≤ l.length → os.getD p 0 = 48 ∧ (48 :: l).getD p 0 = 57) ∧
        Hid (wr.ownsRow w.heap.size 5 1 (.slice (some ⟨w.heap.size, 0, none⟩) (l.length + 1) (l.length + 1)) (l.length + 1) (os.map bV)) ∧ Hid (Ext w wr))
      (fun vi _ => (intOf vi).toNat)
    case atStart => exact ⟨l.length, 48 :: l, Nat.le_refl _, by go_num, ⟨by simp, fun _ _ => rfl, fun p h1 h2 => absurd h1 (by omega)⟩, hrow.out, hX.out⟩
    case round =>
      clear hrow hX
      obtain ⟨i, os, hi, rfl, hos, hown, hext⟩ := hrel
      obtain ⟨x, hx⟩ : ∃ x : UInt8, Hid (os.getD i 0 = x) := ⟨_, rfl⟩
      obtain ⟨hc, hf⟩ := ownb_at hown.out i (by omega)
      rw [hx.out] at hc
      by_cases h9 : x = 57
      · have h9c := (byte_57 x).2 h9
        have hi0 : 0 < i := by
          rcases Nat.eq_zero_or_pos i with e | e
          · exfalso
            have := hos.out.2.1 i (Nat.le_refl _)
            rw [hx.out, h9, e] at this
            simp at this
          · exact e
        have H9 := Lib.hid h9
        clear h9
        go_wp2
        case roundEnd =>
          refine ⟨⟨i - 1, os.set i 48, by omega, by go_num, ⟨by rw [List.length_set]; exact hos.out.1, fun p hp => ?_, fun p h1 h2 => ?_⟩, ownb_set hown.out i 48, ext_setCell hext.out (Nat.le_refl _) _⟩, by simp [intOf]; omega⟩
          · rw [List.getD_eq_getElem?_getD, List.getElem?_set_ne (by omega), ← List.getD_eq_getElem?_getD]
            exact hos.out.2.1 p (by omega)
          · by_cases e : p = i
            · subst e
              refine ⟨?_, ?_⟩
              · rw [List.getD_eq_getElem?_getD, List.getElem?_set_self (by rw [hos.out.1]; omega)]; rfl
              · rw [← hos.out.2.1 p (Nat.le_refl _), hx.out, H9.out]
            · rw [List.getD_eq_getElem?_getD, List.getElem?_set_ne (by omega), ← List.getD_eq_getElem?_getD]
              exact hos.out.2.2 p (by omega) h2
      · have h9c := (byte_57n x).2 h9
        have H9 := Lib.hid h9
        clear h9
        by_cases hi0 : i = 0
        · subst hi0
          have hx48 : x = 48 := by
            rw [← hx.out, hos.out.2.1 0 (Nat.le_refl _)]; rfl
          subst hx48
          have hc' : wr.cell? ⟨w.heap.size, 0, none⟩ = some (.int .u8 48) := hc
          have hrow2 : (wr.setCell ⟨w.heap.size, 0, none⟩ (.int .u8 49)).ownsRow w.heap.size 5 1 (.slice (some ⟨w.heap.size, 0, none⟩) (l.length + 1) (l.length + 1)) (l.length + 1) ((os.set 0 49).map bV) := ownb_set hown.out 0 49
          have hcv := ownb_str hrow2 0 (l.length + 1) (l.length + 1) (by omega) (nx l) (by rw [next_all hos.out.1 hos.out.2.2, List.drop_zero, List.take_of_length_le (by rw [← next_all hos.out.1 hos.out.2.2, List.length_set, hos.out.1]; exact Nat.le_refl _)])
          have hX : Ext w (wr.setCell ⟨w.heap.size, 0, none⟩ (.int .u8 49)) := ext_setCell hext.out (Nat.le_refl _) _
          have HX := Lib.hid hX
          clear hrow2 hc hX h9c
          go_wp2
          go_ret
          exact ⟨rfl, HX.out⟩
        · have hxl : x.toNat ≤ 56 := by
            have h1 := hos.out.2.1 i (Nat.le_refl _)
            obtain ⟨j, rfl⟩ : ∃ j, i = j + 1 := ⟨i - 1, by omega⟩
            rw [hx.out, List.getD_cons_succ, getD_eq (by omega)] at h1
            have h2 := (digs_at HD.out j (by omega)).2
            rw [← h1] at h2
            have h3 : x.toNat ≠ 57 := fun e => H9.out (UInt8.toNat_inj.1 e)
            omega
          have hyv : ((UInt8.ofNat (x.toNat + 1)).toNat : Int) = (x.toNat : Int) + 1 := by simp; omega
          have hrow2 : (wr.setCell ⟨w.heap.size, i, none⟩ (.int .u8 ((x.toNat : Int) + 1))).ownsRow w.heap.size 5 1 (.slice (some ⟨w.heap.size, 0, none⟩) (l.length + 1) (l.length + 1)) (l.length + 1) ((os.set i (UInt8.ofNat (x.toNat + 1))).map bV) := by
            rw [← hyv]; exact ownb_set hown.out i _
          have h0c := (ownb_at hrow2 0 (by omega)).1
          rw [List.getD_eq_getElem?_getD, List.getElem?_set_ne hi0, ← List.getD_eq_getElem?_getD, hos.out.2.1 0 (Nat.zero_le _)] at h0c
          have h0c' : (wr.setCell ⟨w.heap.size, i, none⟩ (.int .u8 ((x.toNat : Int) + 1))).cell? ⟨w.heap.size, 0, none⟩ = some (.int .u8 48) := h0c
          have hcv := ownb_str hrow2 1 l.length l.length (by omega) (nx l) (by
            have := next_at HD.out HL.out hos.out.1 (by omega) hi ((hos.out.2.1 i (Nat.le_refl _)).symm.trans hx.out) H9.out hos.out.2.1 hos.out.2.2
            rw [← this, List.take_of_length_le (by simp [hos.out.1])])
          have HX := Lib.hid (show Ext w (wr.setCell ⟨w.heap.size, i, none⟩ (.int .u8 ((x.toNat : Int) + 1))) from ext_setCell hext.out (Nat.le_refl _) _)
          have hi0' : 0 < i := by omega
          clear hrow2 h0c hyv
          go_wp2
          go_ret
          exact ⟨rfl, HX.out⟩
end Go.Proofs.YtiapoflkeliljaaGreatDoor
end
section
/- Shifts and texts of decimals: what they come to; small pieces. -/
namespace Go.Proofs.YtiapoflkeliljaaGreatDoor
open Go.RowKit
attribute [local go_sem] bs_size bs_extract bs_get bs_append bs_toList const_get
attribute [local go_sem] sz2 sz3 sz4 sz5 sz6 sz7 sz8
set_option maxHeartbeats 4000000
set_option maxRecDepth 100000
attribute [local irreducible] Calls
def minusL (neg : Bool) : List UInt8 := if neg then [45] else []
theorem minus_any (neg : Bool) (w : World) : Calls Tryz.prog 198 #[.bool neg] w fun e w' => e = .returned (.string (bs (minusL neg))) ∧ w = w' := by
  cases neg
  all_goals
    go_enter Tryz.func198, Tryz.ntmps198
    go_wp2
    go_ret
    exact ⟨rfl, rfl⟩
end Go.Proofs.YtiapoflkeliljaaGreatDoor
end
