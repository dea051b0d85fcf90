/- Lemmas of this proof, laid together: SlB, NatY, NtF, NtG, DecD, DecO, DecNo, DecS, DecN, DecF, DecL, DecL2. -/
import Derived.Test.YtnkajjealkggdaaGreatDoorRows
import Derived.Test.YtnkajjealkggdaaGreatDoorMg04
import Derived.Test.YtnkajjealkggdaaGreatDoorMg07
import Derived.Test.YtnkajjealkggdaaGreatDoorMg06
import Derived.Laws.IdiomStrings
import Derived.Laws.BytesArg
import Derived.Laws.CopyRow
import Derived.Laws.CopyOwn
import Derived.Maps.AppendAt
import Derived.Deep.Heap
import Derived.Test.YtnkajjealkggdaaGreatDoorMg10
import Derived.Test.YtnkajjealkggdaaGreatDoorMg01
import Derived.Test.YtnkajjealkggdaaGreatDoorMg09
import Derived.Test.YtnkajjealkggdaaGreatDoorMg08
set_option linter.unusedSimpArgs false
set_option linter.unusedVariables false
section
/- Slices of bytes in memory. -/
namespace Go.Proofs.YtnkajjealkggdaaGreatDoor
open Go.RowKit
abbrev bV (b : UInt8) : Value := .int .u8 (b.toNat : Int)
theorem u8_under : Tryz.prog.underlying 23 = some (.slice 5) := by kernel_rfl
theorem u8_kind : Tryz.prog.underlying 5 = some (.int .u8) := by kernel_rfl
theorem str_kind : Tryz.prog.underlying 9 = some .string := by kernel_rfl
theorem u8_info : (Tryz.prog.info? 5).map (fun i => (i.zero, i.size, i.bytes)) = some (some (.int .u8 0), 1, 1) := by kernel_rfl
/-- A row of the call's own and a slice that lie in blocks of their own. -/
def Apt (v : Value) (A : Option Addr) (zs : List Nat) : Prop := ∀ a, A = some a → zs ≠ [] → v.ownBlock ≠ some a.block
theorem rd_lt {w : World} {A : Option Addr} {n c : Nat} {xs : List Nat} (h : Rd w A n c xs) {a : Addr} (ha : A = some a) (hne : xs ≠ []) : a.block < w.heap.size := by
  subst ha
  have h1 := h.at_ a rfl
  obtain ⟨b, off, s⟩ := a
  simp only at h1
  subst h1
  exact (h.cells b off rfl 0 (List.length_pos_iff.2 hne)).1
theorem rd_grown {w w' : World} {A : Option Addr} {n c : Nat} {xs : List Nat} {row : Option Nat} (h : Rd w A n c xs) (hg : w.grownBy w' row) (hne : ∀ a, A = some a → xs ≠ [] → row ≠ some a.block) : Rd w' A n c xs :=
  ⟨h.len, h.cap, h.mx, h.lb, h.none_, h.at_, fun b off hA i hi => by
    obtain ⟨h1, h2⟩ := h.cells b off hA i hi
    refine ⟨Nat.lt_of_lt_of_le h1 hg.size, ?_⟩
    rw [World.cell?_of_block (hg.block b h1 (fun e => hne _ hA (by intro e2; rw [e2] at hi; simp at hi) e.symm))]
    exact h2⟩
theorem own_ext {w w' : World} {base : Nat} {e : TypeId} {size : Nat} {v : Value} {n : Nat} {xs : List Value} (h : w.ownsRow base e size v n xs) (he : Ext w w') : w'.ownsRow base e size v n xs :=
  h.kept (row := none) ⟨he.os, he.tape, he.output, he.size, fun k hk _ => he.block k hk⟩ (by cases hv : v.ownBlock <;> simp)
theorem own_far {w : World} {base : Nat} {e : TypeId} {size : Nat} {v : Value} {n : Nat} {xs : List Value} (h : w.ownsRow base e size v n xs) (p : Addr) (u : Value) (hne : v.ownBlock ≠ some p.block) : (w.setCell p u).ownsRow base e size v n xs := by
  refine h.kept (row := some p.block) ⟨rfl, rfl, rfl, by simp, fun k _ hk => Go.Deep.blk_setCell_other w p u k (fun e => hk (by rw [e]))⟩ (.inr hne)
theorem push_u8 {ops : Array Oper} {rest : List Oper} {o : Oper} {a : Act} {Q : Exit → Act → World → Prop} {w : World} (hgd : o.guard = none) (s x : Operand)
    (ho : o.op = .call { callee := .builtin .append, args := #[s, x], argTypes := #[23, 23] })
    {W : World} {w0 : World} (ob : Obj) (hw : w = w0.alloc ob) (hW : Ext W w0) {base : Nat} (hbase : W.heap.size ≤ base) (hsz0 : base ≤ w0.heap.size) {v : Value} {n : Nat} {xs : List UInt8} (hown : w0.ownsRow base 5 1 v n (xs.map bV)) (hs : a.eval s = v)
    (y : UInt8) (ad : Addr) (c : Nat) (hx : a.eval x = .slice (some ad) 1 c) (hnew : w.cell? ad = some (bV y)) (hn : n ≤ 1000000000)
    (h : ∀ v' w', Ext W w' → Hid (w'.ownsRow base 5 1 v' (n + 1) ((xs ++ [y]).map bV)) → Hid (∀ A n' c' zs, Rd w0 A n' c' zs → Apt v A zs → Rd w' A n' c' zs ∧ Apt v' A zs) → wpList Tryz.prog ops Q rest (a.put o.dst v') w') : wpList Tryz.prog ops Q (o :: rest) a w := by
  obtain ⟨i, hi, hz, hsz, hby⟩ := info_parts u8_info
  subst hw
  refine wpList_append_own_at _ hgd s x _ ho base 5 i _ 1 1 u8_under hi hz hsz hby rfl (by decide) v n _ hs (hown.alloc _) ad 1 c [bV y] hx rfl ?_ ?_ ?_ ?_ ?_ ?_
  · intro j u hj
    match j, hj with
    | 0, hj => simp at hj; subst hj; simpa [Addr.add] using hnew
  · intro u hu; simp at hu; subst hu; rfl
  · unfold maxLen; omega
  · omega
  · simp; omega
  · intro v' w' ho' hg _ hat
    refine h v' w' (ext_grown (ext_alloc hW _) (hown.alloc _) hbase hg) ?_ ?_
    · show World.ownsRow _ _ _ _ _ _ _
      simpa using ho'
    · intro A n' c' zs hR hA
      have hR1 : Rd (w0.alloc ob) A n' c' zs := hR.ext (ext_alloc (ext_refl _) _)
      refine ⟨rd_grown hR1 hg hA, fun q hq hne => ?_⟩
      have hlt := rd_lt hR hq hne
      rcases hat with e | e
      · rw [e]; exact hA q hq hne
      · rw [e]; intro e2; simp at e2; omega
theorem made_zero8 (n : Nat) : (madeCells (Value.int .u8 0).cells (n * 1)).toList = (List.replicate n (0 : UInt8)).map bV := by
  unfold madeCells
  refine List.ext_getElem (by simp) fun i h1 h2 => ?_
  simp [Value.cells, bV, Nat.mod_one]
theorem make_u8 {ops : Array Oper} {rest : List Oper} {o : Oper} {a : Act} {Q : Exit → Act → World → Prop} {w : World} (hg : o.guard = none) (l c : Operand) (hop : o.op = Op.makeSlice 23 l c)
    (kl kc : IntKind) (L C : Int) (n : Nat) (hl : a.eval l = .int kl L) (hc : a.eval c = .int kc C) (hL : L = (n : Int)) (hC : C = (n : Int)) (hn : n ≤ 1000000000)
    (hK : ∀ w', Ext w w' → Hid (w'.ownsRow w.heap.size 5 1 (.slice (some ⟨w.heap.size, 0, none⟩) n n) n ((List.replicate n (0 : UInt8)).map bV)) → wpList Tryz.prog ops Q rest (a.put o.dst (.slice (some ⟨w.heap.size, 0, none⟩) n n)) w') :
    wpList Tryz.prog ops Q (o :: rest) a w := by
  obtain ⟨i, hi, hz, hsz, hby⟩ := info_parts u8_info
  refine wpList_make_full w hg l c _ hop w.heap.size 5 i _ 1 u8_under hi hz hsz kl kc L C n hl hc hL hC (by rw [hby]; omega) (by unfold maxLen; omega) (Nat.le_refl _) fun w' h1 h2 => ?_
  rw [made_zero8] at h1
  exact hK w' (ext_grown_none (ext_refl _) h2) h1
theorem ownb_at {w : World} {base : Nat} {e : TypeId} {g n cap : Nat} {xs : List UInt8} (h : w.ownsRow base e 1 (.slice (some ⟨g, 0, none⟩) n cap) n (xs.map bV)) (i : Nat) (hi : i < n) :
    w.cell? ⟨g, i, none⟩ = some (.int .u8 ((xs.getD i 0).toNat : Int)) ∧ w.frozen? ⟨g, i, none⟩ = false := by
  have hl : xs.length = n := by have := h.1; simpa using this
  rcases h.2 with ⟨h', _⟩ | ⟨g', cap', cur, h', hb, hg, hnc, hcm, hcs, htake⟩
  · simp at h'
  · simp only [Value.slice.injEq, Option.some.injEq, Addr.mk.injEq, and_true, true_and] at h'
    obtain ⟨rfl, rfl⟩ := h'
    refine ⟨?_, ?_⟩
    · rw [cell_of_row w g i cur e (0, 0) hg]
      have h1 : (cur.toList.take (n * 1))[i]? = (xs.map bV)[i]? := by rw [htake]
      rw [List.getElem?_take_of_lt (by omega), List.getElem?_map, List.getElem?_eq_getElem (show i < xs.length by omega)] at h1
      rw [List.getD_eq_getElem?_getD, List.getElem?_eq_getElem (show i < xs.length by omega)]
      simpa using h1
    · simp [World.frozen?, hg]
theorem ownb_set {w : World} {base : Nat} {e : TypeId} {g n cap : Nat} {xs : List UInt8} (h : w.ownsRow base e 1 (.slice (some ⟨g, 0, none⟩) n cap) n (xs.map bV)) (j : Nat) (y : UInt8) :
    (w.setCell ⟨g, j, none⟩ (bV y)).ownsRow base e 1 (.slice (some ⟨g, 0, none⟩) n cap) n ((xs.set j y).map bV) := by
  have := (h.stored j (bV y)).1
  rw [List.map_set]
  exact this
/-- 'string(b)' of a row of the call's own, cut or not. -/
theorem ownb_str {w : World} {base : Nat} {e : TypeId} {g n cap : Nat} {xs : List UInt8} (h : w.ownsRow base e 1 (.slice (some ⟨g, 0, none⟩) n cap) n (xs.map bV)) (i k c : Nat) (hk : i + k ≤ n) (l : List UInt8) (hl : l = (xs.drop i).take k) :
    (convert 23 9 (.slice (some ⟨g, i, none⟩) k c)).run Tryz.prog w = .ok (.string (bs l)) w := by
  have hx : xs.length = n := by have := h.1; simpa using this
  have hlen : l.length = k := by rw [hl, List.length_take, List.length_drop]; omega
  have := run_convert_bytes_back (P := Tryz.prog) w 23 9 5 ⟨g, i, none⟩ c l u8_under u8_kind str_kind (fun j hj => by
    have h1 := (ownb_at h (i + j) (by omega)).1
    rw [Addr.add_lit, h1, List.getD_eq_getElem?_getD, List.getElem?_eq_getElem (by omega)]
    have e1 : l[j] = xs[i + j]'(by omega) := by simp only [hl, List.getElem_take, List.getElem_drop]
    rw [e1]; rfl)
  rw [hlen] at this
  exact this
theorem nil_str (w : World) (k c : Nat) : (convert 23 9 (.slice none k c)).run Tryz.prog w = .ok (.string (bs [])) w :=
  run_convert_bytes_nil (P := Tryz.prog) w 23 5 u8_under u8_kind k c 9 str_kind
end Go.Proofs.YtnkajjealkggdaaGreatDoor
end
section
/- The program writes digits. -/
namespace Go.Proofs.YtnkajjealkggdaaGreatDoor
open Go.RowKit
attribute [local go_sem] bs_size bs_extract bs_get bs_append bs_toList const_get
attribute [local go_sem] sz2 sz3 sz4 sz5 sz6 sz7 sz8
set_option maxHeartbeats 4000000
set_option maxRecDepth 100000
theorem field_nat (A : Option Addr) (k c : Nat) (w : World) : (Instr.field 28 (natV A k c) 0).run Tryz.prog w = .ok (.slice A k c) w := by kernel_rfl
attribute [local irreducible] Calls
attribute [local go_sem] field_nat
end Go.Proofs.YtnkajjealkggdaaGreatDoor
end
section
/- What rounding decimals comes to; the refusals. -/
namespace Go.Proofs.YtnkajjealkggdaaGreatDoor
open Go.RowKit
attribute [local go_sem] bs_size bs_extract bs_get bs_append bs_toList const_get
attribute [local go_sem] sz2 sz3 sz4 sz5 sz6 sz7 sz8
set_option maxHeartbeats 4000000
set_option maxRecDepth 100000
attribute [local irreducible] Calls
/-- Check's error. -/
def dcE (d : Dc) : Int :=
  if 65536 < d.dig.length then 4 else if d.dig.length = 0 then (if d.exp = 0 then 0 else 100) else
  if digsB d.dig = false then 100 else if d.dig.head? = some 48 ∨ d.dig.getLast? = some 48 ∨ far d.exp = true then 100 else 0
theorem check_any' (d : Dc) (hl : d.dig.length ≤ 9223372036854775807) (w : World) : Calls Tryz.prog 42 #[dcV d] w fun e w' => e = .returned (.int .i64 (dcE d)) ∧ Ext w w' := by
  obtain ⟨neg, l, exp⟩ := d
  simp only [dcE]
  simp only at hl
  by_cases h1 : 65536 < l.length
  · rw [if_pos h1]
    go_enter Tryz.func42, Tryz.ntmps42
    go_wp2
    refine bodyPost_ret (v := _) ?h rfl ⟨rfl, ?_⟩
    case h => simp [results, Tryz.results42, go_sem]
    repeat (first | exact ext_refl _ | assumption | refine ext_setCell ?_ (by simp; try omega) _ | refine ext_alloc ?_ _ | refine ext_drew ?_ | refine ext_drewN ?_ _ | refine ext_trans ?_ (Aft.use _) | refine ext_trans ?_ (by assumption))
  rw [if_neg h1]
  by_cases h2 : l.length = 0
  · rw [if_pos h2]
    obtain rfl : l = [] := List.eq_nil_of_length_eq_zero h2
    by_cases h3 : exp = 0
    · subst h3
      go_enter Tryz.func42, Tryz.ntmps42
      go_wp2
      refine bodyPost_ret (v := _) ?h rfl ⟨rfl, ?_⟩
      case h => simp [results, Tryz.results42, go_sem]
      repeat (first | exact ext_refl _ | assumption | refine ext_setCell ?_ (by simp; try omega) _ | refine ext_alloc ?_ _ | refine ext_drew ?_ | refine ext_drewN ?_ _ | refine ext_trans ?_ (Aft.use _) | refine ext_trans ?_ (by assumption))
    · rw [if_neg h3]
      have hne : (exp == 0) = false := by simp [h3]
      clear h3
      go_enter Tryz.func42, Tryz.ntmps42
      go_wp2
      refine bodyPost_ret (v := _) ?h rfl ⟨rfl, ?_⟩
      case h => simp [results, Tryz.results42, go_sem]
      repeat (first | exact ext_refl _ | assumption | refine ext_setCell ?_ (by simp; try omega) _ | refine ext_alloc ?_ _ | refine ext_drew ?_ | refine ext_drewN ?_ _ | refine ext_trans ?_ (Aft.use _) | refine ext_trans ?_ (by assumption))
  rw [if_neg h2]
  have hne : ((l.length : Int) == 0) = false := by rw [beq_eq_false_iff_ne]; omega
  have h0 : 0 < l.length := by omega
  clear h2
  cases h4 : digsB l
  · rw [if_pos rfl]
    go_enter Tryz.func42, Tryz.ntmps42
    go_wp2_with (first
      | (go_at_call 81; (with_reducible refine (digits_any _ hl _).mono ?_); rintro e w' ⟨rfl, rfl⟩)
     )
    refine bodyPost_ret (v := _) ?h rfl ⟨rfl, ?_⟩
    case h => simp [results, Tryz.results42, go_sem]
    repeat (first | exact ext_refl _ | assumption | refine ext_setCell ?_ (by simp; try omega) _ | refine ext_alloc ?_ _ | refine ext_drew ?_ | refine ext_drewN ?_ _ | refine ext_trans ?_ (Aft.use _) | refine ext_trans ?_ (by assumption))
  rw [if_neg (by simp)]
  have hh : l.head? = some l[0] := by rw [List.head?_eq_getElem?, List.getElem?_eq_getElem h0]
  have hg : l.getLast? = some l[l.length - 1] := by rw [List.getLast?_eq_getElem?, List.getElem?_eq_getElem (show l.length - 1 < l.length by omega)]
  rw [hh, hg]
  clear hh hg
  by_cases h5 : l[0] = 48
  · rw [if_pos (.inl (by rw [h5]))]
    have hc := (byte_48 l[0]).2 h5
    clear h5
    go_enter Tryz.func42, Tryz.ntmps42
    go_wp2_with (first
      | (go_at_call 81; (with_reducible refine (digits_any _ hl _).mono ?_); rintro e w' ⟨rfl, rfl⟩)
     )
    refine bodyPost_ret (v := _) ?h rfl ⟨rfl, ?_⟩
    case h => simp [results, Tryz.results42, go_sem]
    repeat (first | exact ext_refl _ | assumption | refine ext_setCell ?_ (by simp; try omega) _ | refine ext_alloc ?_ _ | refine ext_drew ?_ | refine ext_drewN ?_ _ | refine ext_trans ?_ (Aft.use _) | refine ext_trans ?_ (by assumption))
  have hc := (byte_48n l[0]).2 h5
  by_cases h6 : l[l.length - 1] = 48
  · rw [if_pos (.inr (.inl (by rw [h6])))]
    have hc2 := (byte_48 l[l.length - 1]).2 h6
    clear h5 h6
    go_enter Tryz.func42, Tryz.ntmps42
    go_wp2_with (first
      | (go_at_call 81; (with_reducible refine (digits_any _ hl _).mono ?_); rintro e w' ⟨rfl, rfl⟩)
     )
    refine bodyPost_ret (v := _) ?h rfl ⟨rfl, ?_⟩
    case h => simp [results, Tryz.results42, go_sem]
    repeat (first | exact ext_refl _ | assumption | refine ext_setCell ?_ (by simp; try omega) _ | refine ext_alloc ?_ _ | refine ext_drew ?_ | refine ext_drewN ?_ _ | refine ext_trans ?_ (Aft.use _) | refine ext_trans ?_ (by assumption))
  have hc2 := (byte_48n l[l.length - 1]).2 h6
  cases h7 : far exp
  · rw [if_neg (by simp [h5, h6])]
    clear h5 h6
    go_enter Tryz.func42, Tryz.ntmps42
    go_wp2_with (first
      | (go_at_call 81; (with_reducible refine (digits_any _ hl _).mono ?_); rintro e w' ⟨rfl, rfl⟩)
      | (go_at_call 82; (with_reducible refine (far_any _ _).mono ?_); rintro e w' ⟨rfl, rfl⟩)
     )
    refine bodyPost_ret (v := _) ?h rfl ⟨rfl, ?_⟩
    case h => simp [results, Tryz.results42, go_sem]
    repeat (first | exact ext_refl _ | assumption | refine ext_setCell ?_ (by simp; try omega) _ | refine ext_alloc ?_ _ | refine ext_drew ?_ | refine ext_drewN ?_ _ | refine ext_trans ?_ (Aft.use _) | refine ext_trans ?_ (by assumption))
  · rw [if_pos (.inr (.inr rfl))]
    clear h5 h6
    go_enter Tryz.func42, Tryz.ntmps42
    go_wp2_with (first
      | (go_at_call 81; (with_reducible refine (digits_any _ hl _).mono ?_); rintro e w' ⟨rfl, rfl⟩)
      | (go_at_call 82; (with_reducible refine (far_any _ _).mono ?_); rintro e w' ⟨rfl, rfl⟩)
     )
    refine bodyPost_ret (v := _) ?h rfl ⟨rfl, ?_⟩
    case h => simp [results, Tryz.results42, go_sem]
    repeat (first | exact ext_refl _ | assumption | refine ext_setCell ?_ (by simp; try omega) _ | refine ext_alloc ?_ _ | refine ext_drew ?_ | refine ext_drewN ?_ _ | refine ext_trans ?_ (Aft.use _) | refine ext_trans ?_ (by assumption))
end Go.Proofs.YtnkajjealkggdaaGreatDoor
end
section
/- Shifts and texts of decimals: what they come to; small pieces. -/
namespace Go.Proofs.YtnkajjealkggdaaGreatDoor
open Go.RowKit
attribute [local go_sem] bs_size bs_extract bs_get bs_append bs_toList const_get
attribute [local go_sem] sz2 sz3 sz4 sz5 sz6 sz7 sz8
set_option maxHeartbeats 4000000
set_option maxRecDepth 100000
attribute [local irreducible] Calls
def minusL (neg : Bool) : List UInt8 := if neg then [45] else []
def itoaL (n : Int) : List UInt8 := minusL (decide (n < 0)) ++ dtext n.natAbs
end Go.Proofs.YtnkajjealkggdaaGreatDoor
end
