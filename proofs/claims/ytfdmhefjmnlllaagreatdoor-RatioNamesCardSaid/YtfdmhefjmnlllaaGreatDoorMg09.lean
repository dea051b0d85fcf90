/- Lemmas of this proof, laid together: SlB, BigD, TwBigD, DecD, DecN, DecF. -/
import Derived.Test.YtfdmhefjmnlllaaGreatDoorRows
import Derived.Test.YtfdmhefjmnlllaaGreatDoorMg03
import Derived.Test.YtfdmhefjmnlllaaGreatDoorMg05
import Derived.Test.YtfdmhefjmnlllaaGreatDoorMg04
import Derived.Laws.IdiomStrings
import Derived.Laws.BytesArg
import Derived.Laws.CopyRow
import Derived.Laws.CopyOwn
import Derived.Maps.AppendAt
import Derived.Deep.Heap
import Derived.Test.YtfdmhefjmnlllaaGreatDoorMg07
import Derived.Test.YtfdmhefjmnlllaaGreatDoorMg08
import Derived.Test.YtfdmhefjmnlllaaGreatDoorMg01
set_option linter.unusedSimpArgs false
set_option linter.unusedVariables false
section
/- Slices of bytes in memory. -/
namespace Go.Proofs.YtfdmhefjmnlllaaGreatDoor
open Go.RowKit
abbrev bV (b : UInt8) : Value := .int .u8 (b.toNat : Int)
theorem u8_under : Tryz.prog.underlying 51 = some (.slice 5) := by kernel_rfl
theorem u8_kind : Tryz.prog.underlying 5 = some (.int .u8) := by kernel_rfl
theorem str_kind : Tryz.prog.underlying 9 = some .string := by kernel_rfl
theorem u8_info : (Tryz.prog.info? 5).map (fun i => (i.zero, i.size, i.bytes)) = some (some (.int .u8 0), 1, 1) := by kernel_rfl
def Apt (v : Value) (A : Option Addr) (zs : List Nat) : Prop := ∀ a, A = some a → zs ≠ [] → v.ownBlock ≠ some a.block
theorem rd_lt {w : World} {A : Option Addr} {n c : Nat} {xs : List Nat} (h : Rd w A n c xs) {a : Addr} (ha : A = some a) (hne : xs ≠ []) : a.block < w.heap.size := by
 subst ha
 have h1 := h.at_ a rfl
 obtain ⟨b, off, s⟩ := a
 simp only at h1
 subst h1
 exact (h.cells b off rfl 0 (List.length_pos_iff.2 hne)).1
theorem rd_grown {w w' : World} {A : Option Addr} {n c : Nat} {xs : List Nat} {row : Option Nat} (h : Rd w A n c xs) (hg : w.grownBy w' row) (hne : ∀ a, A = some a → xs ≠ [] → row ≠ some a.block) : Rd w' A n c xs :=
 ⟨h.len, h.cap, h.mx, h.lb, h.none_, h.at_, fun b off hA i hi => by
  obtain ⟨h1, h2⟩ := h.cells b off hA i hi
  refine ⟨Nat.lt_of_lt_of_le h1 hg.size, ?_⟩
  rw [World.cell?_of_block (hg.block b h1 (fun e => hne _ hA (by intro e2; rw [e2] at hi; simp at hi) e.symm))]
  exact h2⟩
theorem own_ext {w w' : World} {base : Nat} {e : TypeId} {size : Nat} {v : Value} {n : Nat} {xs : List Value} (h : w.ownsRow base e size v n xs) (he : Ext w w') : w'.ownsRow base e size v n xs :=
 h.kept (row := none) ⟨he.os, he.tape, he.output, he.size, fun k hk _ => he.block k hk⟩ (by cases hv : v.ownBlock <;> simp)
theorem own_far {w : World} {base : Nat} {e : TypeId} {size : Nat} {v : Value} {n : Nat} {xs : List Value} (h : w.ownsRow base e size v n xs) (p : Addr) (u : Value) (hne : v.ownBlock ≠ some p.block) : (w.setCell p u).ownsRow base e size v n xs := by
 refine h.kept (row := some p.block) ⟨rfl, rfl, rfl, by simp, fun k _ hk => Go.Deep.blk_setCell_other w p u k (fun e => hk (by rw [e]))⟩ (.inr hne)
theorem push_u8 {ops : Array Oper} {rest : List Oper} {o : Oper} {a : Act} {Q : Exit → Act → World → Prop} {w : World} (hgd : o.guard = none) (s x : Operand)
  (ho : o.op = .call { callee := .builtin .append, args := #[s, x], argTypes := #[51, 51] })
  {W : World} {w0 : World} (ob : Obj) (hw : w = w0.alloc ob) (hW : Ext W w0) {base : Nat} (hbase : W.heap.size ≤ base) (hsz0 : base ≤ w0.heap.size) {v : Value} {n : Nat} {xs : List UInt8} (hown : w0.ownsRow base 5 1 v n (xs.map bV)) (hs : a.eval s = v)
  (y : UInt8) (ad : Addr) (c : Nat) (hx : a.eval x = .slice (some ad) 1 c) (hnew : w.cell? ad = some (bV y)) (hn : n ≤ 1000000000)
  (h : ∀ v' w', Ext W w' → Hid (w'.ownsRow base 5 1 v' (n + 1) ((xs ++ [y]).map bV)) → Hid (∀ A n' c' zs, Rd w0 A n' c' zs → Apt v A zs → Rd w' A n' c' zs ∧ Apt v' A zs) → wpList Tryz.prog ops Q rest (a.put o.dst v') w') : wpList Tryz.prog ops Q (o :: rest) a w := by
 obtain ⟨i, hi, hz, hsz, hby⟩ := info_parts u8_info
 subst hw
 refine wpList_append_own_at _ hgd s x _ ho base 5 i _ 1 1 u8_under hi hz hsz hby rfl (by decide) v n _ hs (hown.alloc _) ad 1 c [bV y] hx rfl ?_ ?_ ?_ ?_ ?_ ?_
 ·intro j u hj
  match j, hj with
  | 0, hj => simp at hj; subst hj; simpa [Addr.add] using hnew
 ·intro u hu; simp at hu; subst hu; rfl
 ·unfold maxLen; omega
 ·omega
 ·simp; omega
 ·intro v' w' ho' hg _ hat
  refine h v' w' (ext_grown (jA hW _) (hown.alloc _) hbase hg) ?_ ?_
  ·show World.ownsRow _ _ _ _ _ _ _
   simpa using ho'
  ·intro A n' c' zs hR hA
   have hR1 : Rd (w0.alloc ob) A n' c' zs := hR.ext (jA (jR _) _)
   refine ⟨rd_grown hR1 hg hA, fun q hq hne => ?_⟩
   have hlt := rd_lt hR hq hne
   rcases hat with e | e
   ·rw [e]; exact hA q hq hne
   ·rw [e]; intro e2; simp at e2; omega
theorem made_zero8 (n : Nat) : (madeCells (Value.int .u8 0).cells (n * 1)).toList = (List.replicate n (0 : UInt8)).map bV := by
 unfold madeCells
 refine List.ext_getElem (by simp) fun i h1 h2 => ?_
 simp [Value.cells, bV, Nat.mod_one]
theorem make_u8 {ops : Array Oper} {rest : List Oper} {o : Oper} {a : Act} {Q : Exit → Act → World → Prop} {w : World} (hg : o.guard = none) (l c : Operand) (hop : o.op = Op.makeSlice 51 l c)
  (kl kc : IntKind) (L C : Int) (n : Nat) (hl : a.eval l = .int kl L) (hc : a.eval c = .int kc C) (hL : L = (n : Int)) (hC : C = (n : Int)) (hn : n ≤ 1000000000)
  (hK : ∀ w', Ext w w' → Hid (w'.ownsRow w.heap.size 5 1 (.slice (some ⟨w.heap.size, 0, none⟩) n n) n ((List.replicate n (0 : UInt8)).map bV)) → wpList Tryz.prog ops Q rest (a.put o.dst (.slice (some ⟨w.heap.size, 0, none⟩) n n)) w') :
  wpList Tryz.prog ops Q (o :: rest) a w := by
 obtain ⟨i, hi, hz, hsz, hby⟩ := info_parts u8_info
 refine wpList_make_full w hg l c _ hop w.heap.size 5 i _ 1 u8_under hi hz hsz kl kc L C n hl hc hL hC (by rw [hby]; omega) (by unfold maxLen; omega) (Nat.le_refl _) fun w' h1 h2 => ?_
 rw [made_zero8] at h1
 exact hK w' (ext_grown_none (jR _) h2) h1
theorem ownb_at {w : World} {base : Nat} {e : TypeId} {g n cap : Nat} {xs : List UInt8} (h : w.ownsRow base e 1 (.slice (some ⟨g, 0, none⟩) n cap) n (xs.map bV)) (i : Nat) (hi : i < n) :
  w.cell? ⟨g, i, none⟩ = some (.int .u8 ((xs.getD i 0).toNat : Int)) ∧ w.frozen? ⟨g, i, none⟩ = false := by
 have hl : xs.length = n := by have := h.1; simpa using this
 rcases h.2 with ⟨h', _⟩ | ⟨g', cap', cur, h', hb, hg, hnc, hcm, hcs, htake⟩
 ·simp at h'
 ·simp only [Value.slice.injEq, Option.some.injEq, Addr.mk.injEq, and_true, true_and] at h'
  obtain ⟨rfl, rfl⟩ := h'
  refine ⟨?_, ?_⟩
  ·rw [cell_of_row w g i cur e (0, 0) hg]
   have h1 : (cur.toList.take (n * 1))[i]? = (xs.map bV)[i]? := by rw [htake]
   rw [List.getElem?_take_of_lt (by omega), List.getElem?_map, List.getElem?_eq_getElem (show i < xs.length by omega)] at h1
   rw [List.getD_eq_getElem?_getD, List.getElem?_eq_getElem (show i < xs.length by omega)]
   simpa using h1
  ·simp [World.frozen?, hg]
theorem ownb_set {w : World} {base : Nat} {e : TypeId} {g n cap : Nat} {xs : List UInt8} (h : w.ownsRow base e 1 (.slice (some ⟨g, 0, none⟩) n cap) n (xs.map bV)) (j : Nat) (y : UInt8) :
  (w.setCell ⟨g, j, none⟩ (bV y)).ownsRow base e 1 (.slice (some ⟨g, 0, none⟩) n cap) n ((xs.set j y).map bV) := by
 have := (h.stored j (bV y)).1
 rw [List.map_set]
 exact this
theorem ownb_str {w : World} {base : Nat} {e : TypeId} {g n cap : Nat} {xs : List UInt8} (h : w.ownsRow base e 1 (.slice (some ⟨g, 0, none⟩) n cap) n (xs.map bV)) (i k c : Nat) (hk : i + k ≤ n) (l : List UInt8) (hl : l = (xs.drop i).take k) :
  (convert 51 9 (.slice (some ⟨g, i, none⟩) k c)).run Tryz.prog w = .ok (.string (bs l)) w := by
 have hx : xs.length = n := by have := h.1; simpa using this
 have hlen : l.length = k := by rw [hl, List.length_take, List.length_drop]; omega
 have := run_convert_bytes_back (P := Tryz.prog) w 51 9 5 ⟨g, i, none⟩ c l u8_under u8_kind str_kind (fun j hj => by
  have h1 := (ownb_at h (i + j) (by omega)).1
  rw [Addr.add_lit, h1, List.getD_eq_getElem?_getD, List.getElem?_eq_getElem (by omega)]
  have e1 : l[j] = xs[i + j]'(by omega) := by simp only [hl, List.getElem_take, List.getElem_drop]
  rw [e1]; rfl)
 rw [hlen] at this
 exact this
end Go.Proofs.YtfdmhefjmnlllaaGreatDoor
end
section
/- Words of the library's: a number is added to a row, from a word on. -/
namespace Go.Proofs.YtfdmhefjmnlllaaGreatDoor
open Go.RowKit
attribute [local go_sem] sz2 sz3 sz4 sz5 sz6 sz7 sz8
set_option maxHeartbeats 4000000
set_option maxRecDepth 100000
attribute [local irreducible] Calls
theorem only_refl (w : World) (r : Option Nat) : w.grownBy w r := ⟨rfl, rfl, rfl, Nat.le_refl _, fun _ _ _ => rfl⟩
theorem only_set (w : World) (g i : Nat) (u : Value) : w.grownBy (w.setCell ⟨g, i, none⟩ u) (some g) :=
 ⟨rfl, rfl, rfl, by simp, fun k _ hk => Go.Deep.blk_setCell_other w ⟨g, i, none⟩ u k (fun e => hk (by rw [e]))⟩
theorem only_ext {W w w' : World} {g : Nat} (h : Ext W w) (hg : w.grownBy w' (some g)) (hW : W.heap.size ≤ g) : Ext W w' :=
 ⟨hg.os.trans h.os, hg.tape.trans h.tape, hg.output.trans h.output, Nat.le_trans h.size hg.size, fun i hi =>
  (hg.block i (Nat.lt_of_lt_of_le hi h.size) (by intro e; simp at e; omega)).trans (h.block i hi)⟩
theorem addAt_step {os ys : List Nat} {n p cy o y T : Nat} (hl : os.length = n) (hp : p < n) (hv : val os + Bs ^ p * cy = T) (ho : os.getD p 0 = o) :
  val (os.set p ((o + cy + y) % 4294967296)) + Bs ^ (p + 1) * ((o + cy + y) / 4294967296) = T + Bs ^ p * y := by
 have h1 := val_set os p ((o + cy + y) % 4294967296) (by omega)
 rw [ho] at h1
 have h2 : (o + cy + y) % 4294967296 + Bs * ((o + cy + y) / 4294967296) = o + cy + y := Nat.mod_add_div _ _
 have h3 : Bs ^ p * ((o + cy + y) % 4294967296) + Bs ^ (p + 1) * ((o + cy + y) / 4294967296) = Bs ^ p * o + Bs ^ p * cy + Bs ^ p * y := by
  rw [Nat.pow_succ, Nat.mul_assoc, ← Nat.mul_add, h2, Nat.mul_add, Nat.mul_add]
 omega
theorem bw_addAt (base g n : Nat) (B : Option Addr) (m d : Nat) (ys : List Nat) (at_ : Nat) (os : List Nat) (w : World) (hown : w.ownsRow base 47 1 (.slice (some ⟨g, 0, none⟩) n n) n (os.map u32V)) (hos : Lb os)
  (hB : Rd w B m d ys) (hap : ∀ a, B = some a → ys ≠ [] → a.block ≠ g) (hfit : val os + Bs ^ at_ * val ys < Bs ^ n) (hn : n ≤ 3000000) (hat : at_ + m ≤ n) :
  Calls Tryz.prog 156 #[.slice (some ⟨g, 0, none⟩) n n, .slice B m d, .int .i64 (at_ : Int)] w fun e w' => ∃ os' : List Nat, e = .returned (.tuple #[]) ∧ Hid (w'.ownsRow base 47 1 (.slice (some ⟨g, 0, none⟩) n n) n (os'.map u32V)) ∧
   Hid (Lb os' ∧ val os' = val os + Bs ^ at_ * val ys) ∧ Hid (w.grownBy w' (some g)) := by
 have hmy := hB.mx
 have hcy := hB.cap
 have HB := Lib.hid hB
 have hly := Lib.hid hB.len
 have hby := Lib.hid hB.lb
 have hgl : g < w.heap.size := (hown.lt g rfl).2
 have hbg : base ≤ g := (hown.lt g rfl).1
 have hol : os.length = n := by have := hown.1; simpa using this
 have HO := Lib.hid hown
 have HFit := Lib.hid hfit
 have Hap := Lib.hid hap
 have HOL := Lib.hid (show os.length = n ∧ Lb os from ⟨hol, hos⟩)
 clear hB hown hos hfit hap hol
 go_enter Tryz.func156, Tryz.ntmps156
 go_wp2
 go_loopw [6, 7] (fun vc vi wr => ∃ (i cy : Nat) (zs : List Nat), i ≤ n ∧ cy ≤ 1 ∧ vi = .int .i64 (i : Int) ∧ vc = .int .u64 (cy : Int) ∧ (m < i → at_ + i ≤ n) ∧ Hid (zs.length = n ∧ Lb zs ∧ val zs + Bs ^ (at_ + i) * cy = val os + Bs ^ at_ * val (ys.take i)) ∧
   Hid (wr.ownsRow base 47 1 (.slice (some ⟨g, 0, none⟩) n n) n (zs.map u32V)) ∧ Hid (w.grownBy wr (some g)))
  (fun _ vi _ => n + 1 - (intOf vi).toNat)
 case atStart => exact ⟨0, 0, os, Nat.zero_le _, by omega, rfl, rfl, by omega, ⟨HOL.out.1, HOL.out.2, by simp [val]⟩, HO.out, only_refl _ _⟩
 case round =>
  clear HO
  obtain ⟨i, cy, zs, hi, hcy1, rfl, rfl, him, hz, hown, hgr⟩ := hrel
  have hE : Hid (Rd wr B m d ys) := Lib.hid (rd_grown HB.out hgr.out (fun a ha hne e => Hap.out a ha hne (by simp at e; exact e.symm)))
  by_cases hgo : i < m ∨ 0 < cy
  ·have hlt : at_ + i < n := by
    rcases hgo with h | h
    ·omega
    ·rcases Nat.lt_or_ge i m with h1 | h1
     ·omega
     ·have h2 := hz.out.2.2
      have h3 := HFit.out
      rw [take_ge (by rw [hly.out]; exact h1)] at h2
      have h4 : Bs ^ (at_ + i) * 1 ≤ Bs ^ (at_ + i) * cy := Nat.mul_le_mul_left _ h
      have h5 : Bs ^ (at_ + i) < Bs ^ n := by omega
      exact (Nat.pow_lt_pow_iff_right (by decide)).1 h5
   obtain ⟨o, ho, hob⟩ : ∃ o : Nat, Hid (zs.getD (at_ + i) 0 = o) ∧ o < 4294967296 := ⟨_, rfl, lb_getD hz.out.2.1 _⟩
   obtain ⟨hc1, hf1⟩ := own_at hown.out (at_ + i) hlt
   rw [ho.out] at hc1
   have fin : ∀ (y : Nat) (z q : Int), y < 4294967296 → ys.getD i 0 = y → z = (((o + cy + y) % 4294967296 : Nat) : Int) → q = (((o + cy + y) / 4294967296 : Nat) : Int) → ∃ (i' cy' : Nat) (zs' : List Nat), i' ≤ n ∧ cy' ≤ 1 ∧ Value.int IntKind.i64 ((i : Int) + 1) = .int .i64 (i' : Int) ∧ Value.int IntKind.u64 q = .int .u64 (cy' : Int) ∧ (m < i' → at_ + i' ≤ n) ∧
     Hid (zs'.length = n ∧ Lb zs' ∧ val zs' + Bs ^ (at_ + i') * cy' = val os + Bs ^ at_ * val (ys.take i')) ∧
     Hid ((wr.setCell ⟨g, at_ + i, none⟩ (.int .u32 z)).ownsRow base 47 1 (.slice (some ⟨g, 0, none⟩) n n) n (zs'.map u32V)) ∧ Hid (w.grownBy (wr.setCell ⟨g, at_ + i, none⟩ (.int .u32 z)) (some g)) := by
    rintro y z q hyb hy rfl rfl
    refine ⟨i + 1, (o + cy + y) / 4294967296, zs.set (at_ + i) ((o + cy + y) % 4294967296), by omega, by omega, by simp, rfl, by omega, ⟨by rw [List.length_set]; exact hz.out.1, lb_set hz.out.2.1 _ (Nat.mod_lt _ (by decide)), ?_⟩, own_set hown.out _ _, hgr.out.trans (only_set _ _ _ _)⟩
    have h1 := addAt_step (ys := ys) (y := y) hz.out.1 hlt hz.out.2.2 ho.out
    rw [val_take_succ, hy, ← Nat.add_assoc, h1, Nat.mul_add, ← Nat.mul_assoc, ← Nat.pow_add, Nat.add_assoc]
   by_cases hm0 : i < m
   ·obtain ⟨by', oy, hYe⟩ : ∃ b off, B = some ⟨b, off, none⟩ := by
     rcases HB.out.shape with ⟨_, h, _⟩ | h
     ·omega
     ·exact h
    subst hYe
    obtain ⟨y, hy, hyb, hcy2⟩ := hE.out.get i hm0
    have HF := Lib.hid (fun z q => fin y z q hyb hy.out)
    clear fin
    go_wp2
    all_goals
     refine ⟨HF.out _ _ (by omega) (by omega), ?_⟩
     simp [intOf]; omega
   ·have hy0 : ys.getD i 0 = 0 := getD_ge (by rw [hly.out]; omega)
    have HF := Lib.hid (fun z q => fin 0 z q (by decide) hy0)
    clear fin hy0
    go_wp2
    all_goals
     refine ⟨HF.out _ _ (by omega) (by omega), ?_⟩
     simp [intOf]; omega
  ·have hc0 : cy = 0 := by omega
   subst hc0
   have hfin : Hid (Lb zs ∧ val zs = val os + Bs ^ at_ * val ys) := by
    refine ⟨hz.out.2.1, ?_⟩
    have h2 := hz.out.2.2
    rw [take_ge (by rw [hly.out]; omega)] at h2
    simpa using h2
   go_wp2
   refine bodyPost_end (v := .tuple #[]) ?h rfl ⟨zs, rfl, hown, hfin, hgr⟩
   case h => simp [results, Tryz.results156, go_sem]
end Go.Proofs.YtfdmhefjmnlllaaGreatDoor
end
