/- Lemmas of this proof, laid together: LhA, LhB. -/
import Derived.Test.YtfdmhefjmnlllaaGreatDoorMg28
import Derived.Test.YtfdmhefjmnlllaaGreatDoorMg29
import Derived.Deep.DeepCutAuto
import Derived.Deep.RegionWith
import Derived.Deep.LoopGhost
set_option linter.unusedSimpArgs false
set_option linter.unusedVariables false
section
/- The second law's helpers: limbs that are lent, with marks behind them. -/
namespace Go.Proofs.YtfdmhefjmnlllaaGreatDoor
open Go.RowKit
attribute [local go_sem] sz2 sz3 sz4 sz5 sz6 sz7 sz8
set_option maxHeartbeats 4000000
set_option maxRecDepth 100000
attribute [local irreducible] Calls
abbrev Mk (xs : List Nat) : List Nat := xs ++ List.replicate 20 77
abbrev LRow (w : World) (g n c : Nat) (xs : List Nat) : Prop := w.ownsRow 0 47 1 (.slice (some ⟨g, 0, none⟩) (n + 20) c) (n + 20) ((Mk xs).map u32V)
theorem own_put {w : World} {base : Nat} {e : TypeId} {size n c m : Nat} {A : Option Addr} {xs : List Value} (h : w.ownsRow base e size (.slice A m c) n xs) {p : Addr} (u : Value) (hne : ∀ a, A = some a → a.block ≠ p.block) : (w.setCell p u).ownsRow base e size (.slice A m c) n xs := by
 obtain ⟨h1, h2⟩ := h
 refine ⟨h1, ?_⟩
 rcases h2 with h2 | ⟨g, cap, cur, he, h0, h3, h4⟩
 ·exact .inl h2
 ·refine .inr ⟨g, cap, cur, he, h0, ?_, h4⟩
  have h5 := hne ⟨g, 0, none⟩ (by simp only [Value.slice.injEq] at he; exact he.1)
  exact (Go.Deep.blk_setCell_other w p u g h5).trans h3
theorem rl_lend (A : Option Addr) (n c : Nat) (xs : List Nat) (hn : n ≤ 100000) (w : World) (hA : Rd w A n c xs) :
  Calls Tryz.prog 31 #[natV A n c] w fun e w' => ∃ (g cap : Nat), e = .returned (natV (some ⟨g, 0, none⟩) n cap) ∧ Hid (LRow w' g n cap xs ∧ w.heap.size ≤ g) ∧ Ext w w' := by
 have hmx := hA.mx
 have hcap := hA.cap
 have HA := Lib.hid hA
 have hlen := Lib.hid hA.len
 have hE0 := Lib.hid (own_empty ((w.alloc (Obj.cells #[.slice A n c] 24)).alloc (Obj.cells #[.slice none 0 0] 24)) 47)
 have hX0 := Lib.hid (jA (jA (jA (jR w) (Obj.cells #[.slice A n c] 24)) (Obj.cells #[.slice none 0 0] 24)) (Obj.cells #[] 47))
 have hX1 := Lib.hid (jA (jR ((w.alloc (Obj.cells #[.slice A n c] 24)).alloc (Obj.cells #[.slice none 0 0] 24))) (Obj.cells #[] 47))
 have hX2 := Lib.hid (jA (jA (jR w) (Obj.cells #[.slice A n c] 24)) (Obj.cells #[.slice none 0 0] 24))
 have hz0 : ((w.alloc (Obj.cells #[.slice A n c] 24)).alloc (Obj.cells #[.slice none 0 0] 24)).heap.size = w.heap.size + 1 + 1 := by simp
 have hc0 : ((w.alloc (Obj.cells #[.slice A n c] 24)).alloc (Obj.cells #[.slice none 0 0] 24)).cell? ⟨w.heap.size + 1, 0, none⟩ = some (.slice none 0 0) := by simp [go_sem]
 have hc1 : ((w.alloc (Obj.cells #[.slice A n c] 24)).alloc (Obj.cells #[.slice none 0 0] 24)).cell? ⟨w.heap.size, 0, none⟩ = some (.slice A n c) := by simp [go_sem]
 have hf0 : ((w.alloc (Obj.cells #[.slice A n c] 24)).alloc (Obj.cells #[.slice none 0 0] 24)).frozen? ⟨w.heap.size + 1, 0, none⟩ = false := by simp [go_sem]
 rw [hz0] at hE0
 rcases hA.shape with ⟨rfl, rfl, rfl, rfl⟩ | ⟨b, off, rfl⟩
 ·clear hA
  go_enter Tryz.func31, Tryz.ntmps31
  go_upto_region 2 with (first
   | (at_builtin; refine push_u32s rfl _ _ rfl hX1.out (base := w.heap.size + 1 + 1) (by omega) (by simp) (xs := []) hE0.out rfl (HA.out.ext hX0.out) rfl (by omega) ?_; intro v5 w5 hx5 ho5)
   )
  obtain ⟨w5, hw5⟩ : ∃ u, u = ((w.alloc (Obj.cells #[.slice none 0 0] 24)).alloc (Obj.cells #[.slice none 0 0] 24)).alloc (Obj.cells #[] 47) := ⟨_, rfl⟩
  rw [← hw5]
  have hx5 := hX1.out
  have ho5 : Hid (w5.ownsRow (w.heap.size + 1 + 1) 47 1 (.slice (some ⟨w.heap.size + 1 + 1, 0, none⟩) 0 0) 0 (([] : List Nat).map u32V)) := by rw [hw5]; exact Lib.hid hE0.out
  rw [← hw5] at hx5
  have hx5' := Lib.hid hx5
  have hsz5 := hx5.size
  clear hE0 hX0 hX1 hx5
  have y0 := (Below.cell (p := ⟨w.heap.size + 1, 0, none⟩) hx5'.out (by rw [hz0]; simp only; omega)).trans hc0
  have y1 := (Below.frozen (p := ⟨w.heap.size + 1, 0, none⟩) hx5'.out (by rw [hz0]; simp only; omega)).trans hf0
  have y2 := (Below.cell (p := ⟨w.heap.size, 0, none⟩) hx5'.out (by rw [hz0]; simp only; omega)).trans hc1
  go_wp2
  clear y0 y1 y2
  go_loopw [3, 4] (fun p v wr => ∃ (t : Nat) (X : Option Addr) (cx : Nat), t ≤ 20 ∧ p = .slice X (0 + t) cx ∧ v = .int .i64 (t : Int) ∧ Hid (Ext ((w.alloc (Obj.cells #[.slice none 0 0] 24)).alloc (Obj.cells #[.slice none 0 0] 24)) wr) ∧ Hid (wr.ownsRow (w.heap.size + 1 + 1) 47 1 (.slice X (0 + t) cx) (0 + t) ((([] : List Nat) ++ List.replicate t 77).map u32V))) (fun _ v _ => 20 - (intOf v).toNat)
  case atStart => exact ⟨0, _, _, by omega, rfl, by go_num, hx5'.out, by have := ho5.out; show World.ownsRow _ _ _ _ _ _ _; simpa using this⟩
  case round =>
   clear ho5 hx5' hsz5
   obtain ⟨t, X, cx, ht, rfl, rfl, hx, hl⟩ := hrel
   by_cases h5 : t < 20
   ·have hlt5 : decide ((t : Int) < 20) = true := decide_eq_true (by omega)
    have hl2 : Hid (wr.ownsRow (((w.alloc (Obj.cells #[.slice none 0 0] 24)).alloc (Obj.cells #[.slice none 0 0] 24))).heap.size 47 1 (.slice X (0 + t) cx) (0 + t) ((([] : List Nat) ++ List.replicate t 77).map u32V)) := by rw [hz0]; exact hl
    clear hl
    go_wp2_with (first
     | (at_builtin; refine push_mark rfl _ _ rfl (Obj.cells #[.int .u32 77] 47) rfl hx.out (.inr hl2.out) rfl 77 ⟨wr.heap.size, 0, none⟩ 1 rfl (by show _ = some (Value.int .u32 77); simp [go_sem]) (by omega) ?_; intro g5 cap5 w5 hx5 ho5)
     )
    rw [hz0] at ho5
    go_roundw
    case rel =>
     refine ⟨t + 1, some ⟨g5, 0, none⟩, cap5, by omega, by first | rw [Nat.add_assoc] | simp, by go_num, hx5, ?_⟩
     have := ho5.out
     rw [List.append_assoc, ← List.replicate_succ'] at this
     exact this
    case measure => simp [intOf]; omega
   ·obtain rfl : t = 20 := by omega
    have hlt5 : decide ((20 : Int) < 20) = false := rfl
    obtain ⟨g, rfl⟩ := own_some (own_zero hl.out) (by omega)
    have hml := own_mod (own_zero hl.out)
    have hgb := (hl.out.lt g rfl).1
    simp only [maxLen] at hml
    have y0 := (Below.cell (p := ⟨w.heap.size + 1, 0, none⟩) hx.out (by rw [hz0]; simp only; omega)).trans hc0
    have y1 := (Below.frozen (p := ⟨w.heap.size + 1, 0, none⟩) hx.out (by rw [hz0]; simp only; omega)).trans hf0
    have y2 := (Below.cell (p := ⟨w.heap.size, 0, none⟩) hx.out (by rw [hz0]; simp only; omega)).trans hc1
    have hsz := hx.out.size
    obtain ⟨q1, q2⟩ := And.intro hml.1 hml.2
    clear hml
    go_wp2
    have q0 := World.cell?_setCell_same wr ⟨w.heap.size + 1, 0, none⟩ (.slice (some ⟨g, 0, none⟩) 0 cx) y0
    refine bodyPost_ret (v := natV (some ⟨g, 0, none⟩) 0 cx) ?h rfl ⟨g, cx, rfl, ⟨own_put (own_zero hl.out) _ (fun a ha => by cases ha; simp only; omega), by omega⟩, jS (jT hX2.out hx.out) (Nat.le_succ _) _⟩
    case h => simp [results, Tryz.results31, go_sem, q0, natV]
 ·clear hA
  go_enter Tryz.func31, Tryz.ntmps31
  go_upto_region 2 with (first
   | (at_builtin; refine push_u32s rfl _ _ rfl hX1.out (base := w.heap.size + 1 + 1) (by omega) (by simp) (xs := []) hE0.out rfl (HA.out.ext hX0.out) rfl (by omega) ?_; intro v5 w5 hx5 ho5)
   )
  rw [Nat.zero_add, List.nil_append] at ho5
  obtain ⟨X5, c5, rfl, _⟩ := Rd.own ho5.out HA.out.lb
  have hx5' := Lib.hid hx5
  have hsz5 := hx5.size
  clear hE0 hX0 hX1 hx5
  have y0 := (Below.cell (p := ⟨w.heap.size + 1, 0, none⟩) hx5'.out (by rw [hz0]; simp only; omega)).trans hc0
  have y1 := (Below.frozen (p := ⟨w.heap.size + 1, 0, none⟩) hx5'.out (by rw [hz0]; simp only; omega)).trans hf0
  have y2 := (Below.cell (p := ⟨w.heap.size, 0, none⟩) hx5'.out (by rw [hz0]; simp only; omega)).trans hc1
  go_wp2
  clear y0 y1 y2
  go_loopw [3, 4] (fun p v wr => ∃ (t : Nat) (X : Option Addr) (cx : Nat), t ≤ 20 ∧ p = .slice X (n + t) cx ∧ v = .int .i64 (t : Int) ∧ Hid (Ext ((w.alloc (Obj.cells #[.slice (some ⟨b, off, none⟩) n c] 24)).alloc (Obj.cells #[.slice none 0 0] 24)) wr) ∧ Hid (wr.ownsRow (w.heap.size + 1 + 1) 47 1 (.slice X (n + t) cx) (n + t) ((xs ++ List.replicate t 77).map u32V))) (fun _ v _ => 20 - (intOf v).toNat)
  case atStart => exact ⟨0, _, _, by omega, rfl, by go_num, hx5'.out, by have := ho5.out; show World.ownsRow _ _ _ _ _ _ _; simpa using this⟩
  case round =>
   clear ho5 hx5' hsz5
   obtain ⟨t, X, cx, ht, rfl, rfl, hx, hl⟩ := hrel
   by_cases h5 : t < 20
   ·have hlt5 : decide ((t : Int) < 20) = true := decide_eq_true (by omega)
    have hl2 : Hid (wr.ownsRow (((w.alloc (Obj.cells #[.slice (some ⟨b, off, none⟩) n c] 24)).alloc (Obj.cells #[.slice none 0 0] 24))).heap.size 47 1 (.slice X (n + t) cx) (n + t) ((xs ++ List.replicate t 77).map u32V)) := by rw [hz0]; exact hl
    clear hl
    go_wp2_with (first
     | (at_builtin; refine push_mark rfl _ _ rfl (Obj.cells #[.int .u32 77] 47) rfl hx.out (.inr hl2.out) rfl 77 ⟨wr.heap.size, 0, none⟩ 1 rfl (by show _ = some (Value.int .u32 77); simp [go_sem]) (by omega) ?_; intro g5 cap5 w5 hx5 ho5)
     )
    rw [hz0] at ho5
    go_roundw
    case rel =>
     refine ⟨t + 1, some ⟨g5, 0, none⟩, cap5, by omega, by first | rw [Nat.add_assoc] | simp, by go_num, hx5, ?_⟩
     have := ho5.out
     rw [List.append_assoc, ← List.replicate_succ'] at this
     exact this
    case measure => simp [intOf]; omega
   ·obtain rfl : t = 20 := by omega
    have hlt5 : decide ((20 : Int) < 20) = false := rfl
    obtain ⟨g, rfl⟩ := own_some (own_zero hl.out) (by omega)
    have hml := own_mod (own_zero hl.out)
    have hgb := (hl.out.lt g rfl).1
    simp only [maxLen] at hml
    have y0 := (Below.cell (p := ⟨w.heap.size + 1, 0, none⟩) hx.out (by rw [hz0]; simp only; omega)).trans hc0
    have y1 := (Below.frozen (p := ⟨w.heap.size + 1, 0, none⟩) hx.out (by rw [hz0]; simp only; omega)).trans hf0
    have y2 := (Below.cell (p := ⟨w.heap.size, 0, none⟩) hx.out (by rw [hz0]; simp only; omega)).trans hc1
    have hsz := hx.out.size
    obtain ⟨q1, q2⟩ := And.intro hml.1 hml.2
    clear hml
    go_wp2
    have q0 := World.cell?_setCell_same wr ⟨w.heap.size + 1, 0, none⟩ (.slice (some ⟨g, 0, none⟩) n cx) y0
    refine bodyPost_ret (v := natV (some ⟨g, 0, none⟩) n cx) ?h rfl ⟨g, cx, rfl, ⟨own_put (own_zero hl.out) _ (fun a ha => by cases ha; simp only; omega), by omega⟩, jS (jT hX2.out hx.out) (Nat.le_succ _) _⟩
    case h => simp [results, Tryz.results31, go_sem, q0, natV]
theorem rl_kept (g n c : Nat) (xs : List Nat) (B : Option Addr) (m d : Nat) (w : World) (hA : LRow w g n c xs) (hB : Rd w B m d xs) :
  Calls Tryz.prog 55 #[natV (some ⟨g, 0, none⟩) n c, natV B m d] w fun e w' => e = .returned (.bool true) ∧ Ext w w' := by
 have hlb : Lb (Mk xs) := fun x hx => by
  rcases List.mem_append.1 hx with h | h
  ·exact hB.lb x h
  ·obtain ⟨_, rfl⟩ := List.mem_replicate.1 h; decide
 have hml := hB.len
 have hnl : xs.length = n := by have := hA.1; simp at this; omega
 obtain rfl : m = n := by omega
 obtain ⟨A', c', he, hR⟩ := Rd.own hA hlb
 simp only [Value.slice.injEq, true_and] at he
 obtain ⟨rfl, rfl⟩ := he
 have hR' : Rd w (some ⟨g, 0, none⟩) m c xs := by
  have := hR.take (k := m) (by omega)
  rwa [show (Mk xs).take m = xs by unfold Mk; rw [← hnl]; exact List.take_left] at this
 have kS : ∀ w', Ext w w' → Calls Tryz.prog 51 #[natV (some ⟨g, 0, none⟩) m c, natV B m d] w' fun e w'' => e = .returned (.bool true) ∧ Ext w' w'' := fun w' he => by
  have h := rb_SameNat _ B m c m d xs xs w' (hR'.ext he) (hB.ext he)
  rwa [show decide (xs = xs) = true by simp] at h
 have hcap := hR.cap
 have hmx := hR.mx
 have hgl := own_lt hA rfl
 have HC : Hid (∀ w', Ext w w' → ∀ i, m ≤ i → i < m + 20 → w'.cell? ⟨g, i, none⟩ = some (.int .u32 77)) := Lib.hid (fun w' he i h1 h2 => by
  have h := (own_ext hA he).cellAt i (by omega)
  rw [h, List.getElem?_map, List.getElem?_append_right (by omega), List.getElem?_replicate, if_pos (by omega)]
  rfl)
 clear hA hB hR hR'
 go_enter Tryz.func55, Tryz.ntmps55
 go_upto_region 2 with (first
  | (go_at_call 51; (with_reducible refine (kS _ xcl).mono ?_); rintro e w1 ⟨rfl, xb1⟩; obtain ⟨xc1, xf1, xl1, xz1⟩ := jU xb1; (try simp at xz1); obtain ⟨l1_0, r1_0, f1_0⟩ := kq1 xb1 (w.heap.size); obtain ⟨l1_1, r1_1, f1_1⟩ := kq1 xb1 (w.heap.size + 1))
  )
 have hE1 : Hid (Ext w w1) := by show Ext w w1; exact xcl
 have hgl1 := Nat.lt_of_lt_of_le hgl hE1.out.size
 go_wp2
 go_loop [7] (fun v => ∃ k : Nat, m ≤ k ∧ k ≤ m + 20 ∧ v = .int .i64 (k : Int)) (fun v => m + 20 - (intOf v).toNat)
 case atStart => exact ⟨m, Nat.le_refl _, by omega, by go_num⟩
 case round =>
  obtain ⟨k, hk0, hk, rfl⟩ := hrel
  by_cases h0 : k < m + 20
  ·have hlt : decide ((k : Int) < (m : Int) + 20) = true := decide_eq_true (by omega)
   have hc := HC.out w1 hE1.out k hk0 h0
   go_wp2
   go_round
   case rel => exact ⟨k + 1, by omega, by omega, by go_num⟩
   case measure => simp [intOf]; omega
  ·obtain rfl : k = m + 20 := by omega
   have hlt : decide (((m + 20 : Nat) : Int) < (m : Int) + 20) = false := decide_eq_false (by omega)
   go_wp2
   go_ret
   exact ⟨rfl, hE1.out⟩
theorem rl_small (s : Bool) (A : Option Addr) (n c : Nat) (D : Option Addr) (m k : Nat) (w : World) :
  Calls Tryz.prog 6 #[ratV s A n c D m k] w fun e w' => e = .returned (.bool (decide (n ≤ 40 ∧ m ≤ 40))) ∧ Ext w w' := by
 by_cases h1 : n ≤ 40 <;> by_cases h2 : m ≤ 40
 all_goals
  have g1 : decide ((n : Int) ≤ 40) = decide (n ≤ 40) := by rw [decide_eq_decide]; omega
  have g2 : decide ((m : Int) ≤ 40) = decide (m ≤ 40) := by rw [decide_eq_decide]; omega
  simp only [h1, h2, decide_true, decide_false, and_true, and_false, and_self, Bool.false_eq_true] at g1 g2 ⊢
  clear h1 h2
  go_enter Tryz.func6, Tryz.ntmps6
  go_wp2
  refine bodyPost_ret (v := _) ?h rfl ⟨rfl, ?_⟩
  case h => simp [results, Tryz.results6, go_sem]
  exact xcl
theorem rl_spoil (s : Bool) (g n c N : Nat) (h m d M : Nat) (vs us : List Nat) (hn : n ≤ N) (hm : m ≤ M) (hg : g ≠ h) (w : World) (hA : w.ownsRow 0 47 1 (.slice (some ⟨g, 0, none⟩) N c) N (vs.map u32V)) (hB : w.ownsRow 0 47 1 (.slice (some ⟨h, 0, none⟩) M d) M (us.map u32V)) :
  Calls Tryz.prog 21 #[ratV s (some ⟨g, 0, none⟩) n c (some ⟨h, 0, none⟩) m d] w fun e w' => e = .returned (.tuple #[]) ∧ Frm (fun k => k = g ∨ k = h) w w' := by
 have hgl := own_lt hA rfl
 have hhl := own_lt hB rfl
 obtain ⟨c1, c2⟩ := own_mod hA
 obtain ⟨d1, d2⟩ := own_mod hB
 simp only [maxLen] at c2 d2
 have HA := Lib.hid hA
 have HB := Lib.hid hB
 clear hA hB
 go_enter Tryz.func21, Tryz.ntmps21
 go_wp2
 go_loopw [2] (fun v wr => ∃ j : Nat, j ≤ n ∧ v = .int .i64 (j : Int) ∧ Hid (Frm (fun k => k = g ∨ k = h) (w.alloc (Obj.cells #[.bool s, .slice (some ⟨g, 0, none⟩) n c, .slice (some ⟨h, 0, none⟩) m d] 26)) wr) ∧ Hid (∃ vs : List Nat, wr.ownsRow 0 47 1 (.slice (some ⟨g, 0, none⟩) N c) N (vs.map u32V)) ∧ Hid (∃ us : List Nat, wr.ownsRow 0 47 1 (.slice (some ⟨h, 0, none⟩) M d) M (us.map u32V))) (fun v _ => n - (intOf v).toNat)
 case atStart => exact ⟨0, Nat.zero_le _, by go_num, Frm.refl _ _, ⟨vs, HA.out.alloc _⟩, ⟨us, HB.out.alloc _⟩⟩
 case round =>
  obtain ⟨j, hj, rfl, hF, hV, hU⟩ := hrel
  have cB : ∀ o, wr.cell? ⟨w.heap.size, o, none⟩ = (w.alloc (Obj.cells #[.bool s, .slice (some ⟨g, 0, none⟩) n c, .slice (some ⟨h, 0, none⟩) m d] 26)).cell? ⟨w.heap.size, o, none⟩ := fun o => hF.out.cell (p := ⟨w.heap.size, o, none⟩) (by simp) (by simp only; omega)
  have z1 : wr.cell? ⟨w.heap.size, 1, none⟩ = some (.slice (some ⟨g, 0, none⟩) n c) := (cB 1).trans (by simp [go_sem])
  have z2 : wr.cell? ⟨w.heap.size, 2, none⟩ = some (.slice (some ⟨h, 0, none⟩) m d) := (cB 2).trans (by simp [go_sem])
  have hsz := hF.out.size
  clear cB
  by_cases h0 : j < n
  ·have hlt : decide ((j : Int) < (n : Int)) = true := decide_eq_true (by omega)
   obtain ⟨ws, hW⟩ := hV.out
   obtain ⟨rs, hr⟩ := hU.out
   have hWl : ws.length = N := by have := hW.1; simpa using this
   have x0 := hW.cellAt j (by omega)
   have x0f := hW.frozenAt j
   rw [List.getElem?_map, List.getElem?_eq_getElem (by omega)] at x0
   simp only [Option.map_some] at x0
   have hlb := own_lt hW rfl
   have HW : Hid ((wr.setCell ⟨g, j, none⟩ (u32V 5)).ownsRow 0 47 1 (.slice (some ⟨g, 0, none⟩) N c) N ((ws.set j 5).map u32V)) := by
    have := (hW.stored j (u32V 5)).1
    show World.ownsRow _ _ _ _ _ _ _
    rw [List.map_set]
    exact this
   have HR : Hid ((wr.setCell ⟨g, j, none⟩ (u32V 5)).ownsRow 0 47 1 (.slice (some ⟨h, 0, none⟩) M d) M (rs.map u32V)) := Lib.hid (own_put hr _ (fun a ha => by cases ha; exact fun e => hg e.symm))
   clear hW hr hV hU
   go_wp2
   exact ⟨⟨j + 1, by omega, by go_num, hF.out.trans (Frm.set _ (.inl (.inl rfl))), ⟨_, HW.out⟩, ⟨_, HR.out⟩⟩, by simp [intOf]; omega⟩
  ·obtain rfl : j = n := by omega
   have hlt : decide ((j : Int) < (j : Int)) = false := decide_eq_false (by omega)
   obtain ⟨w1, rfl⟩ : ∃ u, u = wr := ⟨wr, rfl⟩
   clear hV
   go_wp2
   clear z1 z2
   go_loopw [3] (fun v wr => ∃ j : Nat, j ≤ m ∧ v = .int .i64 (j : Int) ∧ Hid (Frm (fun k => k = g ∨ k = h) w1 wr) ∧ Hid (∃ us : List Nat, wr.ownsRow 0 47 1 (.slice (some ⟨h, 0, none⟩) M d) M (us.map u32V))) (fun v _ => m - (intOf v).toNat)
   case atStart => exact ⟨0, Nat.zero_le _, by go_num, Frm.refl _ _, hU.out⟩
   case round =>
    obtain ⟨i, hi, rfl, hG, hV⟩ := hrel
    have cB : ∀ o, wr.cell? ⟨w.heap.size, o, none⟩ = (w.alloc (Obj.cells #[.bool s, .slice (some ⟨g, 0, none⟩) j c, .slice (some ⟨h, 0, none⟩) m d] 26)).cell? ⟨w.heap.size, o, none⟩ := fun o => (hF.out.trans hG.out).cell (p := ⟨w.heap.size, o, none⟩) (by simp) (by simp only; omega)
    have z2 : wr.cell? ⟨w.heap.size, 2, none⟩ = some (.slice (some ⟨h, 0, none⟩) m d) := (cB 2).trans (by simp [go_sem])
    have hsz2 := hG.out.size
    clear cB
    by_cases h0 : i < m
    ·have hlt2 : decide ((i : Int) < (m : Int)) = true := decide_eq_true (by omega)
     obtain ⟨ws, hW⟩ := hV.out
     have hWl : ws.length = M := by have := hW.1; simpa using this
     have x0 := hW.cellAt i (by omega)
     have x0f := hW.frozenAt i
     rw [List.getElem?_map, List.getElem?_eq_getElem (by omega)] at x0
     simp only [Option.map_some] at x0
     have hlb := own_lt hW rfl
     have HW : Hid ((wr.setCell ⟨h, i, none⟩ (u32V 7)).ownsRow 0 47 1 (.slice (some ⟨h, 0, none⟩) M d) M ((ws.set i 7).map u32V)) := by
      have := (hW.stored i (u32V 7)).1
      show World.ownsRow _ _ _ _ _ _ _
      rw [List.map_set]
      exact this
     clear hW hV
     go_wp2
     exact ⟨⟨i + 1, by omega, by go_num, hG.out.trans (Frm.set _ (.inl (.inr rfl))), ⟨_, HW.out⟩⟩, by simp [intOf]; omega⟩
    ·obtain rfl : i = m := by omega
     have hlt2 : decide ((i : Int) < (i : Int)) = false := decide_eq_false (by omega)
     go_wp2
     refine bodyPost_end (v := .tuple #[]) (by simp [results, Tryz.results21, go_sem]) rfl ⟨rfl, ?_⟩
     exact (Frm.of (jA (jR w) _)).trans (hF.out.trans hG.out)
end Go.Proofs.YtfdmhefjmnlllaaGreatDoor
end
section
/- The second law's helpers: fractions that are lent. -/
namespace Go.Proofs.YtfdmhefjmnlllaaGreatDoor
open Go.RowKit
attribute [local go_sem] sz2 sz3 sz4 sz5 sz6 sz7 sz8
set_option maxHeartbeats 4000000
set_option maxRecDepth 100000
attribute [local irreducible] Calls
structure LRat (w : World) (g n c h m d : Nat) (xs ys : List Nat) : Prop where
 num : LRow w g n c xs
 den : LRow w h m d ys
 ne : g ≠ h
theorem LRat.ext {w w' : World} {g n c h m d : Nat} {xs ys : List Nat} (k : LRat w g n c h m d xs ys) (he : Ext w w') : LRat w' g n c h m d xs ys := ⟨own_ext k.num he, own_ext k.den he, k.ne⟩
theorem LRow.rd {w : World} {g n c : Nat} {xs : List Nat} (h : LRow w g n c xs) (hb : Lb xs) : Rd w (some ⟨g, 0, none⟩) n c xs := by
 have hlb : Lb (Mk xs) := fun x hx => by
  rcases List.mem_append.1 hx with h | h
  ·exact hb x h
  ·obtain ⟨_, rfl⟩ := List.mem_replicate.1 h; decide
 have hnl : xs.length = n := by have := h.1; simp at this; omega
 obtain ⟨A', c', he, hR⟩ := Rd.own h hlb
 simp only [Value.slice.injEq, true_and] at he
 obtain ⟨rfl, rfl⟩ := he
 have := hR.take (k := n) (by omega)
 rwa [show (Mk xs).take n = xs by unfold Mk; rw [← hnl]; exact List.take_left] at this
theorem rl_lent (s : Bool) (A : Option Addr) (n c : Nat) (xs : List Nat) (D : Option Addr) (m k : Nat) (ys : List Nat) (hn : n ≤ 100000) (hm : m ≤ 100000) (w : World) (hA : Rd w A n c xs) (hD : Rd w D m k ys) :
  Calls Tryz.prog 7 #[ratV s A n c D m k] w fun e w' => ∃ (g cg h ch : Nat), e = .returned (ratV s (some ⟨g, 0, none⟩) n cg (some ⟨h, 0, none⟩) m ch) ∧ Hid (LRat w' g n cg h m ch xs ys ∧ w.heap.size ≤ g ∧ w.heap.size ≤ h) ∧ Ext w w' := by
 have k1 : ∀ w', Ext w w' → Calls Tryz.prog 31 #[natV A n c] w' fun e w'' => ∃ (g cap : Nat), e = .returned (natV (some ⟨g, 0, none⟩) n cap) ∧ Hid (LRow w'' g n cap xs ∧ w'.heap.size ≤ g) ∧ Ext w' w'' := fun w' he => rl_lend A n c xs hn w' (hA.ext he)
 have k2 : ∀ w', Ext w w' → Calls Tryz.prog 31 #[natV D m k] w' fun e w'' => ∃ (g cap : Nat), e = .returned (natV (some ⟨g, 0, none⟩) m cap) ∧ Hid (LRow w'' g m cap ys ∧ w'.heap.size ≤ g) ∧ Ext w' w'' := fun w' he => rl_lend D m k ys hm w' (hD.ext he)
 clear hA hD
 go_enter Tryz.func7, Tryz.ntmps7
 go_wp2_with (first
  | (go_at_call 31; (with_reducible refine (k1 _ xcl).mono ?_); rintro e w1 ⟨g1, c1, rfl, hL1, xb1⟩; obtain ⟨xc1, xf1, xl1, xz1⟩ := jU xb1; (try simp at xz1); obtain ⟨l1_0, r1_0, f1_0, r1_0_1, f1_0_1, r1_0_2, f1_0_2⟩ := kq3 xb1 (w.heap.size); obtain ⟨l1_1, r1_1, f1_1, r1_1_1, f1_1_1, r1_1_2, f1_1_2⟩ := kq3 xb1 (w.heap.size + 1))
  | (go_at_call 31; (with_reducible refine (k2 _ xcl).mono ?_); rintro e w2 ⟨g2, c2, rfl, hL2, xb2⟩; obtain ⟨xc2, xf2, xl2, xz2⟩ := jU xb2; (try simp at xz2); obtain ⟨l2_0, r2_0, f2_0, r2_0_1, f2_0_1, r2_0_2, f2_0_2⟩ := kq3 xb2 (w.heap.size); obtain ⟨l2_1, r2_1, f2_1, r2_1_1, f2_1_1, r2_1_2, f2_1_2⟩ := kq3 xb2 (w.heap.size + 1); obtain ⟨l2_2, r2_2, f2_2⟩ := kq1 xb2 (w1.heap.size))
  )
 have z0 : w2.cell? ⟨w.heap.size + 1, 0, none⟩ = some (.bool false) := by simp [go_sem, *]
 have z1 : w2.cell? ⟨w.heap.size + 1, 1, none⟩ = some (.slice none 0 0) := by simp [go_sem, *]
 have z2 : w2.cell? ⟨w.heap.size + 1, 2, none⟩ = some (.slice none 0 0) := by simp [go_sem, *]
 have rl : w.heap.size + 1 < w2.heap.size := by assumption
 obtain ⟨q0, q1, q2⟩ := set3 (b := w.heap.size + 1) z0 z1 z2 (.bool s) (.slice (some ⟨g1, 0, none⟩) n c1) (.slice (some ⟨g2, 0, none⟩) m c2)
 have hal : Ext (((w2.setCell ⟨w.heap.size + 1, 0, none⟩ (.bool s)).setCell ⟨w.heap.size + 1, 1, none⟩ (.slice (some ⟨g1, 0, none⟩) n c1)).setCell ⟨w.heap.size + 1, 2, none⟩ (.slice (some ⟨g2, 0, none⟩) m c2)) ((((w2.setCell ⟨w.heap.size + 1, 0, none⟩ (.bool s)).setCell ⟨w.heap.size + 1, 1, none⟩ (.slice (some ⟨g1, 0, none⟩) n c1)).setCell ⟨w.heap.size + 1, 2, none⟩ (.slice (some ⟨g2, 0, none⟩) m c2)).alloc (Obj.cells #[.slice (some ⟨g2, 0, none⟩) m c2] 24)) := jA (jR _) _
 have rl' : w.heap.size + 1 < (((w2.setCell ⟨w.heap.size + 1, 0, none⟩ (.bool s)).setCell ⟨w.heap.size + 1, 1, none⟩ (.slice (some ⟨g1, 0, none⟩) n c1)).setCell ⟨w.heap.size + 1, 2, none⟩ (.slice (some ⟨g2, 0, none⟩) m c2)).heap.size := by simpa using rl
 have q0 := (Below.cell (p := ⟨w.heap.size + 1, 0, none⟩) hal rl').trans q0
 have q1 := (Below.cell (p := ⟨w.heap.size + 1, 1, none⟩) hal rl').trans q1
 have q2 := (Below.cell (p := ⟨w.heap.size + 1, 2, none⟩) hal rl').trans q2
 have y1 := hL1.out.2
 have y2 := hL2.out.2
 have o1 := own_lt hL1.out.1 rfl
 have s1 := ext_size xb1
 simp at y1 y2 o1 s1
 have hp : ∀ {g' n' c' : Nat} {zs : List Nat}, g' ≠ w.heap.size + 1 → LRow w2 g' n' c' zs → LRow ((((w2.setCell ⟨w.heap.size + 1, 0, none⟩ (.bool s)).setCell ⟨w.heap.size + 1, 1, none⟩ (.slice (some ⟨g1, 0, none⟩) n c1)).setCell ⟨w.heap.size + 1, 2, none⟩ (.slice (some ⟨g2, 0, none⟩) m c2)).alloc (Obj.cells #[.slice (some ⟨g2, 0, none⟩) m c2] 24)) g' n' c' zs := fun hne h => own_ext (own_put (p := ⟨w.heap.size + 1, 2, none⟩) (own_put (p := ⟨w.heap.size + 1, 1, none⟩) (own_put (p := ⟨w.heap.size + 1, 0, none⟩) h _ (fun a ha => by cases ha; exact hne)) _ (fun a ha => by cases ha; exact hne)) _ (fun a ha => by cases ha; exact hne)) hal
 have hL1' : LRow w2 g1 n c1 xs := own_ext hL1.out.1 xcl
 have hE : Ext w w2 := xcl
 refine bodyPost_ret (v := ratV s (some ⟨g1, 0, none⟩) n c1 (some ⟨g2, 0, none⟩) m c2) ?h rfl ⟨g1, c1, g2, c2, rfl, ⟨⟨hp (by omega) hL1', hp (by omega) hL2.out.1, by omega⟩, by omega, by omega⟩, jT (ext_set3 hE (by omega) _ _ _) hal⟩
 case h => simp [results, Tryz.results7, go_sem, q0, q1, q2, natV]
theorem rl_still (s : Bool) (g n c h m d : Nat) (xs ys : List Nat) (B : Option Addr) (e : Nat) (C : Option Addr) (f : Nat) (w : World) (hA : LRat w g n c h m d xs ys) (hB : Rd w B n e xs) (hC : Rd w C m f ys) :
  Calls Tryz.prog 18 #[ratV s (some ⟨g, 0, none⟩) n c (some ⟨h, 0, none⟩) m d, ratV s B n e C m f] w fun e w' => e = .returned (.bool true) ∧ Ext w w' := by
 have k1 : ∀ w', Ext w w' → Calls Tryz.prog 55 #[natV (some ⟨g, 0, none⟩) n c, natV B n e] w' fun e w'' => e = .returned (.bool true) ∧ Ext w' w'' := fun w' he => rl_kept g n c xs B n e w' (own_ext hA.num he) (hB.ext he)
 have k2 : ∀ w', Ext w w' → Calls Tryz.prog 55 #[natV (some ⟨h, 0, none⟩) m d, natV C m f] w' fun e w'' => e = .returned (.bool true) ∧ Ext w' w'' := fun w' he => rl_kept h m d ys C m f w' (own_ext hA.den he) (hC.ext he)
 clear hA hB hC
 cases s
 all_goals
  go_enter Tryz.func18, Tryz.ntmps18
  go_wp2_with (first
   | (go_at_call 55; (with_reducible refine (k1 _ xcl).mono ?_); rintro e w1 ⟨rfl, xb1⟩; obtain ⟨xc1, xf1, xl1, xz1⟩ := jU xb1; (try simp at xz1); obtain ⟨l1_0, r1_0, f1_0, r1_0_1, f1_0_1, r1_0_2, f1_0_2⟩ := kq3 xb1 (w.heap.size); obtain ⟨l1_1, r1_1, f1_1, r1_1_1, f1_1_1, r1_1_2, f1_1_2⟩ := kq3 xb1 (w.heap.size + 1))
   | (go_at_call 55; (with_reducible refine (k2 _ xcl).mono ?_); rintro e w2 ⟨rfl, xb2⟩; obtain ⟨xc2, xf2, xl2, xz2⟩ := jU xb2; (try simp at xz2); obtain ⟨l2_0, r2_0, f2_0, r2_0_1, f2_0_1, r2_0_2, f2_0_2⟩ := kq3 xb2 (w.heap.size); obtain ⟨l2_1, r2_1, f2_1, r2_1_1, f2_1_1, r2_1_2, f2_1_2⟩ := kq3 xb2 (w.heap.size + 1))
   )
  refine bodyPost_ret (v := .bool true) ?h rfl ⟨rfl, ?_⟩
  case h => simp [results, Tryz.results18, go_sem]
  exact xcl
end Go.Proofs.YtfdmhefjmnlllaaGreatDoor
end
