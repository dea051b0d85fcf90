/- Lemmas of this proof, laid together: RatioMakesW. -/
import Derived.Test.YtchbefambnhjjaaGreatDoorMg32
import Derived.Test.YtchbefambnhjjaaGreatDoorMg31
import Derived.Test.YtchbefambnhjjaaGreatDoorMg34
import Derived.Test.YtchbefambnhjjaaGreatDoorMg28
import Derived.Deep.DeepCutAuto
import Derived.Deep.RegionWith
import Derived.Deep.LoopGhost
set_option linter.unusedSimpArgs false
set_option linter.unusedVariables false
section
/- RatioMakes: the walk (written by mkmakes.py). -/
namespace Go.Proofs.YtchbefambnhjjaaGreatDoor
open Go.RowKit
attribute [local go_sem] sz2 sz3 sz4 sz5 sz6 sz7 sz8
set_option maxHeartbeats 16000000
set_option maxRecDepth 100000
attribute [local irreducible] Calls
theorem makes_skip (neg : Bool) (A : Option Addr) (n c : Nat) (D : Option Addr) (m k : Nat) (e : Int) (w : World) (hs : ¬ (n ≤ 40 ∧ m ≤ 40))
  (kL : ∀ w', Ext w w' → Calls Tryz.prog 9 #[] w' fun e w'' => e = .returned (.bool true) ∧ Ext w' w'') :
  Calls Tryz.prog 5 #[.bool neg, natV A n c, natV D m k, .int .i64 e] w fun e w' => e = .returned (.bool true) ∧ Ext w w' := by
 have hc : (decide ((40 : Int) < (n : Int)) = true ∧ True) ∨ (decide ((40 : Int) < (n : Int)) = false ∧ decide ((40 : Int) < (m : Int)) = true) := by
  by_cases h : n ≤ 40
  ·exact .inr ⟨decide_eq_false (by omega), decide_eq_true (by omega)⟩
  ·exact .inl ⟨decide_eq_true (by omega), trivial⟩
 rcases hc with ⟨h1, h2⟩ | ⟨h1, h2⟩
 all_goals
  clear hs
  go_enter Tryz.func5, Tryz.ntmps5
  go_wp2_with (first
   | (go_at_call 9; (with_reducible refine (kL _ xcl).mono ?_); rintro e w1 ⟨rfl, xb1⟩; obtain ⟨xc1, xf1, xl1, xz1⟩ := jU xb1; (try simp at xz1); obtain ⟨l1_0, r1_0, f1_0⟩ := kq1 xb1 (w.heap.size); obtain ⟨l1_1, r1_1, f1_1⟩ := kq1 xb1 (w.heap.size + 1))
   )
  refine bodyPost_ret (v := .bool true) ?h rfl ⟨rfl, ?_⟩
  case h => simp [results, Tryz.results5, go_sem]
  exact xcl
theorem row_rd {w : World} {g N n c : Nat} {vs ys : List Nat} (h : w.ownsRow 0 54 1 (.slice (some ⟨g, 0, none⟩) N c) N (vs.map u32V)) (hn : n ≤ N) (ht : vs.take n = ys) (hb : Lb ys) : Rd w (some ⟨g, 0, none⟩) n c ys := by
 have hl : vs.length = N := by have := h.1; simpa using this
 have hm := own_mod h
 have hlt := own_lt h rfl
 subst ht
 refine ⟨by rw [List.length_take]; omega, by omega, by have := hm.2; unfold maxLen at this; omega, hb, (fun e => by cases e), (fun a ha => by cases ha; rfl), fun b off hA i hi => ?_⟩
 cases hA
 rw [List.length_take] at hi
 refine ⟨hlt, ?_⟩
 have := h.cellAt i (by omega)
 rw [Nat.zero_add, this, List.getElem?_map, List.getElem?_eq_getElem (by omega), List.getElem_take]
 rfl
def RLr (n : Nat) (xs : List Nat) : List Value → Value → World → Prop := fun _ u w => ∃ g c : Nat, u = natV (some ⟨g, 0, none⟩) n c ∧ LRow w g n c xs
theorem stays_lr (n : Nat) (xs : List Nat) : Stays (RLr n xs) := fun _ _ _ _ ⟨g, c, h1, h2⟩ he => ⟨g, c, h1, own_ext h2 he⟩
theorem lr_at {n : Nat} {xs : List Nat} {vals : List Value} {g c : Nat} {w : World} (h : RLr n xs vals (natV (some ⟨g, 0, none⟩) n c) w) : LRow w g n c xs := by
 obtain ⟨g', c', e, h2⟩ := h
 simp only [Value.agg.injEq, Array.mk.injEq, List.cons.injEq, Value.slice.injEq, Option.some.injEq, Addr.mk.injEq, true_and, and_true] at e
 obtain ⟨rfl, rfl⟩ := e
 exact h2
theorem rel_lr {P : Program} {f : FuncId} {args : Array Value} {n : Nat} {xs : List Nat} {vals : List Value} {w : World} (h : Calls P f args w fun e w' => ∃ (g cap : Nat), e = .returned (natV (some ⟨g, 0, none⟩) n cap) ∧ Hid (LRow w' g n cap xs ∧ w.heap.size ≤ g) ∧ Ext w w') :
  Calls P f args w fun e w' => ∃ v, e = .returned v ∧ Ext w w' ∧ Fresh w v w' ∧ RLr n xs vals v w' :=
 h.mono fun e w' ⟨g, cap, h1, h2, h3⟩ => ⟨_, h1, h3, fun b hb => by simp [blk] at hb, g, cap, rfl, h2.out.1⟩
def RDm (N : Nat) (r : Bool) (zs ws : List Nat) (E : Int) : List Value → Value → World → Prop := fun _ u w => ∃ G : FH, u = .tuple #[fV r G, .int .i64 E] ∧ (Rd w G.A G.n G.c zs ∧ Rd w G.D G.m G.k ws) ∧ (∀ a, G.A = some a → N ≤ a.block) ∧ ∀ a, G.D = some a → N ≤ a.block
theorem stays_dm (N : Nat) (r : Bool) (zs ws : List Nat) (E : Int) : Stays (RDm N r zs ws E) := fun _ _ _ _ ⟨G, h1, ⟨h2, h3⟩, h4⟩ he => ⟨G, h1, ⟨h2.ext he, h3.ext he⟩, h4⟩
theorem dm_at {N : Nat} {r : Bool} {zs ws : List Nat} {E : Int} {vals : List Value} {G : FH} {w : World} (h : RDm N r zs ws E vals (.tuple #[fV r G, .int .i64 E]) w) : (Rd w G.A G.n G.c zs ∧ Rd w G.D G.m G.k ws) ∧ (∀ a, G.A = some a → N ≤ a.block) ∧ ∀ a, G.D = some a → N ≤ a.block := by
 obtain ⟨⟨A, n, c, D, m, k⟩, e, h2⟩ := h
 obtain ⟨A', n', c', D', m', k'⟩ := G
 simp only [Value.tuple.injEq, Value.agg.injEq, Array.mk.injEq, List.cons.injEq, Value.slice.injEq, true_and, and_true] at e
 obtain ⟨⟨rfl, rfl, rfl⟩, rfl, rfl, rfl⟩ := e
 exact h2
theorem rel_dm {P : Program} {f : FuncId} {args : Array Value} {N : Nat} {r : Bool} {zs ws : List Nat} {E : Int} {vals : List Value} {w : World} (hN : N ≤ w.heap.size) (h : Calls P f args w (NB.DfPst w r zs ws E)) :
  Calls P f args w fun e w' => ∃ v, e = .returned v ∧ Ext w w' ∧ Fresh w v w' ∧ RDm N r zs ws E vals v w' :=
 h.mono fun e w' ⟨G, h1, h2, h3⟩ => ⟨_, h1, h3, fun b hb => by simp [blk] at hb, G, rfl, ⟨h2.out.1, h2.out.2.1⟩, fun a ha => Nat.le_trans hN (h2.out.2.2.1 a ha), fun a ha => Nat.le_trans hN (h2.out.2.2.2 a ha)⟩
theorem Rd.off9 {w : World} {A : Option Addr} {n c : Nat} {xs : List Nat} {B : Nat} {t : TypeId} (h : Rd w A n c xs) (hB : w.heap[B]? = some (.cells #[.bool false, .slice none 0 0, .slice none 0 0] t (0, 0))) (v0 v1 v2 : Value) : Rd (((w.setCell ⟨B, 0, none⟩ v0).setCell ⟨B, 1, none⟩ v1).setCell ⟨B, 2, none⟩ v2) A n c xs :=
 h.off3 (off_cells h hB (by intro i x; match i with | 0 => simp [u32V] | 1 => simp [u32V] | 2 => simp [u32V] | i + 3 => simp)) v0 v1 v2
abbrev MP (neg : Bool) (xs ys : List Nat) (r : Bool) (zs ws : List Nat) (E : Int) : Prop := ∀ A n c D m k w, Tz w → Rd w A n c xs → Rd w D m k ys → Calls Tryz.prog 31 #[.bool neg, natV A n c, natV D m k] w (OfPst w r zs ws E)
abbrev MD (neg : Bool) (xs ys : List Nat) (r : Bool) (zs ws : List Nat) (E : Int) : Prop := ∀ A n c D m k w, Tz w → Rd w A n c xs → Rd w D m k ys → Calls Tryz.prog 30 #[.bool neg, natV A n c, natV D m k] w (NB.DfPst w r zs ws E)
attribute [local go_sem] Oper.detAt detUpon relUpon
theorem makes_core (neg : Bool) (A : Option Addr) (n c : Nat) (D : Option Addr) (m k : Nat) (ex : Int) (xs ys : List Nat) (w : World) (hT : Tz w) (hA : Rd w A n c xs) (hD : Rd w D m k ys) (hn : n ≤ 40) (hm : m ≤ 40)
  (h1 : -9223372036854775808 ≤ ex) (h2 : ex ≤ 9223372036854775807)
  (r1 : Bool) (zs1 ws1 : List Nat) (E1 : Int) (lz1 : zs1.length ≤ 1000000) (lw1 : ws1.length ≤ 1000000) (kP1 : MP neg xs ys r1 zs1 ws1 E1) (kD1 : MD neg xs ys r1 zs1 ws1 E1)
  (r5 : Bool) (zs5 ws5 : List Nat) (E5 : Int) (lz5 : zs5.length ≤ 1000000) (lw5 : ws5.length ≤ 1000000) (kP5 : MP neg xs xs r5 zs5 ws5 E5) (kD5 : MD neg xs xs r5 zs5 ws5 E5)
  (r6 : Bool) (zs6 ws6 : List Nat) (E6 : Int) (lz6 : zs6.length ≤ 1000000) (lw6 : ws6.length ≤ 1000000) (kP6 : MP neg (List.replicate n 9) (List.replicate m 11) r6 zs6 ws6 E6) (kD6 : MD neg (List.replicate n 9) (List.replicate m 11) r6 zs6 ws6 E6)
  (kL : ∀ w', Ext w w' → Calls Tryz.prog 9 #[] w' fun e w'' => e = .returned (.bool true) ∧ Ext w' w'') :
  Calls Tryz.prog 5 #[.bool neg, natV A n c, natV D m k, .int .i64 ex] w fun e w' => e = .returned (.bool true) ∧ Ext w w' := by
 have g1 : decide ((40 : Int) < (n : Int)) = false := decide_eq_false (by omega)
 have g2 : decide ((40 : Int) < (m : Int)) = false := decide_eq_false (by omega)
 have kX : ∀ w', Ext w w' → Calls Tryz.prog 29 #[natV A n c] w' fun e w'' => ∃ (g cap : Nat), e = .returned (natV (some ⟨g, 0, none⟩) n cap) ∧ Hid (LRow w'' g n cap xs ∧ w'.heap.size ≤ g) ∧ Ext w' w'' := fun w' he => rl_lend A n c xs (by omega) w' (hA.ext he)
 have kY : ∀ w', Ext w w' → Calls Tryz.prog 29 #[natV D m k] w' fun e w'' => ∃ (g cap : Nat), e = .returned (natV (some ⟨g, 0, none⟩) m cap) ∧ Hid (LRow w'' g m cap ys ∧ w'.heap.size ≤ g) ∧ Ext w' w'' := fun w' he => rl_lend D m k ys (by omega) w' (hD.ext he)
 have hbx := Lib.hid hA.lb
 have hby := Lib.hid hD.lb
 have hlx := hA.len
 have hly := hD.len
 have HA0 := Lib.hid hA
 have HD0 := Lib.hid hD
 have HT0 := Lib.hid hT
 clear hA hD hT
 go_enter Tryz.func5, Tryz.ntmps5
 go_upto_region 4 with (first
  | (go_at_call 9; (with_reducible refine (kL _ xcl).mono ?_); rintro e w1 ⟨rfl, xb1⟩; obtain ⟨xc1, xf1, xl1, xz1⟩ := jU xb1; (try simp at xz1); obtain ⟨l1_0, r1_0, f1_0⟩ := kq1 xb1 (w.heap.size); obtain ⟨l1_1, r1_1, f1_1⟩ := kq1 xb1 (w.heap.size + 1))
  )
 have hE1 : Hid (Ext w w1) := by show Ext w w1; exact xcl
 go_upto_region 5 with (first
  | (go_at_call 29; (with_reducible refine (kX _ hE1.out).mono ?_); rintro e w2 ⟨gx, cx, rfl, hLX, xb2⟩; obtain ⟨xc2, xf2, xl2, xz2⟩ := jU xb2; (try simp at xz2); obtain ⟨l2_0, r2_0, f2_0⟩ := kq1 xb2 (w.heap.size); obtain ⟨l2_1, r2_1, f2_1⟩ := kq1 xb2 (w.heap.size + 1))
  )
 have hE2 : Hid (Ext w (w2.alloc (Obj.cells #[.slice (some ⟨gx, 0, none⟩) n cx] 30))) := Lib.hid (jT hE1.out (jT xb2 (jA (jR _) _)))
 go_upto_region 6 with (first
  | (go_at_call 29; (with_reducible refine (kY _ hE2.out).mono ?_); rintro e w3 ⟨gy, cy, rfl, hLY, xb3⟩; obtain ⟨xc3, xf3, xl3, xz3⟩ := jU xb3; (try simp at xz3); obtain ⟨l3_0, r3_0, f3_0⟩ := kq1 xb3 (w.heap.size); obtain ⟨l3_1, r3_1, f3_1⟩ := kq1 xb3 (w.heap.size + 1); obtain ⟨l3_2, r3_2, f3_2⟩ := kq1 xb3 (w2.heap.size))
  )
 obtain ⟨W, hW⟩ : ∃ z, z = w3.alloc (Obj.cells #[.slice (some ⟨gy, 0, none⟩) m cy] 30) := ⟨_, rfl⟩
 have a0 : W.cell? ⟨w.heap.size, 0, none⟩ = some (.slice A n c) := by rw [hW]; simp [go_sem, *]
 have b0 : W.cell? ⟨w.heap.size + 1, 0, none⟩ = some (.slice D m k) := by rw [hW]; simp [go_sem, *]
 have x0 : W.cell? ⟨w2.heap.size, 0, none⟩ = some (.slice (some ⟨gx, 0, none⟩) n cx) := by rw [hW]; simp [go_sem, *]
 have y0 : W.cell? ⟨w3.heap.size, 0, none⟩ = some (.slice (some ⟨gy, 0, none⟩) m cy) := by rw [hW]; simp [go_sem, *]
 have s1 := hE1.out.size
 have s2 : w1.heap.size ≤ w2.heap.size := ext_size xb2
 have s3 : w2.heap.size + 1 ≤ w3.heap.size := by have := ext_size xb3; simpa using this
 have hWz : W.heap.size = w3.heap.size + 1 := by rw [hW]; simp
 have hW3 : Ext w3 W := by rw [hW]; exact jA (jR _) _
 have hW2 : Ext w2 W := jT (jA (jR w2) _) (jT xb3 hW3)
 have hEW : Hid (Ext w W) := Lib.hid (jT hE2.out (jT xb3 hW3))
 have w1lt : w.heap.size + 1 < w1.heap.size := by assumption
 have qx := own_lt hLX.out.1 rfl
 have qy := own_lt hLY.out.1 rfl
 have zx := hLX.out.2
 have zy := hLY.out.2
 simp only at qx qy
 have hsz2 : (w2.alloc (Obj.cells #[.slice (some ⟨gx, 0, none⟩) n cx] 30)).heap.size = w2.heap.size + 1 := by simp
 rw [hsz2] at zy
 have hLx : Hid (∀ u, Ext W u → LRow u gx n cx xs) := Lib.hid (fun u he => own_ext hLX.out.1 (jT hW2 he))
 have hLy : Hid (∀ u, Ext W u → LRow u gy m cy ys) := Lib.hid (fun u he => own_ext hLY.out.1 (jT hW3 he))
 have hX : Hid (∀ u, Ext W u → Rd u (some ⟨gx, 0, none⟩) n cx xs) := Lib.hid (fun u he => (hLx.out u he).rd hbx.out)
 have hY : Hid (∀ u, Ext W u → Rd u (some ⟨gy, 0, none⟩) m cy ys) := Lib.hid (fun u he => (hLy.out u he).rd hby.out)
 have hA : Hid (∀ u, Ext W u → Rd u A n c xs) := Lib.hid (fun u he => HA0.out.ext (jT hEW.out he))
 have hB : Hid (∀ u, Ext W u → Rd u D m k ys) := Lib.hid (fun u he => HD0.out.ext (jT hEW.out he))
 have HT : Hid (∀ u, Ext W u → Tz u) := Lib.hid (fun u he => HT0.out.ext (jT hEW.out he))
 have hKa : Hid (∀ u, Ext W u → u.cell? ⟨w.heap.size, 0, none⟩ = some (.slice A n c) ∧ w.heap.size < u.heap.size) := Lib.hid (fun u he => ⟨(Below.cell (p := ⟨w.heap.size, 0, none⟩) he (by simp only; omega)).trans a0, by have := he.size; omega⟩)
 have hKb : Hid (∀ u, Ext W u → u.cell? ⟨w.heap.size + 1, 0, none⟩ = some (.slice D m k) ∧ w.heap.size + 1 < u.heap.size) := Lib.hid (fun u he => ⟨(Below.cell (p := ⟨w.heap.size + 1, 0, none⟩) he (by simp only; omega)).trans b0, by have := he.size; omega⟩)
 have hKx : Hid (∀ u, Ext W u → u.cell? ⟨w2.heap.size, 0, none⟩ = some (.slice (some ⟨gx, 0, none⟩) n cx) ∧ w2.heap.size < u.heap.size) := Lib.hid (fun u he => ⟨(Below.cell (p := ⟨w2.heap.size, 0, none⟩) he (by simp only; omega)).trans x0, by have := he.size; omega⟩)
 have hKy : Hid (∀ u, Ext W u → u.cell? ⟨w3.heap.size, 0, none⟩ = some (.slice (some ⟨gy, 0, none⟩) m cy) ∧ w3.heap.size < u.heap.size) := Lib.hid (fun u he => ⟨(Below.cell (p := ⟨w3.heap.size, 0, none⟩) he (by simp only; omega)).trans y0, by have := he.size; omega⟩)
 have hapt : Hid ((w.heap.size ≤ gx ∧ w.heap.size ≤ gy) ∧ (gx < W.heap.size ∧ gy < W.heap.size) ∧ gx ≠ gy ∧ (w2.heap.size ≠ gx ∧ w2.heap.size ≠ gy ∧ w3.heap.size ≠ gx ∧ w3.heap.size ≠ gy) ∧ w2.heap.size < W.heap.size) := Lib.hid (by omega)
 rw [← hW]
 have hlow : w.heap.size ≤ w3.heap.size + 1 := by omega
 have hcx := own_mod hLX.out.1
 have hcy := own_mod hLY.out.1
 have HCX := Lib.hid hcx
 have HCY := Lib.hid hcy
 clear hW a0 b0 x0 y0 hLX hLY hE1 hE2 hW3 hW2 xb1 xb2 xb3 qx qy zx zy s1 s2 s3 w1lt hsz2 kX kY kL hcx hcy
 try clear xc1
 try clear xf1
 try clear xl1
 try clear xz1
 try clear l1_0
 try clear l1_1
 try clear l1_2
 try clear r1_0
 try clear r1_1
 try clear r1_2
 try clear f1_0
 try clear f1_1
 try clear f1_2
 try clear xc2
 try clear xf2
 try clear xl2
 try clear xz2
 try clear l2_0
 try clear l2_1
 try clear l2_2
 try clear r2_0
 try clear r2_1
 try clear r2_2
 try clear f2_0
 try clear f2_1
 try clear f2_2
 try clear xc3
 try clear xf3
 try clear xl3
 try clear xz3
 try clear l3_0
 try clear l3_1
 try clear l3_2
 try clear r3_0
 try clear r3_1
 try clear r3_2
 try clear f3_0
 try clear f3_1
 try clear f3_2
 have hS : Hid (Sta W (W.alloc (Obj.cells #[.slice none 0 0, .slice none 0 0, .slice none 0 0, .bool false] 27)) (w3.heap.size + 1) ⟨none, none, none, 0, 0, 0⟩ [] [] []) := by
  have h0 : Sta W (W.alloc (Obj.cells #[.slice none 0 0, .slice none 0 0, .slice none 0 0, .bool false] 27)) W.heap.size ⟨none, none, none, 0, 0, 0⟩ [] [] [] := ⟨jA (jR W) _, Bk.new W 27, Nat.le_refl _, fun b hb => by cases hb⟩
  rw [hWz] at h0
  exact Lib.hid h0
 obtain ⟨v0, hu0⟩ : ∃ z, z = (W.alloc (Obj.cells #[.slice none 0 0, .slice none 0 0, .slice none 0 0, .bool false] 27)) := ⟨_, rfl⟩
 go_upto_region 7 with fail
 rw [← hu0] at hS ⊢
 obtain ⟨H0, hH0⟩ : ∃ H : BH, H = ⟨none, none, none, 0, 0, 0⟩ := ⟨_, rfl⟩
 obtain ⟨rs0, e1⟩ : ∃ z : List Rec, z = [] := ⟨_, rfl⟩
 obtain ⟨ls0, e2⟩ : ∃ z : List Row, z = [] := ⟨_, rfl⟩
 rw [← hH0, ← e1, ← e2] at hS
 have nr : rs0.length = 0 := by rw [e1]; rfl
 have nl : ls0.length = 0 := by rw [e2]; rfl
 clear hu0 hH0 e1 e2
 have kW : ∀ w', Calls Tryz.prog 32 #[.int .i64 ex] w' fun e w'' => ∃ F : FH, e = .returned (fV (decide (ex < 0)) F) ∧ Hid (RdO w'' F.A F.n F.c (lim ex.natAbs) none ∧ Fr w' F.A ∧ RdO w'' F.D F.m F.k (lim 1) F.A ∧ Fr w' F.D) ∧ Ext w' w'' := fun w' => (ra_Whole ex h1 h2 w').mono fun e w'' ⟨A, n, c, D, m, k, q1, q2, q3⟩ => ⟨⟨A, n, c, D, m, k⟩, q1, q2, q3⟩
 have lwz : (lim ex.natAbs).length ≤ 1000000 := by
  have e3 : Bs ^ 3 = 79228162514264337593543950336 := by kernel_rfl
  have : (lim ex.natAbs).length ≤ 3 := lim_le (by rw [e3]; omega)
  omega
 have lw1' : (lim 1).length ≤ 1000000 := by rw [show (lim 1).length = 1 by kernel_rfl]; decide
 obtain ⟨a0, al⟩ := hKa.out v0 hS.out.ext
 obtain ⟨b0, bl⟩ := hKb.out v0 hS.out.ext
 go_upto_region 8 with (first
  | (go_at_call 30; (with_reducible refine (kD1 A n c D m k v0 (HT.out v0 hS.out.ext) (hA.out v0 hS.out.ext) (hB.out v0 hS.out.ext)).mono ?_); rintro e wd ⟨G1, rfl, hG, xbd⟩)
  )
 obtain ⟨u1, hu⟩ : ∃ z, z = (wd.alloc (Obj.cells #[.bool r1, .slice G1.A G1.n G1.c, .slice G1.D G1.m G1.k] 32)) := ⟨_, rfl⟩
 have hS1 : Hid (Sta W u1 (w3.heap.size + 1) H0 rs0 ls0 [wd.heap.size]) := by rw [hu]; exact Lib.hid ((hS.out.step xbd).alloc _ _ _ _)
 have gA : Hid (WantR u1 (w3.heap.size + 1) H0 [wd.heap.size] G1.A G1.n G1.c zs1) := by rw [hu]; exact Lib.hid ((WantR.of hS.out hG.out.1 hG.out.2.2.1).alloc _)
 have gD : Hid (WantR u1 (w3.heap.size + 1) H0 [wd.heap.size] G1.D G1.m G1.k ws1) := by rw [hu]; exact Lib.hid ((WantR.of hS.out hG.out.2.1 hG.out.2.2.2).alloc _)
 have p0 : u1.cell? ⟨wd.heap.size, 0, none⟩ = some (.bool r1) := by rw [hu]; simp [go_sem]
 have p1 : u1.cell? ⟨wd.heap.size, 1, none⟩ = some (.slice G1.A G1.n G1.c) := by rw [hu]; simp [go_sem]
 have p2 : u1.cell? ⟨wd.heap.size, 2, none⟩ = some (.slice G1.D G1.m G1.k) := by rw [hu]; simp [go_sem]
 rw [← hu]
 clear hu hG xbd hS a0 al b0 bl
 have hS := hS1
 clear hS1
 obtain ⟨x0, xl⟩ := hKx.out u1 hS.out.ext
 obtain ⟨y0, yl⟩ := hKy.out u1 hS.out.ext
 go_upto_region 9 with (first
  | (go_at_call 31; (with_reducible refine (kP1 (some ⟨gx, 0, none⟩) n cx (some ⟨gy, 0, none⟩) m cy u1 (HT.out u1 hS.out.ext) (hX.out u1 hS.out.ext) (hY.out u1 hS.out.ext)).mono ?_); rintro e wp ⟨F1, rfl, hF, xbp⟩)
  )
 obtain ⟨u2, hu⟩ : ∃ z, z = (wp.alloc (Obj.cells #[.bool r1, .slice F1.A F1.n F1.c, .slice F1.D F1.m F1.k] 32)) := ⟨_, rfl⟩
 have hS1 : Hid (Sta W u2 (w3.heap.size + 1) H0 rs0 ls0 [wp.heap.size, wd.heap.size]) := by rw [hu]; exact Lib.hid ((hS.out.step xbp).alloc _ _ _ _)
 have nA : Hid (NewR u2 (w3.heap.size + 1) H0 ls0 [wp.heap.size, wd.heap.size] F1.A F1.n F1.c zs1 none) := by rw [hu]; exact Lib.hid ((NewR.of hS.out hF.out.1 hF.out.2.1).alloc _)
 have nD : Hid (NewR u2 (w3.heap.size + 1) H0 ls0 [wp.heap.size, wd.heap.size] F1.D F1.m F1.k ws1 F1.A) := by rw [hu]; exact Lib.hid ((NewR.of hS.out hF.out.2.2.1 hF.out.2.2.2).alloc _)
 have mA : Hid (WantR u2 (w3.heap.size + 1) H0 [wp.heap.size, wd.heap.size] G1.A G1.n G1.c zs1) := by rw [hu]; exact Lib.hid ((gA.out.step xbp).alloc _)
 have mD : Hid (WantR u2 (w3.heap.size + 1) H0 [wp.heap.size, wd.heap.size] G1.D G1.m G1.k ws1) := by rw [hu]; exact Lib.hid ((gD.out.step xbp).alloc _)
 have q0 : u2.cell? ⟨wp.heap.size, 0, none⟩ = some (.bool r1) := by rw [hu]; simp [go_sem]
 have q1 : u2.cell? ⟨wp.heap.size, 1, none⟩ = some (.slice F1.A F1.n F1.c) := by rw [hu]; simp [go_sem]
 have q2 : u2.cell? ⟨wp.heap.size, 2, none⟩ = some (.slice F1.D F1.m F1.k) := by rw [hu]; simp [go_sem]
 have hq : Ext u1 u2 := by rw [hu]; exact jT xbp (jA (jR _) _)
 have lr := (hS.out.locs wd.heap.size (by simp)).1.lt
 replace p0 := (Below.cell (p := ⟨wd.heap.size, 0, none⟩) hq lr).trans p0
 replace p1 := (Below.cell (p := ⟨wd.heap.size, 1, none⟩) hq lr).trans p1
 replace p2 := (Below.cell (p := ⟨wd.heap.size, 2, none⟩) hq lr).trans p2
 have kA := hS1.out.adds r1 F1 G1 zs1 ws1 nA.out nD.out mA.out mD.out lz1 lw1 E1 (by omega) (by omega)
 rw [← hu]
 have lr2 := (hS1.out.locs wp.heap.size (by simp)).1.lt
 have lw2 := (hS1.out.locs wd.heap.size (by simp)).1.lt
 clear hq lr hu xbp hF hS nA nD gA gD x0 xl y0 yl
 go_upto_region 10 with (first
  | (go_at_call 12; (with_reducible refine kA.mono ?_); rintro e v1 ⟨rfl, H1, hS, hT1⟩)
  )
 replace p0 := (hS1.out.kept hT1.out (b := wd.heap.size) (by simp) 0).trans p0
 replace p1 := (hS1.out.kept hT1.out (b := wd.heap.size) (by simp) 1).trans p1
 replace p2 := (hS1.out.kept hT1.out (b := wd.heap.size) (by simp) 2).trans p2
 have gA := Lib.hid (mA.out.turn hT1.out)
 have gD := Lib.hid (mD.out.turn hT1.out)
 have lv := (hS.out.locs wd.heap.size (by simp)).1.lt
 clear kA q0 q1 q2 lr2 lw2 hT1 hS1 mA mD
 obtain ⟨rs1, e1⟩ : ∃ z : List Rec, z = rs0 ++ [⟨r1, F1, G1, zs1, ws1⟩] := ⟨_, rfl⟩
 obtain ⟨ls1, e2⟩ : ∃ z : List Row, z = ls0 ++ [⟨F1.A, F1.n, zs1⟩, ⟨F1.D, F1.m, ws1⟩] := ⟨_, rfl⟩
 rw [← e1, ← e2] at hS
 replace nr : rs1.length = 1 := by rw [e1, List.length_append, nr]; rfl
 replace nl : ls1.length = 2 := by rw [e2, List.length_append, nl]; rfl
 clear e1 e2
 obtain ⟨x0, xl⟩ := hKx.out v1 hS.out.ext
 obtain ⟨y0, yl⟩ := hKy.out v1 hS.out.ext
 go_upto_region 11 with (first
  | (go_at_call 31; (with_reducible refine (kP1 (some ⟨gx, 0, none⟩) n cx (some ⟨gy, 0, none⟩) m cy v1 (HT.out v1 hS.out.ext) (hX.out v1 hS.out.ext) (hY.out v1 hS.out.ext)).mono ?_); rintro e wq ⟨F2, rfl, hF, xbp⟩)
  )
 obtain ⟨u3, hu⟩ : ∃ z, z = (wq.alloc (Obj.cells #[.bool r1, .slice F2.A F2.n F2.c, .slice F2.D F2.m F2.k] 32)) := ⟨_, rfl⟩
 have hS1 : Hid (Sta W u3 (w3.heap.size + 1) H1 rs1 ls1 [wq.heap.size, wp.heap.size, wd.heap.size]) := by rw [hu]; exact Lib.hid ((hS.out.step xbp).alloc _ _ _ _)
 have nA : Hid (NewR u3 (w3.heap.size + 1) H1 ls1 [wq.heap.size, wp.heap.size, wd.heap.size] F2.A F2.n F2.c zs1 none) := by rw [hu]; exact Lib.hid ((NewR.of hS.out hF.out.1 hF.out.2.1).alloc _)
 have nD : Hid (NewR u3 (w3.heap.size + 1) H1 ls1 [wq.heap.size, wp.heap.size, wd.heap.size] F2.D F2.m F2.k ws1 F2.A) := by rw [hu]; exact Lib.hid ((NewR.of hS.out hF.out.2.2.1 hF.out.2.2.2).alloc _)
 have mA : Hid (WantR u3 (w3.heap.size + 1) H1 [wq.heap.size, wp.heap.size, wd.heap.size] G1.A G1.n G1.c zs1) := by rw [hu]; exact Lib.hid ((gA.out.step xbp).alloc _)
 have mD : Hid (WantR u3 (w3.heap.size + 1) H1 [wq.heap.size, wp.heap.size, wd.heap.size] G1.D G1.m G1.k ws1) := by rw [hu]; exact Lib.hid ((gD.out.step xbp).alloc _)
 have q0 : u3.cell? ⟨wq.heap.size, 0, none⟩ = some (.bool r1) := by rw [hu]; simp [go_sem]
 have q1 : u3.cell? ⟨wq.heap.size, 1, none⟩ = some (.slice F2.A F2.n F2.c) := by rw [hu]; simp [go_sem]
 have q2 : u3.cell? ⟨wq.heap.size, 2, none⟩ = some (.slice F2.D F2.m F2.k) := by rw [hu]; simp [go_sem]
 have hq : Ext v1 u3 := by rw [hu]; exact jT xbp (jA (jR _) _)
 have lr := (hS.out.locs wd.heap.size (by simp)).1.lt
 replace p0 := (Below.cell (p := ⟨wd.heap.size, 0, none⟩) hq lr).trans p0
 replace p1 := (Below.cell (p := ⟨wd.heap.size, 1, none⟩) hq lr).trans p1
 replace p2 := (Below.cell (p := ⟨wd.heap.size, 2, none⟩) hq lr).trans p2
 have kA := hS1.out.adds r1 F2 G1 zs1 ws1 nA.out nD.out mA.out mD.out lz1 lw1 E1 (by omega) (by omega)
 rw [← hu]
 have lr2 := (hS1.out.locs wq.heap.size (by simp)).1.lt
 have lw2 := (hS1.out.locs wd.heap.size (by simp)).1.lt
 clear hq lr hu xbp hF hS nA nD gA gD x0 xl y0 yl
 go_upto_region 12 with (first
  | (go_at_call 12; (with_reducible refine kA.mono ?_); rintro e v2 ⟨rfl, H2, hS, hT1⟩)
  )
 clear kA q0 q1 q2 p0 p1 p2 lr2 lw2 hT1 hS1 mA mD
 obtain ⟨rs2, e1⟩ : ∃ z : List Rec, z = rs1 ++ [⟨r1, F2, G1, zs1, ws1⟩] := ⟨_, rfl⟩
 obtain ⟨ls2, e2⟩ : ∃ z : List Row, z = ls1 ++ [⟨F2.A, F2.n, zs1⟩, ⟨F2.D, F2.m, ws1⟩] := ⟨_, rfl⟩
 rw [← e1, ← e2] at hS
 replace nr : rs2.length = 2 := by rw [e1, List.length_append, nr]; rfl
 replace nl : ls2.length = 4 := by rw [e2, List.length_append, nl]; rfl
 clear e1 e2
 clear lv
 go_upto_region 13 with (first
  | (go_at_call 32; (with_reducible refine (kW v2).mono ?_); rintro e wa3 ⟨F3, rfl, hF, xba⟩)
  | (go_at_call 33; (with_reducible refine (NB.rd_Whole ex h1 h2 wa3).mono ?_); rintro e wb3 ⟨G3, rfl, hG, xbb⟩)
  | (go_at_call 12; have hSa := Lib.hid (hS.out.step xba); have hSb := Lib.hid (hSa.out.step xbb); have kA := hSb.out.adds (decide (ex < 0)) F3 G3 (lim ex.natAbs) (lim 1) ((NewR.of hS.out hF.out.1 hF.out.2.1).step xbb) ((NewR.of hS.out hF.out.2.2.1 hF.out.2.2.2).step xbb) (WantR.of hSa.out hG.out.1 hG.out.2.2.1) (WantR.of hSa.out hG.out.2.1 hG.out.2.2.2) lwz lw1' 0 (by omega) (by omega); (with_reducible refine kA.mono ?_); rintro e v3 ⟨rfl, H3, hS', _⟩)
  )
 clear hF hG xba xbb hSa hSb kA hS
 have hS := hS'
 clear hS'
 obtain ⟨rs3, e1⟩ : ∃ z : List Rec, z = rs2 ++ [⟨(decide (ex < 0)), F3, G3, lim ex.natAbs, lim 1⟩] := ⟨_, rfl⟩
 obtain ⟨ls3, e2⟩ : ∃ z : List Row, z = ls2 ++ [⟨F3.A, F3.n, lim ex.natAbs⟩, ⟨F3.D, F3.m, lim 1⟩] := ⟨_, rfl⟩
 rw [← e1, ← e2] at hS
 replace nr : rs3.length = 3 := by rw [e1, List.length_append, nr]; rfl
 replace nl : ls3.length = 6 := by rw [e2, List.length_append, nl]; rfl
 clear e1 e2
 go_upto_region 14 with (first
  | (go_at_call 32; (with_reducible refine (kW v3).mono ?_); rintro e wa4 ⟨F4, rfl, hF, xba⟩)
  | (go_at_call 33; (with_reducible refine (NB.rd_Whole ex h1 h2 wa4).mono ?_); rintro e wb4 ⟨G4, rfl, hG, xbb⟩)
  | (go_at_call 12; have hSa := Lib.hid (hS.out.step xba); have hSb := Lib.hid (hSa.out.step xbb); have kA := hSb.out.adds (decide (ex < 0)) F4 G4 (lim ex.natAbs) (lim 1) ((NewR.of hS.out hF.out.1 hF.out.2.1).step xbb) ((NewR.of hS.out hF.out.2.2.1 hF.out.2.2.2).step xbb) (WantR.of hSa.out hG.out.1 hG.out.2.2.1) (WantR.of hSa.out hG.out.2.1 hG.out.2.2.2) lwz lw1' 0 (by omega) (by omega); (with_reducible refine kA.mono ?_); rintro e v4 ⟨rfl, H4, hS', _⟩)
  )
 clear hF hG xba xbb hSa hSb kA hS
 have hS := hS'
 clear hS'
 obtain ⟨rs4, e1⟩ : ∃ z : List Rec, z = rs3 ++ [⟨(decide (ex < 0)), F4, G4, lim ex.natAbs, lim 1⟩] := ⟨_, rfl⟩
 obtain ⟨ls4, e2⟩ : ∃ z : List Row, z = ls3 ++ [⟨F4.A, F4.n, lim ex.natAbs⟩, ⟨F4.D, F4.m, lim 1⟩] := ⟨_, rfl⟩
 rw [← e1, ← e2] at hS
 replace nr : rs4.length = 4 := by rw [e1, List.length_append, nr]; rfl
 replace nl : ls4.length = 8 := by rw [e2, List.length_append, nl]; rfl
 clear e1 e2
 obtain ⟨a0, al⟩ := hKa.out v4 hS.out.ext
 go_upto_region 15 with (first
  | (go_at_call 30; (with_reducible refine (kD5 A n c A n c v4 (HT.out v4 hS.out.ext) (hA.out v4 hS.out.ext) (hA.out v4 hS.out.ext)).mono ?_); rintro e we ⟨G5, rfl, hG, xbd⟩)
  )
 obtain ⟨u5, hu⟩ : ∃ z, z = (we.alloc (Obj.cells #[.bool r5, .slice G5.A G5.n G5.c, .slice G5.D G5.m G5.k] 32)) := ⟨_, rfl⟩
 have hS1 : Hid (Sta W u5 (w3.heap.size + 1) H4 rs4 ls4 [we.heap.size, wq.heap.size, wp.heap.size, wd.heap.size]) := by rw [hu]; exact Lib.hid ((hS.out.step xbd).alloc _ _ _ _)
 have gA : Hid (WantR u5 (w3.heap.size + 1) H4 [we.heap.size, wq.heap.size, wp.heap.size, wd.heap.size] G5.A G5.n G5.c zs5) := by rw [hu]; exact Lib.hid ((WantR.of hS.out hG.out.1 hG.out.2.2.1).alloc _)
 have gD : Hid (WantR u5 (w3.heap.size + 1) H4 [we.heap.size, wq.heap.size, wp.heap.size, wd.heap.size] G5.D G5.m G5.k ws5) := by rw [hu]; exact Lib.hid ((WantR.of hS.out hG.out.2.1 hG.out.2.2.2).alloc _)
 have p0 : u5.cell? ⟨we.heap.size, 0, none⟩ = some (.bool r5) := by rw [hu]; simp [go_sem]
 have p1 : u5.cell? ⟨we.heap.size, 1, none⟩ = some (.slice G5.A G5.n G5.c) := by rw [hu]; simp [go_sem]
 have p2 : u5.cell? ⟨we.heap.size, 2, none⟩ = some (.slice G5.D G5.m G5.k) := by rw [hu]; simp [go_sem]
 rw [← hu]
 clear hu hG xbd hS a0 al
 have hS := hS1
 clear hS1
 obtain ⟨x0, xl⟩ := hKx.out u5 hS.out.ext
 go_upto_region 16 with (first
  | (go_at_call 31; (with_reducible refine (kP5 (some ⟨gx, 0, none⟩) n cx (some ⟨gx, 0, none⟩) n cx u5 (HT.out u5 hS.out.ext) (hX.out u5 hS.out.ext) (hX.out u5 hS.out.ext)).mono ?_); rintro e wf ⟨F5, rfl, hF, xbp⟩)
  )
 obtain ⟨u6, hu⟩ : ∃ z, z = (wf.alloc (Obj.cells #[.bool r5, .slice F5.A F5.n F5.c, .slice F5.D F5.m F5.k] 32)) := ⟨_, rfl⟩
 have hS1 : Hid (Sta W u6 (w3.heap.size + 1) H4 rs4 ls4 [wf.heap.size, we.heap.size, wq.heap.size, wp.heap.size, wd.heap.size]) := by rw [hu]; exact Lib.hid ((hS.out.step xbp).alloc _ _ _ _)
 have nA : Hid (NewR u6 (w3.heap.size + 1) H4 ls4 [wf.heap.size, we.heap.size, wq.heap.size, wp.heap.size, wd.heap.size] F5.A F5.n F5.c zs5 none) := by rw [hu]; exact Lib.hid ((NewR.of hS.out hF.out.1 hF.out.2.1).alloc _)
 have nD : Hid (NewR u6 (w3.heap.size + 1) H4 ls4 [wf.heap.size, we.heap.size, wq.heap.size, wp.heap.size, wd.heap.size] F5.D F5.m F5.k ws5 F5.A) := by rw [hu]; exact Lib.hid ((NewR.of hS.out hF.out.2.2.1 hF.out.2.2.2).alloc _)
 have mA : Hid (WantR u6 (w3.heap.size + 1) H4 [wf.heap.size, we.heap.size, wq.heap.size, wp.heap.size, wd.heap.size] G5.A G5.n G5.c zs5) := by rw [hu]; exact Lib.hid ((gA.out.step xbp).alloc _)
 have mD : Hid (WantR u6 (w3.heap.size + 1) H4 [wf.heap.size, we.heap.size, wq.heap.size, wp.heap.size, wd.heap.size] G5.D G5.m G5.k ws5) := by rw [hu]; exact Lib.hid ((gD.out.step xbp).alloc _)
 have q0 : u6.cell? ⟨wf.heap.size, 0, none⟩ = some (.bool r5) := by rw [hu]; simp [go_sem]
 have q1 : u6.cell? ⟨wf.heap.size, 1, none⟩ = some (.slice F5.A F5.n F5.c) := by rw [hu]; simp [go_sem]
 have q2 : u6.cell? ⟨wf.heap.size, 2, none⟩ = some (.slice F5.D F5.m F5.k) := by rw [hu]; simp [go_sem]
 have hq : Ext u5 u6 := by rw [hu]; exact jT xbp (jA (jR _) _)
 have lr := (hS.out.locs we.heap.size (by simp)).1.lt
 replace p0 := (Below.cell (p := ⟨we.heap.size, 0, none⟩) hq lr).trans p0
 replace p1 := (Below.cell (p := ⟨we.heap.size, 1, none⟩) hq lr).trans p1
 replace p2 := (Below.cell (p := ⟨we.heap.size, 2, none⟩) hq lr).trans p2
 have kA := hS1.out.adds r5 F5 G5 zs5 ws5 nA.out nD.out mA.out mD.out lz5 lw5 E5 (by omega) (by omega)
 rw [← hu]
 have lr2 := (hS1.out.locs wf.heap.size (by simp)).1.lt
 have lw2 := (hS1.out.locs we.heap.size (by simp)).1.lt
 clear hq lr hu xbp hF hS nA nD gA gD x0 xl
 go_upto_region 17 with (first
  | (go_at_call 12; (with_reducible refine kA.mono ?_); rintro e v5 ⟨rfl, H5, hS, hT1⟩)
  )
 clear kA q0 q1 q2 p0 p1 p2 lr2 lw2 hT1 hS1 mA mD
 obtain ⟨rs5, e1⟩ : ∃ z : List Rec, z = rs4 ++ [⟨r5, F5, G5, zs5, ws5⟩] := ⟨_, rfl⟩
 obtain ⟨ls5, e2⟩ : ∃ z : List Row, z = ls4 ++ [⟨F5.A, F5.n, zs5⟩, ⟨F5.D, F5.m, ws5⟩] := ⟨_, rfl⟩
 rw [← e1, ← e2] at hS
 replace nr : rs5.length = 5 := by rw [e1, List.length_append, nr]; rfl
 replace nl : ls5.length = 10 := by rw [e2, List.length_append, nl]; rfl
 clear e1 e2
 obtain ⟨a0, al⟩ := hKa.out v5 hS.out.ext
 obtain ⟨x0, xl⟩ := hKx.out v5 hS.out.ext
 have kK := rl_kept gx n cx xs A n c v5 (hLx.out v5 hS.out.ext) (hA.out v5 hS.out.ext)
 go_upto_region 18 with (first
  | (go_at_call 34; (with_reducible refine kK.mono ?_); rintro e v6 ⟨rfl, xbk⟩)
  )
 have hS1 := Lib.hid (hS.out.step xbk)
 clear kK hS xbk a0 al x0 xl
 have hS := hS1
 clear hS1
 obtain ⟨b0, bl⟩ := hKb.out v6 hS.out.ext
 obtain ⟨y0, yl⟩ := hKy.out v6 hS.out.ext
 have kK := rl_kept gy m cy ys D m k v6 (hLy.out v6 hS.out.ext) (hB.out v6 hS.out.ext)
 go_upto_region 19 with (first
  | (go_at_call 34; (with_reducible refine kK.mono ?_); rintro e v7 ⟨rfl, xbk⟩)
  )
 have hS1 := Lib.hid (hS.out.step xbk)
 clear kK hS xbk b0 bl y0 yl
 have hS := hS1
 clear hS1
 obtain ⟨x0, xl⟩ := hKx.out v7 hS.out.ext
 obtain ⟨y0, yl⟩ := hKy.out v7 hS.out.ext
 have hRx := Lib.hid (hLx.out v7 hS.out.ext)
 have hRy := Lib.hid (hLy.out v7 hS.out.ext)
 obtain ⟨⟨p1, p2⟩, ⟨p3, p4⟩, p5, ⟨p6, p7, p8, p9⟩, p10⟩ := hapt.out
 have hgl := own_lt hRx.out rfl
 have hhl := own_lt hRy.out rfl
 simp only at hgl hhl
 obtain ⟨cx1, cx2⟩ := HCX.out
 obtain ⟨cy1, cy2⟩ := HCY.out
 simp only [maxLen] at cx2 cy2
 go_wp2
 clear x0 xl y0 yl
 clear p10
 go_loopw [25] (fun v wr => ∃ j : Nat, j ≤ n ∧ v = .int .i64 (j : Int) ∧ Hid (Frm (fun k => k = gx) v7 wr) ∧ Hid (∃ vs : List Nat, wr.ownsRow 0 54 1 (.slice (some ⟨gx, 0, none⟩) (n + 20) cx) (n + 20) (vs.map u32V) ∧ vs.take j = List.replicate j 9)) (fun v _ => n - (intOf v).toNat)
 case atStart => exact ⟨0, Nat.zero_le _, by go_num, Frm.refl _ _, ⟨_, hRx.out, by simp⟩⟩
 case round =>
  obtain ⟨j, hj, rfl, hF, hV⟩ := hrel
  obtain ⟨x0, xl⟩ := hKx.out v7 hS.out.ext
  have x0 := (hF.out.cell (p := ⟨w2.heap.size, 0, none⟩) xl p6).trans x0
  have xl := Nat.lt_of_lt_of_le xl hF.out.size
  by_cases h0 : j < n
  ·have hlt : decide ((j : Int) < (n : Int)) = true := decide_eq_true (by omega)
   obtain ⟨vs, hW, ht⟩ := hV.out
   have hWl : vs.length = n + 20 := by have := hW.1; simpa using this
   have z0 := hW.cellAt j (by omega)
   have z0f := hW.frozenAt j
   rw [List.getElem?_map, List.getElem?_eq_getElem (by omega)] at z0
   simp only [Option.map_some] at z0
   have hlb := own_lt hW rfl
   have HW : Hid ((wr.setCell ⟨gx, j, none⟩ (u32V 9)).ownsRow 0 54 1 (.slice (some ⟨gx, 0, none⟩) (n + 20) cx) (n + 20) ((vs.set j 9).map u32V)) := by
    have := (hW.stored j (u32V 9)).1
    show World.ownsRow _ _ _ _ _ _ _
    rw [List.map_set]
    exact this
   have hms := Lib.hid (mark_step (by omega : j < vs.length) ht)
   clear hW ht hV
   go_wp2
   exact ⟨⟨j + 1, by omega, by go_num, hF.out.trans (Frm.set _ (.inl rfl)), ⟨_, HW.out, hms.out⟩⟩, by simp [intOf]; omega⟩
  ·obtain rfl : j = n := by omega
   have hlt : decide ((j : Int) < (j : Int)) = false := decide_eq_false (by omega)
   obtain ⟨z1, rfl⟩ : ∃ u, u = wr := ⟨wr, rfl⟩
   have hRy1 : Hid (z1.ownsRow 0 54 1 (.slice (some ⟨gy, 0, none⟩) (m + 20) cy) (m + 20) ((Mk ys).map u32V)) := Lib.hid (own_frm hRy.out hF.out (fun a ha e => by cases ha; exact p5 e.symm))
   have hB1 := Lib.hid (hS.out.bk.below hF.out (fun k e => by subst e; omega))
   have hE1 : Hid (Ext w z1) := Lib.hid (hF.out.ext (jT hEW.out hS.out.ext) (fun k e => by subst e; exact p1))
   go_wp2
   clear x0 xl
   go_loopw [26] (fun v wr => ∃ i : Nat, i ≤ m ∧ v = .int .i64 (i : Int) ∧ Hid (Frm (fun k => k = gy) z1 wr) ∧ Hid (∃ vs : List Nat, wr.ownsRow 0 54 1 (.slice (some ⟨gy, 0, none⟩) (m + 20) cy) (m + 20) (vs.map u32V) ∧ vs.take i = List.replicate i 11)) (fun v _ => m - (intOf v).toNat)
   case atStart => exact ⟨0, Nat.zero_le _, by go_num, Frm.refl _ _, ⟨_, hRy1.out, by simp⟩⟩
   case round =>
    obtain ⟨i, hi, rfl, hG, hU⟩ := hrel
    obtain ⟨y0, yl⟩ := hKy.out v7 hS.out.ext
    have y0 := (hF.out.cell (p := ⟨w3.heap.size, 0, none⟩) yl p8).trans y0
    have yl := Nat.lt_of_lt_of_le yl hF.out.size
    have y0 := (hG.out.cell (p := ⟨w3.heap.size, 0, none⟩) yl p9).trans y0
    have yl := Nat.lt_of_lt_of_le yl hG.out.size
    by_cases h0' : i < m
    ·have hlt2 : decide ((i : Int) < (m : Int)) = true := decide_eq_true (by omega)
     obtain ⟨vs, hW, ht⟩ := hU.out
     have hWl : vs.length = m + 20 := by have := hW.1; simpa using this
     have z0 := hW.cellAt i (by omega)
     have z0f := hW.frozenAt i
     rw [List.getElem?_map, List.getElem?_eq_getElem (by omega)] at z0
     simp only [Option.map_some] at z0
     have hlb := own_lt hW rfl
     have HW : Hid ((wr.setCell ⟨gy, i, none⟩ (u32V 11)).ownsRow 0 54 1 (.slice (some ⟨gy, 0, none⟩) (m + 20) cy) (m + 20) ((vs.set i 11).map u32V)) := by
      have := (hW.stored i (u32V 11)).1
      show World.ownsRow _ _ _ _ _ _ _
      rw [List.map_set]
      exact this
     have hms := Lib.hid (mark_step (by omega : i < vs.length) ht)
     clear hW ht hU
     go_wp2
     exact ⟨⟨i + 1, by omega, by go_num, hG.out.trans (Frm.set _ (.inl rfl)), ⟨_, HW.out, hms.out⟩⟩, by simp [intOf]; omega⟩
    ·obtain rfl : i = m := by omega
     have hlt2 : decide ((i : Int) < (i : Int)) = false := decide_eq_false (by omega)
     obtain ⟨z2, rfl⟩ : ∃ u, u = wr := ⟨wr, rfl⟩
     obtain ⟨x0, xl⟩ := hKx.out v7 hS.out.ext
     have x0 := (hF.out.cell (p := ⟨w2.heap.size, 0, none⟩) xl p6).trans x0
     have xl := Nat.lt_of_lt_of_le xl hF.out.size
     have x0 := (hG.out.cell (p := ⟨w2.heap.size, 0, none⟩) xl p7).trans x0
     have xl := Nat.lt_of_lt_of_le xl hG.out.size
     have lb9 : Lb (List.replicate j 9) := fun x hx => by obtain ⟨_, rfl⟩ := List.mem_replicate.1 hx; decide
     have lb11 : Lb (List.replicate i 11) := fun x hx => by obtain ⟨_, rfl⟩ := List.mem_replicate.1 hx; decide
     have hRx2 : Hid (Rd z2 (some ⟨gx, 0, none⟩) j cx (List.replicate j 9)) := by
      obtain ⟨vs, hW, ht⟩ := hV.out
      exact Lib.hid (row_rd (own_frm hW hG.out (fun a ha e => by cases ha; exact p5 e)) (Nat.le_add_right _ _) ht lb9)
     have hRy2 : Hid (Rd z2 (some ⟨gy, 0, none⟩) i cy (List.replicate i 11)) := by
      obtain ⟨vs, hW, ht⟩ := hU.out
      exact Lib.hid (row_rd hW (Nat.le_add_right _ _) ht lb11)
     have hE2 : Hid (Ext w z2) := Lib.hid (hG.out.ext hE1.out (fun k e => by subst e; exact p2))
     have hS6 : Hid (Sta w z2 (w3.heap.size + 1) H5 rs5 ls5 []) := Lib.hid ⟨hE2.out, hB1.out.below hG.out (fun k e => by subst e; omega), hlow, fun b hb => by cases hb⟩
     have HTz : Hid (Tz z2) := Lib.hid (HT0.out.ext hE2.out)
     have kX : ∀ w', Ext z2 w' → Calls Tryz.prog 29 #[natV (some ⟨gx, 0, none⟩) j cx] w' fun e w'' => ∃ (g cap : Nat), e = .returned (natV (some ⟨g, 0, none⟩) j cap) ∧ Hid (LRow w'' g j cap (List.replicate j 9) ∧ w'.heap.size ≤ g) ∧ Ext w' w'' := fun w' he => rl_lend _ j cx _ (by omega) w' (hRx2.out.ext he)
     have kY : ∀ w', Ext z2 w' → Calls Tryz.prog 29 #[natV (some ⟨gy, 0, none⟩) i cy] w' fun e w'' => ∃ (g cap : Nat), e = .returned (natV (some ⟨g, 0, none⟩) i cap) ∧ Hid (LRow w'' g i cap (List.replicate i 11) ∧ w'.heap.size ≤ g) ∧ Ext w' w'' := fun w' he => rl_lend _ i cy _ (by omega) w' (hRy2.out.ext he)
     have LB9 := Lib.hid lb9
     have LB11 := Lib.hid lb11
     clear hF hG hU hV hRx hRy hRy1 hB1 hE1 hS hE2 lb9 lb11
     go_upto_region 27 with fail
     go_cut [27, 28] (fun p q wx => ∃ (g6 : Nat) (G6 : FH), p = .pointer (some ⟨g6, 0, none⟩) ∧ q = .int .i64 E6 ∧ Hid (Ext z2 wx) ∧ Hid (wx.cell? ⟨g6, 0, none⟩ = some (.bool r6) ∧ wx.cell? ⟨g6, 1, none⟩ = some (.slice G6.A G6.n G6.c) ∧ wx.cell? ⟨g6, 2, none⟩ = some (.slice G6.D G6.m G6.k) ∧ g6 < wx.heap.size) ∧ Hid (Rd wx G6.A G6.n G6.c zs6 ∧ Rd wx G6.D G6.m G6.k ws6 ∧ Fr z2 G6.A ∧ Fr z2 G6.D))
     case first =>
      refine wp_drawn_tailF 10 [8] _ (tab [(2, RLr j (List.replicate j 9)), (4, RLr i (List.replicate i 11)), (5, RDm z2.heap.size r6 zs6 ws6 E6), (9, RAlloc z2.heap.size (.cells #[.bool false, .slice none 0 0, .slice none 0 0] 32))]) (by kernel_rfl) (by kernel_rfl) rfl (by kernel_rfl)
       (tab_stays (by simp [stays_alloc, stays_lr, stays_dm])) (fun hq hqf => ?_)
      simp only [List.take_succ_cons, List.take_zero, List.drop_succ_cons, List.drop_zero]
      have zx := fun nq => (hq nq w2.heap.size 0 xl).trans x0
      have zy := fun nq => (hq nq w3.heap.size 0 yl).trans y0
      refine wpK_det rfl (fun K hK => ?_)
      go_simp
      refine hK _ ?_; clear hK K
      refine wpK_det rfl (fun K hK => ?_)
      go_simp
      first
       | (refine hK _ ?_; clear hK K)
       | (apply Exists.intro; refine ⟨fun x => ?_, hK _ ?_⟩; (first | exact zx x | (simp [zx]; rfl)); clear hK K)
      refine wpK_rel _ rfl rfl ?_ ?_
      ·rintro _ ⟨nn, rfl⟩ _
       unfold Oper.relAt
       go_simp
       exact rel_lr (kX _ nn.use)
      rintro v ⟨_, ⟨nn, rfl⟩, hr⟩
      obtain ⟨g11, c11, rfl, -⟩ := hr
      clear nn
      refine wpK_det rfl (fun K hK => ?_)
      go_simp
      first
       | (refine hK _ ?_; clear hK K)
       | (apply Exists.intro; refine ⟨fun x => ?_, hK _ ?_⟩; (first | exact zy x | (simp [zy]; rfl)); clear hK K)
      refine wpK_rel _ rfl rfl ?_ ?_
      ·rintro _ ⟨nn, rfl⟩ _
       unfold Oper.relAt
       go_simp
       exact rel_lr (kY _ nn.use)
      rintro v ⟨_, ⟨nn, rfl⟩, hr⟩
      obtain ⟨g12, c12, rfl, -⟩ := hr
      clear nn
      refine wpK_rel _ rfl rfl ?_ ?_
      ·rintro _ ⟨nn, rfl⟩ hdep
       have q1 := hdep 2 (by kernel_rfl)
       have q2 := hdep 4 (by kernel_rfl)
       simp only [Facts.put] at q1 q2
       have q3 := lr_at (vals := []) q1
       have q4 := lr_at (vals := []) q2
       unfold Oper.relAt
       go_simp
       exact rel_dm (ext_size nn.use) (kD6 _ _ _ _ _ _ _ (HTz.out.ext nn.use) (LRow.rd q3 LB9.out) (LRow.rd q4 LB11.out))
      rintro v ⟨_, ⟨nn, rfl⟩, hr⟩
      obtain ⟨G6, rfl, -⟩ := hr
      clear nn
      iterate 3
       (refine wpK_det rfl (fun K hK => ?_)
        go_simp
        refine hK _ ?_; clear hK K)
      refine wpK_rel _ rfl rfl ?_ ?_
      ·rintro _ ⟨n, rfl⟩ _
       unfold Oper.relAt
       go_simp
       exact rAlloc_new (vals := []) (by have := ext_size n.use; simpa using this)
      rintro v ⟨_, ⟨n, rfl⟩, hr⟩
      obtain ⟨B9, rfl, leB9⟩ := rAlloc_open (vals := []) hr
      clear hr n
      simp only [Act.put, List.setIfInBounds_toArray, List.set_cons_zero, List.set_cons_succ]
      refine wpK_nil ?_
      intro nq hG
      have h1' : nq.out.heap[B9]? = some (.cells #[.bool false, .slice none 0 0, .slice none 0 0] 32 (0, 0)) := by have := hG.fact 9; simp [Facts.put, RAlloc] at this; exact this.2
      have r1' : ∃ vals, RDm z2.heap.size r6 zs6 ws6 E6 vals (.tuple #[fV r6 G6, .int .i64 E6]) nq.out := by have := hG.fact 5; simp [Facts.put] at this; exact ⟨_, this⟩
      obtain ⟨_, r1'⟩ := r1'
      obtain ⟨⟨d1, d2⟩, d3, d4⟩ := dm_at r1'
      have hs1 := Lib.hid (d1.off9 h1' (.bool r6) (.slice G6.A G6.n G6.c) (.slice G6.D G6.m G6.k))
      have hs2 := Lib.hid (d2.off9 h1' (.bool r6) (.slice G6.A G6.n G6.c) (.slice G6.D G6.m G6.k))
      clear r1' h1' d1 d2
      have fB9 := hG.fact 9
      have ltB9 := hG.there 9 B9 (by simp [Facts.put, blk])
      simp [Facts.put, RAlloc] at fB9
      have ceB9 := fun i => cell_of_block fB9.2 i
      have frB9 := fun i => frozen_of_block fB9.2 i
      have neB9 : ∀ b, b < _ → (b = B9) = False := fun b hb => eq_false (Nat.ne_of_lt (Nat.lt_of_lt_of_le hb fB9.1))
      clear fB9
      have hE := nq.use
      clear hG
      refine ⟨undef, (((nq.out.setCell ⟨B9, 0, none⟩ (.bool r6)).setCell ⟨B9, 1, none⟩ (.slice G6.A G6.n G6.c)).setCell ⟨B9, 2, none⟩ (.slice G6.D G6.m G6.k)), .inr ⟨?_, rfl⟩, ?_⟩
      ·go_simp
      go_wp2
      go_meet
      case rel =>
       refine ⟨B9, G6, rfl, rfl, ?_, ⟨?_, ?_, ?_, ?_⟩, ⟨hs1.out, hs2.out, d3, d4⟩⟩
       ·show Ext _ _
        have hb : z2.heap.size ≤ B9 := by omega
        exact jS (jS (jS hE hb _) hb _) hb _
       all_goals
        go_simp
        try simp [go_sem, *]
     case rest =>
      obtain ⟨g6, G6, rfl, rfl, hE6, hC6, hG6⟩ := hcut
      obtain ⟨u7, rfl⟩ : ∃ u, u = wc := ⟨wc, rfl⟩
      obtain ⟨p0, p1', p2', pl⟩ := hC6.out
      have x0 := (Below.cell (p := ⟨w2.heap.size, 0, none⟩) hE6.out xl).trans x0
      have xl := Nat.lt_of_lt_of_le xl hE6.out.size
      have y0 := (Below.cell (p := ⟨w3.heap.size, 0, none⟩) hE6.out yl).trans y0
      have yl := Nat.lt_of_lt_of_le yl hE6.out.size
      have hS7 := Lib.hid (hS6.out.step hE6.out)
      have kM := kP6 (some ⟨gx, 0, none⟩) j cx (some ⟨gy, 0, none⟩) i cy u7 (HTz.out.ext hE6.out) (hRx2.out.ext hE6.out) (hRy2.out.ext hE6.out)
      go_upto_region 29 with (first
       | (go_at_call 31; (with_reducible refine kM.mono ?_); rintro e w14 ⟨F6, rfl, hF, xbp⟩)
       )
      obtain ⟨u8, hu⟩ : ∃ z, z = (w14.alloc (Obj.cells #[.bool r6, .slice F6.A F6.n F6.c, .slice F6.D F6.m F6.k] 32)) := ⟨_, rfl⟩
      have hS8 : Hid (Sta w u8 (w3.heap.size + 1) H5 rs5 ls5 [w14.heap.size]) := by rw [hu]; exact Lib.hid ((hS7.out.step xbp).alloc _ _ _ _)
      have nA : Hid (NewR u8 (w3.heap.size + 1) H5 ls5 [w14.heap.size] F6.A F6.n F6.c zs6 none) := by rw [hu]; exact Lib.hid ((NewR.of hS7.out hF.out.1 hF.out.2.1).alloc _)
      have nD : Hid (NewR u8 (w3.heap.size + 1) H5 ls5 [w14.heap.size] F6.D F6.m F6.k ws6 F6.A) := by rw [hu]; exact Lib.hid ((NewR.of hS7.out hF.out.2.2.1 hF.out.2.2.2).alloc _)
      have mA : Hid (WantR u8 (w3.heap.size + 1) H5 [w14.heap.size] G6.A G6.n G6.c zs6) := by rw [hu]; exact Lib.hid (((WantR.of hS6.out hG6.out.1 hG6.out.2.2.1).step xbp).alloc _)
      have mD : Hid (WantR u8 (w3.heap.size + 1) H5 [w14.heap.size] G6.D G6.m G6.k ws6) := by rw [hu]; exact Lib.hid (((WantR.of hS6.out hG6.out.2.1 hG6.out.2.2.2).step xbp).alloc _)
      have q0 : u8.cell? ⟨w14.heap.size, 0, none⟩ = some (.bool r6) := by rw [hu]; simp [go_sem]
      have q1 : u8.cell? ⟨w14.heap.size, 1, none⟩ = some (.slice F6.A F6.n F6.c) := by rw [hu]; simp [go_sem]
      have q2 : u8.cell? ⟨w14.heap.size, 2, none⟩ = some (.slice F6.D F6.m F6.k) := by rw [hu]; simp [go_sem]
      have hq : Ext u7 u8 := by rw [hu]; exact jT xbp (jA (jR _) _)
      have p0 := (Below.cell (p := ⟨g6, 0, none⟩) hq pl).trans p0
      have p1' := (Below.cell (p := ⟨g6, 1, none⟩) hq pl).trans p1'
      have p2' := (Below.cell (p := ⟨g6, 2, none⟩) hq pl).trans p2'
      have lw2 := Nat.lt_of_lt_of_le pl (ext_size hq)
      have kA := hS8.out.adds r6 F6 G6 zs6 ws6 nA.out nD.out mA.out mD.out lz6 lw6 E6 (by omega) (by omega)
      rw [← hu]
      have lr2 := (hS8.out.locs w14.heap.size (by simp)).1.lt
      clear hq hu xbp hF hS6 hS7 hS8 nA nD mA mD x0 xl y0 yl hE6 hC6 hG6 kM pl
      go_upto_region 30 with (first
       | (go_at_call 12; (with_reducible refine kA.mono ?_); rintro e v8 ⟨rfl, H6, hS9, _⟩)
       )
      have kZ := stands_step hS9.out.bk (by rw [List.length_append, nr]; show 5 + 1 ≤ 1000; omega) (by rw [List.length_append, nl]; show 10 + 2 ≤ 1000; omega)
      have hE9 := Lib.hid hS9.out.ext
      clear kA q0 q1 q2 p0 p1' p2' lr2 lw2 hS9
      go_wp2_with (first
       | (go_at_call 13; (with_reducible refine kZ.mono ?_); rintro e z5 ⟨rfl, h5'⟩)
       )
      refine bodyPost_ret (v := .bool true) ?h rfl ⟨rfl, h5'.out w hE9.out hlow⟩
      case h => simp [results, Tryz.results5, go_sem]

theorem walk_RatioMakes (x0 : Bool) (x1A : Option Addr) (x1l x1c : Nat) (x1 : List Nat) (x2A : Option Addr) (x2l x2c : Nat) (x2 : List Nat) (x3 : Int) (w : World) (hx1 : Rd w x1A x1l x1c x1) (hx2 : Rd w x2A x2l x2c x2) (hx3 : -9223372036854775808 ≤ x3 ∧ x3 ≤ 9223372036854775807) (hL : laidMetH Tryz.prog Rows.ratioMakesRow.laid w) :
  Calls Tryz.prog 5 #[.bool x0, .agg #[.slice x1A x1l x1c], .agg #[.slice x2A x2l x2c], .int .i64 x3] w fun e w' => e = .returned (.bool true) ∧ Ext w w' := by
 have hT : Tz w := tz_row w hL (fun w => MakeChecks.laidMetH_plain _ _ _ (by kernel_rfl)) (rest := [("unicode/utf8.acceptRanges", Rows.laid_unicode_utf8_acceptRanges), ("unicode/utf8.first", Rows.laid_unicode_utf8_first)]) (by kernel_rfl)
 clear hL
 have kL : ∀ w', Ext w w' → Calls Tryz.prog 9 #[] w' fun e w'' => e = .returned (.bool true) ∧ Ext w' w'' := fun w' he => alive2_any w' (hT.ext he)
 by_cases h : x1l ≤ 40 ∧ x2l ≤ 40
 ·obtain ⟨l1, l2⟩ := h
  have m1 : x1.length ≤ 40 := by rw [hx1.len]; exact l1
  have m2 : x2.length ≤ 40 := by rw [hx2.len]; exact l2
  obtain ⟨r1, zs1, ws1, E1, z1, y1, kP1, kD1⟩ := bo_Make x0 hx1.lb hx2.lb m1 m2
  obtain ⟨r5, zs5, ws5, E5, z5, y5, kP5, kD5⟩ := bo_Make x0 hx1.lb hx1.lb m1 m1
  obtain ⟨r6, zs6, ws6, E6, z6, y6, kP6, kD6⟩ := bo_Make x0 (xs := List.replicate x1l 9) (ys := List.replicate x2l 11) (fun x hx => by obtain ⟨_, rfl⟩ := List.mem_replicate.1 hx; decide) (fun x hx => by obtain ⟨_, rfl⟩ := List.mem_replicate.1 hx; decide) (by simpa using l1) (by simpa using l2)
  exact makes_core x0 x1A x1l x1c x2A x2l x2c x3 x1 x2 w hT hx1 hx2 l1 l2 hx3.1 hx3.2 r1 zs1 ws1 E1 z1 y1 kP1 kD1 r5 zs5 ws5 E5 z5 y5 kP5 kD5 r6 zs6 ws6 E6 z6 y6 kP6 kD6 kL
 ·exact makes_skip x0 x1A x1l x1c x2A x2l x2c x3 w h kL
end Go.Proofs.YtchbefambnhjjaaGreatDoor
end
