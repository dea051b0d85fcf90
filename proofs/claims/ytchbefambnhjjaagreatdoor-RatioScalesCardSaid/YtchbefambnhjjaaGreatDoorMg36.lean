/- Lemmas of this proof, laid together: RatioScalesW. -/
import Derived.Test.YtchbefambnhjjaaGreatDoorMg32
import Derived.Test.YtchbefambnhjjaaGreatDoorMg33
import Derived.Test.YtchbefambnhjjaaGreatDoorMg35
import Derived.Test.YtchbefambnhjjaaGreatDoorMg28
import Derived.Deep.DeepCutAuto
import Derived.Deep.RegionWith
set_option linter.unusedSimpArgs false
set_option linter.unusedVariables false
section
/- RatioScales: the walk. -/
namespace Go.Proofs.YtchbefambnhjjaaGreatDoor
open Go.RowKit
attribute [local go_sem] sz2 sz3 sz4 sz5 sz6 sz7 sz8
set_option maxHeartbeats 16000000
set_option maxRecDepth 100000
attribute [local irreducible] Calls
abbrev Light (b : Nat) (e : Int) : Prop := b < 2 ∨ (-300 ≤ e ∧ e ≤ 300) ∨ e > 4194304 ∨ e < -4194304
theorem rl_light (b : Nat) (hbl : b < 4294967296) (e : Int) (w : World) : Calls Tryz.prog 45 #[.int .u32 (b : Int), .int .i64 e] w fun x w' => x = .returned (.bool (decide (Light b e))) ∧ Ext w w' := by
 have hc : (decide ((b : Int) < 2) = true ∧ True ∧ True ∧ True ∧ True ∧ decide (Light b e) = true) ∨ (decide ((b : Int) < 2) = false ∧ decide (-300 ≤ e) = true ∧ decide (e ≤ 300) = true ∧ True ∧ True ∧ decide (Light b e) = true) ∨
   (decide ((b : Int) < 2) = false ∧ decide (-300 ≤ e) = true ∧ decide (e ≤ 300) = false ∧ decide (4194304 < e) = true ∧ True ∧ decide (Light b e) = true) ∨ (decide ((b : Int) < 2) = false ∧ decide (-300 ≤ e) = true ∧ decide (e ≤ 300) = false ∧ decide (4194304 < e) = false ∧ decide (e < -4194304) = false ∧ decide (Light b e) = false) ∨
   (decide ((b : Int) < 2) = false ∧ decide (-300 ≤ e) = false ∧ True ∧ decide (4194304 < e) = false ∧ decide (e < -4194304) = true ∧ decide (Light b e) = true) ∨ (decide ((b : Int) < 2) = false ∧ decide (-300 ≤ e) = false ∧ True ∧ decide (4194304 < e) = false ∧ decide (e < -4194304) = false ∧ decide (Light b e) = false) := by
  by_cases h1 : b < 2
  ·exact .inl ⟨decide_eq_true (by omega), trivial, trivial, trivial, trivial, decide_eq_true (.inl h1)⟩
  have d1 : decide ((b : Int) < 2) = false := decide_eq_false (by omega)
  by_cases h2 : -300 ≤ e
  ·have d2 := decide_eq_true h2
   by_cases h3 : e ≤ 300
   ·exact .inr (.inl ⟨d1, d2, decide_eq_true h3, trivial, trivial, decide_eq_true (.inr (.inl ⟨h2, h3⟩))⟩)
   ·have d3 := decide_eq_false h3
    by_cases h4 : 4194304 < e
    ·exact .inr (.inr (.inl ⟨d1, d2, d3, decide_eq_true h4, trivial, decide_eq_true (.inr (.inr (.inl h4)))⟩))
    ·exact .inr (.inr (.inr (.inl ⟨d1, d2, d3, decide_eq_false h4, decide_eq_false (by omega), decide_eq_false (by unfold Light; omega)⟩)))
  ·have d2 := decide_eq_false h2
   have d4 : decide (4194304 < e) = false := decide_eq_false (by omega)
   by_cases h5 : e < -4194304
   ·exact .inr (.inr (.inr (.inr (.inl ⟨d1, d2, trivial, d4, decide_eq_true h5, decide_eq_true (.inr (.inr (.inr h5)))⟩))))
   ·exact .inr (.inr (.inr (.inr (.inr ⟨d1, d2, trivial, d4, decide_eq_false h5, decide_eq_false (by unfold Light; omega)⟩))))
 rcases hc with ⟨h1, h2, h3, h4, h5, h6⟩ | ⟨h1, h2, h3, h4, h5, h6⟩ | ⟨h1, h2, h3, h4, h5, h6⟩ | ⟨h1, h2, h3, h4, h5, h6⟩ | ⟨h1, h2, h3, h4, h5, h6⟩ | ⟨h1, h2, h3, h4, h5, h6⟩
 all_goals
  rw [h6]
  clear h6
  go_enter Tryz.func45, Tryz.ntmps45
  go_wp2
  go_ret
  exact ⟨rfl, jR _⟩
theorem scales_skip (sa : Bool) (F0 : FH) (b : Nat) (e : Int) (w : World) (p q : Bool) (hpq : p = false ∨ q = false)
  (kL : ∀ w', Ext w w' → Calls Tryz.prog 9 #[] w' fun e w'' => e = .returned (.bool true) ∧ Ext w' w'')
  (k1 : ∀ w', Calls Tryz.prog 14 #[fV sa F0] w' fun e w'' => e = .returned (.bool p) ∧ Ext w' w'')
  (k2 : ∀ w', Calls Tryz.prog 45 #[.int .u32 (b : Int), .int .i64 e] w' fun e w'' => e = .returned (.bool q) ∧ Ext w' w'') :
  Calls Tryz.prog 7 #[fV sa F0, .int .u32 (b : Int), .int .i64 e] w fun e w' => e = .returned (.bool true) ∧ Ext w w' := by
 cases p <;> cases q
 ·skip
  go_enter Tryz.func7, Tryz.ntmps7
  go_wp2_with (first
   | (go_at_call 9; (with_reducible refine (kL _ xcl).mono ?_); rintro e w1 ⟨rfl, xb1⟩; obtain ⟨xc1, xf1, xl1, xz1⟩ := jU xb1; (try simp at xz1); obtain ⟨l1_0, r1_0, f1_0, r1_0_1, f1_0_1, r1_0_2, f1_0_2⟩ := kq3 xb1 (w.heap.size))
   | (go_at_call 14; (with_reducible refine (k1 _).mono ?_); rintro e w2 ⟨rfl, xb2⟩; obtain ⟨xc2, xf2, xl2, xz2⟩ := jU xb2; (try simp at xz2); obtain ⟨l2_0, r2_0, f2_0, r2_0_1, f2_0_1, r2_0_2, f2_0_2⟩ := kq3 xb2 (w.heap.size))
   | (go_at_call 45; (with_reducible refine (k2 _).mono ?_); rintro e w3 ⟨rfl, xb3⟩; obtain ⟨xc3, xf3, xl3, xz3⟩ := jU xb3; (try simp at xz3); obtain ⟨l3_0, r3_0, f3_0, r3_0_1, f3_0_1, r3_0_2, f3_0_2⟩ := kq3 xb3 (w.heap.size))
   )
  refine bodyPost_ret (v := .bool true) ?h rfl ⟨rfl, ?_⟩
  case h => simp [results, Tryz.results7, go_sem]
  exact xcl
 ·skip
  go_enter Tryz.func7, Tryz.ntmps7
  go_wp2_with (first
   | (go_at_call 9; (with_reducible refine (kL _ xcl).mono ?_); rintro e w1 ⟨rfl, xb1⟩; obtain ⟨xc1, xf1, xl1, xz1⟩ := jU xb1; (try simp at xz1); obtain ⟨l1_0, r1_0, f1_0, r1_0_1, f1_0_1, r1_0_2, f1_0_2⟩ := kq3 xb1 (w.heap.size))
   | (go_at_call 14; (with_reducible refine (k1 _).mono ?_); rintro e w2 ⟨rfl, xb2⟩; obtain ⟨xc2, xf2, xl2, xz2⟩ := jU xb2; (try simp at xz2); obtain ⟨l2_0, r2_0, f2_0, r2_0_1, f2_0_1, r2_0_2, f2_0_2⟩ := kq3 xb2 (w.heap.size))
   | (go_at_call 45; (with_reducible refine (k2 _).mono ?_); rintro e w3 ⟨rfl, xb3⟩; obtain ⟨xc3, xf3, xl3, xz3⟩ := jU xb3; (try simp at xz3); obtain ⟨l3_0, r3_0, f3_0, r3_0_1, f3_0_1, r3_0_2, f3_0_2⟩ := kq3 xb3 (w.heap.size))
   )
  refine bodyPost_ret (v := .bool true) ?h rfl ⟨rfl, ?_⟩
  case h => simp [results, Tryz.results7, go_sem]
  exact xcl
 ·skip
  go_enter Tryz.func7, Tryz.ntmps7
  go_wp2_with (first
   | (go_at_call 9; (with_reducible refine (kL _ xcl).mono ?_); rintro e w1 ⟨rfl, xb1⟩; obtain ⟨xc1, xf1, xl1, xz1⟩ := jU xb1; (try simp at xz1); obtain ⟨l1_0, r1_0, f1_0, r1_0_1, f1_0_1, r1_0_2, f1_0_2⟩ := kq3 xb1 (w.heap.size))
   | (go_at_call 14; (with_reducible refine (k1 _).mono ?_); rintro e w2 ⟨rfl, xb2⟩; obtain ⟨xc2, xf2, xl2, xz2⟩ := jU xb2; (try simp at xz2); obtain ⟨l2_0, r2_0, f2_0, r2_0_1, f2_0_1, r2_0_2, f2_0_2⟩ := kq3 xb2 (w.heap.size))
   | (go_at_call 45; (with_reducible refine (k2 _).mono ?_); rintro e w3 ⟨rfl, xb3⟩; obtain ⟨xc3, xf3, xl3, xz3⟩ := jU xb3; (try simp at xz3); obtain ⟨l3_0, r3_0, f3_0, r3_0_1, f3_0_1, r3_0_2, f3_0_2⟩ := kq3 xb3 (w.heap.size))
   )
  refine bodyPost_ret (v := .bool true) ?h rfl ⟨rfl, ?_⟩
  case h => simp [results, Tryz.results7, go_sem]
  exact xcl
 ·rcases hpq with h | h <;> cases h
theorem scales_core (sa : Bool) (F0 : FH) (b : Nat) (ex : Int) (xs ys : List Nat) (hbx : Lb xs) (hby : Lb ys) (w : World) (hT : Tz w) (hF : FrIn w F0 xs ys)
  (r : Bool) (zs ws : List Nat) (E : Int) (lz : zs.length ≤ 1000000) (lw : ws.length ≤ 1000000)
  (kP : ∀ F w, Tz w → FrIn w F xs ys → Calls Tryz.prog 46 #[fV sa F, .int .u32 (b : Int), .int .i64 ex] w (OfPst w r zs ws E)) (kD : ∀ F w, Tz w → FrIn w F xs ys → Calls Tryz.prog 47 #[fV sa F, .int .u32 (b : Int), .int .i64 ex] w (NB.DfPst w r zs ws E))
  (kL : ∀ w', Ext w w' → Calls Tryz.prog 9 #[] w' fun e w'' => e = .returned (.bool true) ∧ Ext w' w'')
  (k1 : ∀ w', Calls Tryz.prog 14 #[fV sa F0] w' fun e w'' => e = .returned (.bool true) ∧ Ext w' w'')
  (k2 : ∀ w', Calls Tryz.prog 45 #[.int .u32 (b : Int), .int .i64 ex] w' fun e w'' => e = .returned (.bool true) ∧ Ext w' w'')
  (k3 : ∀ w', Ext w w' → Calls Tryz.prog 15 #[fV sa F0] w' fun e w'' => ∃ (g cg h ch : Nat), e = .returned (ratV sa (some ⟨g, 0, none⟩) F0.n cg (some ⟨h, 0, none⟩) F0.m ch) ∧ Hid (LRat w'' g F0.n cg h F0.m ch xs ys ∧ w'.heap.size ≤ g ∧ w'.heap.size ≤ h) ∧ Ext w' w'') :
  Calls Tryz.prog 7 #[fV sa F0, .int .u32 (b : Int), .int .i64 ex] w fun e w' => e = .returned (.bool true) ∧ Ext w w' := by
 go_enter Tryz.func7, Tryz.ntmps7
 go_upto_region 6 with (first
  | (go_at_call 9; (with_reducible refine (kL _ xcl).mono ?_); rintro e w1 ⟨rfl, xb1⟩; obtain ⟨xc1, xf1, xl1, xz1⟩ := jU xb1; (try simp at xz1); obtain ⟨l1_0, r1_0, f1_0, r1_0_1, f1_0_1, r1_0_2, f1_0_2⟩ := kq3 xb1 (w.heap.size))
  | (go_at_call 14; (with_reducible refine (k1 _).mono ?_); rintro e w2 ⟨rfl, xb2⟩; obtain ⟨xc2, xf2, xl2, xz2⟩ := jU xb2; (try simp at xz2); obtain ⟨l2_0, r2_0, f2_0, r2_0_1, f2_0_1, r2_0_2, f2_0_2⟩ := kq3 xb2 (w.heap.size))
  | (go_at_call 45; (with_reducible refine (k2 _).mono ?_); rintro e w3 ⟨rfl, xb3⟩; obtain ⟨xc3, xf3, xl3, xz3⟩ := jU xb3; (try simp at xz3); obtain ⟨l3_0, r3_0, f3_0, r3_0_1, f3_0_1, r3_0_2, f3_0_2⟩ := kq3 xb3 (w.heap.size))
  )
 have hE3 : Hid (Ext w w3) := by show Ext w w3; exact xcl
 go_upto_region 7 with (first
  | (go_at_call 15; (with_reducible refine (k3 _ hE3.out).mono ?_); rintro e w4 ⟨g4, c4, h4, d4, rfl, hL4, xb4⟩; obtain ⟨xc4, xf4, xl4, xz4⟩ := jU xb4; (try simp at xz4); obtain ⟨l4_0, r4_0, f4_0, r4_0_1, f4_0_1, r4_0_2, f4_0_2⟩ := kq3 xb4 (w.heap.size))
  )
 obtain ⟨W, hW⟩ : ∃ z, z = w4.alloc (Obj.cells #[.bool sa, .slice (some ⟨g4, 0, none⟩) F0.n c4, .slice (some ⟨h4, 0, none⟩) F0.m d4] 32) := ⟨_, rfl⟩
 have a0 : W.cell? ⟨w.heap.size, 0, none⟩ = some (.bool sa) := by rw [hW]; simp [go_sem, *]
 have a1 : W.cell? ⟨w.heap.size, 1, none⟩ = some (.slice F0.A F0.n F0.c) := by rw [hW]; simp [go_sem, *]
 have a2 : W.cell? ⟨w.heap.size, 2, none⟩ = some (.slice F0.D F0.m F0.k) := by rw [hW]; simp [go_sem, *]
 have x0 : W.cell? ⟨w4.heap.size, 0, none⟩ = some (.bool sa) := by rw [hW]; simp [go_sem, *]
 have x1 : W.cell? ⟨w4.heap.size, 1, none⟩ = some (.slice (some ⟨g4, 0, none⟩) F0.n c4) := by rw [hW]; simp [go_sem, *]
 have x2 : W.cell? ⟨w4.heap.size, 2, none⟩ = some (.slice (some ⟨h4, 0, none⟩) F0.m d4) := by rw [hW]; simp [go_sem, *]
 have s3 := hE3.out.size
 have s4 : w3.heap.size ≤ w4.heap.size := ext_size xb4
 have hWz : W.heap.size = w4.heap.size + 1 := by rw [hW]; simp
 have hW4 : Ext w4 W := by rw [hW]; exact jA (jR _) _
 have hEW : Hid (Ext w W) := Lib.hid (jT hE3.out (jT xb4 hW4))
 have w2lt : w.heap.size < w3.heap.size := by assumption
 have qx1 := own_lt hL4.out.1.num rfl
 have qx2 := own_lt hL4.out.1.den rfl
 have zx1 := hL4.out.2.1
 have zx2 := hL4.out.2.2
 simp only at qx1 qx2
 have hLx : Hid (∀ u, Ext W u → LRat u g4 F0.n c4 h4 F0.m d4 xs ys) := Lib.hid (fun u he => hL4.out.1.ext (jT hW4 he))
 obtain ⟨X, hXe⟩ : ∃ X : FH, X = ⟨some ⟨g4, 0, none⟩, F0.n, c4, some ⟨h4, 0, none⟩, F0.m, d4⟩ := ⟨_, rfl⟩
 have hX : Hid (∀ u, Ext W u → FrIn u X xs ys) := Lib.hid (fun u he => by rw [hXe]; exact ⟨((hLx.out u he).num).rd hbx, ((hLx.out u he).den).rd hby⟩)
 have hA : Hid (∀ u, Ext W u → FrIn u F0 xs ys) := Lib.hid (fun u he => hF.ext (jT hEW.out he))
 have HT : Hid (∀ u, Ext W u → Tz u) := Lib.hid (fun u he => hT.ext (jT hEW.out he))
 have hKa : Hid (∀ u, Ext W u → u.cell? ⟨w.heap.size, 0, none⟩ = some (.bool sa) ∧ u.cell? ⟨w.heap.size, 1, none⟩ = some (.slice F0.A F0.n F0.c) ∧ u.cell? ⟨w.heap.size, 2, none⟩ = some (.slice F0.D F0.m F0.k) ∧ w.heap.size < u.heap.size) := Lib.hid (fun u he => ⟨(Below.cell (p := ⟨w.heap.size, 0, none⟩) he (by simp only; omega)).trans a0, (Below.cell (p := ⟨w.heap.size, 1, none⟩) he (by simp only; omega)).trans a1, (Below.cell (p := ⟨w.heap.size, 2, none⟩) he (by simp only; omega)).trans a2, by have := he.size; omega⟩)
 have hKx : Hid (∀ u, Ext W u → u.cell? ⟨w4.heap.size, 0, none⟩ = some (.bool sa) ∧ u.cell? ⟨w4.heap.size, 1, none⟩ = some (.slice X.A X.n X.c) ∧ u.cell? ⟨w4.heap.size, 2, none⟩ = some (.slice X.D X.m X.k) ∧ w4.heap.size < u.heap.size) := Lib.hid (fun u he => by rw [hXe]; exact ⟨(Below.cell (p := ⟨w4.heap.size, 0, none⟩) he (by simp only; omega)).trans x0, (Below.cell (p := ⟨w4.heap.size, 1, none⟩) he (by simp only; omega)).trans x1, (Below.cell (p := ⟨w4.heap.size, 2, none⟩) he (by simp only; omega)).trans x2, by have := he.size; omega⟩)
 have hapt : Hid ((w.heap.size ≤ g4 ∧ w.heap.size ≤ h4) ∧ g4 < W.heap.size ∧ h4 < W.heap.size) := Lib.hid (by omega)
 rw [← hW]
 have HXe := Lib.hid hXe
 have hlow : w.heap.size ≤ w4.heap.size + 1 := by omega
 clear hW hXe a0 a1 a2 x0 x1 x2 hL4 hE3 hW4 xb1 xb2 xb3 xb4 hF hT qx1 qx2 zx1 zx2 s3 s4 w2lt k1 k2 k3 kL
 try clear xc1
 try clear xf1
 try clear xl1
 try clear xz1
 try clear l1_0
 try clear r1_0
 try clear r1_0_1
 try clear r1_0_2
 try clear f1_0
 try clear f1_0_1
 try clear f1_0_2
 try clear xc2
 try clear xf2
 try clear xl2
 try clear xz2
 try clear l2_0
 try clear r2_0
 try clear r2_0_1
 try clear r2_0_2
 try clear f2_0
 try clear f2_0_1
 try clear f2_0_2
 try clear xc3
 try clear xf3
 try clear xl3
 try clear xz3
 try clear l3_0
 try clear r3_0
 try clear r3_0_1
 try clear r3_0_2
 try clear f3_0
 try clear f3_0_1
 try clear f3_0_2
 try clear xc4
 try clear xf4
 try clear xl4
 try clear xz4
 try clear l4_0
 try clear r4_0
 try clear r4_0_1
 try clear r4_0_2
 try clear f4_0
 try clear f4_0_1
 try clear f4_0_2
 have hS0 : Hid (Sta W (W.alloc (Obj.cells #[.slice none 0 0, .slice none 0 0, .slice none 0 0, .bool false] 27)) (w4.heap.size + 1) ⟨none, none, none, 0, 0, 0⟩ [] [] []) := by
  have h0 : Sta W (W.alloc (Obj.cells #[.slice none 0 0, .slice none 0 0, .slice none 0 0, .bool false] 27)) W.heap.size ⟨none, none, none, 0, 0, 0⟩ [] [] [] := ⟨jA (jR W) _, Bk.new W 27, Nat.le_refl _, fun b hb => by cases hb⟩
  rw [hWz] at h0
  exact Lib.hid h0
 obtain ⟨u0, hu0⟩ : ∃ z, z = (W.alloc (Obj.cells #[.slice none 0 0, .slice none 0 0, .slice none 0 0, .bool false] 27)) := ⟨_, rfl⟩
 go_upto_region 8 with fail
 rw [← hu0] at hS0 ⊢
 obtain ⟨H0, hH0⟩ : ∃ H : BH, H = ⟨none, none, none, 0, 0, 0⟩ := ⟨_, rfl⟩
 rw [← hH0] at hS0
 clear hu0 hH0
 obtain ⟨x0, x1, x2, xl⟩ := hKx.out u0 hS0.out.ext
 go_upto_region 9 with (first
  | (go_at_call 46; (with_reducible refine (kP X u0 (HT.out u0 hS0.out.ext) (hX.out u0 hS0.out.ext)).mono ?_); rintro e wp ⟨F1, rfl, hF, xbp⟩)
  )
 obtain ⟨u1, hu1⟩ : ∃ z, z = wp.alloc (Obj.cells #[.bool r, .slice F1.A F1.n F1.c, .slice F1.D F1.m F1.k] 32) := ⟨_, rfl⟩
 have hS1 : Hid (Sta W u1 (w4.heap.size + 1) H0 [] [] [wp.heap.size]) := by rw [hu1]; exact Lib.hid ((hS0.out.step xbp).alloc _ _ _ _)
 have nA : Hid (NewR u1 (w4.heap.size + 1) H0 [] [wp.heap.size] F1.A F1.n F1.c zs none) := by rw [hu1]; exact Lib.hid ((NewR.of hS0.out hF.out.1 hF.out.2.1).alloc _)
 have nD : Hid (NewR u1 (w4.heap.size + 1) H0 [] [wp.heap.size] F1.D F1.m F1.k ws F1.A) := by rw [hu1]; exact Lib.hid ((NewR.of hS0.out hF.out.2.2.1 hF.out.2.2.2).alloc _)
 have q0 : u1.cell? ⟨wp.heap.size, 0, none⟩ = some (.bool r) := by rw [hu1]; simp [go_sem]
 have q1 : u1.cell? ⟨wp.heap.size, 1, none⟩ = some (.slice F1.A F1.n F1.c) := by rw [hu1]; simp [go_sem]
 have q2 : u1.cell? ⟨wp.heap.size, 2, none⟩ = some (.slice F1.D F1.m F1.k) := by rw [hu1]; simp [go_sem]
 rw [← hu1]
 clear hu1 xbp hF hS0 x0 x1 x2 xl
 obtain ⟨a0, a1, a2, al⟩ := hKa.out u1 hS1.out.ext
 go_upto_region 10 with (first
  | (go_at_call 47; (with_reducible refine (kD F0 u1 (HT.out u1 hS1.out.ext) (hA.out u1 hS1.out.ext)).mono ?_); rintro e wd ⟨G1, rfl, hG, xbd⟩)
  )
 obtain ⟨u2, hu2⟩ : ∃ z, z = wd.alloc (Obj.cells #[.bool r, .slice G1.A G1.n G1.c, .slice G1.D G1.m G1.k] 32) := ⟨_, rfl⟩
 have hS2 : Hid (Sta W u2 (w4.heap.size + 1) H0 [] [] [wd.heap.size, wp.heap.size]) := by rw [hu2]; exact Lib.hid ((hS1.out.step xbd).alloc _ _ _ _)
 have mA : Hid (NewR u2 (w4.heap.size + 1) H0 [] [wd.heap.size, wp.heap.size] F1.A F1.n F1.c zs none) := by rw [hu2]; exact Lib.hid ((nA.out.step xbd).alloc _)
 have mD : Hid (NewR u2 (w4.heap.size + 1) H0 [] [wd.heap.size, wp.heap.size] F1.D F1.m F1.k ws F1.A) := by rw [hu2]; exact Lib.hid ((nD.out.step xbd).alloc _)
 have gA : Hid (WantR u2 (w4.heap.size + 1) H0 [wd.heap.size, wp.heap.size] G1.A G1.n G1.c zs) := by rw [hu2]; exact Lib.hid ((WantR.of hS1.out hG.out.1 hG.out.2.2.1).alloc _)
 have gD : Hid (WantR u2 (w4.heap.size + 1) H0 [wd.heap.size, wp.heap.size] G1.D G1.m G1.k ws) := by rw [hu2]; exact Lib.hid ((WantR.of hS1.out hG.out.2.1 hG.out.2.2.2).alloc _)
 have p0 : u2.cell? ⟨wd.heap.size, 0, none⟩ = some (.bool r) := by rw [hu2]; simp [go_sem]
 have p1 : u2.cell? ⟨wd.heap.size, 1, none⟩ = some (.slice G1.A G1.n G1.c) := by rw [hu2]; simp [go_sem]
 have p2 : u2.cell? ⟨wd.heap.size, 2, none⟩ = some (.slice G1.D G1.m G1.k) := by rw [hu2]; simp [go_sem]
 have hq : Ext u1 u2 := by rw [hu2]; exact jT xbd (jA (jR _) _)
 have lr := (hS1.out.locs wp.heap.size (by simp)).1.lt
 have q0 := (Below.cell (p := ⟨wp.heap.size, 0, none⟩) hq lr).trans q0
 have q1 := (Below.cell (p := ⟨wp.heap.size, 1, none⟩) hq lr).trans q1
 have q2 := (Below.cell (p := ⟨wp.heap.size, 2, none⟩) hq lr).trans q2
 have kA := hS2.out.adds r F1 G1 zs ws mA.out mD.out gA.out gD.out lz lw E (by simp) (by simp)
 rw [← hu2]
 have lr2 := (hS2.out.locs wp.heap.size (by simp)).1.lt
 have lw2 := (hS2.out.locs wd.heap.size (by simp)).1.lt
 clear hq lr hu2 xbd hG hS1 nA nD mA mD a0 a1 a2 al
 go_upto_region 11 with (first
  | (go_at_call 12; (with_reducible refine kA.mono ?_); rintro e v1 ⟨rfl, H1, hS, hT1⟩)
  )
 have p0' : v1.cell? ⟨wd.heap.size, 0, none⟩ = some (.bool r) := (hS2.out.kept hT1.out (b := wd.heap.size) (by simp) 0).trans p0
 have p1' : v1.cell? ⟨wd.heap.size, 1, none⟩ = some (.slice G1.A G1.n G1.c) := (hS2.out.kept hT1.out (b := wd.heap.size) (by simp) 1).trans p1
 have p2' : v1.cell? ⟨wd.heap.size, 2, none⟩ = some (.slice G1.D G1.m G1.k) := (hS2.out.kept hT1.out (b := wd.heap.size) (by simp) 2).trans p2
 have hA1 := Lib.hid (gA.out.turn hT1.out)
 have hD1 := Lib.hid (gD.out.turn hT1.out)
 have lv := (hS.out.locs wd.heap.size (by simp)).1.lt
 clear kA q0 q1 q2 p0 p1 p2 lr2 lw2 gA gD hT1 hS2
 obtain ⟨x0, x1, x2, xl⟩ := hKx.out v1 hS.out.ext
 go_upto_region 12 with (first
  | (go_at_call 46; (with_reducible refine (kP X v1 (HT.out v1 hS.out.ext) (hX.out v1 hS.out.ext)).mono ?_); rintro e wq ⟨F2, rfl, hF, xbq⟩)
  )
 obtain ⟨u3, hu3⟩ : ∃ z, z = wq.alloc (Obj.cells #[.bool r, .slice F2.A F2.n F2.c, .slice F2.D F2.m F2.k] 32) := ⟨_, rfl⟩
 have hS3 : Hid (Sta W u3 (w4.heap.size + 1) H1 ([] ++ [⟨r, F1, G1, zs, ws⟩]) ([] ++ [⟨F1.A, F1.n, zs⟩, ⟨F1.D, F1.m, ws⟩]) [wq.heap.size, wd.heap.size, wp.heap.size]) := by rw [hu3]; exact Lib.hid ((hS.out.step xbq).alloc _ _ _ _)
 have nA : Hid (NewR u3 (w4.heap.size + 1) H1 ([] ++ [⟨F1.A, F1.n, zs⟩, ⟨F1.D, F1.m, ws⟩]) [wq.heap.size, wd.heap.size, wp.heap.size] F2.A F2.n F2.c zs none) := by rw [hu3]; exact Lib.hid ((NewR.of hS.out hF.out.1 hF.out.2.1).alloc _)
 have nD : Hid (NewR u3 (w4.heap.size + 1) H1 ([] ++ [⟨F1.A, F1.n, zs⟩, ⟨F1.D, F1.m, ws⟩]) [wq.heap.size, wd.heap.size, wp.heap.size] F2.D F2.m F2.k ws F2.A) := by rw [hu3]; exact Lib.hid ((NewR.of hS.out hF.out.2.2.1 hF.out.2.2.2).alloc _)
 have gA : Hid (WantR u3 (w4.heap.size + 1) H1 [wq.heap.size, wd.heap.size, wp.heap.size] G1.A G1.n G1.c zs) := by rw [hu3]; exact Lib.hid ((hA1.out.step xbq).alloc _)
 have gD : Hid (WantR u3 (w4.heap.size + 1) H1 [wq.heap.size, wd.heap.size, wp.heap.size] G1.D G1.m G1.k ws) := by rw [hu3]; exact Lib.hid ((hD1.out.step xbq).alloc _)
 have q0 : u3.cell? ⟨wq.heap.size, 0, none⟩ = some (.bool r) := by rw [hu3]; simp [go_sem]
 have q1 : u3.cell? ⟨wq.heap.size, 1, none⟩ = some (.slice F2.A F2.n F2.c) := by rw [hu3]; simp [go_sem]
 have q2 : u3.cell? ⟨wq.heap.size, 2, none⟩ = some (.slice F2.D F2.m F2.k) := by rw [hu3]; simp [go_sem]
 have hq : Ext v1 u3 := by rw [hu3]; exact jT xbq (jA (jR _) _)
 have p0 := (Below.cell (p := ⟨wd.heap.size, 0, none⟩) hq lv).trans p0'
 have p1 := (Below.cell (p := ⟨wd.heap.size, 1, none⟩) hq lv).trans p1'
 have p2 := (Below.cell (p := ⟨wd.heap.size, 2, none⟩) hq lv).trans p2'
 have kA := hS3.out.adds r F2 G1 zs ws nA.out nD.out gA.out gD.out lz lw E (by simp) (by simp)
 rw [← hu3]
 have lr2 := (hS3.out.locs wq.heap.size (by simp)).1.lt
 have lw2 := (hS3.out.locs wd.heap.size (by simp)).1.lt
 clear hq hu3 xbq hF hS hS3 nA nD gA gD hA1 hD1 p0' p1' p2' lv x0 x1 x2 xl
 go_upto_region 13 with (first
  | (go_at_call 12; (with_reducible refine kA.mono ?_); rintro e v2 ⟨rfl, H2, hS, _⟩)
  )
 clear kA q0 q1 q2 p0 p1 p2 lr2 lw2
 obtain ⟨x0, x1, x2, xl⟩ := hKx.out v2 hS.out.ext
 obtain ⟨a0, a1, a2, al⟩ := hKa.out v2 hS.out.ext
 have kSx : Calls Tryz.prog 25 #[fV sa X, fV sa F0] v2 fun e w' => e = .returned (.bool true) ∧ Ext v2 w' := by
  rw [HXe.out]; exact rl_still sa g4 F0.n c4 h4 F0.m d4 xs ys F0.A F0.c F0.D F0.k v2 (hLx.out v2 hS.out.ext) (hA.out v2 hS.out.ext).num (hA.out v2 hS.out.ext).den
 go_upto_region 14 with (first
  | (go_at_call 25; (with_reducible refine kSx.mono ?_); rintro e z2 ⟨rfl, xb2⟩)
  )
 have hS2 := Lib.hid (hS.out.step xb2)
 clear xb2 hS kSx x0 x1 x2 xl a0 a1 a2 al
 have hl2 := Lib.hid (hLx.out z2 hS2.out.ext)
 obtain ⟨x0, x1, x2, xl⟩ := hKx.out z2 hS2.out.ext
 have kPx : Calls Tryz.prog 28 #[fV sa X] z2 fun e w' => e = .returned (.tuple #[]) ∧ Frm (fun k => k = g4 ∨ k = h4) z2 w' := by
  rw [HXe.out]; exact rl_spoil sa g4 F0.n c4 (F0.n + 20) h4 F0.m d4 (F0.m + 20) (Mk xs) (Mk ys) (by omega) (by omega) hl2.out.ne z2 hl2.out.num hl2.out.den
 go_upto_region 15 with (first
  | (go_at_call 28; (with_reducible refine kPx.mono ?_); rintro e z3 ⟨rfl, hf3⟩)
  )
 obtain ⟨⟨p1, p2⟩, p5, p6⟩ := hapt.out
 have hB3 := Lib.hid (hS2.out.bk.below hf3 (fun k e => by rcases e with e | e <;> omega))
 have hE3 : Hid (Ext w z3) := Lib.hid (hf3.ext (jT hEW.out hS2.out.ext) (fun k e => by rcases e with e | e <;> omega))
 have kZ := stands_step hB3.out (by simp) (by simp)
 clear hf3 hl2 hS2 kPx x0 x1 x2 xl hB3 p1 p2 p5 p6
 go_wp2_with (first
  | (go_at_call 13; (with_reducible refine kZ.mono ?_); rintro e z5 ⟨rfl, h5'⟩)
  )
 refine bodyPost_ret (v := .bool true) ?h rfl ⟨rfl, h5'.out w hE3.out hlow⟩
 case h => simp [results, Tryz.results7, go_sem]
theorem walk_RatioScales (x0 : Bool) (x1A : Option Addr) (x1l x1c : Nat) (x1 : List Nat) (x2A : Option Addr) (x2l x2c : Nat) (x2 : List Nat) (x3 : Nat) (x4 : Int) (w : World) (hx1 : Rd w x1A x1l x1c x1) (hx2 : Rd w x2A x2l x2c x2) (hx3 : x3 < 2 ^ 32) (hx4 : -9223372036854775808 ≤ x4 ∧ x4 ≤ 9223372036854775807) (hL : laidMetH Tryz.prog Rows.ratioScalesRow.laid w) :
  Calls Tryz.prog 7 #[.agg #[.bool x0, .slice x1A x1l x1c, .slice x2A x2l x2c], .int .u32 x3, .int .i64 x4] w fun e w' => e = .returned (.bool true) ∧ Ext w w' := by
 have hT : Tz w := tz_row w hL (fun w => MakeChecks.laidMetH_plain _ _ _ (by kernel_rfl)) (rest := [("unicode/utf8.acceptRanges", Rows.laid_unicode_utf8_acceptRanges), ("unicode/utf8.first", Rows.laid_unicode_utf8_first)]) (by kernel_rfl)
 clear hL
 have hbl : x3 < 4294967296 := hx3
 have kL : ∀ w', Ext w w' → Calls Tryz.prog 9 #[] w' fun e w'' => e = .returned (.bool true) ∧ Ext w' w'' := fun w' he => alive2_any w' (hT.ext he)
 have k1 := fun w' => rl_small x0 x1A x1l x1c x2A x2l x2c w'
 have k2 := fun w' => rl_light x3 hbl x4 w'
 by_cases h1 : (x1l ≤ 40 ∧ x2l ≤ 40) ∧ Light x3 x4
 ·obtain ⟨⟨l1, l2⟩, hl⟩ := h1
  rw [decide_eq_true ⟨l1, l2⟩] at k1
  rw [decide_eq_true hl] at k2
  have m1 : x1.length ≤ 40 := by rw [hx1.len]; exact l1
  have m2 : x2.length ≤ 40 := by rw [hx2.len]; exact l2
  obtain ⟨r, zs, ws, E, lz, lw, kP, kD⟩ := bo_Scale (s := x0) hx1.lb hx2.lb m1 m2 x3 hbl x4 hx4.1 hx4.2 hl
  exact scales_core x0 ⟨x1A, x1l, x1c, x2A, x2l, x2c⟩ x3 x4 x1 x2 hx1.lb hx2.lb w hT ⟨hx1, hx2⟩ r zs ws E lz lw kP kD kL k1 k2
   (fun w' he => rl_lent x0 x1A x1l x1c x1 x2A x2l x2c x2 (by omega) (by omega) w' (hx1.ext he) (hx2.ext he))
 ·refine scales_skip x0 ⟨x1A, x1l, x1c, x2A, x2l, x2c⟩ x3 x4 w _ _ ?_ kL k1 k2
  by_cases h2 : x1l ≤ 40 ∧ x2l ≤ 40
  ·exact .inr (decide_eq_false (fun h => h1 ⟨h2, h⟩))
  ·exact .inl (decide_eq_false h2)
end Go.Proofs.YtchbefambnhjjaaGreatDoor
end
