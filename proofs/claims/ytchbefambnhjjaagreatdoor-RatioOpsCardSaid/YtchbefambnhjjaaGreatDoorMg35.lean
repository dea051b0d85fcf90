/- Lemmas of this proof, laid together: RatioOpsW. -/
import Derived.Test.YtchbefambnhjjaaGreatDoorMg32
import Derived.Test.YtchbefambnhjjaaGreatDoorMg34
import Derived.Test.YtchbefambnhjjaaGreatDoorMg29
import Derived.Deep.DeepCutAuto
import Derived.Deep.RegionWith
set_option linter.unusedSimpArgs false
set_option linter.unusedVariables false
section
/- RatioOps: the walk (written by mkops.py). -/
namespace Go.Proofs.YtchbefambnhjjaaGreatDoor
open Go.RowKit
attribute [local go_sem] sz2 sz3 sz4 sz5 sz6 sz7 sz8
set_option maxHeartbeats 16000000
set_option maxRecDepth 100000
attribute [local irreducible] Calls
abbrev PK (f : FuncId) (s t : Bool) (xs ys us vs : List Nat) (r : Bool) (zs ws : List Nat) (E : Int) : Prop := ∀ F G w, Tz w → FrIn w F xs ys → FrIn w G us vs → Calls Tryz.prog f #[fV s F, fV t G] w (OfPst w r zs ws E)
abbrev DK (f : FuncId) (s t : Bool) (xs ys us vs : List Nat) (r : Bool) (zs ws : List Nat) (E : Int) : Prop := ∀ F G w, Tz w → FrIn w F xs ys → FrIn w G us vs → Calls Tryz.prog f #[fV s F, fV t G] w (NB.DfPst w r zs ws E)
theorem ops_skip (sa : Bool) (F0 : FH) (sb : Bool) (G0 : FH) (w : World) (p q : Bool) (hpq : p = false ∨ q = false)
  (kL : ∀ w', Ext w w' → Calls Tryz.prog 9 #[] w' fun e w'' => e = .returned (.bool true) ∧ Ext w' w'')
  (k1 : ∀ w', Calls Tryz.prog 14 #[fV sa F0] w' fun e w'' => e = .returned (.bool p) ∧ Ext w' w'')
  (k2 : ∀ w', Calls Tryz.prog 14 #[fV sb G0] w' fun e w'' => e = .returned (.bool q) ∧ Ext w' w'') :
  Calls Tryz.prog 6 #[fV sa F0, fV sb G0] w fun e w' => e = .returned (.bool true) ∧ Ext w w' := by
 cases p <;> cases q
 ·skip
  go_enter Tryz.func6, Tryz.ntmps6
  go_wp2_with (first
   | (go_at_call 9; (with_reducible refine (kL _ xcl).mono ?_); rintro e w1 ⟨rfl, xb1⟩; obtain ⟨xc1, xf1, xl1, xz1⟩ := jU xb1; (try simp at xz1); obtain ⟨l1_0, r1_0, f1_0, r1_0_1, f1_0_1, r1_0_2, f1_0_2⟩ := kq3 xb1 (w.heap.size); obtain ⟨l1_1, r1_1, f1_1, r1_1_1, f1_1_1, r1_1_2, f1_1_2⟩ := kq3 xb1 (w.heap.size + 1))
   | (go_at_call 14; (with_reducible refine (k1 _).mono ?_); rintro e w2 ⟨rfl, xb2⟩; obtain ⟨xc2, xf2, xl2, xz2⟩ := jU xb2; (try simp at xz2); obtain ⟨l2_0, r2_0, f2_0, r2_0_1, f2_0_1, r2_0_2, f2_0_2⟩ := kq3 xb2 (w.heap.size); obtain ⟨l2_1, r2_1, f2_1, r2_1_1, f2_1_1, r2_1_2, f2_1_2⟩ := kq3 xb2 (w.heap.size + 1))
   | (go_at_call 14; (with_reducible refine (k2 _).mono ?_); rintro e w3 ⟨rfl, xb3⟩; obtain ⟨xc3, xf3, xl3, xz3⟩ := jU xb3; (try simp at xz3); obtain ⟨l3_0, r3_0, f3_0, r3_0_1, f3_0_1, r3_0_2, f3_0_2⟩ := kq3 xb3 (w.heap.size); obtain ⟨l3_1, r3_1, f3_1, r3_1_1, f3_1_1, r3_1_2, f3_1_2⟩ := kq3 xb3 (w.heap.size + 1))
   )
  refine bodyPost_ret (v := .bool true) ?h rfl ⟨rfl, ?_⟩
  case h => simp [results, Tryz.results6, go_sem]
  exact xcl
 ·skip
  go_enter Tryz.func6, Tryz.ntmps6
  go_wp2_with (first
   | (go_at_call 9; (with_reducible refine (kL _ xcl).mono ?_); rintro e w1 ⟨rfl, xb1⟩; obtain ⟨xc1, xf1, xl1, xz1⟩ := jU xb1; (try simp at xz1); obtain ⟨l1_0, r1_0, f1_0, r1_0_1, f1_0_1, r1_0_2, f1_0_2⟩ := kq3 xb1 (w.heap.size); obtain ⟨l1_1, r1_1, f1_1, r1_1_1, f1_1_1, r1_1_2, f1_1_2⟩ := kq3 xb1 (w.heap.size + 1))
   | (go_at_call 14; (with_reducible refine (k1 _).mono ?_); rintro e w2 ⟨rfl, xb2⟩; obtain ⟨xc2, xf2, xl2, xz2⟩ := jU xb2; (try simp at xz2); obtain ⟨l2_0, r2_0, f2_0, r2_0_1, f2_0_1, r2_0_2, f2_0_2⟩ := kq3 xb2 (w.heap.size); obtain ⟨l2_1, r2_1, f2_1, r2_1_1, f2_1_1, r2_1_2, f2_1_2⟩ := kq3 xb2 (w.heap.size + 1))
   | (go_at_call 14; (with_reducible refine (k2 _).mono ?_); rintro e w3 ⟨rfl, xb3⟩; obtain ⟨xc3, xf3, xl3, xz3⟩ := jU xb3; (try simp at xz3); obtain ⟨l3_0, r3_0, f3_0, r3_0_1, f3_0_1, r3_0_2, f3_0_2⟩ := kq3 xb3 (w.heap.size); obtain ⟨l3_1, r3_1, f3_1, r3_1_1, f3_1_1, r3_1_2, f3_1_2⟩ := kq3 xb3 (w.heap.size + 1))
   )
  refine bodyPost_ret (v := .bool true) ?h rfl ⟨rfl, ?_⟩
  case h => simp [results, Tryz.results6, go_sem]
  exact xcl
 ·skip
  go_enter Tryz.func6, Tryz.ntmps6
  go_wp2_with (first
   | (go_at_call 9; (with_reducible refine (kL _ xcl).mono ?_); rintro e w1 ⟨rfl, xb1⟩; obtain ⟨xc1, xf1, xl1, xz1⟩ := jU xb1; (try simp at xz1); obtain ⟨l1_0, r1_0, f1_0, r1_0_1, f1_0_1, r1_0_2, f1_0_2⟩ := kq3 xb1 (w.heap.size); obtain ⟨l1_1, r1_1, f1_1, r1_1_1, f1_1_1, r1_1_2, f1_1_2⟩ := kq3 xb1 (w.heap.size + 1))
   | (go_at_call 14; (with_reducible refine (k1 _).mono ?_); rintro e w2 ⟨rfl, xb2⟩; obtain ⟨xc2, xf2, xl2, xz2⟩ := jU xb2; (try simp at xz2); obtain ⟨l2_0, r2_0, f2_0, r2_0_1, f2_0_1, r2_0_2, f2_0_2⟩ := kq3 xb2 (w.heap.size); obtain ⟨l2_1, r2_1, f2_1, r2_1_1, f2_1_1, r2_1_2, f2_1_2⟩ := kq3 xb2 (w.heap.size + 1))
   | (go_at_call 14; (with_reducible refine (k2 _).mono ?_); rintro e w3 ⟨rfl, xb3⟩; obtain ⟨xc3, xf3, xl3, xz3⟩ := jU xb3; (try simp at xz3); obtain ⟨l3_0, r3_0, f3_0, r3_0_1, f3_0_1, r3_0_2, f3_0_2⟩ := kq3 xb3 (w.heap.size); obtain ⟨l3_1, r3_1, f3_1, r3_1_1, f3_1_1, r3_1_2, f3_1_2⟩ := kq3 xb3 (w.heap.size + 1))
   )
  refine bodyPost_ret (v := .bool true) ?h rfl ⟨rfl, ?_⟩
  case h => simp [results, Tryz.results6, go_sem]
  exact xcl
 ·rcases hpq with h | h <;> cases h
theorem ops_core (sa : Bool) (F0 : FH) (sb : Bool) (G0 : FH) (xs ys us vs : List Nat) (hbx : Lb xs) (hby : Lb ys) (hbu : Lb us) (hbv : Lb vs) (w : World) (hT : Tz w) (hF : FrIn w F0 xs ys) (hG : FrIn w G0 us vs) (S EC : Int)
  (r1 : Bool) (zs1 ws1 : List Nat) (E1 : Int) (lz1 : zs1.length ≤ 1000000) (lw1 : ws1.length ≤ 1000000) (kP1 : PK 37 sa sb xs ys us vs r1 zs1 ws1 E1) (kD1 : DK 38 sa sb xs ys us vs r1 zs1 ws1 E1)
  (r2 : Bool) (zs2 ws2 : List Nat) (E2 : Int) (lz2 : zs2.length ≤ 1000000) (lw2 : ws2.length ≤ 1000000) (kP2 : PK 39 sa sb xs ys us vs r2 zs2 ws2 E2) (kD2 : DK 40 sa sb xs ys us vs r2 zs2 ws2 E2)
  (r3 : Bool) (zs3 ws3 : List Nat) (E3 : Int) (lz3 : zs3.length ≤ 1000000) (lw3 : ws3.length ≤ 1000000) (kP3 : PK 41 sa sb xs ys us vs r3 zs3 ws3 E3) (kD3 : DK 42 sa sb xs ys us vs r3 zs3 ws3 E3)
  (r4 : Bool) (zs4 ws4 : List Nat) (E4 : Int) (lz4 : zs4.length ≤ 1000000) (lw4 : ws4.length ≤ 1000000) (kP4 : PK 43 sa sb xs ys us vs r4 zs4 ws4 E4) (kD4 : DK 44 sa sb xs ys us vs r4 zs4 ws4 E4)
  (r5 : Bool) (zs5 ws5 : List Nat) (E5 : Int) (lz5 : zs5.length ≤ 1000000) (lw5 : ws5.length ≤ 1000000) (kP5 : PK 39 sa sa xs ys xs ys r5 zs5 ws5 E5) (kD5 : DK 40 sa sa xs ys xs ys r5 zs5 ws5 E5)
  (r6 : Bool) (zs6 ws6 : List Nat) (E6 : Int) (lz6 : zs6.length ≤ 1000000) (lw6 : ws6.length ≤ 1000000) (kP6 : PK 43 sb sb us vs us vs r6 zs6 ws6 E6) (kD6 : DK 44 sb sb us vs us vs r6 zs6 ws6 E6)
  (r7 : Bool) (zs7 ws7 : List Nat) (E7 : Int) (lz7 : zs7.length ≤ 1000000) (lw7 : ws7.length ≤ 1000000) (kP7 : PK 41 sa sa xs ys xs ys r7 zs7 ws7 E7) (kD7 : DK 42 sa sa xs ys xs ys r7 zs7 ws7 E7)
  (kC : ∀ F G w, Tz w → FrIn w F xs ys → FrIn w G us vs → Calls Tryz.prog 35 #[fV sa F, fV sb G] w fun e w' => e = .returned (.tuple #[.int .i64 S, .int .i64 EC]) ∧ Ext w w')
  (kCd : ∀ F G w, Tz w → FrIn w F xs ys → FrIn w G us vs → Calls Tryz.prog 36 #[fV sa F, fV sb G] w fun e w' => e = .returned (.tuple #[.int .i64 S, .int .i64 EC]) ∧ Ext w w')
  (kL : ∀ w', Ext w w' → Calls Tryz.prog 9 #[] w' fun e w'' => e = .returned (.bool true) ∧ Ext w' w'')
  (k1 : ∀ w', Calls Tryz.prog 14 #[fV sa F0] w' fun e w'' => e = .returned (.bool true) ∧ Ext w' w'')
  (k2 : ∀ w', Calls Tryz.prog 14 #[fV sb G0] w' fun e w'' => e = .returned (.bool true) ∧ Ext w' w'')
  (k3 : ∀ w', Ext w w' → Calls Tryz.prog 15 #[fV sa F0] w' fun e w'' => ∃ (g cg h ch : Nat), e = .returned (ratV sa (some ⟨g, 0, none⟩) F0.n cg (some ⟨h, 0, none⟩) F0.m ch) ∧ Hid (LRat w'' g F0.n cg h F0.m ch xs ys ∧ w'.heap.size ≤ g ∧ w'.heap.size ≤ h) ∧ Ext w' w'')
  (k4 : ∀ w', Ext w w' → Calls Tryz.prog 15 #[fV sb G0] w' fun e w'' => ∃ (g cg h ch : Nat), e = .returned (ratV sb (some ⟨g, 0, none⟩) G0.n cg (some ⟨h, 0, none⟩) G0.m ch) ∧ Hid (LRat w'' g G0.n cg h G0.m ch us vs ∧ w'.heap.size ≤ g ∧ w'.heap.size ≤ h) ∧ Ext w' w'') :
  Calls Tryz.prog 6 #[fV sa F0, fV sb G0] w fun e w' => e = .returned (.bool true) ∧ Ext w w' := by
 go_enter Tryz.func6, Tryz.ntmps6
 go_upto_region 6 with (first
  | (go_at_call 9; (with_reducible refine (kL _ xcl).mono ?_); rintro e w1 ⟨rfl, xb1⟩; obtain ⟨xc1, xf1, xl1, xz1⟩ := jU xb1; (try simp at xz1); obtain ⟨l1_0, r1_0, f1_0, r1_0_1, f1_0_1, r1_0_2, f1_0_2⟩ := kq3 xb1 (w.heap.size); obtain ⟨l1_1, r1_1, f1_1, r1_1_1, f1_1_1, r1_1_2, f1_1_2⟩ := kq3 xb1 (w.heap.size + 1))
  | (go_at_call 14; (with_reducible refine (k1 _).mono ?_); rintro e w2 ⟨rfl, xb2⟩; obtain ⟨xc2, xf2, xl2, xz2⟩ := jU xb2; (try simp at xz2); obtain ⟨l2_0, r2_0, f2_0, r2_0_1, f2_0_1, r2_0_2, f2_0_2⟩ := kq3 xb2 (w.heap.size); obtain ⟨l2_1, r2_1, f2_1, r2_1_1, f2_1_1, r2_1_2, f2_1_2⟩ := kq3 xb2 (w.heap.size + 1))
  | (go_at_call 14; (with_reducible refine (k2 _).mono ?_); rintro e w3 ⟨rfl, xb3⟩; obtain ⟨xc3, xf3, xl3, xz3⟩ := jU xb3; (try simp at xz3); obtain ⟨l3_0, r3_0, f3_0, r3_0_1, f3_0_1, r3_0_2, f3_0_2⟩ := kq3 xb3 (w.heap.size); obtain ⟨l3_1, r3_1, f3_1, r3_1_1, f3_1_1, r3_1_2, f3_1_2⟩ := kq3 xb3 (w.heap.size + 1))
  )
 have hE3 : Hid (Ext w w3) := by show Ext w w3; exact xcl
 go_upto_region 7 with (first
  | (go_at_call 15; (with_reducible refine (k3 _ hE3.out).mono ?_); rintro e w4 ⟨g4, c4, h4, d4, rfl, hL4, xb4⟩; obtain ⟨xc4, xf4, xl4, xz4⟩ := jU xb4; (try simp at xz4); obtain ⟨l4_0, r4_0, f4_0, r4_0_1, f4_0_1, r4_0_2, f4_0_2⟩ := kq3 xb4 (w.heap.size); obtain ⟨l4_1, r4_1, f4_1, r4_1_1, f4_1_1, r4_1_2, f4_1_2⟩ := kq3 xb4 (w.heap.size + 1))
  )
 have hE4 : Hid (Ext w (w4.alloc (Obj.cells #[.bool sa, .slice (some ⟨g4, 0, none⟩) F0.n c4, .slice (some ⟨h4, 0, none⟩) F0.m d4] 32))) := by show Ext w _; exact xcl
 go_upto_region 8 with (first
  | (go_at_call 15; (with_reducible refine (k4 _ hE4.out).mono ?_); rintro e w5 ⟨g5, c5, h5, d5, rfl, hL5, xb5⟩; obtain ⟨xc5, xf5, xl5, xz5⟩ := jU xb5; (try simp at xz5); obtain ⟨l5_0, r5_0, f5_0, r5_0_1, f5_0_1, r5_0_2, f5_0_2⟩ := kq3 xb5 (w.heap.size); obtain ⟨l5_1, r5_1, f5_1, r5_1_1, f5_1_1, r5_1_2, f5_1_2⟩ := kq3 xb5 (w.heap.size + 1); obtain ⟨l5_2, r5_2, f5_2, r5_2_1, f5_2_1, r5_2_2, f5_2_2⟩ := kq3 xb5 (w4.heap.size))
  )
 obtain ⟨W, hW⟩ : ∃ z, z = w5.alloc (Obj.cells #[.bool sb, .slice (some ⟨g5, 0, none⟩) G0.n c5, .slice (some ⟨h5, 0, none⟩) G0.m d5] 32) := ⟨_, rfl⟩
 have a0 : W.cell? ⟨w.heap.size, 0, none⟩ = some (.bool sa) := by rw [hW]; simp [go_sem, *]
 have a1 : W.cell? ⟨w.heap.size, 1, none⟩ = some (.slice F0.A F0.n F0.c) := by rw [hW]; simp [go_sem, *]
 have a2 : W.cell? ⟨w.heap.size, 2, none⟩ = some (.slice F0.D F0.m F0.k) := by rw [hW]; simp [go_sem, *]
 have b0 : W.cell? ⟨w.heap.size + 1, 0, none⟩ = some (.bool sb) := by rw [hW]; simp [go_sem, *]
 have b1 : W.cell? ⟨w.heap.size + 1, 1, none⟩ = some (.slice G0.A G0.n G0.c) := by rw [hW]; simp [go_sem, *]
 have b2 : W.cell? ⟨w.heap.size + 1, 2, none⟩ = some (.slice G0.D G0.m G0.k) := by rw [hW]; simp [go_sem, *]
 have x0 : W.cell? ⟨w4.heap.size, 0, none⟩ = some (.bool sa) := by rw [hW]; simp [go_sem, *]
 have x1 : W.cell? ⟨w4.heap.size, 1, none⟩ = some (.slice (some ⟨g4, 0, none⟩) F0.n c4) := by rw [hW]; simp [go_sem, *]
 have x2 : W.cell? ⟨w4.heap.size, 2, none⟩ = some (.slice (some ⟨h4, 0, none⟩) F0.m d4) := by rw [hW]; simp [go_sem, *]
 have y0 : W.cell? ⟨w5.heap.size, 0, none⟩ = some (.bool sb) := by rw [hW]; simp [go_sem, *]
 have y1 : W.cell? ⟨w5.heap.size, 1, none⟩ = some (.slice (some ⟨g5, 0, none⟩) G0.n c5) := by rw [hW]; simp [go_sem, *]
 have y2 : W.cell? ⟨w5.heap.size, 2, none⟩ = some (.slice (some ⟨h5, 0, none⟩) G0.m d5) := by rw [hW]; simp [go_sem, *]
 have s3 := hE3.out.size
 have s4 : w3.heap.size ≤ w4.heap.size := ext_size xb4
 have s5 : w4.heap.size + 1 ≤ w5.heap.size := by have := ext_size xb5; simpa using this
 have hWz : W.heap.size = w5.heap.size + 1 := by rw [hW]; simp
 have hW5 : Ext w5 W := by rw [hW]; exact jA (jR _) _
 have hW4 : Ext w4 W := jT (jA (jR w4) _) (jT xb5 hW5)
 have hEW : Hid (Ext w W) := Lib.hid (jT hE4.out (jT xb5 hW5))
 have w2lt : w.heap.size + 1 < w3.heap.size := by assumption
 have qx1 := own_lt hL4.out.1.num rfl
 have qx2 := own_lt hL4.out.1.den rfl
 have qy1 := own_lt hL5.out.1.num rfl
 have qy2 := own_lt hL5.out.1.den rfl
 have zx1 := hL4.out.2.1
 have zx2 := hL4.out.2.2
 have zy1 := hL5.out.2.1
 have zy2 := hL5.out.2.2
 simp only at qx1 qx2 qy1 qy2
 have hsz4 : (w4.alloc (Obj.cells #[.bool sa, .slice (some ⟨g4, 0, none⟩) F0.n c4, .slice (some ⟨h4, 0, none⟩) F0.m d4] 32)).heap.size = w4.heap.size + 1 := by simp
 rw [hsz4] at zy1 zy2
 have hLx : Hid (∀ u, Ext W u → LRat u g4 F0.n c4 h4 F0.m d4 xs ys) := Lib.hid (fun u he => hL4.out.1.ext (jT hW4 he))
 have hLy : Hid (∀ u, Ext W u → LRat u g5 G0.n c5 h5 G0.m d5 us vs) := Lib.hid (fun u he => hL5.out.1.ext (jT hW5 he))
 obtain ⟨X, hXe⟩ : ∃ X : FH, X = ⟨some ⟨g4, 0, none⟩, F0.n, c4, some ⟨h4, 0, none⟩, F0.m, d4⟩ := ⟨_, rfl⟩
 obtain ⟨Y, hYe⟩ : ∃ Y : FH, Y = ⟨some ⟨g5, 0, none⟩, G0.n, c5, some ⟨h5, 0, none⟩, G0.m, d5⟩ := ⟨_, rfl⟩
 have hX : Hid (∀ u, Ext W u → FrIn u X xs ys) := Lib.hid (fun u he => by rw [hXe]; exact ⟨((hLx.out u he).num).rd hbx, ((hLx.out u he).den).rd hby⟩)
 have hY : Hid (∀ u, Ext W u → FrIn u Y us vs) := Lib.hid (fun u he => by rw [hYe]; exact ⟨((hLy.out u he).num).rd hbu, ((hLy.out u he).den).rd hbv⟩)
 have hA : Hid (∀ u, Ext W u → FrIn u F0 xs ys) := Lib.hid (fun u he => hF.ext (jT hEW.out he))
 have hB : Hid (∀ u, Ext W u → FrIn u G0 us vs) := Lib.hid (fun u he => hG.ext (jT hEW.out he))
 have HT : Hid (∀ u, Ext W u → Tz u) := Lib.hid (fun u he => hT.ext (jT hEW.out he))
 have hKa : Hid (∀ u, Ext W u → u.cell? ⟨w.heap.size, 0, none⟩ = some (.bool sa) ∧ u.cell? ⟨w.heap.size, 1, none⟩ = some (.slice F0.A F0.n F0.c) ∧ u.cell? ⟨w.heap.size, 2, none⟩ = some (.slice F0.D F0.m F0.k) ∧ w.heap.size < u.heap.size) := Lib.hid (fun u he => ⟨(Below.cell (p := ⟨w.heap.size, 0, none⟩) he (by simp only; omega)).trans a0, (Below.cell (p := ⟨w.heap.size, 1, none⟩) he (by simp only; omega)).trans a1, (Below.cell (p := ⟨w.heap.size, 2, none⟩) he (by simp only; omega)).trans a2, by have := he.size; omega⟩)
 have hKb : Hid (∀ u, Ext W u → u.cell? ⟨w.heap.size + 1, 0, none⟩ = some (.bool sb) ∧ u.cell? ⟨w.heap.size + 1, 1, none⟩ = some (.slice G0.A G0.n G0.c) ∧ u.cell? ⟨w.heap.size + 1, 2, none⟩ = some (.slice G0.D G0.m G0.k) ∧ w.heap.size + 1 < u.heap.size) := Lib.hid (fun u he => ⟨(Below.cell (p := ⟨w.heap.size + 1, 0, none⟩) he (by simp only; omega)).trans b0, (Below.cell (p := ⟨w.heap.size + 1, 1, none⟩) he (by simp only; omega)).trans b1, (Below.cell (p := ⟨w.heap.size + 1, 2, none⟩) he (by simp only; omega)).trans b2, by have := he.size; omega⟩)
 have hKx : Hid (∀ u, Ext W u → u.cell? ⟨w4.heap.size, 0, none⟩ = some (.bool sa) ∧ u.cell? ⟨w4.heap.size, 1, none⟩ = some (.slice X.A X.n X.c) ∧ u.cell? ⟨w4.heap.size, 2, none⟩ = some (.slice X.D X.m X.k) ∧ w4.heap.size < u.heap.size) := Lib.hid (fun u he => by rw [hXe]; exact ⟨(Below.cell (p := ⟨w4.heap.size, 0, none⟩) he (by simp only; omega)).trans x0, (Below.cell (p := ⟨w4.heap.size, 1, none⟩) he (by simp only; omega)).trans x1, (Below.cell (p := ⟨w4.heap.size, 2, none⟩) he (by simp only; omega)).trans x2, by have := he.size; omega⟩)
 have hKy : Hid (∀ u, Ext W u → u.cell? ⟨w5.heap.size, 0, none⟩ = some (.bool sb) ∧ u.cell? ⟨w5.heap.size, 1, none⟩ = some (.slice Y.A Y.n Y.c) ∧ u.cell? ⟨w5.heap.size, 2, none⟩ = some (.slice Y.D Y.m Y.k) ∧ w5.heap.size < u.heap.size) := Lib.hid (fun u he => by rw [hYe]; exact ⟨(Below.cell (p := ⟨w5.heap.size, 0, none⟩) he (by simp only; omega)).trans y0, (Below.cell (p := ⟨w5.heap.size, 1, none⟩) he (by simp only; omega)).trans y1, (Below.cell (p := ⟨w5.heap.size, 2, none⟩) he (by simp only; omega)).trans y2, by have := he.size; omega⟩)
 have hapt : Hid ((w.heap.size ≤ g4 ∧ w.heap.size ≤ h4 ∧ w.heap.size ≤ g5 ∧ w.heap.size ≤ h5) ∧ (g4 < W.heap.size ∧ h4 < W.heap.size ∧ g5 < W.heap.size ∧ h5 < W.heap.size) ∧ (g5 ≠ g4 ∧ g5 ≠ h4 ∧ h5 ≠ g4 ∧ h5 ≠ h4) ∧ (w5.heap.size ≠ g4 ∧ w5.heap.size ≠ h4)) := Lib.hid (by omega)
 rw [← hW]
 have HXe := Lib.hid hXe
 have HYe := Lib.hid hYe
 clear hW hXe hYe a0 a1 a2 b0 b1 b2 x0 x1 x2 y0 y1 y2 hL4 hL5 hE3 hE4 hW5 hW4 xb1 xb2 xb3 xb4 xb5 hF hG hT hsz4 qx1 qx2 qy1 qy2 zx1 zx2 zy1 zy2 s3 s4 s5 w2lt k1 k2 k3 k4 kL

 try clear xc1
 try clear xf1
 try clear xl1
 try clear xz1
 try clear l1_0
 try clear r1_0
 try clear r1_0_1
 try clear r1_0_2
 try clear f1_0
 try clear f1_0_1
 try clear f1_0_2
 try clear l1_1
 try clear r1_1
 try clear r1_1_1
 try clear r1_1_2
 try clear f1_1
 try clear f1_1_1
 try clear f1_1_2
 try clear l1_2
 try clear r1_2
 try clear r1_2_1
 try clear r1_2_2
 try clear f1_2
 try clear f1_2_1
 try clear f1_2_2
 try clear xc2
 try clear xf2
 try clear xl2
 try clear xz2
 try clear l2_0
 try clear r2_0
 try clear r2_0_1
 try clear r2_0_2
 try clear f2_0
 try clear f2_0_1
 try clear f2_0_2
 try clear l2_1
 try clear r2_1
 try clear r2_1_1
 try clear r2_1_2
 try clear f2_1
 try clear f2_1_1
 try clear f2_1_2
 try clear l2_2
 try clear r2_2
 try clear r2_2_1
 try clear r2_2_2
 try clear f2_2
 try clear f2_2_1
 try clear f2_2_2
 try clear xc3
 try clear xf3
 try clear xl3
 try clear xz3
 try clear l3_0
 try clear r3_0
 try clear r3_0_1
 try clear r3_0_2
 try clear f3_0
 try clear f3_0_1
 try clear f3_0_2
 try clear l3_1
 try clear r3_1
 try clear r3_1_1
 try clear r3_1_2
 try clear f3_1
 try clear f3_1_1
 try clear f3_1_2
 try clear l3_2
 try clear r3_2
 try clear r3_2_1
 try clear r3_2_2
 try clear f3_2
 try clear f3_2_1
 try clear f3_2_2
 try clear xc4
 try clear xf4
 try clear xl4
 try clear xz4
 try clear l4_0
 try clear r4_0
 try clear r4_0_1
 try clear r4_0_2
 try clear f4_0
 try clear f4_0_1
 try clear f4_0_2
 try clear l4_1
 try clear r4_1
 try clear r4_1_1
 try clear r4_1_2
 try clear f4_1
 try clear f4_1_1
 try clear f4_1_2
 try clear l4_2
 try clear r4_2
 try clear r4_2_1
 try clear r4_2_2
 try clear f4_2
 try clear f4_2_1
 try clear f4_2_2
 try clear xc5
 try clear xf5
 try clear xl5
 try clear xz5
 try clear l5_0
 try clear r5_0
 try clear r5_0_1
 try clear r5_0_2
 try clear f5_0
 try clear f5_0_1
 try clear f5_0_2
 try clear l5_1
 try clear r5_1
 try clear r5_1_1
 try clear r5_1_2
 try clear f5_1
 try clear f5_1_1
 try clear f5_1_2
 try clear l5_2
 try clear r5_2
 try clear r5_2_1
 try clear r5_2_2
 try clear f5_2
 try clear f5_2_1
 try clear f5_2_2
 have hS0 : Hid (Sta W (W.alloc (Obj.cells #[.slice none 0 0, .slice none 0 0, .slice none 0 0, .bool false] 27)) (w5.heap.size + 1) ⟨none, none, none, 0, 0, 0⟩ [] [] []) := by
  have h0 : Sta W (W.alloc (Obj.cells #[.slice none 0 0, .slice none 0 0, .slice none 0 0, .bool false] 27)) W.heap.size ⟨none, none, none, 0, 0, 0⟩ [] [] [] := ⟨jA (jR W) _, Bk.new W 27, Nat.le_refl _, fun b hb => by cases hb⟩
  rw [hWz] at h0
  exact Lib.hid h0
 obtain ⟨u0, hu0⟩ : ∃ z, z = (W.alloc (Obj.cells #[.slice none 0 0, .slice none 0 0, .slice none 0 0, .bool false] 27)) := ⟨_, rfl⟩
 go_upto_region 9 with fail
 rw [← hu0] at hS0 ⊢
 clear hu0
 obtain ⟨x0, x1, x2, xl⟩ := hKx.out u0 hS0.out.ext
 obtain ⟨y0, y1, y2, yl⟩ := hKy.out u0 hS0.out.ext
 go_upto_region 10 with (first
  | (go_at_call 35; (with_reducible refine (kC X Y u0 (HT.out u0 hS0.out.ext) (hX.out u0 hS0.out.ext) (hY.out u0 hS0.out.ext)).mono ?_); rintro e u1 ⟨rfl, xb1⟩)
  )
 have hS1 := Lib.hid (hS0.out.step xb1)
 clear x0 x1 x2 xl y0 y1 y2 yl xb1 hS0
 obtain ⟨a0, a1, a2, al⟩ := hKa.out u1 hS1.out.ext
 obtain ⟨b0, b1, b2, bl⟩ := hKb.out u1 hS1.out.ext
 go_upto_region 11 with (first
  | (go_at_call 36; (with_reducible refine (kCd F0 G0 u1 (HT.out u1 hS1.out.ext) (hA.out u1 hS1.out.ext) (hB.out u1 hS1.out.ext)).mono ?_); rintro e u2 ⟨rfl, xb2⟩)
  )
 have hS := Lib.hid (hS1.out.step xb2)
 clear a0 a1 a2 al b0 b1 b2 bl xb2 hS1
 obtain ⟨v0, hv0⟩ : ∃ z, z = u2 := ⟨_, rfl⟩
 rw [← hv0] at hS ⊢
 clear hv0
 obtain ⟨H0, hH0⟩ : ∃ H : BH, H = ⟨none, none, none, 0, 0, 0⟩ := ⟨_, rfl⟩
 rw [← hH0] at hS
 clear hH0
 obtain ⟨rs0, e1⟩ : ∃ z : List Rec, z = [] := ⟨_, rfl⟩
 obtain ⟨ls0, e2⟩ : ∃ z : List Row, z = [] := ⟨_, rfl⟩
 rw [← e1, ← e2] at hS
 have nr : rs0.length = 0 := by rw [e1]; rfl
 have nl : ls0.length = 0 := by rw [e2]; rfl
 clear e1 e2
 obtain ⟨x0, x1, x2, xl⟩ := hKx.out v0 hS.out.ext
 obtain ⟨y0, y1, y2, yl⟩ := hKy.out v0 hS.out.ext
 go_upto_region 14 with (first
  | (go_at_call 37; (with_reducible refine (kP1 X Y v0 (HT.out v0 hS.out.ext) (hX.out v0 hS.out.ext) (hY.out v0 hS.out.ext)).mono ?_); rintro e wp ⟨F1, rfl, hF, xbp⟩)
  )
 obtain ⟨u1, hu1⟩ : ∃ z, z = (wp.alloc (Obj.cells #[(.bool r1), (.slice F1.A F1.n F1.c), (.slice F1.D F1.m F1.k)] 32)) := ⟨_, rfl⟩
 have hS1 : Hid (Sta W u1 (w5.heap.size + 1) H0 rs0 ls0 [wp.heap.size]) := by rw [hu1]; exact Lib.hid ((hS.out.step xbp).alloc _ _ _ _)
 have nA : Hid (NewR u1 (w5.heap.size + 1) H0 ls0 [wp.heap.size] F1.A F1.n F1.c zs1 none) := by rw [hu1]; exact Lib.hid ((NewR.of hS.out hF.out.1 hF.out.2.1).alloc _)
 have nD : Hid (NewR u1 (w5.heap.size + 1) H0 ls0 [wp.heap.size] F1.D F1.m F1.k ws1 F1.A) := by rw [hu1]; exact Lib.hid ((NewR.of hS.out hF.out.2.2.1 hF.out.2.2.2).alloc _)
 have q0 : u1.cell? ⟨wp.heap.size, 0, none⟩ = some (.bool r1) := by rw [hu1]; simp [go_sem]
 have q1 : u1.cell? ⟨wp.heap.size, 1, none⟩ = some (.slice F1.A F1.n F1.c) := by rw [hu1]; simp [go_sem]
 have q2 : u1.cell? ⟨wp.heap.size, 2, none⟩ = some (.slice F1.D F1.m F1.k) := by rw [hu1]; simp [go_sem]
 rw [← hu1]
 clear hu1 xbp hF hS x0 x1 x2 xl y0 y1 y2 yl
 obtain ⟨a0, a1, a2, al⟩ := hKa.out u1 hS1.out.ext
 obtain ⟨b0, b1, b2, bl⟩ := hKb.out u1 hS1.out.ext
 go_upto_region 15 with (first
  | (go_at_call 38; (with_reducible refine (kD1 F0 G0 u1 (HT.out u1 hS1.out.ext) (hA.out u1 hS1.out.ext) (hB.out u1 hS1.out.ext)).mono ?_); rintro e wd ⟨G1, rfl, hG, xbd⟩)
  )
 obtain ⟨u2, hu2⟩ : ∃ z, z = (wd.alloc (Obj.cells #[(.bool r1), (.slice G1.A G1.n G1.c), (.slice G1.D G1.m G1.k)] 32)) := ⟨_, rfl⟩
 have hS2 : Hid (Sta W u2 (w5.heap.size + 1) H0 rs0 ls0 [wd.heap.size, wp.heap.size]) := by rw [hu2]; exact Lib.hid ((hS1.out.step xbd).alloc _ _ _ _)
 have mA : Hid (NewR u2 (w5.heap.size + 1) H0 ls0 [wd.heap.size, wp.heap.size] F1.A F1.n F1.c zs1 none) := by rw [hu2]; exact Lib.hid ((nA.out.step xbd).alloc _)
 have mD : Hid (NewR u2 (w5.heap.size + 1) H0 ls0 [wd.heap.size, wp.heap.size] F1.D F1.m F1.k ws1 F1.A) := by rw [hu2]; exact Lib.hid ((nD.out.step xbd).alloc _)
 have gA : Hid (WantR u2 (w5.heap.size + 1) H0 [wd.heap.size, wp.heap.size] G1.A G1.n G1.c zs1) := by rw [hu2]; exact Lib.hid ((WantR.of hS1.out hG.out.1 hG.out.2.2.1).alloc _)
 have gD : Hid (WantR u2 (w5.heap.size + 1) H0 [wd.heap.size, wp.heap.size] G1.D G1.m G1.k ws1) := by rw [hu2]; exact Lib.hid ((WantR.of hS1.out hG.out.2.1 hG.out.2.2.2).alloc _)
 have p0 : u2.cell? ⟨wd.heap.size, 0, none⟩ = some (.bool r1) := by rw [hu2]; simp [go_sem]
 have p1 : u2.cell? ⟨wd.heap.size, 1, none⟩ = some (.slice G1.A G1.n G1.c) := by rw [hu2]; simp [go_sem]
 have p2 : u2.cell? ⟨wd.heap.size, 2, none⟩ = some (.slice G1.D G1.m G1.k) := by rw [hu2]; simp [go_sem]
 have hq : Ext u1 u2 := by rw [hu2]; exact jT xbd (jA (jR _) _)
 have lr := (hS1.out.locs wp.heap.size (by simp)).1.lt
 have hlt := Nat.lt_of_lt_of_le lr (ext_size xbd)
 have q0 := (Below.cell (p := ⟨wp.heap.size, 0, none⟩) hq lr).trans q0
 have q1 := (Below.cell (p := ⟨wp.heap.size, 1, none⟩) hq lr).trans q1
 have q2 := (Below.cell (p := ⟨wp.heap.size, 2, none⟩) hq lr).trans q2
 have hne : wp.heap.size ≠ wd.heap.size := by omega
 clear hq lr hlt
 have kA := hS2.out.adds r1 F1 G1 zs1 ws1 mA.out mD.out gA.out gD.out lz1 lw1 E1 (by omega) (by omega)
 rw [← hu2]
 have lr2 := (hS2.out.locs wp.heap.size (by simp)).1.lt
 have lw2 := (hS2.out.locs wd.heap.size (by simp)).1.lt
 clear hu2 xbd hG hS1 nA nD mA mD gA gD hS2 a0 a1 a2 al b0 b1 b2 bl
 go_upto_region 16 with (first
  | (go_at_call 12; (with_reducible refine kA.mono ?_); rintro e v1 ⟨rfl, H1, hS, _⟩)
  )
 clear kA q0 q1 q2 p0 p1 p2 lr2 lw2
 obtain ⟨rs1, e1⟩ : ∃ z : List Rec, z = rs0 ++ [⟨r1, F1, G1, zs1, ws1⟩] := ⟨_, rfl⟩
 obtain ⟨ls1, e2⟩ : ∃ z : List Row, z = ls0 ++ [⟨F1.A, F1.n, zs1⟩, ⟨F1.D, F1.m, ws1⟩] := ⟨_, rfl⟩
 rw [← e1, ← e2] at hS
 replace nr : rs1.length = 1 := by rw [e1, List.length_append, nr]; rfl
 replace nl : ls1.length = 2 := by rw [e2, List.length_append, nl]; rfl
 clear e1 e2
 obtain ⟨x0, x1, x2, xl⟩ := hKx.out v1 hS.out.ext
 obtain ⟨y0, y1, y2, yl⟩ := hKy.out v1 hS.out.ext
 go_upto_region 17 with (first
  | (go_at_call 39; (with_reducible refine (kP2 X Y v1 (HT.out v1 hS.out.ext) (hX.out v1 hS.out.ext) (hY.out v1 hS.out.ext)).mono ?_); rintro e wq ⟨F2, rfl, hF, xbp⟩; have hl := ((hS.out.step xbp).locs wp.heap.size (by simp)).1; obtain ⟨y0r, e0r⟩ := hl.c0; obtain ⟨y1r, e1r⟩ := hl.c1; obtain ⟨y2r, e2r⟩ := hl.c2; have f0r := hl.froz 0; have f1r := hl.froz 1; have f2r := hl.froz 2; have ltr := hl.lt)
  )
 obtain ⟨u1, hu1⟩ : ∃ z, z = (((wq.setCell ⟨wp.heap.size, 0, none⟩ (.bool r2)).setCell ⟨wp.heap.size, 1, none⟩ (.slice F2.A F2.n F2.c)).setCell ⟨wp.heap.size, 2, none⟩ (.slice F2.D F2.m F2.k)) := ⟨_, rfl⟩
 have hS1 : Hid (Sta W u1 (w5.heap.size + 1) H1 rs1 ls1 [wd.heap.size, wp.heap.size]) := by rw [hu1]; exact Lib.hid ((hS.out.step xbp).put (b := wp.heap.size) (by simp) _ _ _)
 have nA : Hid (NewR u1 (w5.heap.size + 1) H1 ls1 [wd.heap.size, wp.heap.size] F2.A F2.n F2.c zs2 none) := by rw [hu1]; exact Lib.hid ((NewR.of hS.out hF.out.1 hF.out.2.1).put (b := wp.heap.size) (by simp) _ _ _)
 have nD : Hid (NewR u1 (w5.heap.size + 1) H1 ls1 [wd.heap.size, wp.heap.size] F2.D F2.m F2.k ws2 F2.A) := by rw [hu1]; exact Lib.hid ((NewR.of hS.out hF.out.2.2.1 hF.out.2.2.2).put (b := wp.heap.size) (by simp) _ _ _)
 obtain ⟨q0, q1, q2⟩ : u1.cell? ⟨wp.heap.size, 0, none⟩ = some (.bool r2) ∧ u1.cell? ⟨wp.heap.size, 1, none⟩ = some (.slice F2.A F2.n F2.c) ∧ u1.cell? ⟨wp.heap.size, 2, none⟩ = some (.slice F2.D F2.m F2.k) := by rw [hu1]; exact put_cells ((hS.out.step xbp).locs wp.heap.size (by simp)).1 _ _ _
 rw [← hu1]
 clear hu1 xbp hF hS hl e0r e1r e2r f0r f1r f2r ltr x0 x1 x2 xl y0 y1 y2 yl
 obtain ⟨a0, a1, a2, al⟩ := hKa.out u1 hS1.out.ext
 obtain ⟨b0, b1, b2, bl⟩ := hKb.out u1 hS1.out.ext
 go_upto_region 18 with (first
  | (go_at_call 40; (with_reducible refine (kD2 F0 G0 u1 (HT.out u1 hS1.out.ext) (hA.out u1 hS1.out.ext) (hB.out u1 hS1.out.ext)).mono ?_); rintro e we ⟨G2, rfl, hG, xbd⟩; have hl := ((hS1.out.step xbd).locs wd.heap.size (by simp)).1; obtain ⟨y0r, e0r⟩ := hl.c0; obtain ⟨y1r, e1r⟩ := hl.c1; obtain ⟨y2r, e2r⟩ := hl.c2; have f0r := hl.froz 0; have f1r := hl.froz 1; have f2r := hl.froz 2; have ltr := hl.lt)
  )
 obtain ⟨u2, hu2⟩ : ∃ z, z = (((we.setCell ⟨wd.heap.size, 0, none⟩ (.bool r2)).setCell ⟨wd.heap.size, 1, none⟩ (.slice G2.A G2.n G2.c)).setCell ⟨wd.heap.size, 2, none⟩ (.slice G2.D G2.m G2.k)) := ⟨_, rfl⟩
 have hS2 : Hid (Sta W u2 (w5.heap.size + 1) H1 rs1 ls1 [wd.heap.size, wp.heap.size]) := by rw [hu2]; exact Lib.hid ((hS1.out.step xbd).put (b := wd.heap.size) (by simp) _ _ _)
 have mA : Hid (NewR u2 (w5.heap.size + 1) H1 ls1 [wd.heap.size, wp.heap.size] F2.A F2.n F2.c zs2 none) := by rw [hu2]; exact Lib.hid ((nA.out.step xbd).put (b := wd.heap.size) (by simp) _ _ _)
 have mD : Hid (NewR u2 (w5.heap.size + 1) H1 ls1 [wd.heap.size, wp.heap.size] F2.D F2.m F2.k ws2 F2.A) := by rw [hu2]; exact Lib.hid ((nD.out.step xbd).put (b := wd.heap.size) (by simp) _ _ _)
 have gA : Hid (WantR u2 (w5.heap.size + 1) H1 [wd.heap.size, wp.heap.size] G2.A G2.n G2.c zs2) := by rw [hu2]; exact Lib.hid ((WantR.of hS1.out hG.out.1 hG.out.2.2.1).put (b := wd.heap.size) (by simp) _ _ _)
 have gD : Hid (WantR u2 (w5.heap.size + 1) H1 [wd.heap.size, wp.heap.size] G2.D G2.m G2.k ws2) := by rw [hu2]; exact Lib.hid ((WantR.of hS1.out hG.out.2.1 hG.out.2.2.2).put (b := wd.heap.size) (by simp) _ _ _)
 obtain ⟨p0, p1, p2⟩ : u2.cell? ⟨wd.heap.size, 0, none⟩ = some (.bool r2) ∧ u2.cell? ⟨wd.heap.size, 1, none⟩ = some (.slice G2.A G2.n G2.c) ∧ u2.cell? ⟨wd.heap.size, 2, none⟩ = some (.slice G2.D G2.m G2.k) := by rw [hu2]; exact put_cells ((hS1.out.step xbd).locs wd.heap.size (by simp)).1 _ _ _
 have lr := (hS1.out.locs wp.heap.size (by simp)).1.lt
 have q0 : u2.cell? ⟨wp.heap.size, 0, none⟩ = some (.bool r2) := by rw [hu2]; exact ((hS1.out.step xbd).other (b2 := wp.heap.size) (by simp) hne _ _ _ 0).trans ((Below.cell (p := ⟨wp.heap.size, 0, none⟩) xbd lr).trans q0)
 have q1 : u2.cell? ⟨wp.heap.size, 1, none⟩ = some (.slice F2.A F2.n F2.c) := by rw [hu2]; exact ((hS1.out.step xbd).other (b2 := wp.heap.size) (by simp) hne _ _ _ 1).trans ((Below.cell (p := ⟨wp.heap.size, 1, none⟩) xbd lr).trans q1)
 have q2 : u2.cell? ⟨wp.heap.size, 2, none⟩ = some (.slice F2.D F2.m F2.k) := by rw [hu2]; exact ((hS1.out.step xbd).other (b2 := wp.heap.size) (by simp) hne _ _ _ 2).trans ((Below.cell (p := ⟨wp.heap.size, 2, none⟩) xbd lr).trans q2)
 clear lr
 have kA := hS2.out.adds r2 F2 G2 zs2 ws2 mA.out mD.out gA.out gD.out lz2 lw2 E2 (by omega) (by omega)
 rw [← hu2]
 have lr2 := (hS2.out.locs wp.heap.size (by simp)).1.lt
 have lw2 := (hS2.out.locs wd.heap.size (by simp)).1.lt
 clear hu2 xbd hG hS1 nA nD mA mD gA gD hS2 hl e0r e1r e2r f0r f1r f2r ltr a0 a1 a2 al b0 b1 b2 bl
 go_upto_region 19 with (first
  | (go_at_call 12; (with_reducible refine kA.mono ?_); rintro e v2 ⟨rfl, H2, hS, _⟩)
  )
 clear kA q0 q1 q2 p0 p1 p2 lr2 lw2
 obtain ⟨rs2, e1⟩ : ∃ z : List Rec, z = rs1 ++ [⟨r2, F2, G2, zs2, ws2⟩] := ⟨_, rfl⟩
 obtain ⟨ls2, e2⟩ : ∃ z : List Row, z = ls1 ++ [⟨F2.A, F2.n, zs2⟩, ⟨F2.D, F2.m, ws2⟩] := ⟨_, rfl⟩
 rw [← e1, ← e2] at hS
 replace nr : rs2.length = 2 := by rw [e1, List.length_append, nr]; rfl
 replace nl : ls2.length = 4 := by rw [e2, List.length_append, nl]; rfl
 clear e1 e2
 obtain ⟨x0, x1, x2, xl⟩ := hKx.out v2 hS.out.ext
 obtain ⟨y0, y1, y2, yl⟩ := hKy.out v2 hS.out.ext
 go_upto_region 20 with (first
  | (go_at_call 41; (with_reducible refine (kP3 X Y v2 (HT.out v2 hS.out.ext) (hX.out v2 hS.out.ext) (hY.out v2 hS.out.ext)).mono ?_); rintro e wq ⟨F3, rfl, hF, xbp⟩; have hl := ((hS.out.step xbp).locs wp.heap.size (by simp)).1; obtain ⟨y0r, e0r⟩ := hl.c0; obtain ⟨y1r, e1r⟩ := hl.c1; obtain ⟨y2r, e2r⟩ := hl.c2; have f0r := hl.froz 0; have f1r := hl.froz 1; have f2r := hl.froz 2; have ltr := hl.lt)
  )
 obtain ⟨u1, hu1⟩ : ∃ z, z = (((wq.setCell ⟨wp.heap.size, 0, none⟩ (.bool r3)).setCell ⟨wp.heap.size, 1, none⟩ (.slice F3.A F3.n F3.c)).setCell ⟨wp.heap.size, 2, none⟩ (.slice F3.D F3.m F3.k)) := ⟨_, rfl⟩
 have hS1 : Hid (Sta W u1 (w5.heap.size + 1) H2 rs2 ls2 [wd.heap.size, wp.heap.size]) := by rw [hu1]; exact Lib.hid ((hS.out.step xbp).put (b := wp.heap.size) (by simp) _ _ _)
 have nA : Hid (NewR u1 (w5.heap.size + 1) H2 ls2 [wd.heap.size, wp.heap.size] F3.A F3.n F3.c zs3 none) := by rw [hu1]; exact Lib.hid ((NewR.of hS.out hF.out.1 hF.out.2.1).put (b := wp.heap.size) (by simp) _ _ _)
 have nD : Hid (NewR u1 (w5.heap.size + 1) H2 ls2 [wd.heap.size, wp.heap.size] F3.D F3.m F3.k ws3 F3.A) := by rw [hu1]; exact Lib.hid ((NewR.of hS.out hF.out.2.2.1 hF.out.2.2.2).put (b := wp.heap.size) (by simp) _ _ _)
 obtain ⟨q0, q1, q2⟩ : u1.cell? ⟨wp.heap.size, 0, none⟩ = some (.bool r3) ∧ u1.cell? ⟨wp.heap.size, 1, none⟩ = some (.slice F3.A F3.n F3.c) ∧ u1.cell? ⟨wp.heap.size, 2, none⟩ = some (.slice F3.D F3.m F3.k) := by rw [hu1]; exact put_cells ((hS.out.step xbp).locs wp.heap.size (by simp)).1 _ _ _
 rw [← hu1]
 clear hu1 xbp hF hS hl e0r e1r e2r f0r f1r f2r ltr x0 x1 x2 xl y0 y1 y2 yl
 obtain ⟨a0, a1, a2, al⟩ := hKa.out u1 hS1.out.ext
 obtain ⟨b0, b1, b2, bl⟩ := hKb.out u1 hS1.out.ext
 go_upto_region 21 with (first
  | (go_at_call 42; (with_reducible refine (kD3 F0 G0 u1 (HT.out u1 hS1.out.ext) (hA.out u1 hS1.out.ext) (hB.out u1 hS1.out.ext)).mono ?_); rintro e we ⟨G3, rfl, hG, xbd⟩; have hl := ((hS1.out.step xbd).locs wd.heap.size (by simp)).1; obtain ⟨y0r, e0r⟩ := hl.c0; obtain ⟨y1r, e1r⟩ := hl.c1; obtain ⟨y2r, e2r⟩ := hl.c2; have f0r := hl.froz 0; have f1r := hl.froz 1; have f2r := hl.froz 2; have ltr := hl.lt)
  )
 obtain ⟨u2, hu2⟩ : ∃ z, z = (((we.setCell ⟨wd.heap.size, 0, none⟩ (.bool r3)).setCell ⟨wd.heap.size, 1, none⟩ (.slice G3.A G3.n G3.c)).setCell ⟨wd.heap.size, 2, none⟩ (.slice G3.D G3.m G3.k)) := ⟨_, rfl⟩
 have hS2 : Hid (Sta W u2 (w5.heap.size + 1) H2 rs2 ls2 [wd.heap.size, wp.heap.size]) := by rw [hu2]; exact Lib.hid ((hS1.out.step xbd).put (b := wd.heap.size) (by simp) _ _ _)
 have mA : Hid (NewR u2 (w5.heap.size + 1) H2 ls2 [wd.heap.size, wp.heap.size] F3.A F3.n F3.c zs3 none) := by rw [hu2]; exact Lib.hid ((nA.out.step xbd).put (b := wd.heap.size) (by simp) _ _ _)
 have mD : Hid (NewR u2 (w5.heap.size + 1) H2 ls2 [wd.heap.size, wp.heap.size] F3.D F3.m F3.k ws3 F3.A) := by rw [hu2]; exact Lib.hid ((nD.out.step xbd).put (b := wd.heap.size) (by simp) _ _ _)
 have gA : Hid (WantR u2 (w5.heap.size + 1) H2 [wd.heap.size, wp.heap.size] G3.A G3.n G3.c zs3) := by rw [hu2]; exact Lib.hid ((WantR.of hS1.out hG.out.1 hG.out.2.2.1).put (b := wd.heap.size) (by simp) _ _ _)
 have gD : Hid (WantR u2 (w5.heap.size + 1) H2 [wd.heap.size, wp.heap.size] G3.D G3.m G3.k ws3) := by rw [hu2]; exact Lib.hid ((WantR.of hS1.out hG.out.2.1 hG.out.2.2.2).put (b := wd.heap.size) (by simp) _ _ _)
 obtain ⟨p0, p1, p2⟩ : u2.cell? ⟨wd.heap.size, 0, none⟩ = some (.bool r3) ∧ u2.cell? ⟨wd.heap.size, 1, none⟩ = some (.slice G3.A G3.n G3.c) ∧ u2.cell? ⟨wd.heap.size, 2, none⟩ = some (.slice G3.D G3.m G3.k) := by rw [hu2]; exact put_cells ((hS1.out.step xbd).locs wd.heap.size (by simp)).1 _ _ _
 have lr := (hS1.out.locs wp.heap.size (by simp)).1.lt
 have q0 : u2.cell? ⟨wp.heap.size, 0, none⟩ = some (.bool r3) := by rw [hu2]; exact ((hS1.out.step xbd).other (b2 := wp.heap.size) (by simp) hne _ _ _ 0).trans ((Below.cell (p := ⟨wp.heap.size, 0, none⟩) xbd lr).trans q0)
 have q1 : u2.cell? ⟨wp.heap.size, 1, none⟩ = some (.slice F3.A F3.n F3.c) := by rw [hu2]; exact ((hS1.out.step xbd).other (b2 := wp.heap.size) (by simp) hne _ _ _ 1).trans ((Below.cell (p := ⟨wp.heap.size, 1, none⟩) xbd lr).trans q1)
 have q2 : u2.cell? ⟨wp.heap.size, 2, none⟩ = some (.slice F3.D F3.m F3.k) := by rw [hu2]; exact ((hS1.out.step xbd).other (b2 := wp.heap.size) (by simp) hne _ _ _ 2).trans ((Below.cell (p := ⟨wp.heap.size, 2, none⟩) xbd lr).trans q2)
 clear lr
 have kA := hS2.out.adds r3 F3 G3 zs3 ws3 mA.out mD.out gA.out gD.out lz3 lw3 E3 (by omega) (by omega)
 rw [← hu2]
 have lr2 := (hS2.out.locs wp.heap.size (by simp)).1.lt
 have lw2 := (hS2.out.locs wd.heap.size (by simp)).1.lt
 clear hu2 xbd hG hS1 nA nD mA mD gA gD hS2 hl e0r e1r e2r f0r f1r f2r ltr a0 a1 a2 al b0 b1 b2 bl
 go_upto_region 22 with (first
  | (go_at_call 12; (with_reducible refine kA.mono ?_); rintro e v3 ⟨rfl, H3, hS, _⟩)
  )
 clear kA q0 q1 q2 p0 p1 p2 lr2 lw2
 obtain ⟨rs3, e1⟩ : ∃ z : List Rec, z = rs2 ++ [⟨r3, F3, G3, zs3, ws3⟩] := ⟨_, rfl⟩
 obtain ⟨ls3, e2⟩ : ∃ z : List Row, z = ls2 ++ [⟨F3.A, F3.n, zs3⟩, ⟨F3.D, F3.m, ws3⟩] := ⟨_, rfl⟩
 rw [← e1, ← e2] at hS
 replace nr : rs3.length = 3 := by rw [e1, List.length_append, nr]; rfl
 replace nl : ls3.length = 6 := by rw [e2, List.length_append, nl]; rfl
 clear e1 e2
 obtain ⟨x0, x1, x2, xl⟩ := hKx.out v3 hS.out.ext
 obtain ⟨y0, y1, y2, yl⟩ := hKy.out v3 hS.out.ext
 go_upto_region 23 with (first
  | (go_at_call 43; (with_reducible refine (kP4 X Y v3 (HT.out v3 hS.out.ext) (hX.out v3 hS.out.ext) (hY.out v3 hS.out.ext)).mono ?_); rintro e wq ⟨F4, rfl, hF, xbp⟩; have hl := ((hS.out.step xbp).locs wp.heap.size (by simp)).1; obtain ⟨y0r, e0r⟩ := hl.c0; obtain ⟨y1r, e1r⟩ := hl.c1; obtain ⟨y2r, e2r⟩ := hl.c2; have f0r := hl.froz 0; have f1r := hl.froz 1; have f2r := hl.froz 2; have ltr := hl.lt)
  )
 obtain ⟨u1, hu1⟩ : ∃ z, z = (((wq.setCell ⟨wp.heap.size, 0, none⟩ (.bool r4)).setCell ⟨wp.heap.size, 1, none⟩ (.slice F4.A F4.n F4.c)).setCell ⟨wp.heap.size, 2, none⟩ (.slice F4.D F4.m F4.k)) := ⟨_, rfl⟩
 have hS1 : Hid (Sta W u1 (w5.heap.size + 1) H3 rs3 ls3 [wd.heap.size, wp.heap.size]) := by rw [hu1]; exact Lib.hid ((hS.out.step xbp).put (b := wp.heap.size) (by simp) _ _ _)
 have nA : Hid (NewR u1 (w5.heap.size + 1) H3 ls3 [wd.heap.size, wp.heap.size] F4.A F4.n F4.c zs4 none) := by rw [hu1]; exact Lib.hid ((NewR.of hS.out hF.out.1 hF.out.2.1).put (b := wp.heap.size) (by simp) _ _ _)
 have nD : Hid (NewR u1 (w5.heap.size + 1) H3 ls3 [wd.heap.size, wp.heap.size] F4.D F4.m F4.k ws4 F4.A) := by rw [hu1]; exact Lib.hid ((NewR.of hS.out hF.out.2.2.1 hF.out.2.2.2).put (b := wp.heap.size) (by simp) _ _ _)
 obtain ⟨q0, q1, q2⟩ : u1.cell? ⟨wp.heap.size, 0, none⟩ = some (.bool r4) ∧ u1.cell? ⟨wp.heap.size, 1, none⟩ = some (.slice F4.A F4.n F4.c) ∧ u1.cell? ⟨wp.heap.size, 2, none⟩ = some (.slice F4.D F4.m F4.k) := by rw [hu1]; exact put_cells ((hS.out.step xbp).locs wp.heap.size (by simp)).1 _ _ _
 rw [← hu1]
 clear hu1 xbp hF hS hl e0r e1r e2r f0r f1r f2r ltr x0 x1 x2 xl y0 y1 y2 yl
 obtain ⟨a0, a1, a2, al⟩ := hKa.out u1 hS1.out.ext
 obtain ⟨b0, b1, b2, bl⟩ := hKb.out u1 hS1.out.ext
 go_upto_region 24 with (first
  | (go_at_call 44; (with_reducible refine (kD4 F0 G0 u1 (HT.out u1 hS1.out.ext) (hA.out u1 hS1.out.ext) (hB.out u1 hS1.out.ext)).mono ?_); rintro e we ⟨G4, rfl, hG, xbd⟩; have hl := ((hS1.out.step xbd).locs wd.heap.size (by simp)).1; obtain ⟨y0r, e0r⟩ := hl.c0; obtain ⟨y1r, e1r⟩ := hl.c1; obtain ⟨y2r, e2r⟩ := hl.c2; have f0r := hl.froz 0; have f1r := hl.froz 1; have f2r := hl.froz 2; have ltr := hl.lt)
  )
 obtain ⟨u2, hu2⟩ : ∃ z, z = (((we.setCell ⟨wd.heap.size, 0, none⟩ (.bool r4)).setCell ⟨wd.heap.size, 1, none⟩ (.slice G4.A G4.n G4.c)).setCell ⟨wd.heap.size, 2, none⟩ (.slice G4.D G4.m G4.k)) := ⟨_, rfl⟩
 have hS2 : Hid (Sta W u2 (w5.heap.size + 1) H3 rs3 ls3 [wd.heap.size, wp.heap.size]) := by rw [hu2]; exact Lib.hid ((hS1.out.step xbd).put (b := wd.heap.size) (by simp) _ _ _)
 have mA : Hid (NewR u2 (w5.heap.size + 1) H3 ls3 [wd.heap.size, wp.heap.size] F4.A F4.n F4.c zs4 none) := by rw [hu2]; exact Lib.hid ((nA.out.step xbd).put (b := wd.heap.size) (by simp) _ _ _)
 have mD : Hid (NewR u2 (w5.heap.size + 1) H3 ls3 [wd.heap.size, wp.heap.size] F4.D F4.m F4.k ws4 F4.A) := by rw [hu2]; exact Lib.hid ((nD.out.step xbd).put (b := wd.heap.size) (by simp) _ _ _)
 have gA : Hid (WantR u2 (w5.heap.size + 1) H3 [wd.heap.size, wp.heap.size] G4.A G4.n G4.c zs4) := by rw [hu2]; exact Lib.hid ((WantR.of hS1.out hG.out.1 hG.out.2.2.1).put (b := wd.heap.size) (by simp) _ _ _)
 have gD : Hid (WantR u2 (w5.heap.size + 1) H3 [wd.heap.size, wp.heap.size] G4.D G4.m G4.k ws4) := by rw [hu2]; exact Lib.hid ((WantR.of hS1.out hG.out.2.1 hG.out.2.2.2).put (b := wd.heap.size) (by simp) _ _ _)
 obtain ⟨p0, p1, p2⟩ : u2.cell? ⟨wd.heap.size, 0, none⟩ = some (.bool r4) ∧ u2.cell? ⟨wd.heap.size, 1, none⟩ = some (.slice G4.A G4.n G4.c) ∧ u2.cell? ⟨wd.heap.size, 2, none⟩ = some (.slice G4.D G4.m G4.k) := by rw [hu2]; exact put_cells ((hS1.out.step xbd).locs wd.heap.size (by simp)).1 _ _ _
 have lr := (hS1.out.locs wp.heap.size (by simp)).1.lt
 have q0 : u2.cell? ⟨wp.heap.size, 0, none⟩ = some (.bool r4) := by rw [hu2]; exact ((hS1.out.step xbd).other (b2 := wp.heap.size) (by simp) hne _ _ _ 0).trans ((Below.cell (p := ⟨wp.heap.size, 0, none⟩) xbd lr).trans q0)
 have q1 : u2.cell? ⟨wp.heap.size, 1, none⟩ = some (.slice F4.A F4.n F4.c) := by rw [hu2]; exact ((hS1.out.step xbd).other (b2 := wp.heap.size) (by simp) hne _ _ _ 1).trans ((Below.cell (p := ⟨wp.heap.size, 1, none⟩) xbd lr).trans q1)
 have q2 : u2.cell? ⟨wp.heap.size, 2, none⟩ = some (.slice F4.D F4.m F4.k) := by rw [hu2]; exact ((hS1.out.step xbd).other (b2 := wp.heap.size) (by simp) hne _ _ _ 2).trans ((Below.cell (p := ⟨wp.heap.size, 2, none⟩) xbd lr).trans q2)
 clear lr
 have kA := hS2.out.adds r4 F4 G4 zs4 ws4 mA.out mD.out gA.out gD.out lz4 lw4 E4 (by omega) (by omega)
 rw [← hu2]
 have lr2 := (hS2.out.locs wp.heap.size (by simp)).1.lt
 have lw2 := (hS2.out.locs wd.heap.size (by simp)).1.lt
 clear hu2 xbd hG hS1 nA nD mA mD gA gD hS2 hl e0r e1r e2r f0r f1r f2r ltr a0 a1 a2 al b0 b1 b2 bl
 go_upto_region 25 with (first
  | (go_at_call 12; (with_reducible refine kA.mono ?_); rintro e v4 ⟨rfl, H4, hS, _⟩)
  )
 clear kA q0 q1 q2 p0 p1 p2 lr2 lw2
 obtain ⟨rs4, e1⟩ : ∃ z : List Rec, z = rs3 ++ [⟨r4, F4, G4, zs4, ws4⟩] := ⟨_, rfl⟩
 obtain ⟨ls4, e2⟩ : ∃ z : List Row, z = ls3 ++ [⟨F4.A, F4.n, zs4⟩, ⟨F4.D, F4.m, ws4⟩] := ⟨_, rfl⟩
 rw [← e1, ← e2] at hS
 replace nr : rs4.length = 4 := by rw [e1, List.length_append, nr]; rfl
 replace nl : ls4.length = 8 := by rw [e2, List.length_append, nl]; rfl
 clear e1 e2
 obtain ⟨x0, x1, x2, xl⟩ := hKx.out v4 hS.out.ext
 go_upto_region 26 with (first
  | (go_at_call 39; (with_reducible refine (kP5 X X v4 (HT.out v4 hS.out.ext) (hX.out v4 hS.out.ext) (hX.out v4 hS.out.ext)).mono ?_); rintro e wq ⟨F5, rfl, hF, xbp⟩; have hl := ((hS.out.step xbp).locs wp.heap.size (by simp)).1; obtain ⟨y0r, e0r⟩ := hl.c0; obtain ⟨y1r, e1r⟩ := hl.c1; obtain ⟨y2r, e2r⟩ := hl.c2; have f0r := hl.froz 0; have f1r := hl.froz 1; have f2r := hl.froz 2; have ltr := hl.lt)
  )
 obtain ⟨u1, hu1⟩ : ∃ z, z = (((wq.setCell ⟨wp.heap.size, 0, none⟩ (.bool r5)).setCell ⟨wp.heap.size, 1, none⟩ (.slice F5.A F5.n F5.c)).setCell ⟨wp.heap.size, 2, none⟩ (.slice F5.D F5.m F5.k)) := ⟨_, rfl⟩
 have hS1 : Hid (Sta W u1 (w5.heap.size + 1) H4 rs4 ls4 [wd.heap.size, wp.heap.size]) := by rw [hu1]; exact Lib.hid ((hS.out.step xbp).put (b := wp.heap.size) (by simp) _ _ _)
 have nA : Hid (NewR u1 (w5.heap.size + 1) H4 ls4 [wd.heap.size, wp.heap.size] F5.A F5.n F5.c zs5 none) := by rw [hu1]; exact Lib.hid ((NewR.of hS.out hF.out.1 hF.out.2.1).put (b := wp.heap.size) (by simp) _ _ _)
 have nD : Hid (NewR u1 (w5.heap.size + 1) H4 ls4 [wd.heap.size, wp.heap.size] F5.D F5.m F5.k ws5 F5.A) := by rw [hu1]; exact Lib.hid ((NewR.of hS.out hF.out.2.2.1 hF.out.2.2.2).put (b := wp.heap.size) (by simp) _ _ _)
 obtain ⟨q0, q1, q2⟩ : u1.cell? ⟨wp.heap.size, 0, none⟩ = some (.bool r5) ∧ u1.cell? ⟨wp.heap.size, 1, none⟩ = some (.slice F5.A F5.n F5.c) ∧ u1.cell? ⟨wp.heap.size, 2, none⟩ = some (.slice F5.D F5.m F5.k) := by rw [hu1]; exact put_cells ((hS.out.step xbp).locs wp.heap.size (by simp)).1 _ _ _
 rw [← hu1]
 clear hu1 xbp hF hS hl e0r e1r e2r f0r f1r f2r ltr x0 x1 x2 xl
 obtain ⟨a0, a1, a2, al⟩ := hKa.out u1 hS1.out.ext
 go_upto_region 27 with (first
  | (go_at_call 40; (with_reducible refine (kD5 F0 F0 u1 (HT.out u1 hS1.out.ext) (hA.out u1 hS1.out.ext) (hA.out u1 hS1.out.ext)).mono ?_); rintro e we ⟨G5, rfl, hG, xbd⟩; have hl := ((hS1.out.step xbd).locs wd.heap.size (by simp)).1; obtain ⟨y0r, e0r⟩ := hl.c0; obtain ⟨y1r, e1r⟩ := hl.c1; obtain ⟨y2r, e2r⟩ := hl.c2; have f0r := hl.froz 0; have f1r := hl.froz 1; have f2r := hl.froz 2; have ltr := hl.lt)
  )
 obtain ⟨u2, hu2⟩ : ∃ z, z = (((we.setCell ⟨wd.heap.size, 0, none⟩ (.bool r5)).setCell ⟨wd.heap.size, 1, none⟩ (.slice G5.A G5.n G5.c)).setCell ⟨wd.heap.size, 2, none⟩ (.slice G5.D G5.m G5.k)) := ⟨_, rfl⟩
 have hS2 : Hid (Sta W u2 (w5.heap.size + 1) H4 rs4 ls4 [wd.heap.size, wp.heap.size]) := by rw [hu2]; exact Lib.hid ((hS1.out.step xbd).put (b := wd.heap.size) (by simp) _ _ _)
 have mA : Hid (NewR u2 (w5.heap.size + 1) H4 ls4 [wd.heap.size, wp.heap.size] F5.A F5.n F5.c zs5 none) := by rw [hu2]; exact Lib.hid ((nA.out.step xbd).put (b := wd.heap.size) (by simp) _ _ _)
 have mD : Hid (NewR u2 (w5.heap.size + 1) H4 ls4 [wd.heap.size, wp.heap.size] F5.D F5.m F5.k ws5 F5.A) := by rw [hu2]; exact Lib.hid ((nD.out.step xbd).put (b := wd.heap.size) (by simp) _ _ _)
 have gA : Hid (WantR u2 (w5.heap.size + 1) H4 [wd.heap.size, wp.heap.size] G5.A G5.n G5.c zs5) := by rw [hu2]; exact Lib.hid ((WantR.of hS1.out hG.out.1 hG.out.2.2.1).put (b := wd.heap.size) (by simp) _ _ _)
 have gD : Hid (WantR u2 (w5.heap.size + 1) H4 [wd.heap.size, wp.heap.size] G5.D G5.m G5.k ws5) := by rw [hu2]; exact Lib.hid ((WantR.of hS1.out hG.out.2.1 hG.out.2.2.2).put (b := wd.heap.size) (by simp) _ _ _)
 obtain ⟨p0, p1, p2⟩ : u2.cell? ⟨wd.heap.size, 0, none⟩ = some (.bool r5) ∧ u2.cell? ⟨wd.heap.size, 1, none⟩ = some (.slice G5.A G5.n G5.c) ∧ u2.cell? ⟨wd.heap.size, 2, none⟩ = some (.slice G5.D G5.m G5.k) := by rw [hu2]; exact put_cells ((hS1.out.step xbd).locs wd.heap.size (by simp)).1 _ _ _
 have lr := (hS1.out.locs wp.heap.size (by simp)).1.lt
 have q0 : u2.cell? ⟨wp.heap.size, 0, none⟩ = some (.bool r5) := by rw [hu2]; exact ((hS1.out.step xbd).other (b2 := wp.heap.size) (by simp) hne _ _ _ 0).trans ((Below.cell (p := ⟨wp.heap.size, 0, none⟩) xbd lr).trans q0)
 have q1 : u2.cell? ⟨wp.heap.size, 1, none⟩ = some (.slice F5.A F5.n F5.c) := by rw [hu2]; exact ((hS1.out.step xbd).other (b2 := wp.heap.size) (by simp) hne _ _ _ 1).trans ((Below.cell (p := ⟨wp.heap.size, 1, none⟩) xbd lr).trans q1)
 have q2 : u2.cell? ⟨wp.heap.size, 2, none⟩ = some (.slice F5.D F5.m F5.k) := by rw [hu2]; exact ((hS1.out.step xbd).other (b2 := wp.heap.size) (by simp) hne _ _ _ 2).trans ((Below.cell (p := ⟨wp.heap.size, 2, none⟩) xbd lr).trans q2)
 clear lr
 have kA := hS2.out.adds r5 F5 G5 zs5 ws5 mA.out mD.out gA.out gD.out lz5 lw5 E5 (by omega) (by omega)
 rw [← hu2]
 have lr2 := (hS2.out.locs wp.heap.size (by simp)).1.lt
 have lw2 := (hS2.out.locs wd.heap.size (by simp)).1.lt
 clear hu2 xbd hG hS1 nA nD mA mD gA gD hS2 hl e0r e1r e2r f0r f1r f2r ltr a0 a1 a2 al
 go_upto_region 28 with (first
  | (go_at_call 12; (with_reducible refine kA.mono ?_); rintro e v5 ⟨rfl, H5, hS, _⟩)
  )
 clear kA q0 q1 q2 p0 p1 p2 lr2 lw2
 obtain ⟨rs5, e1⟩ : ∃ z : List Rec, z = rs4 ++ [⟨r5, F5, G5, zs5, ws5⟩] := ⟨_, rfl⟩
 obtain ⟨ls5, e2⟩ : ∃ z : List Row, z = ls4 ++ [⟨F5.A, F5.n, zs5⟩, ⟨F5.D, F5.m, ws5⟩] := ⟨_, rfl⟩
 rw [← e1, ← e2] at hS
 replace nr : rs5.length = 5 := by rw [e1, List.length_append, nr]; rfl
 replace nl : ls5.length = 10 := by rw [e2, List.length_append, nl]; rfl
 clear e1 e2
 obtain ⟨y0, y1, y2, yl⟩ := hKy.out v5 hS.out.ext
 go_upto_region 29 with (first
  | (go_at_call 43; (with_reducible refine (kP6 Y Y v5 (HT.out v5 hS.out.ext) (hY.out v5 hS.out.ext) (hY.out v5 hS.out.ext)).mono ?_); rintro e wq ⟨F6, rfl, hF, xbp⟩; have hl := ((hS.out.step xbp).locs wp.heap.size (by simp)).1; obtain ⟨y0r, e0r⟩ := hl.c0; obtain ⟨y1r, e1r⟩ := hl.c1; obtain ⟨y2r, e2r⟩ := hl.c2; have f0r := hl.froz 0; have f1r := hl.froz 1; have f2r := hl.froz 2; have ltr := hl.lt)
  )
 obtain ⟨u1, hu1⟩ : ∃ z, z = (((wq.setCell ⟨wp.heap.size, 0, none⟩ (.bool r6)).setCell ⟨wp.heap.size, 1, none⟩ (.slice F6.A F6.n F6.c)).setCell ⟨wp.heap.size, 2, none⟩ (.slice F6.D F6.m F6.k)) := ⟨_, rfl⟩
 have hS1 : Hid (Sta W u1 (w5.heap.size + 1) H5 rs5 ls5 [wd.heap.size, wp.heap.size]) := by rw [hu1]; exact Lib.hid ((hS.out.step xbp).put (b := wp.heap.size) (by simp) _ _ _)
 have nA : Hid (NewR u1 (w5.heap.size + 1) H5 ls5 [wd.heap.size, wp.heap.size] F6.A F6.n F6.c zs6 none) := by rw [hu1]; exact Lib.hid ((NewR.of hS.out hF.out.1 hF.out.2.1).put (b := wp.heap.size) (by simp) _ _ _)
 have nD : Hid (NewR u1 (w5.heap.size + 1) H5 ls5 [wd.heap.size, wp.heap.size] F6.D F6.m F6.k ws6 F6.A) := by rw [hu1]; exact Lib.hid ((NewR.of hS.out hF.out.2.2.1 hF.out.2.2.2).put (b := wp.heap.size) (by simp) _ _ _)
 obtain ⟨q0, q1, q2⟩ : u1.cell? ⟨wp.heap.size, 0, none⟩ = some (.bool r6) ∧ u1.cell? ⟨wp.heap.size, 1, none⟩ = some (.slice F6.A F6.n F6.c) ∧ u1.cell? ⟨wp.heap.size, 2, none⟩ = some (.slice F6.D F6.m F6.k) := by rw [hu1]; exact put_cells ((hS.out.step xbp).locs wp.heap.size (by simp)).1 _ _ _
 rw [← hu1]
 clear hu1 xbp hF hS hl e0r e1r e2r f0r f1r f2r ltr y0 y1 y2 yl
 obtain ⟨b0, b1, b2, bl⟩ := hKb.out u1 hS1.out.ext
 go_upto_region 30 with (first
  | (go_at_call 44; (with_reducible refine (kD6 G0 G0 u1 (HT.out u1 hS1.out.ext) (hB.out u1 hS1.out.ext) (hB.out u1 hS1.out.ext)).mono ?_); rintro e we ⟨G6, rfl, hG, xbd⟩; have hl := ((hS1.out.step xbd).locs wd.heap.size (by simp)).1; obtain ⟨y0r, e0r⟩ := hl.c0; obtain ⟨y1r, e1r⟩ := hl.c1; obtain ⟨y2r, e2r⟩ := hl.c2; have f0r := hl.froz 0; have f1r := hl.froz 1; have f2r := hl.froz 2; have ltr := hl.lt)
  )
 obtain ⟨u2, hu2⟩ : ∃ z, z = (((we.setCell ⟨wd.heap.size, 0, none⟩ (.bool r6)).setCell ⟨wd.heap.size, 1, none⟩ (.slice G6.A G6.n G6.c)).setCell ⟨wd.heap.size, 2, none⟩ (.slice G6.D G6.m G6.k)) := ⟨_, rfl⟩
 have hS2 : Hid (Sta W u2 (w5.heap.size + 1) H5 rs5 ls5 [wd.heap.size, wp.heap.size]) := by rw [hu2]; exact Lib.hid ((hS1.out.step xbd).put (b := wd.heap.size) (by simp) _ _ _)
 have mA : Hid (NewR u2 (w5.heap.size + 1) H5 ls5 [wd.heap.size, wp.heap.size] F6.A F6.n F6.c zs6 none) := by rw [hu2]; exact Lib.hid ((nA.out.step xbd).put (b := wd.heap.size) (by simp) _ _ _)
 have mD : Hid (NewR u2 (w5.heap.size + 1) H5 ls5 [wd.heap.size, wp.heap.size] F6.D F6.m F6.k ws6 F6.A) := by rw [hu2]; exact Lib.hid ((nD.out.step xbd).put (b := wd.heap.size) (by simp) _ _ _)
 have gA : Hid (WantR u2 (w5.heap.size + 1) H5 [wd.heap.size, wp.heap.size] G6.A G6.n G6.c zs6) := by rw [hu2]; exact Lib.hid ((WantR.of hS1.out hG.out.1 hG.out.2.2.1).put (b := wd.heap.size) (by simp) _ _ _)
 have gD : Hid (WantR u2 (w5.heap.size + 1) H5 [wd.heap.size, wp.heap.size] G6.D G6.m G6.k ws6) := by rw [hu2]; exact Lib.hid ((WantR.of hS1.out hG.out.2.1 hG.out.2.2.2).put (b := wd.heap.size) (by simp) _ _ _)
 obtain ⟨p0, p1, p2⟩ : u2.cell? ⟨wd.heap.size, 0, none⟩ = some (.bool r6) ∧ u2.cell? ⟨wd.heap.size, 1, none⟩ = some (.slice G6.A G6.n G6.c) ∧ u2.cell? ⟨wd.heap.size, 2, none⟩ = some (.slice G6.D G6.m G6.k) := by rw [hu2]; exact put_cells ((hS1.out.step xbd).locs wd.heap.size (by simp)).1 _ _ _
 have lr := (hS1.out.locs wp.heap.size (by simp)).1.lt
 have q0 : u2.cell? ⟨wp.heap.size, 0, none⟩ = some (.bool r6) := by rw [hu2]; exact ((hS1.out.step xbd).other (b2 := wp.heap.size) (by simp) hne _ _ _ 0).trans ((Below.cell (p := ⟨wp.heap.size, 0, none⟩) xbd lr).trans q0)
 have q1 : u2.cell? ⟨wp.heap.size, 1, none⟩ = some (.slice F6.A F6.n F6.c) := by rw [hu2]; exact ((hS1.out.step xbd).other (b2 := wp.heap.size) (by simp) hne _ _ _ 1).trans ((Below.cell (p := ⟨wp.heap.size, 1, none⟩) xbd lr).trans q1)
 have q2 : u2.cell? ⟨wp.heap.size, 2, none⟩ = some (.slice F6.D F6.m F6.k) := by rw [hu2]; exact ((hS1.out.step xbd).other (b2 := wp.heap.size) (by simp) hne _ _ _ 2).trans ((Below.cell (p := ⟨wp.heap.size, 2, none⟩) xbd lr).trans q2)
 clear lr
 have kA := hS2.out.adds r6 F6 G6 zs6 ws6 mA.out mD.out gA.out gD.out lz6 lw6 E6 (by omega) (by omega)
 rw [← hu2]
 have lr2 := (hS2.out.locs wp.heap.size (by simp)).1.lt
 have lw2 := (hS2.out.locs wd.heap.size (by simp)).1.lt
 clear hu2 xbd hG hS1 nA nD mA mD gA gD hS2 hl e0r e1r e2r f0r f1r f2r ltr b0 b1 b2 bl
 go_upto_region 31 with (first
  | (go_at_call 12; (with_reducible refine kA.mono ?_); rintro e v6 ⟨rfl, H6, hS, _⟩)
  )
 clear kA q0 q1 q2 p0 p1 p2 lr2 lw2
 obtain ⟨rs6, e1⟩ : ∃ z : List Rec, z = rs5 ++ [⟨r6, F6, G6, zs6, ws6⟩] := ⟨_, rfl⟩
 obtain ⟨ls6, e2⟩ : ∃ z : List Row, z = ls5 ++ [⟨F6.A, F6.n, zs6⟩, ⟨F6.D, F6.m, ws6⟩] := ⟨_, rfl⟩
 rw [← e1, ← e2] at hS
 replace nr : rs6.length = 6 := by rw [e1, List.length_append, nr]; rfl
 replace nl : ls6.length = 12 := by rw [e2, List.length_append, nl]; rfl
 clear e1 e2
 obtain ⟨x0, x1, x2, xl⟩ := hKx.out v6 hS.out.ext
 go_upto_region 32 with (first
  | (go_at_call 41; (with_reducible refine (kP7 X X v6 (HT.out v6 hS.out.ext) (hX.out v6 hS.out.ext) (hX.out v6 hS.out.ext)).mono ?_); rintro e wq ⟨F7, rfl, hF, xbp⟩; have hl := ((hS.out.step xbp).locs wp.heap.size (by simp)).1; obtain ⟨y0r, e0r⟩ := hl.c0; obtain ⟨y1r, e1r⟩ := hl.c1; obtain ⟨y2r, e2r⟩ := hl.c2; have f0r := hl.froz 0; have f1r := hl.froz 1; have f2r := hl.froz 2; have ltr := hl.lt)
  )
 obtain ⟨u1, hu1⟩ : ∃ z, z = (((wq.setCell ⟨wp.heap.size, 0, none⟩ (.bool r7)).setCell ⟨wp.heap.size, 1, none⟩ (.slice F7.A F7.n F7.c)).setCell ⟨wp.heap.size, 2, none⟩ (.slice F7.D F7.m F7.k)) := ⟨_, rfl⟩
 have hS1 : Hid (Sta W u1 (w5.heap.size + 1) H6 rs6 ls6 [wd.heap.size, wp.heap.size]) := by rw [hu1]; exact Lib.hid ((hS.out.step xbp).put (b := wp.heap.size) (by simp) _ _ _)
 have nA : Hid (NewR u1 (w5.heap.size + 1) H6 ls6 [wd.heap.size, wp.heap.size] F7.A F7.n F7.c zs7 none) := by rw [hu1]; exact Lib.hid ((NewR.of hS.out hF.out.1 hF.out.2.1).put (b := wp.heap.size) (by simp) _ _ _)
 have nD : Hid (NewR u1 (w5.heap.size + 1) H6 ls6 [wd.heap.size, wp.heap.size] F7.D F7.m F7.k ws7 F7.A) := by rw [hu1]; exact Lib.hid ((NewR.of hS.out hF.out.2.2.1 hF.out.2.2.2).put (b := wp.heap.size) (by simp) _ _ _)
 obtain ⟨q0, q1, q2⟩ : u1.cell? ⟨wp.heap.size, 0, none⟩ = some (.bool r7) ∧ u1.cell? ⟨wp.heap.size, 1, none⟩ = some (.slice F7.A F7.n F7.c) ∧ u1.cell? ⟨wp.heap.size, 2, none⟩ = some (.slice F7.D F7.m F7.k) := by rw [hu1]; exact put_cells ((hS.out.step xbp).locs wp.heap.size (by simp)).1 _ _ _
 rw [← hu1]
 clear hu1 xbp hF hS hl e0r e1r e2r f0r f1r f2r ltr x0 x1 x2 xl
 obtain ⟨a0, a1, a2, al⟩ := hKa.out u1 hS1.out.ext
 go_upto_region 33 with (first
  | (go_at_call 42; (with_reducible refine (kD7 F0 F0 u1 (HT.out u1 hS1.out.ext) (hA.out u1 hS1.out.ext) (hA.out u1 hS1.out.ext)).mono ?_); rintro e we ⟨G7, rfl, hG, xbd⟩; have hl := ((hS1.out.step xbd).locs wd.heap.size (by simp)).1; obtain ⟨y0r, e0r⟩ := hl.c0; obtain ⟨y1r, e1r⟩ := hl.c1; obtain ⟨y2r, e2r⟩ := hl.c2; have f0r := hl.froz 0; have f1r := hl.froz 1; have f2r := hl.froz 2; have ltr := hl.lt)
  )
 obtain ⟨u2, hu2⟩ : ∃ z, z = (((we.setCell ⟨wd.heap.size, 0, none⟩ (.bool r7)).setCell ⟨wd.heap.size, 1, none⟩ (.slice G7.A G7.n G7.c)).setCell ⟨wd.heap.size, 2, none⟩ (.slice G7.D G7.m G7.k)) := ⟨_, rfl⟩
 have hS2 : Hid (Sta W u2 (w5.heap.size + 1) H6 rs6 ls6 [wd.heap.size, wp.heap.size]) := by rw [hu2]; exact Lib.hid ((hS1.out.step xbd).put (b := wd.heap.size) (by simp) _ _ _)
 have mA : Hid (NewR u2 (w5.heap.size + 1) H6 ls6 [wd.heap.size, wp.heap.size] F7.A F7.n F7.c zs7 none) := by rw [hu2]; exact Lib.hid ((nA.out.step xbd).put (b := wd.heap.size) (by simp) _ _ _)
 have mD : Hid (NewR u2 (w5.heap.size + 1) H6 ls6 [wd.heap.size, wp.heap.size] F7.D F7.m F7.k ws7 F7.A) := by rw [hu2]; exact Lib.hid ((nD.out.step xbd).put (b := wd.heap.size) (by simp) _ _ _)
 have gA : Hid (WantR u2 (w5.heap.size + 1) H6 [wd.heap.size, wp.heap.size] G7.A G7.n G7.c zs7) := by rw [hu2]; exact Lib.hid ((WantR.of hS1.out hG.out.1 hG.out.2.2.1).put (b := wd.heap.size) (by simp) _ _ _)
 have gD : Hid (WantR u2 (w5.heap.size + 1) H6 [wd.heap.size, wp.heap.size] G7.D G7.m G7.k ws7) := by rw [hu2]; exact Lib.hid ((WantR.of hS1.out hG.out.2.1 hG.out.2.2.2).put (b := wd.heap.size) (by simp) _ _ _)
 obtain ⟨p0, p1, p2⟩ : u2.cell? ⟨wd.heap.size, 0, none⟩ = some (.bool r7) ∧ u2.cell? ⟨wd.heap.size, 1, none⟩ = some (.slice G7.A G7.n G7.c) ∧ u2.cell? ⟨wd.heap.size, 2, none⟩ = some (.slice G7.D G7.m G7.k) := by rw [hu2]; exact put_cells ((hS1.out.step xbd).locs wd.heap.size (by simp)).1 _ _ _
 have lr := (hS1.out.locs wp.heap.size (by simp)).1.lt
 have q0 : u2.cell? ⟨wp.heap.size, 0, none⟩ = some (.bool r7) := by rw [hu2]; exact ((hS1.out.step xbd).other (b2 := wp.heap.size) (by simp) hne _ _ _ 0).trans ((Below.cell (p := ⟨wp.heap.size, 0, none⟩) xbd lr).trans q0)
 have q1 : u2.cell? ⟨wp.heap.size, 1, none⟩ = some (.slice F7.A F7.n F7.c) := by rw [hu2]; exact ((hS1.out.step xbd).other (b2 := wp.heap.size) (by simp) hne _ _ _ 1).trans ((Below.cell (p := ⟨wp.heap.size, 1, none⟩) xbd lr).trans q1)
 have q2 : u2.cell? ⟨wp.heap.size, 2, none⟩ = some (.slice F7.D F7.m F7.k) := by rw [hu2]; exact ((hS1.out.step xbd).other (b2 := wp.heap.size) (by simp) hne _ _ _ 2).trans ((Below.cell (p := ⟨wp.heap.size, 2, none⟩) xbd lr).trans q2)
 clear lr
 have kA := hS2.out.adds r7 F7 G7 zs7 ws7 mA.out mD.out gA.out gD.out lz7 lw7 E7 (by omega) (by omega)
 rw [← hu2]
 have lr2 := (hS2.out.locs wp.heap.size (by simp)).1.lt
 have lw2 := (hS2.out.locs wd.heap.size (by simp)).1.lt
 clear hu2 xbd hG hS1 nA nD mA mD gA gD hS2 hl e0r e1r e2r f0r f1r f2r ltr a0 a1 a2 al
 go_upto_region 34 with (first
  | (go_at_call 12; (with_reducible refine kA.mono ?_); rintro e v7 ⟨rfl, H7, hS, _⟩)
  )
 clear kA q0 q1 q2 p0 p1 p2 lr2 lw2
 obtain ⟨rs7, e1⟩ : ∃ z : List Rec, z = rs6 ++ [⟨r7, F7, G7, zs7, ws7⟩] := ⟨_, rfl⟩
 obtain ⟨ls7, e2⟩ : ∃ z : List Row, z = ls6 ++ [⟨F7.A, F7.n, zs7⟩, ⟨F7.D, F7.m, ws7⟩] := ⟨_, rfl⟩
 rw [← e1, ← e2] at hS
 replace nr : rs7.length = 7 := by rw [e1, List.length_append, nr]; rfl
 replace nl : ls7.length = 14 := by rw [e2, List.length_append, nl]; rfl
 clear e1 e2
 obtain ⟨a0, a1, a2, al⟩ := hKa.out v7 hS.out.ext
 obtain ⟨x0, x1, x2, xl⟩ := hKx.out v7 hS.out.ext
 have kSx : Calls Tryz.prog 25 #[fV sa X, fV sa F0] v7 fun e w' => e = .returned (.bool true) ∧ Ext v7 w' := by
  rw [HXe.out]; exact rl_still sa g4 F0.n c4 h4 F0.m d4 xs ys F0.A F0.c F0.D F0.k v7 (hLx.out v7 hS.out.ext) (hA.out v7 hS.out.ext).num (hA.out v7 hS.out.ext).den
 go_upto_region 35 with (first
  | (go_at_call 25; (with_reducible refine kSx.mono ?_); rintro e z1 ⟨rfl, xb1⟩)
  )
 have hS1 := Lib.hid (hS.out.step xb1)
 clear xb1 hS kSx a0 a1 a2 al x0 x1 x2 xl
 obtain ⟨b0, b1, b2, bl⟩ := hKb.out z1 hS1.out.ext
 obtain ⟨y0, y1, y2, yl⟩ := hKy.out z1 hS1.out.ext
 have kSy : Calls Tryz.prog 25 #[fV sb Y, fV sb G0] z1 fun e w' => e = .returned (.bool true) ∧ Ext z1 w' := by
  rw [HYe.out]; exact rl_still sb g5 G0.n c5 h5 G0.m d5 us vs G0.A G0.c G0.D G0.k z1 (hLy.out z1 hS1.out.ext) (hB.out z1 hS1.out.ext).num (hB.out z1 hS1.out.ext).den
 go_upto_region 36 with (first
  | (go_at_call 25; (with_reducible refine kSy.mono ?_); rintro e z2 ⟨rfl, xb2⟩)
  )
 have hS2 := Lib.hid (hS1.out.step xb2)
 clear xb2 hS1 kSy b0 b1 b2 bl y0 y1 y2 yl
 have hl2 := Lib.hid (hLx.out z2 hS2.out.ext)
 have hm2 := Lib.hid (hLy.out z2 hS2.out.ext)
 obtain ⟨y0, y1, y2, yl⟩ := hKy.out z2 hS2.out.ext
 obtain ⟨x0, x1, x2, xl⟩ := hKx.out z2 hS2.out.ext
 have kPx : Calls Tryz.prog 28 #[fV sa X] z2 fun e w' => e = .returned (.tuple #[]) ∧ Frm (fun k => k = g4 ∨ k = h4) z2 w' := by
  rw [HXe.out]; exact rl_spoil sa g4 F0.n c4 (F0.n + 20) h4 F0.m d4 (F0.m + 20) (Mk xs) (Mk ys) (by omega) (by omega) hl2.out.ne z2 hl2.out.num hl2.out.den
 go_upto_region 37 with (first
  | (go_at_call 28; (with_reducible refine kPx.mono ?_); rintro e z3 ⟨rfl, hf3⟩)
  )
 have HF3 := Lib.hid hf3
 obtain ⟨⟨p1, p2, p3, p4⟩, ⟨p5, p6, p7, p8⟩, ⟨p9, p10, p11, p12⟩, p13, p14⟩ := hapt.out
 have hm3 : Hid (LRat z3 g5 G0.n c5 h5 G0.m d5 us vs) := Lib.hid ⟨own_frm hm2.out.num hf3 (fun a ha e => by cases ha; rcases e with e | e; exact p9 e; exact p10 e), own_frm hm2.out.den hf3 (fun a ha e => by cases ha; rcases e with e | e; exact p11 e; exact p12 e), hm2.out.ne⟩
 have y0 := (hf3.cell (p := ⟨w5.heap.size, 0, none⟩) yl (fun e => by rcases e with e | e; exact p13 e; exact p14 e)).trans y0
 have y1 := (hf3.cell (p := ⟨w5.heap.size, 1, none⟩) yl (fun e => by rcases e with e | e; exact p13 e; exact p14 e)).trans y1
 have y2 := (hf3.cell (p := ⟨w5.heap.size, 2, none⟩) yl (fun e => by rcases e with e | e; exact p13 e; exact p14 e)).trans y2
 have yl := Nat.lt_of_lt_of_le yl hf3.size
 have hB3 : Hid (Bk z3 (w5.heap.size + 1) (w5.heap.size + 1) H7 rs7 ls7) := Lib.hid (hS2.out.bk.below hf3 (fun k e => by rcases e with e | e <;> omega))
 have hE3 : Hid (Ext w z3) := Lib.hid (hf3.ext (jT hEW.out hS2.out.ext) (fun k e => by rcases e with e | e <;> omega))
 clear hf3 hm2 hl2 hS2 kPx x0 x1 x2 xl
 have kPy : Calls Tryz.prog 28 #[fV sb Y] z3 fun e w' => e = .returned (.tuple #[]) ∧ Frm (fun k => k = g5 ∨ k = h5) z3 w' := by
  rw [HYe.out]; exact rl_spoil sb g5 G0.n c5 (G0.n + 20) h5 G0.m d5 (G0.m + 20) (Mk us) (Mk vs) (by omega) (by omega) hm3.out.ne z3 hm3.out.num hm3.out.den
 go_upto_region 38 with (first
  | (go_at_call 28; (with_reducible refine kPy.mono ?_); rintro e z4 ⟨rfl, hf4⟩)
  )
 have hB4 : Hid (Bk z4 (w5.heap.size + 1) (w5.heap.size + 1) H7 rs7 ls7) := Lib.hid (hB3.out.below hf4 (fun k e => by rcases e with e | e <;> omega))
 have hE4 : Hid (Ext w z4) := Lib.hid (hf4.ext hE3.out (fun k e => by rcases e with e | e <;> omega))
 have kZ := stands_step hB4.out (by omega) (by omega)
 have hlow : w.heap.size ≤ w5.heap.size + 1 := by have := hEW.out.size; omega
 clear hf4 hm3 kPy hB3 hB4 hE3 HF3 p1 p2 p3 p4 p5 p6 p7 p8 p9 p10 p11 p12 p13 p14 y0 y1 y2 yl
 go_wp2_with (first
  | (go_at_call 13; (with_reducible refine kZ.mono ?_); rintro e z5 ⟨rfl, h5'⟩)
  )
 refine bodyPost_ret (v := .bool true) ?h rfl ⟨rfl, h5'.out w hE4.out hlow⟩
 case h => simp [results, Tryz.results6, go_sem]
theorem walk_RatioOps (x0 : Bool) (x1A : Option Addr) (x1l x1c : Nat) (x1 : List Nat) (x2A : Option Addr) (x2l x2c : Nat) (x2 : List Nat) (x3 : Bool) (x4A : Option Addr) (x4l x4c : Nat) (x4 : List Nat) (x5A : Option Addr) (x5l x5c : Nat) (x5 : List Nat) (w : World) (hx1 : Rd w x1A x1l x1c x1) (hx2 : Rd w x2A x2l x2c x2) (hx4 : Rd w x4A x4l x4c x4) (hx5 : Rd w x5A x5l x5c x5) (hL : laidMetH Tryz.prog Rows.ratioOpsRow.laid w) :
  Calls Tryz.prog 6 #[.agg #[.bool x0, .slice x1A x1l x1c, .slice x2A x2l x2c], .agg #[.bool x3, .slice x4A x4l x4c, .slice x5A x5l x5c]] w fun e w' => e = .returned (.bool true) ∧ Ext w w' := by
 have hT : Tz w := tz_row w hL (fun w => MakeChecks.laidMetH_plain _ _ _ (by kernel_rfl)) (rest := [("unicode/utf8.acceptRanges", Rows.laid_unicode_utf8_acceptRanges), ("unicode/utf8.first", Rows.laid_unicode_utf8_first)]) (by kernel_rfl)
 clear hL
 have kL : ∀ w', Ext w w' → Calls Tryz.prog 9 #[] w' fun e w'' => e = .returned (.bool true) ∧ Ext w' w'' := fun w' he => alive2_any w' (hT.ext he)
 have k1 := fun w' => rl_small x0 x1A x1l x1c x2A x2l x2c w'
 have k2 := fun w' => rl_small x3 x4A x4l x4c x5A x5l x5c w'
 by_cases h1 : (x1l ≤ 40 ∧ x2l ≤ 40) ∧ (x4l ≤ 40 ∧ x5l ≤ 40)
 ·obtain ⟨⟨l1, l2⟩, l3, l4⟩ := h1
  rw [decide_eq_true ⟨l1, l2⟩] at k1
  rw [decide_eq_true ⟨l3, l4⟩] at k2
  have m1 : x1.length ≤ 40 := by rw [hx1.len]; exact l1
  have m2 : x2.length ≤ 40 := by rw [hx2.len]; exact l2
  have m3 : x4.length ≤ 40 := by rw [hx4.len]; exact l3
  have m4 : x5.length ≤ 40 := by rw [hx5.len]; exact l4
  obtain ⟨S, EC, kC, kCd⟩ := bo_Cmp (s := x0) (t := x3) hx1.lb hx2.lb hx4.lb hx5.lb m1 m2 m3 m4
  obtain ⟨r1, zs1, ws1, E1, z1, y1, kP1, kD1⟩ := bo_Add (s := x0) (t := x3) hx1.lb hx2.lb hx4.lb hx5.lb m1 m2 m3 m4
  obtain ⟨r2, zs2, ws2, E2, z2, y2, kP2, kD2⟩ := bo_Sub (s := x0) (t := x3) hx1.lb hx2.lb hx4.lb hx5.lb m1 m2 m3 m4
  obtain ⟨r3, zs3, ws3, E3, z3, y3, kP3, kD3⟩ := bo_Mul (s := x0) (t := x3) hx1.lb hx2.lb hx4.lb hx5.lb m1 m2 m3 m4
  obtain ⟨r4, zs4, ws4, E4, z4, y4, kP4, kD4⟩ := bo_Div (s := x0) (t := x3) hx1.lb hx2.lb hx4.lb hx5.lb m1 m2 m3 m4
  obtain ⟨r5, zs5, ws5, E5, z5, y5, kP5, kD5⟩ := bo_Sub (s := x0) (t := x0) hx1.lb hx2.lb hx1.lb hx2.lb m1 m2 m1 m2
  obtain ⟨r6, zs6, ws6, E6, z6, y6, kP6, kD6⟩ := bo_Div (s := x3) (t := x3) hx4.lb hx5.lb hx4.lb hx5.lb m3 m4 m3 m4
  obtain ⟨r7, zs7, ws7, E7, z7, y7, kP7, kD7⟩ := bo_Mul (s := x0) (t := x0) hx1.lb hx2.lb hx1.lb hx2.lb m1 m2 m1 m2
  exact ops_core x0 ⟨x1A, x1l, x1c, x2A, x2l, x2c⟩ x3 ⟨x4A, x4l, x4c, x5A, x5l, x5c⟩ x1 x2 x4 x5 hx1.lb hx2.lb hx4.lb hx5.lb w hT ⟨hx1, hx2⟩ ⟨hx4, hx5⟩ S EC r1 zs1 ws1 E1 z1 y1 kP1 kD1 r2 zs2 ws2 E2 z2 y2 kP2 kD2 r3 zs3 ws3 E3 z3 y3 kP3 kD3 r4 zs4 ws4 E4 z4 y4 kP4 kD4 r5 zs5 ws5 E5 z5 y5 kP5 kD5 r6 zs6 ws6 E6 z6 y6 kP6 kD6 r7 zs7 ws7 E7 z7 y7 kP7 kD7 kC kCd kL k1 k2
   (fun w' he => rl_lent x0 x1A x1l x1c x1 x2A x2l x2c x2 (by omega) (by omega) w' (hx1.ext he) (hx2.ext he)) (fun w' he => rl_lent x3 x4A x4l x4c x4 x5A x5l x5c x5 (by omega) (by omega) w' (hx4.ext he) (hx5.ext he))
 ·refine ops_skip x0 ⟨x1A, x1l, x1c, x2A, x2l, x2c⟩ x3 ⟨x4A, x4l, x4c, x5A, x5l, x5c⟩ w _ _ ?_ kL k1 k2
  by_cases h2 : x1l ≤ 40 ∧ x2l ≤ 40
  ·exact .inr (decide_eq_false (fun h => h1 ⟨h2, h⟩))
  ·exact .inl (decide_eq_false h2)
end Go.Proofs.YtchbefambnhjjaaGreatDoor
end
