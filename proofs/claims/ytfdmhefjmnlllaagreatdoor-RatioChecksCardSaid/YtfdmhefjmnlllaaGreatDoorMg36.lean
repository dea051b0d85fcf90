/- Lemmas of this proof, laid together: RatioChecksW. -/
import Derived.Test.YtfdmhefjmnlllaaGreatDoorMg32
import Derived.Test.YtfdmhefjmnlllaaGreatDoorMg33
import Derived.Test.YtfdmhefjmnlllaaGreatDoorMg29
import Derived.Test.YtfdmhefjmnlllaaGreatDoorMg35
import Derived.Test.YtfdmhefjmnlllaaGreatDoorMg28
import Derived.Deep.DeepCutAuto
import Derived.Deep.RegionWith
set_option linter.unusedSimpArgs false
set_option linter.unusedVariables false
section
/- RatioChecks: the walk (written by mkchecks.py). -/
namespace Go.Proofs.YtfdmhefjmnlllaaGreatDoor
open Go.RowKit
attribute [local go_sem] sz2 sz3 sz4 sz5 sz6 sz7 sz8
set_option maxHeartbeats 16000000
set_option maxRecDepth 100000
attribute [local irreducible] Calls
theorem checks_skip (s : Bool) (F0 : FH) (w : World)
  (kL : ∀ w', Ext w w' → Calls Tryz.prog 5 #[] w' fun e w'' => e = .returned (.bool true) ∧ Ext w' w'')
  (k1 : ∀ w', Calls Tryz.prog 6 #[fV s F0] w' fun e w'' => e = .returned (.bool false) ∧ Ext w' w'') :
  Calls Tryz.prog 3 #[fV s F0] w fun e w' => e = .returned (.bool true) ∧ Ext w w' := by
 go_enter Tryz.func3, Tryz.ntmps3
 go_wp2_with (first
  | (go_at_call 5; (with_reducible refine (kL _ xcl).mono ?_); rintro e w1 ⟨rfl, xb1⟩; obtain ⟨xc1, xf1, xl1, xz1⟩ := jU xb1; (try simp at xz1); obtain ⟨l1_0, r1_0, f1_0, r1_0_1, f1_0_1, r1_0_2, f1_0_2⟩ := kq3 xb1 (w.heap.size))
  | (go_at_call 6; (with_reducible refine (k1 _).mono ?_); rintro e w2 ⟨rfl, xb2⟩; obtain ⟨xc2, xf2, xl2, xz2⟩ := jU xb2; (try simp at xz2); obtain ⟨l2_0, r2_0, f2_0, r2_0_1, f2_0_1, r2_0_2, f2_0_2⟩ := kq3 xb2 (w.heap.size))
  )
 refine bodyPost_ret (v := .bool true) ?h rfl ⟨rfl, ?_⟩
 case h => simp [results, Tryz.results3, go_sem]
 exact xcl
abbrev UP (f : FuncId) (s : Bool) (xs ys : List Nat) (r : Bool) (zs ws : List Nat) (E : Int) : Prop := ∀ F w, Tz w → FrIn w F xs ys → Calls Tryz.prog f #[fV s F] w (OfPst w r zs ws E)
abbrev UD (f : FuncId) (s : Bool) (xs ys : List Nat) (r : Bool) (zs ws : List Nat) (E : Int) : Prop := ∀ F w, Tz w → FrIn w F xs ys → Calls Tryz.prog f #[fV s F] w (NB.DfPst w r zs ws E)
abbrev UV (f : FuncId) (s : Bool) (xs ys : List Nat) (v : Value) : Prop := ∀ F w, Tz w → FrIn w F xs ys → Calls Tryz.prog f #[fV s F] w fun e w' => e = .returned v ∧ Ext w w'
theorem checks_core (s : Bool) (F0 : FH) (xs ys : List Nat) (hbx : Lb xs) (hby : Lb ys) (w : World) (hT : Tz w) (hF : FrIn w F0 xs ys)
  (r1 : Bool) (zs1 ws1 : List Nat) (E1 : Int) (lz1 : zs1.length ≤ 1000000) (lw1 : ws1.length ≤ 1000000) (kP1 : UP 10 s xs ys r1 zs1 ws1 E1) (kD1 : UD 8 s xs ys r1 zs1 ws1 E1)
  (r2 : Bool) (zs2 ws2 : List Nat) (E2 : Int) (lz2 : zs2.length ≤ 1000000) (lw2 : ws2.length ≤ 1000000) (kP2 : UP 12 s xs ys r2 zs2 ws2 E2) (kD2 : UD 9 s xs ys r2 zs2 ws2 E2)
  (r3 : Bool) (qs : List Nat) (E3 : Int) (lq : qs.length ≤ 1000000)
  (kP3 : ∀ F w, Tz w → FrIn w F xs ys → Calls Tryz.prog 13 #[fV s F] w fun e w' => ∃ (B : Option Addr) (j l : Nat), e = .returned (.tuple #[.bool r3, natV B j l, .int .i64 E3]) ∧ Hid (RdO w' B j l qs none ∧ Fr w B) ∧ Ext w w')
  (kD3 : ∀ F w, Tz w → FrIn w F xs ys → Calls Tryz.prog 14 #[fV s F] w fun e w' => ∃ (B : Option Addr) (j l : Nat), e = .returned (.tuple #[.bool r3, natV B j l, .int .i64 E3]) ∧ Hid (Rd w' B j l qs) ∧ Ext w w')
  (t4 : ByteArray) (E4 : Int) (kP4 : UV 16 s xs ys (.tuple #[.string t4, .int .i64 E4])) (kD4 : UV 17 s xs ys (.tuple #[.string t4, .int .i64 E4]))
  (E5 : Int) (kP5 : UV 19 s xs ys (.int .i64 E5)) (kD5 : UV 20 s xs ys (.int .i64 E5))
  (kL : ∀ w', Ext w w' → Calls Tryz.prog 5 #[] w' fun e w'' => e = .returned (.bool true) ∧ Ext w' w'')
  (k1 : ∀ w', Calls Tryz.prog 6 #[fV s F0] w' fun e w'' => e = .returned (.bool true) ∧ Ext w' w'')
  (k3 : ∀ w', Ext w w' → Calls Tryz.prog 7 #[fV s F0] w' fun e w'' => ∃ (g cg h ch : Nat), e = .returned (ratV s (some ⟨g, 0, none⟩) F0.n cg (some ⟨h, 0, none⟩) F0.m ch) ∧ Hid (LRat w'' g F0.n cg h F0.m ch xs ys ∧ w'.heap.size ≤ g ∧ w'.heap.size ≤ h) ∧ Ext w' w'') :
  Calls Tryz.prog 3 #[fV s F0] w fun e w' => e = .returned (.bool true) ∧ Ext w w' := by
 go_enter Tryz.func3, Tryz.ntmps3
 go_upto_region 5 with (first
  | (go_at_call 5; (with_reducible refine (kL _ xcl).mono ?_); rintro e w1 ⟨rfl, xb1⟩; obtain ⟨xc1, xf1, xl1, xz1⟩ := jU xb1; (try simp at xz1); obtain ⟨l1_0, r1_0, f1_0, r1_0_1, f1_0_1, r1_0_2, f1_0_2⟩ := kq3 xb1 (w.heap.size))
  | (go_at_call 6; (with_reducible refine (k1 _).mono ?_); rintro e w2 ⟨rfl, xb2⟩; obtain ⟨xc2, xf2, xl2, xz2⟩ := jU xb2; (try simp at xz2); obtain ⟨l2_0, r2_0, f2_0, r2_0_1, f2_0_1, r2_0_2, f2_0_2⟩ := kq3 xb2 (w.heap.size))
  )
 have hE2 : Hid (Ext w w2) := by show Ext w w2; exact xcl
 go_upto_region 6 with (first
  | (go_at_call 7; (with_reducible refine (k3 _ hE2.out).mono ?_); rintro e w3 ⟨g3, c3, h3, d3, rfl, hL3, xb3⟩; obtain ⟨xc3, xf3, xl3, xz3⟩ := jU xb3; (try simp at xz3); obtain ⟨l3_0, r3_0, f3_0, r3_0_1, f3_0_1, r3_0_2, f3_0_2⟩ := kq3 xb3 (w.heap.size))
  )
 obtain ⟨W, hW⟩ : ∃ z, z = w3.alloc (Obj.cells #[.bool s, .slice (some ⟨g3, 0, none⟩) F0.n c3, .slice (some ⟨h3, 0, none⟩) F0.m d3] 26) := ⟨_, rfl⟩
 have a0 : W.cell? ⟨w.heap.size, 0, none⟩ = some (.bool s) := by rw [hW]; simp [go_sem, *]
 have a1 : W.cell? ⟨w.heap.size, 1, none⟩ = some (.slice F0.A F0.n F0.c) := by rw [hW]; simp [go_sem, *]
 have a2 : W.cell? ⟨w.heap.size, 2, none⟩ = some (.slice F0.D F0.m F0.k) := by rw [hW]; simp [go_sem, *]
 have x0 : W.cell? ⟨w3.heap.size, 0, none⟩ = some (.bool s) := by rw [hW]; simp [go_sem, *]
 have x1 : W.cell? ⟨w3.heap.size, 1, none⟩ = some (.slice (some ⟨g3, 0, none⟩) F0.n c3) := by rw [hW]; simp [go_sem, *]
 have x2 : W.cell? ⟨w3.heap.size, 2, none⟩ = some (.slice (some ⟨h3, 0, none⟩) F0.m d3) := by rw [hW]; simp [go_sem, *]
 have s3 := hE2.out.size
 have s4 : w2.heap.size ≤ w3.heap.size := ext_size xb3
 have hWz : W.heap.size = w3.heap.size + 1 := by rw [hW]; simp
 have hW4 : Ext w3 W := by rw [hW]; exact jA (jR _) _
 have hEW : Hid (Ext w W) := Lib.hid (jT hE2.out (jT xb3 hW4))
 have w2lt : w.heap.size < w2.heap.size := by assumption
 have qx1 := own_lt hL3.out.1.num rfl
 have qx2 := own_lt hL3.out.1.den rfl
 have zx1 := hL3.out.2.1
 have zx2 := hL3.out.2.2
 simp only at qx1 qx2
 have hLx : Hid (∀ u, Ext W u → LRat u g3 F0.n c3 h3 F0.m d3 xs ys) := Lib.hid (fun u he => hL3.out.1.ext (jT hW4 he))
 obtain ⟨X, hXe⟩ : ∃ X : FH, X = ⟨some ⟨g3, 0, none⟩, F0.n, c3, some ⟨h3, 0, none⟩, F0.m, d3⟩ := ⟨_, rfl⟩
 have hX : Hid (∀ u, Ext W u → FrIn u X xs ys) := Lib.hid (fun u he => by rw [hXe]; exact ⟨((hLx.out u he).num).rd hbx, ((hLx.out u he).den).rd hby⟩)
 have hA : Hid (∀ u, Ext W u → FrIn u F0 xs ys) := Lib.hid (fun u he => hF.ext (jT hEW.out he))
 have HT : Hid (∀ u, Ext W u → Tz u) := Lib.hid (fun u he => hT.ext (jT hEW.out he))
 have hKa : Hid (∀ u, Ext W u → u.cell? ⟨w.heap.size, 0, none⟩ = some (.bool s) ∧ u.cell? ⟨w.heap.size, 1, none⟩ = some (.slice F0.A F0.n F0.c) ∧ u.cell? ⟨w.heap.size, 2, none⟩ = some (.slice F0.D F0.m F0.k) ∧ w.heap.size < u.heap.size) := Lib.hid (fun u he => ⟨(Below.cell (p := ⟨w.heap.size, 0, none⟩) he (by simp only; omega)).trans a0, (Below.cell (p := ⟨w.heap.size, 1, none⟩) he (by simp only; omega)).trans a1, (Below.cell (p := ⟨w.heap.size, 2, none⟩) he (by simp only; omega)).trans a2, by have := he.size; omega⟩)
 have hKx : Hid (∀ u, Ext W u → u.cell? ⟨w3.heap.size, 0, none⟩ = some (.bool s) ∧ u.cell? ⟨w3.heap.size, 1, none⟩ = some (.slice X.A X.n X.c) ∧ u.cell? ⟨w3.heap.size, 2, none⟩ = some (.slice X.D X.m X.k) ∧ w3.heap.size < u.heap.size) := Lib.hid (fun u he => by rw [hXe]; exact ⟨(Below.cell (p := ⟨w3.heap.size, 0, none⟩) he (by simp only; omega)).trans x0, (Below.cell (p := ⟨w3.heap.size, 1, none⟩) he (by simp only; omega)).trans x1, (Below.cell (p := ⟨w3.heap.size, 2, none⟩) he (by simp only; omega)).trans x2, by have := he.size; omega⟩)
 have hapt : Hid ((w.heap.size ≤ g3 ∧ w.heap.size ≤ h3) ∧ g3 < W.heap.size ∧ h3 < W.heap.size) := Lib.hid (by omega)
 rw [← hW]
 have HXe := Lib.hid hXe
 have hlow : w.heap.size ≤ w3.heap.size + 1 := by omega
 clear hW hXe a0 a1 a2 x0 x1 x2 hL3 hE2 hW4 xb1 xb2 xb3 hF hT qx1 qx2 zx1 zx2 s3 s4 w2lt k1 k3 kL
 try clear xc1
 try clear xf1
 try clear xl1
 try clear xz1
 try clear l1_0
 try clear r1_0
 try clear f1_0
 try clear r1_0_1
 try clear r1_0_2
 try clear f1_0_1
 try clear f1_0_2
 try clear xc2
 try clear xf2
 try clear xl2
 try clear xz2
 try clear l2_0
 try clear r2_0
 try clear f2_0
 try clear r2_0_1
 try clear r2_0_2
 try clear f2_0_1
 try clear f2_0_2
 try clear xc3
 try clear xf3
 try clear xl3
 try clear xz3
 try clear l3_0
 try clear r3_0
 try clear f3_0
 try clear r3_0_1
 try clear r3_0_2
 try clear f3_0_1
 try clear f3_0_2
 have hS0 : Hid (Sta W (W.alloc (Obj.cells #[.slice none 0 0, .slice none 0 0, .slice none 0 0, .bool false] 34)) (w3.heap.size + 1) ⟨none, none, none, 0, 0, 0⟩ [] [] []) := by
  have h0 : Sta W (W.alloc (Obj.cells #[.slice none 0 0, .slice none 0 0, .slice none 0 0, .bool false] 34)) W.heap.size ⟨none, none, none, 0, 0, 0⟩ [] [] [] := ⟨jA (jR W) _, Bk.new W 34, Nat.le_refl _, fun b hb => by cases hb⟩
  rw [hWz] at h0
  exact Lib.hid h0
 obtain ⟨u0, hu0⟩ : ∃ z, z = (W.alloc (Obj.cells #[.slice none 0 0, .slice none 0 0, .slice none 0 0, .bool false] 34)) := ⟨_, rfl⟩
 go_upto_region 7 with fail
 rw [← hu0] at hS0 ⊢
 obtain ⟨H0, hH0⟩ : ∃ H : BH, H = ⟨none, none, none, 0, 0, 0⟩ := ⟨_, rfl⟩
 rw [← hH0] at hS0
 clear hu0 hH0
 obtain ⟨a0, a1, a2, al⟩ := hKa.out u0 hS0.out.ext
 go_upto_region 8 with (first
  | (go_at_call 8; (with_reducible refine (kD1 F0 u0 (HT.out u0 hS0.out.ext) (hA.out u0 hS0.out.ext)).mono ?_); rintro e wa ⟨G1, rfl, hG, xbd⟩)
  )
 obtain ⟨u1, hu⟩ : ∃ z, z = wa.alloc (Obj.cells #[.bool r1, .slice G1.A G1.n G1.c, .slice G1.D G1.m G1.k] 26) := ⟨_, rfl⟩
 have hSu1 : Hid (Sta W u1 (w3.heap.size + 1) H0 [] [] [wa.heap.size]) := by rw [hu]; exact Lib.hid ((hS0.out.step xbd).alloc _ _ _ _)
 have g1A : Hid (WantR u1 (w3.heap.size + 1) H0 [wa.heap.size] G1.A G1.n G1.c zs1) := by rw [hu]; exact Lib.hid ((WantR.of hS0.out hG.out.1 hG.out.2.2.1).alloc _)
 have g1D : Hid (WantR u1 (w3.heap.size + 1) H0 [wa.heap.size] G1.D G1.m G1.k ws1) := by rw [hu]; exact Lib.hid ((WantR.of hS0.out hG.out.2.1 hG.out.2.2.2).alloc _)
 have d10 : u1.cell? ⟨wa.heap.size, 0, none⟩ = some (.bool r1) := by rw [hu]; simp [go_sem]
 have d11 : u1.cell? ⟨wa.heap.size, 1, none⟩ = some (.slice G1.A G1.n G1.c) := by rw [hu]; simp [go_sem]
 have d12 : u1.cell? ⟨wa.heap.size, 2, none⟩ = some (.slice G1.D G1.m G1.k) := by rw [hu]; simp [go_sem]
 have hq : Ext u0 u1 := by rw [hu]; exact jT xbd (jA (jR _) _)
 rw [← hu]
 clear hu xbd hG hq hS0 a0 a1 a2 al
 obtain ⟨a0, a1, a2, al⟩ := hKa.out u1 hSu1.out.ext
 go_upto_region 9 with (first
  | (go_at_call 9; (with_reducible refine (kD2 F0 u1 (HT.out u1 hSu1.out.ext) (hA.out u1 hSu1.out.ext)).mono ?_); rintro e wb ⟨G2, rfl, hG, xbd⟩)
  )
 obtain ⟨u2, hu⟩ : ∃ z, z = wb.alloc (Obj.cells #[.bool r2, .slice G2.A G2.n G2.c, .slice G2.D G2.m G2.k] 26) := ⟨_, rfl⟩
 have hSu2 : Hid (Sta W u2 (w3.heap.size + 1) H0 [] [] [wb.heap.size, wa.heap.size]) := by rw [hu]; exact Lib.hid ((hSu1.out.step xbd).alloc _ _ _ _)
 have g2A : Hid (WantR u2 (w3.heap.size + 1) H0 [wb.heap.size, wa.heap.size] G2.A G2.n G2.c zs2) := by rw [hu]; exact Lib.hid ((WantR.of hSu1.out hG.out.1 hG.out.2.2.1).alloc _)
 have g2D : Hid (WantR u2 (w3.heap.size + 1) H0 [wb.heap.size, wa.heap.size] G2.D G2.m G2.k ws2) := by rw [hu]; exact Lib.hid ((WantR.of hSu1.out hG.out.2.1 hG.out.2.2.2).alloc _)
 have d20 : u2.cell? ⟨wb.heap.size, 0, none⟩ = some (.bool r2) := by rw [hu]; simp [go_sem]
 have d21 : u2.cell? ⟨wb.heap.size, 1, none⟩ = some (.slice G2.A G2.n G2.c) := by rw [hu]; simp [go_sem]
 have d22 : u2.cell? ⟨wb.heap.size, 2, none⟩ = some (.slice G2.D G2.m G2.k) := by rw [hu]; simp [go_sem]
 have hq : Ext u1 u2 := by rw [hu]; exact jT xbd (jA (jR _) _)
 have g1A : Hid (WantR u2 (w3.heap.size + 1) H0 [wb.heap.size, wa.heap.size] G1.A G1.n G1.c zs1) := by rw [hu]; exact Lib.hid ((g1A.out.step xbd).alloc _)
 have g1D : Hid (WantR u2 (w3.heap.size + 1) H0 [wb.heap.size, wa.heap.size] G1.D G1.m G1.k ws1) := by rw [hu]; exact Lib.hid ((g1D.out.step xbd).alloc _)
 have d10 := (Below.cell (p := ⟨wa.heap.size, 0, none⟩) hq (hSu1.out.locs wa.heap.size (by simp)).1.lt).trans d10
 have d11 := (Below.cell (p := ⟨wa.heap.size, 1, none⟩) hq (hSu1.out.locs wa.heap.size (by simp)).1.lt).trans d11
 have d12 := (Below.cell (p := ⟨wa.heap.size, 2, none⟩) hq (hSu1.out.locs wa.heap.size (by simp)).1.lt).trans d12
 rw [← hu]
 clear hu xbd hG hq hSu1 a0 a1 a2 al
 obtain ⟨x0, x1, x2, xl⟩ := hKx.out u2 hSu2.out.ext
 go_upto_region 10 with (first
  | (go_at_call 10; (with_reducible refine (kP1 X u2 (HT.out u2 hSu2.out.ext) (hX.out u2 hSu2.out.ext)).mono ?_); rintro e wc ⟨F1, rfl, hF, xbp⟩)
  )
 obtain ⟨u3, hu⟩ : ∃ z, z = wc.alloc (Obj.cells #[.bool r1, .slice F1.A F1.n F1.c, .slice F1.D F1.m F1.k] 26) := ⟨_, rfl⟩
 have hSu3 : Hid (Sta W u3 (w3.heap.size + 1) H0 [] [] [wc.heap.size, wb.heap.size, wa.heap.size]) := by rw [hu]; exact Lib.hid ((hSu2.out.step xbp).alloc _ _ _ _)
 have nA : Hid (NewR u3 (w3.heap.size + 1) H0 [] [wc.heap.size, wb.heap.size, wa.heap.size] F1.A F1.n F1.c zs1 none) := by rw [hu]; exact Lib.hid ((NewR.of hSu2.out hF.out.1 hF.out.2.1).alloc _)
 have nD : Hid (NewR u3 (w3.heap.size + 1) H0 [] [wc.heap.size, wb.heap.size, wa.heap.size] F1.D F1.m F1.k ws1 F1.A) := by rw [hu]; exact Lib.hid ((NewR.of hSu2.out hF.out.2.2.1 hF.out.2.2.2).alloc _)
 have q0 : u3.cell? ⟨wc.heap.size, 0, none⟩ = some (.bool r1) := by rw [hu]; simp [go_sem]
 have q1 : u3.cell? ⟨wc.heap.size, 1, none⟩ = some (.slice F1.A F1.n F1.c) := by rw [hu]; simp [go_sem]
 have q2 : u3.cell? ⟨wc.heap.size, 2, none⟩ = some (.slice F1.D F1.m F1.k) := by rw [hu]; simp [go_sem]
 have hq : Ext u2 u3 := by rw [hu]; exact jT xbp (jA (jR _) _)
 have g1A : Hid (WantR u3 (w3.heap.size + 1) H0 [wc.heap.size, wb.heap.size, wa.heap.size] G1.A G1.n G1.c zs1) := by rw [hu]; exact Lib.hid ((g1A.out.step xbp).alloc _)
 have g1D : Hid (WantR u3 (w3.heap.size + 1) H0 [wc.heap.size, wb.heap.size, wa.heap.size] G1.D G1.m G1.k ws1) := by rw [hu]; exact Lib.hid ((g1D.out.step xbp).alloc _)
 have d10 := (Below.cell (p := ⟨wa.heap.size, 0, none⟩) hq (hSu2.out.locs wa.heap.size (by simp)).1.lt).trans d10
 have d11 := (Below.cell (p := ⟨wa.heap.size, 1, none⟩) hq (hSu2.out.locs wa.heap.size (by simp)).1.lt).trans d11
 have d12 := (Below.cell (p := ⟨wa.heap.size, 2, none⟩) hq (hSu2.out.locs wa.heap.size (by simp)).1.lt).trans d12
 have g2A : Hid (WantR u3 (w3.heap.size + 1) H0 [wc.heap.size, wb.heap.size, wa.heap.size] G2.A G2.n G2.c zs2) := by rw [hu]; exact Lib.hid ((g2A.out.step xbp).alloc _)
 have g2D : Hid (WantR u3 (w3.heap.size + 1) H0 [wc.heap.size, wb.heap.size, wa.heap.size] G2.D G2.m G2.k ws2) := by rw [hu]; exact Lib.hid ((g2D.out.step xbp).alloc _)
 have d20 := (Below.cell (p := ⟨wb.heap.size, 0, none⟩) hq (hSu2.out.locs wb.heap.size (by simp)).1.lt).trans d20
 have d21 := (Below.cell (p := ⟨wb.heap.size, 1, none⟩) hq (hSu2.out.locs wb.heap.size (by simp)).1.lt).trans d21
 have d22 := (Below.cell (p := ⟨wb.heap.size, 2, none⟩) hq (hSu2.out.locs wb.heap.size (by simp)).1.lt).trans d22
 have kA := hSu3.out.adds r1 F1 G1 zs1 ws1 nA.out nD.out g1A.out g1D.out lz1 lw1 E1 (by simp) (by simp)
 rw [← hu]
 have lr2 := (hSu3.out.locs wc.heap.size (by simp)).1.lt
 have lw2' := (hSu3.out.locs wa.heap.size (by simp)).1.lt
 clear hq hu xbp hF hSu2 nA nD g1A g1D x0 x1 x2 xl
 go_upto_region 11 with (first
  | (go_at_call 11; (with_reducible refine kA.mono ?_); rintro e v1 ⟨rfl, H1, hSv1, hT1⟩)
  )
 have d20 := (hSu3.out.kept hT1.out (b := wb.heap.size) (by simp) 0).trans d20
 have d21 := (hSu3.out.kept hT1.out (b := wb.heap.size) (by simp) 1).trans d21
 have d22 := (hSu3.out.kept hT1.out (b := wb.heap.size) (by simp) 2).trans d22
 have g2A := Lib.hid (g2A.out.turn hT1.out)
 have g2D := Lib.hid (g2D.out.turn hT1.out)
 clear kA q0 q1 q2 d10 d11 d12 lr2 lw2' hT1 hSu3
 obtain ⟨x0, x1, x2, xl⟩ := hKx.out v1 hSv1.out.ext
 go_upto_region 12 with (first
  | (go_at_call 12; (with_reducible refine (kP2 X v1 (HT.out v1 hSv1.out.ext) (hX.out v1 hSv1.out.ext)).mono ?_); rintro e wd ⟨F2, rfl, hF, xbp⟩)
  )
 obtain ⟨u4, hu⟩ : ∃ z, z = wd.alloc (Obj.cells #[.bool r2, .slice F2.A F2.n F2.c, .slice F2.D F2.m F2.k] 26) := ⟨_, rfl⟩
 have hSu4 : Hid (Sta W u4 (w3.heap.size + 1) H1 ([] ++ [⟨r1, F1, G1, zs1, ws1⟩]) ([] ++ [⟨F1.A, F1.n, zs1⟩, ⟨F1.D, F1.m, ws1⟩]) [wd.heap.size, wc.heap.size, wb.heap.size, wa.heap.size]) := by rw [hu]; exact Lib.hid ((hSv1.out.step xbp).alloc _ _ _ _)
 have nA : Hid (NewR u4 (w3.heap.size + 1) H1 ([] ++ [⟨F1.A, F1.n, zs1⟩, ⟨F1.D, F1.m, ws1⟩]) [wd.heap.size, wc.heap.size, wb.heap.size, wa.heap.size] F2.A F2.n F2.c zs2 none) := by rw [hu]; exact Lib.hid ((NewR.of hSv1.out hF.out.1 hF.out.2.1).alloc _)
 have nD : Hid (NewR u4 (w3.heap.size + 1) H1 ([] ++ [⟨F1.A, F1.n, zs1⟩, ⟨F1.D, F1.m, ws1⟩]) [wd.heap.size, wc.heap.size, wb.heap.size, wa.heap.size] F2.D F2.m F2.k ws2 F2.A) := by rw [hu]; exact Lib.hid ((NewR.of hSv1.out hF.out.2.2.1 hF.out.2.2.2).alloc _)
 have q0 : u4.cell? ⟨wd.heap.size, 0, none⟩ = some (.bool r2) := by rw [hu]; simp [go_sem]
 have q1 : u4.cell? ⟨wd.heap.size, 1, none⟩ = some (.slice F2.A F2.n F2.c) := by rw [hu]; simp [go_sem]
 have q2 : u4.cell? ⟨wd.heap.size, 2, none⟩ = some (.slice F2.D F2.m F2.k) := by rw [hu]; simp [go_sem]
 have hq : Ext v1 u4 := by rw [hu]; exact jT xbp (jA (jR _) _)
 have g2A : Hid (WantR u4 (w3.heap.size + 1) H1 [wd.heap.size, wc.heap.size, wb.heap.size, wa.heap.size] G2.A G2.n G2.c zs2) := by rw [hu]; exact Lib.hid ((g2A.out.step xbp).alloc _)
 have g2D : Hid (WantR u4 (w3.heap.size + 1) H1 [wd.heap.size, wc.heap.size, wb.heap.size, wa.heap.size] G2.D G2.m G2.k ws2) := by rw [hu]; exact Lib.hid ((g2D.out.step xbp).alloc _)
 have d20 := (Below.cell (p := ⟨wb.heap.size, 0, none⟩) hq (hSv1.out.locs wb.heap.size (by simp)).1.lt).trans d20
 have d21 := (Below.cell (p := ⟨wb.heap.size, 1, none⟩) hq (hSv1.out.locs wb.heap.size (by simp)).1.lt).trans d21
 have d22 := (Below.cell (p := ⟨wb.heap.size, 2, none⟩) hq (hSv1.out.locs wb.heap.size (by simp)).1.lt).trans d22
 have kA := hSu4.out.adds r2 F2 G2 zs2 ws2 nA.out nD.out g2A.out g2D.out lz2 lw2 E2 (by simp) (by simp)
 rw [← hu]
 have lr2 := (hSu4.out.locs wd.heap.size (by simp)).1.lt
 have lw2' := (hSu4.out.locs wb.heap.size (by simp)).1.lt
 clear hq hu xbp hF hSv1 nA nD g2A g2D x0 x1 x2 xl
 go_upto_region 13 with (first
  | (go_at_call 11; (with_reducible refine kA.mono ?_); rintro e v2 ⟨rfl, H2, hS, _⟩)
  )
 clear kA q0 q1 q2 d20 d21 d22 lr2 lw2' hSu4
 obtain ⟨x0, x1, x2, xl⟩ := hKx.out v2 hS.out.ext
 go_upto_region 14 with (first
  | (go_at_call 13; (with_reducible refine (kP3 X v2 (HT.out v2 hS.out.ext) (hX.out v2 hS.out.ext)).mono ?_); rintro e y1 ⟨B1, j1, l1, rfl, hQ1, xb1⟩)
  )
 obtain ⟨u5, hu⟩ : ∃ z, z = y1.alloc (Obj.cells #[.slice B1 j1 l1] 24) := ⟨_, rfl⟩
 have hq : Ext y1 u5 := by rw [hu]; exact jA (jR _) _
 have hE5 := Lib.hid (jT xb1 hq)
 have n0 : u5.cell? ⟨y1.heap.size, 0, none⟩ = some (.slice B1 j1 l1) := by rw [hu]; simp [go_sem]
 have nl : y1.heap.size < u5.heap.size := by rw [hu]; simp
 have hQ5 := Lib.hid (hQ1.out.1.ext hq)
 have hQf := Lib.hid hQ1.out.2
 have hSu5 := Lib.hid (hS.out.step hE5.out)
 rw [← hu]
 clear hu hq xb1 hQ1 x0 x1 x2 xl
 obtain ⟨a0, a1, a2, al⟩ := hKa.out u5 hSu5.out.ext
 go_upto_region 15 with (first
  | (go_at_call 14; (with_reducible refine (kD3 F0 u5 (HT.out u5 hSu5.out.ext) (hA.out u5 hSu5.out.ext)).mono ?_); rintro e y2 ⟨B2, j2, l2, rfl, hQ2, xb2⟩)
  )
 obtain ⟨u6, hu⟩ : ∃ z, z = y2.alloc (Obj.cells #[.slice B2 j2 l2] 24) := ⟨_, rfl⟩
 have hq : Ext y2 u6 := by rw [hu]; exact jA (jR _) _
 have hE6 := Lib.hid (jT hE5.out (jT xb2 hq))
 have n0 := (Below.cell (p := ⟨y1.heap.size, 0, none⟩) (jT xb2 hq) nl).trans n0
 have m0 : u6.cell? ⟨y2.heap.size, 0, none⟩ = some (.slice B2 j2 l2) := by rw [hu]; simp [go_sem]
 have ml : y2.heap.size < u6.heap.size := by rw [hu]; simp
 have nl := Nat.lt_of_lt_of_le nl (ext_size (jT xb2 hq))
 have hQ6 := Lib.hid (hQ5.out.ext (jT xb2 hq))
 have hQw := Lib.hid (hQ2.out.ext hq)
 have hj1 : j1 ≤ 1000000 := by have := hQ6.out.len; omega
 have kN := number_step hS.out.bk hE6.out hQ6.out hQf.out hQw.out hj1 (by simp) (Nat.le_of_lt hS.out.book_lt)
 have hSu6 := Lib.hid (hS.out.step hE6.out)
 rw [← hu]
 clear hu hq xb2 hQ2 hQ5 hQ6 hQw hQf hE5 hSu5 a0 a1 a2 al
 go_upto_region 16 with (first
  | (go_at_call 15; (with_reducible refine kN.mono ?_); rintro e v3 ⟨rfl, H3, hB3, hT3⟩)
  )
 have hS3 : Hid (Sta W v3 (w3.heap.size + 1) H3 (([] ++ [⟨r1, F1, G1, zs1, ws1⟩]) ++ [⟨r2, F2, G2, zs2, ws2⟩]) (([] ++ [⟨F1.A, F1.n, zs1⟩, ⟨F1.D, F1.m, ws1⟩]) ++ [⟨F2.A, F2.n, zs2⟩, ⟨F2.D, F2.m, ws2⟩] ++ [⟨B1, j1, qs⟩]) []) := Lib.hid ⟨hT3.out.ext hSu6.out.bk hSu6.out.ext hSu6.out.low, hB3.out, hS.out.low, fun b hb => by cases hb⟩
 clear kN n0 m0 nl ml hSu6 hB3 hT3 hS hE6
 obtain ⟨x0, x1, x2, xl⟩ := hKx.out v3 hS3.out.ext
 go_upto_region 17 with (first
  | (go_at_call 16; (with_reducible refine (kP4 X v3 (HT.out v3 hS3.out.ext) (hX.out v3 hS3.out.ext)).mono ?_); rintro e z1 ⟨rfl, xb1⟩)
  )
 have hS4 := Lib.hid (hS3.out.step xb1)
 clear xb1 hS3 x0 x1 x2 xl
 obtain ⟨a0, a1, a2, al⟩ := hKa.out z1 hS4.out.ext
 go_upto_region 18 with (first
  | (go_at_call 17; (with_reducible refine (kD4 F0 z1 (HT.out z1 hS4.out.ext) (hA.out z1 hS4.out.ext)).mono ?_); rintro e z2 ⟨rfl, xb1⟩)
  )
 have hS5 := Lib.hid (hS4.out.step xb1)
 clear xb1 hS4 a0 a1 a2 al
 obtain ⟨x0, x1, x2, xl⟩ := hKx.out z2 hS5.out.ext
 obtain ⟨a0, a1, a2, al⟩ := hKa.out z2 hS5.out.ext
 have kSx : Calls Tryz.prog 18 #[fV s X, fV s F0] z2 fun e w' => e = .returned (.bool true) ∧ Ext z2 w' := by
  rw [HXe.out]; exact rl_still s g3 F0.n c3 h3 F0.m d3 xs ys F0.A F0.c F0.D F0.k z2 (hLx.out z2 hS5.out.ext) (hA.out z2 hS5.out.ext).num (hA.out z2 hS5.out.ext).den
 go_upto_region 19 with (first
  | (go_at_call 18; (with_reducible refine kSx.mono ?_); rintro e z3 ⟨rfl, xb1⟩)
  )
 have hS6 := Lib.hid (hS5.out.step xb1)
 clear xb1 hS5 kSx x0 x1 x2 xl a0 a1 a2 al
 obtain ⟨x0, x1, x2, xl⟩ := hKx.out z3 hS6.out.ext
 obtain ⟨a0, a1, a2, al⟩ := hKa.out z3 hS6.out.ext
 have kC1 : ∀ n : Aft z3, Calls Tryz.prog 19 #[fV s X] n.out fun e w' => e = .returned (.int .i64 E5) ∧ Ext n.out w' := fun n => kP5 X n.out (HT.out _ (jT hS6.out.ext n.use)) (hX.out _ (jT hS6.out.ext n.use))
 have kC2 : ∀ n : Aft z3, Calls Tryz.prog 20 #[fV s F0] n.out fun e w' => e = .returned (.int .i64 E5) ∧ Ext n.out w' := fun n => kD5 F0 n.out (HT.out _ (jT hS6.out.ext n.use)) (hA.out _ (jT hS6.out.ext n.use))
 refine wp_aft (by kernel_rfl) (by kernel_rfl) (fun hq hqf => ?_)
 repeat (go_big_quiet_step (first
  | (go_at_call 19; exact aft_of (kC1 _))
  | (go_at_call 20; exact aft_of (kC2 _))
  ))
 refine wpQuiet_nil ?_
 rintro _ ⟨nq, rfl⟩
 have xl := ext_lt nq.use
 have xz := ext_size nq.use
 try simp at xz
 have hS7 := Lib.hid (hS6.out.step nq.use)
 have hl2 := Lib.hid (hLx.out nq.out hS7.out.ext)
 obtain ⟨x0, x1, x2, xl⟩ := hKx.out nq.out hS7.out.ext
 have kPx : Calls Tryz.prog 21 #[fV s X] nq.out fun e w' => e = .returned (.tuple #[]) ∧ Frm (fun k => k = g3 ∨ k = h3) nq.out w' := by
  rw [HXe.out]; exact rl_spoil s g3 F0.n c3 (F0.n + 20) h3 F0.m d3 (F0.m + 20) (Mk xs) (Mk ys) (by omega) (by omega) hl2.out.ne nq.out hl2.out.num hl2.out.den
 go_upto_region 22 with (first
  | (go_at_call 21; (with_reducible refine kPx.mono ?_); rintro e z4 ⟨rfl, hf3⟩)
  )
 obtain ⟨⟨p1, p2⟩, p5, p6⟩ := hapt.out
 have hB3 := Lib.hid (hS7.out.bk.below hf3 (fun k e => by rcases e with e | e <;> omega))
 have hE3 : Hid (Ext w z4) := Lib.hid (hf3.ext (jT hEW.out hS7.out.ext) (fun k e => by rcases e with e | e <;> omega))
 have kZ := stands_step hB3.out (by simp) (by simp)
 clear hf3 hl2 hS6 hS7 kPx x0 x1 x2 xl a0 a1 a2 al hB3 p1 p2 p5 p6
 go_wp2_with (first
  | (go_at_call 22; (with_reducible refine kZ.mono ?_); rintro e z5 ⟨rfl, h5'⟩)
  )
 refine bodyPost_ret (v := .bool true) ?h rfl ⟨rfl, h5'.out w hE3.out hlow⟩
 case h => simp [results, Tryz.results3, go_sem]
theorem walk_RatioChecks (x0 : Bool) (x1A : Option Addr) (x1l x1c : Nat) (x1 : List Nat) (x2A : Option Addr) (x2l x2c : Nat) (x2 : List Nat) (w : World) (hx1 : Rd w x1A x1l x1c x1) (hx2 : Rd w x2A x2l x2c x2) (hL : laidMetH Tryz.prog Rows.ratioChecksRow.laid w) :
  Calls Tryz.prog 3 #[.agg #[.bool x0, .slice x1A x1l x1c, .slice x2A x2l x2c]] w fun e w' => e = .returned (.bool true) ∧ Ext w w' := by
 have hT : Tz w := tz_row w hL (fun w => MakeChecks.laidMetH_plain _ _ _ (by kernel_rfl)) (rest := [("unicode/utf8.acceptRanges", Rows.laid_unicode_utf8_acceptRanges), ("unicode/utf8.first", Rows.laid_unicode_utf8_first)]) (by kernel_rfl)
 clear hL
 have kL : ∀ w', Ext w w' → Calls Tryz.prog 5 #[] w' fun e w'' => e = .returned (.bool true) ∧ Ext w' w'' := fun w' he => alive2_any w' (hT.ext he)
 have k1 := fun w' => rl_small x0 x1A x1l x1c x2A x2l x2c w'
 by_cases h : x1l ≤ 40 ∧ x2l ≤ 40
 ·obtain ⟨l1, l2⟩ := h
  rw [decide_eq_true ⟨l1, l2⟩] at k1
  have m1 : x1.length ≤ 40 := by rw [hx1.len]; exact l1
  have m2 : x2.length ≤ 40 := by rw [hx2.len]; exact l2
  obtain ⟨r1, zs1, ws1, E1, z1, y1, kP1, kD1⟩ := bo_Neg (s := x0) hx1.lb hx2.lb m1 m2
  obtain ⟨r2, zs2, ws2, E2, z2, y2, kP2, kD2⟩ := bo_Abs (s := x0) hx1.lb hx2.lb m1 m2
  obtain ⟨r3, qs, E3, z3, kP3, kD3⟩ := bo_Floor (s := x0) hx1.lb hx2.lb m1 m2
  obtain ⟨t4, E4, kP4, kD4⟩ := bo_Text (s := x0) hx1.lb hx2.lb m1 m2
  obtain ⟨E5, kP5, kD5⟩ := bo_Check (s := x0) hx1.lb hx2.lb m1 m2
  exact checks_core x0 ⟨x1A, x1l, x1c, x2A, x2l, x2c⟩ x1 x2 hx1.lb hx2.lb w hT ⟨hx1, hx2⟩ r1 zs1 ws1 E1 z1 y1 kP1 kD1 r2 zs2 ws2 E2 z2 y2 kP2 kD2 r3 qs E3 z3 kP3 kD3 t4 E4 kP4 kD4 E5 kP5 kD5 kL k1
   (fun w' he => rl_lent x0 x1A x1l x1c x1 x2A x2l x2c x2 (by omega) (by omega) w' (hx1.ext he) (hx2.ext he))
 ·rw [decide_eq_false h] at k1
  exact checks_skip x0 ⟨x1A, x1l, x1c, x2A, x2l, x2c⟩ w kL k1
end Go.Proofs.YtfdmhefjmnlllaaGreatDoor
end
