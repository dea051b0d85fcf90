/- Lemmas of this proof, laid together: NtM, NtN, NtO, RatH, RatI, RatJ, RatK, RatL, RatM, RatN. -/
import Derived.Test.YtiapoflkeliljaaGreatDoorMg24
import Derived.Test.YtiapoflkeliljaaGreatDoorMg03
import Derived.Deep.DeepCutAuto
import Derived.Deep.RegionWith
import Derived.Deep.LoopGhost
import Derived.Scope
import Derived.Test.YtiapoflkeliljaaGreatDoorMg07
set_option linter.unusedSimpArgs false
set_option linter.unusedVariables false
section
/- The program's numbers: order; quotients by one limb. -/
namespace Go.Proofs.YtiapoflkeliljaaGreatDoor
open Go.RowKit
attribute [local go_sem] sz2 sz3 sz4 sz5 sz6 sz7 sz8
set_option maxHeartbeats 4000000
set_option maxRecDepth 100000
attribute [local irreducible] Calls
attribute [local go_sem] D2.Oper.detAt D2.detUpon D2.relUpon
namespace D2
/-- A number that was answered, in memory of its own. -/
def RNumF (N v : Nat) : List Value → Value → World → Prop := fun _ u w => ∃ (A : Option Addr) (k : Nat), u = natV A k k ∧ Rd w A k k (lim v) ∧ ∀ a, A = some a → N ≤ a.block
theorem stays_numF (N v : Nat) : Stays (RNumF N v) := fun _ _ _ _ ⟨A, k, h1, h2, h3⟩ he => ⟨A, k, h1, h2.ext he, h3⟩
theorem numF_at {N v : Nat} {vals : List Value} {A : Option Addr} {k : Nat} {w : World} (h : RNumF N v vals (natV A k k) w) : Rd w A k k (lim v) ∧ ∀ a, A = some a → N ≤ a.block := by
  obtain ⟨A', k', e, h2⟩ := h
  simp [natV] at e
  obtain ⟨rfl, rfl⟩ := e
  exact h2
theorem fresh_numF {w w' : World} {A : Option Addr} {k : Nat} : Fresh w (natV A k k) w' := fun b hb => by simp [blk, natV] at hb
theorem stays_wordF (N v : Nat) : Stays (RWord N v) := fun _ _ _ _ ⟨A, k, c, h1, h2, h3⟩ he => ⟨A, k, c, h1, h2.ext he, h3⟩
end D2
/-- A list of one limb, laid anew. -/
theorem app_one (N : Nat) (w : World) (hN : N ≤ w.heap.size) (b o c x : Nat) (ty : TypeId) (hx0 : 0 < x) (hx : x < 4294967296) (hc : w.cell? ⟨b, o, none⟩ = some (.int .u32 (x : Int))) (vals : List Value) :
    ∃ v' w', (Builtin.append_ #[28, 28] ty #[.slice none 0 0, .slice (some ⟨b, o, none⟩) 1 c]).run Tryz.prog w = .ok v' w' ∧ Ext w w' ∧ RWord N x vals v' w' := by
  obtain ⟨i, hi, hz, hsz, hby⟩ := info_parts u32_info
  obtain ⟨v', w', h1, h2, h3, -⟩ := run_append_own (P := Tryz.prog) w w.heap.size 28 ty 54 i _ 1 4 u32_under hi hz hsz hby rfl (by decide) (.slice none 0 0) 0 [] (World.ownsRow_nil _ _ _ _) ⟨b, o, none⟩ 1 c [u32V x] rfl
    (by intro j u hj; match j, hj with | 0, hj => (simp at hj; subst hj; simpa [Addr.add] using hc)) (by intro u hu; simp at hu; subst hu; rfl) (by unfold maxLen; omega) (by omega) (Nat.le_refl _)
  have hE := ext_grown_none (ext_refl w) h3
  have h4 : w'.ownsRow w.heap.size 54 1 v' 1 ([x].map u32V) := h2
  obtain ⟨A, c', rfl, hR⟩ := Rd.own h4 (by intro y hy; simp at hy; subst hy; exact hx)
  refine ⟨_, w', h1, hE, A, 1, c', rfl, by rw [lim_one hx0 hx]; exact hR, fun a ha => Nat.le_trans hN ?_⟩
  exact own_fr h4 a ha
theorem rel_app (N : Nat) {o : Oper} {a : Act} {w : World} (s t : Operand) (ho : o.op = .call { callee := .builtin .append, args := #[s, t], argTypes := #[28, 28] }) (hs : a.eval s = .slice none 0 0) (b off c x : Nat) (ht : a.eval t = .slice (some ⟨b, off, none⟩) 1 c)
    (hN : N ≤ w.heap.size) (hx0 : 0 < x) (hx : x < 4294967296) (hc : w.cell? ⟨b, off, none⟩ = some (.int .u32 (x : Int))) : D2.Oper.relAt Tryz.prog o a w (RWord N x (D2.opVals o a)) := by
  obtain ⟨v', w', hr, h2, h3⟩ := app_one N w hN b off c x o.type hx0 hx hc (D2.opVals o a)
  unfold D2.Oper.relAt execOp
  simp only [ho, resolve, invoke, builtin, Sem.run_bind, Sem.run_pure, Result.andThen_ok, List.map_toArray, List.map_cons, List.map_nil, hs, ht, hr]
  have hf : D2.Fresh w v' w' := by obtain ⟨A, k, c', rfl, -⟩ := h3; exact fun b hb => by simp [D2.blk] at hb
  exact ⟨h2, hf, h3⟩
theorem ncmp_any (A B : Option Addr) (n c m d a b : Nat) (hn : n ≤ 16384) (hm : m ≤ 16384) (w : World) (hA : Rd w A n c (lim a)) (hB : Rd w B m d (lim b)) :
    Calls Tryz.prog 139 #[natV A n c, natV B m d] w fun e w' => e = .returned (.tuple #[.int .i64 (cmpN a b), .int .i64 0]) ∧ Ext w w' := by
  have ha := hA.len
  have hb := hB.len
  have hck : ∀ w' t G, Hid (Ext w w') → G = w'.heap.size → Calls Tryz.prog 203 #[.slice (some ⟨G, 0, none⟩) 2 2] (w'.alloc (Obj.cells #[.slice A n c, .slice B m d] t)) fun e w'' => e = .returned (.int .i64 0) ∧ Ext (w'.alloc (Obj.cells #[.slice A n c, .slice B m d] t)) w'' := fun w' t G he hG => checks_new A B n c m d _ _ w w' hA hB (chk_lim (by omega)) (chk_lim (by omega)) he t G hG
  have hcm : ∀ w', Hid (Ext w w') → Calls Tryz.prog 209 #[.slice A n c, .slice B m d] w' fun e w'' => e = .returned (.int .i64 (cmpN a b)) ∧ Ext w' w'' := fun w' he => pcmp_any A B n c m d a b w' (hA.ext he.out) (hB.ext he.out)
  clear hA hB ha hb
  generalize cmpN a b = R at *
  go_enter Tryz.func139, Tryz.ntmps139
  go_wp2_with (first
    | (go_at_call 203; (with_reducible refine (hck _ _ _ (Lib.hid (by (repeat (first | exact ext_refl _ | assumption | refine ext_setCell ?_ (by simp; try omega) _ | refine ext_alloc ?_ _ | refine ext_drew ?_ | refine ext_drewN ?_ _ | refine ext_trans ?_ (Aft.use _) | refine ext_trans ?_ (by assumption))))) (by simp)).mono ?_); rintro e w1 ⟨rfl, xb1⟩; obtain ⟨xc1, xf1, xl1, xz1⟩ := ext_use xb1; (try simp at xz1); obtain ⟨l1_0, gc, gf⟩ := kp xb1 (w.heap.size) (by first | omega | (simp; try omega)); have r1_0 := gc 0; have f1_0 := gf 0; clear gc gf; obtain ⟨l1_1, gc, gf⟩ := kp xb1 (w.heap.size + 1) (by first | omega | (simp; try omega)); have r1_1 := gc 0; have f1_1 := gf 0; clear gc gf)
    | (go_at_call 209; (with_reducible refine (hcm _ (Lib.hid (by (repeat (first | exact ext_refl _ | assumption | refine ext_setCell ?_ (by simp; try omega) _ | refine ext_alloc ?_ _ | refine ext_drew ?_ | refine ext_drewN ?_ _ | refine ext_trans ?_ (Aft.use _) | refine ext_trans ?_ (by assumption)))))).mono ?_); rintro e w2 ⟨rfl, xb2⟩; obtain ⟨xc2, xf2, xl2, xz2⟩ := ext_use xb2; (try simp at xz2); obtain ⟨l2_0, gc, gf⟩ := kp xb2 (w.heap.size + 1) (by first | omega | (simp; try omega)); have r2_0 := gc 0; have f2_0 := gf 0; clear gc gf)
   )
  refine bodyPost_ret (v := .tuple #[.int .i64 R, .int .i64 0]) ?h rfl ⟨rfl, ?_⟩
  case h => simp [results, Tryz.results139, go_sem, *]
  repeat (first | exact ext_refl _ | assumption | refine ext_setCell ?_ (by simp; try omega) _ | refine ext_alloc ?_ _ | refine ext_drew ?_ | refine ext_drewN ?_ _ | refine ext_trans ?_ (Aft.use _) | refine ext_trans ?_ (by assumption))
/-- What a division leaves. -/
abbrev DivPost (w : World) (q r : Nat) : Ending → World → Prop := fun e w' => ∃ (A : Option Addr) (k : Nat) (B : Option Addr) (m : Nat), e = .returned (.tuple #[natV A k k, natV B m m, .int .i64 0]) ∧ Hid (Rd w' A k k (lim q) ∧ Fr w A ∧ Rd w' B m m (lim r) ∧ Fr w B) ∧ Ext w w'
theorem ndiv_ge (A B : Option Addr) (n c d u v : Nat) (hn : n ≤ 16384) (hv : 0 < v) (hv2 : v < 4294967296) (huv : v ≤ u) (w : World) (hA : Rd w A n c (lim u)) (hB : Rd w B 1 d (lim v)) :
    Calls Tryz.prog 208 #[natV A n c, natV B 1 d] w (DivPost w (u / v) (u % v)) := by
  have ha := hA.len
  have hb := hB.len
  have hck : ∀ w' t G, Hid (Ext w w') → G = w'.heap.size → Calls Tryz.prog 203 #[.slice (some ⟨G, 0, none⟩) 2 2] (w'.alloc (Obj.cells #[.slice A n c, .slice B 1 d] t)) fun e w'' => e = .returned (.int .i64 0) ∧ Ext (w'.alloc (Obj.cells #[.slice A n c, .slice B 1 d] t)) w'' := fun w' t G he hG => checks_new A B n c 1 d _ _ w w' hA hB (chk_lim (by omega)) (chk_lim (by omega)) he t G hG
  have hcm : ∀ w', Hid (Ext w w') → Calls Tryz.prog 209 #[.slice A n c, .slice B 1 d] w' fun e w'' => e = .returned (.int .i64 (cmpN u v)) ∧ Ext w' w'' := fun w' he => pcmp_any A B n c 1 d u v w' (hA.ext he.out) (hB.ext he.out)
  have hge : decide (cmpN u v < 0) = false := by
    apply decide_eq_false; unfold cmpN; rw [if_neg (by omega)]; split <;> decide
  have kS : ∀ w', Ext w w' → Calls Tryz.prog 210 #[.slice A n c, .int .u32 (v : Int)] w' fun e w'' => ∃ (A' : Option Addr) (os : List Nat) (r : Nat), e = .returned (.tuple #[.slice A' n n, .int .u32 (r : Int)]) ∧ Hid (r = u % v ∧ Rd w'' A' n n os ∧ val os = u / v ∧ Fr w' A') ∧ Ext w' w'' := fun w' he => by
    have := small_any A n c (lim u) v hv hv2 (by omega) w' (hA.ext he); rwa [val_lim] at this
  obtain ⟨bx, ox, hXe⟩ : ∃ b off, B = some ⟨b, off, none⟩ := by
    rcases hB.shape with ⟨_, h, _⟩ | h
    · omega
    · exact h
  subst hXe
  obtain ⟨x, hx, hxb, hcell⟩ := hB.get 0 (by decide)
  have hxv : x = v := by
    rw [← hx.out, limb_at]; simp [Nat.mod_eq_of_lt hv2, Bs]
  subst hxv
  have hbl : bx < w.heap.size := (hB.cells bx ox rfl 0 (by omega)).1
  have hcw : ∀ w', Ext w w' → w'.cell? ⟨bx, ox, none⟩ = some (.int .u32 (x : Int)) := fun w' he => (Below.cell (p := ⟨bx, ox, none⟩) he hbl).trans hcell
  have hrl : u % x < x := Nat.mod_lt _ hv
  clear hA hB ha hb hcell hx huv
  generalize cmpN u x = C at *
  generalize hQ : u / x = Q at *
  generalize hR : u % x = R at *
  clear hQ hR
  have kO : ∀ w', Calls Tryz.prog 136 #[.int .u64 (R : Int)] w' (NatPost w' R) := fun w' => nof_any R (by omega) w'
  go_enter Tryz.func208, Tryz.ntmps208
  go_wp2
  refine wp_scope_straight ?_
  go_wp2_with (first
    | (go_at_call 203; (with_reducible refine (hck _ _ _ (Lib.hid (by (repeat (first | exact ext_refl _ | assumption | refine ext_setCell ?_ (by simp; try omega) _ | refine ext_alloc ?_ _ | refine ext_drew ?_ | refine ext_drewN ?_ _ | refine ext_trans ?_ (Aft.use _) | refine ext_trans ?_ (by assumption))))) (by simp)).mono ?_); rintro e w1 ⟨rfl, xb1⟩; obtain ⟨xc1, xf1, xl1, xz1⟩ := ext_use xb1; (try simp at xz1); obtain ⟨l1_0, gc, gf⟩ := kp xb1 (w.heap.size) (by first | omega | (simp; try omega)); have r1_0 := gc 0; have f1_0 := gf 0; clear gc gf; obtain ⟨l1_1, gc, gf⟩ := kp xb1 (w.heap.size + 1) (by first | omega | (simp; try omega)); have r1_1 := gc 0; have f1_1 := gf 0; clear gc gf; obtain ⟨l1_2, gc, gf⟩ := kp xb1 (w.heap.size + 1 + 1) (by first | omega | (simp; try omega)); have r1_2 := gc 0; have f1_2 := gf 0; clear gc gf; obtain ⟨l1_3, gc, gf⟩ := kp xb1 (w.heap.size + 1 + 1 + 1) (by first | omega | (simp; try omega)); have r1_3 := gc 0; have f1_3 := gf 0; clear gc gf)
    | (go_at_call 209; (with_reducible refine (hcm _ (Lib.hid (by (repeat (first | exact ext_refl _ | assumption | refine ext_setCell ?_ (by simp; try omega) _ | refine ext_alloc ?_ _ | refine ext_drew ?_ | refine ext_drewN ?_ _ | refine ext_trans ?_ (Aft.use _) | refine ext_trans ?_ (by assumption)))))).mono ?_); rintro e w2 ⟨rfl, xb2⟩; obtain ⟨xc2, xf2, xl2, xz2⟩ := ext_use xb2; (try simp at xz2); obtain ⟨l2_0, gc, gf⟩ := kp xb2 (w.heap.size) (by first | omega | (simp; try omega)); have r2_0 := gc 0; have f2_0 := gf 0; clear gc gf; obtain ⟨l2_1, gc, gf⟩ := kp xb2 (w.heap.size + 1) (by first | omega | (simp; try omega)); have r2_1 := gc 0; have f2_1 := gf 0; clear gc gf; obtain ⟨l2_2, gc, gf⟩ := kp xb2 (w.heap.size + 1 + 1) (by first | omega | (simp; try omega)); have r2_2 := gc 0; have f2_2 := gf 0; clear gc gf; obtain ⟨l2_3, gc, gf⟩ := kp xb2 (w.heap.size + 1 + 1 + 1) (by first | omega | (simp; try omega)); have r2_3 := gc 0; have f2_3 := gf 0; clear gc gf)
   )
  have hE2 : Hid (Ext w w2) := by show Ext w w2; (repeat (first | exact ext_refl _ | assumption | refine ext_setCell ?_ (by simp; try omega) _ | refine ext_alloc ?_ _ | refine ext_drew ?_ | refine ext_drewN ?_ _ | refine ext_trans ?_ (Aft.use _) | refine ext_trans ?_ (by assumption)))
  have hcx := hcw w2 hE2.out
  have ltb := ext_lt hE2.out bx hbl
  go_region_with (first
    | (go_at_call 210; (with_reducible refine (kS _ (ext_trans hE2.out (by (repeat (first | exact ext_refl _ | assumption | refine ext_setCell ?_ (by simp; try omega) _ | refine ext_alloc ?_ _ | refine ext_drew ?_ | refine ext_drewN ?_ _ | refine ext_trans ?_ (Aft.use _) | refine ext_trans ?_ (by assumption)))))).mono ?_); rintro e w3 ⟨A3, os, r, rfl, hR3, xb3⟩; obtain ⟨xc3, xf3, xl3, xz3⟩ := ext_use xb3; (try simp at xz3); obtain ⟨l3_0, gc, gf⟩ := kp xb3 (w.heap.size + 1 + 1) (by first | omega | (simp; try omega)); have r3_0 := gc 0; have f3_0 := gf 0; clear gc gf; obtain ⟨l3_1, gc, gf⟩ := kp xb3 (w.heap.size + 1 + 1 + 1) (by first | omega | (simp; try omega)); have r3_1 := gc 0; have f3_1 := gf 0; clear gc gf)
   )
  all_goals
    obtain rfl : r = R := hR3.out.1
    go_wp2_with (first
      | (go_at_call 205; (with_reducible refine (trimmed_any A3 _ _ os _ hR3.out.2.1).mono ?_); rintro e w4 ⟨D, m, rfl, hR4, xb4⟩; obtain ⟨xc4, xf4, xl4, xz4⟩ := ext_use xb4; (try simp at xz4); obtain ⟨l4_0, gc, gf⟩ := kp xb4 (w.heap.size + 1 + 1) (by first | omega | (simp; try omega)); have r4_0 := gc 0; have f4_0 := gf 0; clear gc gf; obtain ⟨l4_1, gc, gf⟩ := kp xb4 (w.heap.size + 1 + 1 + 1) (by first | omega | (simp; try omega)); have r4_1 := gc 0; have f4_1 := gf 0; clear gc gf)
      | (go_at_call 136; (with_reducible refine (kO _).mono ?_); rintro e w5 ⟨E, p, rfl, hR5, xb5⟩; obtain ⟨xc5, xf5, xl5, xz5⟩ := ext_use xb5; (try simp at xz5); obtain ⟨l5_0, gc, gf⟩ := kp xb5 (w.heap.size + 1 + 1) (by first | omega | (simp; try omega)); have r5_0 := gc 0; have f5_0 := gf 0; clear gc gf; obtain ⟨l5_1, gc, gf⟩ := kp xb5 (w.heap.size + 1 + 1 + 1) (by first | omega | (simp; try omega)); have r5_1 := gc 0; have f5_1 := gf 0; clear gc gf)
     )
    have z0 : w5.cell? ⟨w.heap.size + 1 + 1, 0, none⟩ = some (.slice none 0 0) := by simp [go_sem, *]
    have z1 : w5.cell? ⟨w.heap.size + 1 + 1 + 1, 0, none⟩ = some (.slice none 0 0) := by simp [go_sem, *]
    have q1 : ((w5.setCell ⟨w.heap.size + 1 + 1, 0, none⟩ (.slice D m m)).setCell ⟨w.heap.size + 1 + 1 + 1, 0, none⟩ (.slice E p p)).cell? ⟨w.heap.size + 1 + 1 + 1, 0, none⟩ = some (.slice E p p) :=
      World.cell?_setCell_same _ _ _ (by rw [World.cell?_setCell_other _ _ _ _ (by simp)]; exact z1)
    have q0 : ((w5.setCell ⟨w.heap.size + 1 + 1, 0, none⟩ (.slice D m m)).setCell ⟨w.heap.size + 1 + 1 + 1, 0, none⟩ (.slice E p p)).cell? ⟨w.heap.size + 1 + 1, 0, none⟩ = some (.slice D m m) := by
      rw [World.cell?_setCell_other _ _ _ _ (by simp)]; exact World.cell?_setCell_same _ _ _ z0
    have e3 := ext_size hE2.out
    have l2 : w.heap.size + 1 + 1 + 1 < w2.heap.size := by assumption
    have hFD : ∀ x, D = some x → w.heap.size + 1 + 1 + 1 < x.block := fun x hx => by have := hR3.out.2.2.2 x (hR4.out.2 x hx); (try simp at this); omega
    have hFE : ∀ x, E = some x → w.heap.size + 1 + 1 + 1 < x.block := fun x hx => by have := hR5.out.2 x hx; have := ext_size xb3; have := ext_size xb4; simp at *; omega
    have hD5 : Rd w5 D m m (lim Q) := by have := hR4.out.1 w5 ((hR3.out.2.1.ext xb4).ext xb5); rwa [hR3.out.2.2.1] at this
    have hEE : Ext w w5 := by (repeat (first | exact ext_refl _ | assumption | refine ext_setCell ?_ (by simp; try omega) _ | refine ext_alloc ?_ _ | refine ext_drew ?_ | refine ext_drewN ?_ _ | refine ext_trans ?_ (Aft.use _) | refine ext_trans ?_ (by assumption)))
    simp only [Exit.noGoto]
    refine bodyPost_ret (v := .tuple #[natV D m m, natV E p p, .int .i64 0]) ?h rfl ⟨D, m, E, p, rfl, ⟨(hD5.set _ (fun x hx => Nat.lt_of_succ_lt (hFD x hx))).set _ (fun x hx => hFD x hx), fun x hx => Nat.le_of_lt (by have := hFD x hx; omega), (hR5.out.1.set _ (fun x hx => Nat.lt_of_succ_lt (hFE x hx))).set _ (fun x hx => hFE x hx), fun x hx => Nat.le_of_lt (by have := hFE x hx; omega)⟩, ext_setCell (ext_setCell hEE (by simp; omega) _) (by simp; omega) _⟩
    case h => simp [results, Tryz.results208, go_sem, q0, q1]
theorem ndiv_lt (A B : Option Addr) (c d u v : Nat) (hu : 0 < u) (huv : u < v) (hv2 : v < 4294967296) (w : World) (hA : Rd w A 1 c (lim u)) (hB : Rd w B 1 d (lim v)) :
    Calls Tryz.prog 208 #[natV A 1 c, natV B 1 d] w (DivPost w 0 u) := by
  have ha := hA.len
  have hb := hB.len
  have hck : ∀ w' t G, Hid (Ext w w') → G = w'.heap.size → Calls Tryz.prog 203 #[.slice (some ⟨G, 0, none⟩) 2 2] (w'.alloc (Obj.cells #[.slice A 1 c, .slice B 1 d] t)) fun e w'' => e = .returned (.int .i64 0) ∧ Ext (w'.alloc (Obj.cells #[.slice A 1 c, .slice B 1 d] t)) w'' := fun w' t G he hG => checks_new A B 1 c 1 d _ _ w w' hA hB (chk_lim (by omega)) (chk_lim (by omega)) he t G hG
  have hcm : ∀ w', Hid (Ext w w') → Calls Tryz.prog 209 #[.slice A 1 c, .slice B 1 d] w' fun e w'' => e = .returned (.int .i64 (-1)) ∧ Ext w' w'' := fun w' he => by
    have := pcmp_any A B 1 c 1 d u v w' (hA.ext he.out) (hB.ext he.out)
    rwa [show cmpN u v = -1 by unfold cmpN; rw [if_pos huv]] at this
  obtain ⟨bx, ox, hXe⟩ : ∃ b off, A = some ⟨b, off, none⟩ := by
    rcases hA.shape with ⟨_, h, _⟩ | h
    · omega
    · exact h
  subst hXe
  obtain ⟨x, hx, hxb, hcell⟩ := hA.get 0 (by decide)
  have hxv : x = u := by
    rw [← hx.out, limb_at]; simp [Bs]
    omega
  subst hxv
  have hbl : bx < w.heap.size := (hA.cells bx ox rfl 0 (by omega)).1
  have hcw : ∀ w', Ext w w' → w'.cell? ⟨bx, ox, none⟩ = some (.int .u32 (x : Int)) := fun w' he => (Below.cell (p := ⟨bx, ox, none⟩) he hbl).trans hcell
  have hlx : lim x = [x] := lim_one hu hxb
  clear hA hB ha hb hcell hx huv
  go_enter Tryz.func208, Tryz.ntmps208
  go_wp2
  refine wp_scope_straight ?_
  go_wp2_with (first
    | (go_at_call 203; (with_reducible refine (hck _ _ _ (Lib.hid (by (repeat (first | exact ext_refl _ | assumption | refine ext_setCell ?_ (by simp; try omega) _ | refine ext_alloc ?_ _ | refine ext_drew ?_ | refine ext_drewN ?_ _ | refine ext_trans ?_ (Aft.use _) | refine ext_trans ?_ (by assumption))))) (by simp)).mono ?_); rintro e w1 ⟨rfl, xb1⟩; obtain ⟨xc1, xf1, xl1, xz1⟩ := ext_use xb1; (try simp at xz1); obtain ⟨l1_0, gc, gf⟩ := kp xb1 (w.heap.size) (by first | omega | (simp; try omega)); have r1_0 := gc 0; have f1_0 := gf 0; clear gc gf; obtain ⟨l1_1, gc, gf⟩ := kp xb1 (w.heap.size + 1) (by first | omega | (simp; try omega)); have r1_1 := gc 0; have f1_1 := gf 0; clear gc gf; obtain ⟨l1_2, gc, gf⟩ := kp xb1 (w.heap.size + 1 + 1) (by first | omega | (simp; try omega)); have r1_2 := gc 0; have f1_2 := gf 0; clear gc gf; obtain ⟨l1_3, gc, gf⟩ := kp xb1 (w.heap.size + 1 + 1 + 1) (by first | omega | (simp; try omega)); have r1_3 := gc 0; have f1_3 := gf 0; clear gc gf)
    | (go_at_call 209; (with_reducible refine (hcm _ (Lib.hid (by (repeat (first | exact ext_refl _ | assumption | refine ext_setCell ?_ (by simp; try omega) _ | refine ext_alloc ?_ _ | refine ext_drew ?_ | refine ext_drewN ?_ _ | refine ext_trans ?_ (Aft.use _) | refine ext_trans ?_ (by assumption)))))).mono ?_); rintro e w2 ⟨rfl, xb2⟩; obtain ⟨xc2, xf2, xl2, xz2⟩ := ext_use xb2; (try simp at xz2); obtain ⟨l2_0, gc, gf⟩ := kp xb2 (w.heap.size) (by first | omega | (simp; try omega)); have r2_0 := gc 0; have f2_0 := gf 0; clear gc gf; obtain ⟨l2_1, gc, gf⟩ := kp xb2 (w.heap.size + 1) (by first | omega | (simp; try omega)); have r2_1 := gc 0; have f2_1 := gf 0; clear gc gf; obtain ⟨l2_2, gc, gf⟩ := kp xb2 (w.heap.size + 1 + 1) (by first | omega | (simp; try omega)); have r2_2 := gc 0; have f2_2 := gf 0; clear gc gf; obtain ⟨l2_3, gc, gf⟩ := kp xb2 (w.heap.size + 1 + 1 + 1) (by first | omega | (simp; try omega)); have r2_3 := gc 0; have f2_3 := gf 0; clear gc gf)
   )
  have hE2 : Hid (Ext w w2) := by show Ext w w2; (repeat (first | exact ext_refl _ | assumption | refine ext_setCell ?_ (by simp; try omega) _ | refine ext_alloc ?_ _ | refine ext_drew ?_ | refine ext_drewN ?_ _ | refine ext_trans ?_ (Aft.use _) | refine ext_trans ?_ (by assumption)))
  have hcx := hcw w2 hE2.out
  have ltb := ext_lt hE2.out bx hbl
  refine D2.wp_drawn_tail 5 (D2.tab [(3, RWord w2.heap.size x), (4, D2.RNumF w2.heap.size x)]) (by kernel_rfl) (by kernel_rfl) (by kernel_rfl) (D2.tab_stays (by simp [D2.stays_wordF, D2.stays_numF])) (fun hq hqf => ?_)
  simp only [List.take_succ_cons, List.take_zero, List.drop_succ_cons, List.drop_zero]
  have c4 : w2.cell? ⟨w.heap.size + 1 + 1, 0, none⟩ = some (.slice none 0 0) := by simp [go_sem, *]
  have c2 : w2.cell? ⟨w.heap.size, 0, none⟩ = some (.slice (some ⟨bx, ox, none⟩) 1 c) := by simp [go_sem, *]
  have m4 : w.heap.size + 1 + 1 < w2.heap.size := by assumption
  have m2 : w.heap.size < w2.heap.size := by assumption
  have y4 := fun nq => (hq nq (w.heap.size + 1 + 1) 0 m4).trans c4
  have y2 := fun nq => (hq nq w.heap.size 0 m2).trans c2
  have yb := fun nq => (hq nq bx ox ltb).trans hcx
  iterate 3
    (refine D2.wpK_det rfl (fun K hK => ?_)
     go_simp
     first
       | (refine hK _ ?_; clear hK K)
       | (apply Exists.intro; refine ⟨fun x => ?_, hK _ ?_⟩; (first | exact y4 x | exact y2 x | (simp [y4, y2]; done) | (simp [y4, y2]; rfl)); clear hK K))
  refine D2.wpK_rel _ rfl rfl ?_ ?_
  · rintro _ ⟨nn, rfl⟩ _
    exact rel_app _ _ _ rfl rfl bx ox c x rfl (ext_size nn.use) hu hxb (yb nn)
  rintro v' ⟨_, ⟨nn, rfl⟩, hr⟩
  obtain ⟨A4, n4, c4', rfl, -⟩ := hr
  clear nn
  refine D2.wpK_rel _ rfl rfl ?_ ?_
  · rintro _ ⟨nn, rfl⟩ hdep
    have r1 := hdep 3 (by kernel_rfl)
    simp only [D2.Facts.put] at r1
    have r2 := rword_at (vals := []) r1
    unfold D2.Oper.relAt
    go_simp
    refine (trimmed_any A4 n4 c4' _ _ r2.1).mono ?_
    rintro e w' ⟨D, m, rfl, h3, h4⟩
    refine ⟨_, rfl, h4, D2.fresh_numF, D, m, rfl, ?_, fun q hq => r2.2 q (h3.out.2 q hq)⟩
    have h5 := h3.out.1 w' (r2.1.ext h4)
    rwa [val_lim] at h5
  rintro v' ⟨_, ⟨nn, rfl⟩, hr⟩
  obtain ⟨D, m, rfl, -⟩ := hr
  clear nn
  refine D2.wpK_nil ?_
  intro nq hG
  have r5 : D2.RNumF w2.heap.size x [] (natV D m m) nq.out := by have := hG.fact 4; simp [D2.Facts.put] at this; exact this
  have hR5 := Lib.hid (D2.numF_at r5)
  have hE := Lib.hid nq.use
  clear r5 hG y4 y2 yb
  have m5 : w.heap.size + 1 + 1 + 1 < w2.heap.size := by assumption
  have c5 : w2.cell? ⟨w.heap.size + 1 + 1 + 1, 0, none⟩ = some (.slice none 0 0) := by simp [go_sem, *]
  have z0 := (Below.cell (p := ⟨w.heap.size + 1 + 1, 0, none⟩) hE.out m4).trans c4
  have z1 := (Below.cell (p := ⟨w.heap.size + 1 + 1 + 1, 0, none⟩) hE.out m5).trans c5
  have g0 : w2.frozen? ⟨w.heap.size + 1 + 1, 0, none⟩ = false := by simp [go_sem, *]
  have g1 : w2.frozen? ⟨w.heap.size + 1 + 1 + 1, 0, none⟩ = false := by simp [go_sem, *]
  have g0' := (Below.frozen (p := ⟨w.heap.size + 1 + 1, 0, none⟩) hE.out m4).trans g0
  have g1' := (Below.frozen (p := ⟨w.heap.size + 1 + 1 + 1, 0, none⟩) hE.out m5).trans g1
  have m4' := ext_lt hE.out _ m4
  have m5' := ext_lt hE.out _ m5
  go_wp2_with fail
  have q1 : ((nq.out.setCell ⟨w.heap.size + 1 + 1, 0, none⟩ (.slice none 0 0)).setCell ⟨w.heap.size + 1 + 1 + 1, 0, none⟩ (.slice D m m)).cell? ⟨w.heap.size + 1 + 1 + 1, 0, none⟩ = some (.slice D m m) :=
    World.cell?_setCell_same _ _ _ (by rw [World.cell?_setCell_other _ _ _ _ (by simp)]; exact z1)
  have q0 : ((nq.out.setCell ⟨w.heap.size + 1 + 1, 0, none⟩ (.slice none 0 0)).setCell ⟨w.heap.size + 1 + 1 + 1, 0, none⟩ (.slice D m m)).cell? ⟨w.heap.size + 1 + 1, 0, none⟩ = some (.slice none 0 0) := by
    rw [World.cell?_setCell_other _ _ _ _ (by simp)]; exact World.cell?_setCell_same _ _ _ z0
  have hFD : ∀ x, D = some x → w.heap.size + 1 + 1 + 1 < x.block := fun x hx => by have := hR5.out.2 x hx; omega
  have hEE : Ext w nq.out := ext_trans hE2.out hE.out
  simp only [Exit.noGoto]
  refine bodyPost_ret (v := .tuple #[natV none 0 0, natV D m m, .int .i64 0]) ?h rfl ⟨none, 0, D, m, rfl, ⟨by rw [lim_zero]; exact Rd.nil _, (fun _ h => by cases h), (hR5.out.1.set _ (fun x hx => Nat.lt_of_succ_lt (hFD x hx))).set _ (fun x hx => hFD x hx), fun x hx => Nat.le_of_lt (by have := hFD x hx; omega)⟩, ext_setCell (ext_setCell hEE (by simp; omega) _) (by simp; omega) _⟩
  case h => simp [results, Tryz.results208, go_sem, q0, q1]
end Go.Proofs.YtiapoflkeliljaaGreatDoor
end
section
/- The program's numbers: products that are too long. -/
namespace Go.Proofs.YtiapoflkeliljaaGreatDoor
open Go.RowKit
attribute [local go_sem] sz2 sz3 sz4 sz5 sz6 sz7 sz8
set_option maxHeartbeats 4000000
set_option maxRecDepth 100000
attribute [local irreducible] Calls
theorem nfits_many (A : Option Addr) (n c : Nat) (xs : List Nat) (w : World) (hR : Rd w A n c xs) (hs : 16384 < (lim (val xs)).length) :
    Calls Tryz.prog 204 #[.slice A n c] w fun e w' => e = .returned (.tuple #[natV none 0 0, .int .i64 4]) ∧ Ext w w' := by
  have ht : ∀ w', Hid (Ext w w') → Calls Tryz.prog 205 #[.slice A n c] w' fun e w'' => ∃ (A' : Option Addr) (k : Nat), (e = .returned (natV A' k k) ∧ 16384 < k) ∧ Ext w' w'' := fun w' he => by
    refine (trimmed_any A n c xs w' (hR.ext he.out)).mono ?_
    rintro e w'' ⟨A', k, he2, h1, h2⟩
    exact ⟨A', k, ⟨he2, by have := (h1.out.1 _ (hR.ext he.out)).len; omega⟩, h2⟩
  clear hR hs
  go_enter Tryz.func204, Tryz.ntmps204
  go_wp2_with (first
    | (go_at_call 205; (with_reducible refine (ht _ (Lib.hid (by (repeat (first | exact ext_refl _ | assumption | refine ext_setCell ?_ (by simp; try omega) _ | refine ext_alloc ?_ _ | refine ext_drew ?_ | refine ext_drewN ?_ _ | refine ext_trans ?_ (Aft.use _) | refine ext_trans ?_ (by assumption)))))).mono ?_); rintro e w1 ⟨A', k, ⟨rfl, hk⟩, xb1⟩; obtain ⟨xc1, xf1, xl1, xz1⟩ := ext_use xb1; (try simp at xz1); obtain ⟨l1_0, gc, gf⟩ := kp xb1 (w.heap.size) (by first | omega | (simp; try omega)); have r1_0 := gc 0; have f1_0 := gf 0; clear gc gf)
   )
  have z0 : w1.cell? ⟨w.heap.size, 0, none⟩ = some (.slice none 0 0) := by simp [go_sem, *]
  refine bodyPost_ret (v := .tuple #[natV none 0 0, .int .i64 4]) ?h rfl ⟨rfl, ?_⟩
  case h => simp [results, Tryz.results204, go_sem, *]
  repeat (first | exact ext_refl _ | assumption | refine ext_setCell ?_ (by simp; try omega) _ | refine ext_alloc ?_ _ | refine ext_drew ?_ | refine ext_drewN ?_ _ | refine ext_trans ?_ (Aft.use _) | refine ext_trans ?_ (by assumption))
theorem pmul_far (A B : Option Addr) (n c m d : Nat) (a b : Nat) (w : World) (hA : Rd w A n c (lim a)) (hB : Rd w B m d (lim b)) (ha : (lim a).length ≤ 16384) (hb : (lim b).length ≤ 16384) (hsum : 16385 < n + m) :
    Calls Tryz.prog 135 #[natV A n c, natV B m d] w fun e w' => e = .returned (.tuple #[natV none 0 0, .int .i64 4]) ∧ Ext w w' := by
  have hck : ∀ w' t G, Hid (Ext w w') → G = w'.heap.size → Calls Tryz.prog 203 #[.slice (some ⟨G, 0, none⟩) 2 2] (w'.alloc (Obj.cells #[.slice A n c, .slice B m d] t)) fun e w'' => e = .returned (.int .i64 0) ∧ Ext (w'.alloc (Obj.cells #[.slice A n c, .slice B m d] t)) w'' := fun w' t G he hG => checks_new A B n c m d _ _ w w' hA hB (chk_lim ha) (chk_lim hb) he t G hG
  have hmx := hA.mx
  have hmy := hB.mx
  have hcx := hA.cap
  have hcy := hB.cap
  have hn := hA.len
  have hm := hB.len
  clear hA hB
  go_enter Tryz.func135, Tryz.ntmps135
  go_wp2_with (first
    | (go_at_call 203; (with_reducible refine (hck _ _ _ (Lib.hid (by (repeat (first | exact ext_refl _ | assumption | refine ext_setCell ?_ (by simp; try omega) _ | refine ext_alloc ?_ _ | refine ext_drew ?_ | refine ext_drewN ?_ _ | refine ext_trans ?_ (Aft.use _) | refine ext_trans ?_ (by assumption))))) (by simp)).mono ?_); rintro e w1 ⟨rfl, xb1⟩; obtain ⟨xc1, xf1, xl1, xz1⟩ := ext_use xb1; (try simp at xz1); obtain ⟨l1_0, gc, gf⟩ := kp xb1 (w.heap.size) (by first | omega | (simp; try omega)); have r1_0 := gc 0; have f1_0 := gf 0; clear gc gf; obtain ⟨l1_1, gc, gf⟩ := kp xb1 (w.heap.size + 1) (by first | omega | (simp; try omega)); have r1_1 := gc 0; have f1_1 := gf 0; clear gc gf; obtain ⟨l1_2, gc, gf⟩ := kp xb1 (w.heap.size + 1 + 1) (by first | omega | (simp; try omega)); have r1_2 := gc 0; have f1_2 := gf 0; clear gc gf)
   )
  go_quiet (fail)
  go_wp2
  refine bodyPost_ret (v := .tuple #[natV none 0 0, .int .i64 4]) ?h rfl ⟨rfl, ?_⟩
  case h => simp [results, Tryz.results135, go_sem, *]
  repeat (first | exact ext_refl _ | assumption | refine ext_setCell ?_ (by simp; try omega) _ | refine ext_alloc ?_ _ | refine ext_drew ?_ | refine ext_drewN ?_ _ | refine ext_trans ?_ (Aft.use _) | refine ext_trans ?_ (by assumption))
theorem pmul_near (A B : Option Addr) (n c m d : Nat) (a b : Nat) (w : World) (hA : Rd w A n c (lim a)) (hB : Rd w B m d (lim b)) (ha : (lim a).length ≤ 16384) (hb : (lim b).length ≤ 16384) (hsum : n + m ≤ 16385) (hs : 16384 < (lim (a * b)).length) :
    Calls Tryz.prog 135 #[natV A n c, natV B m d] w fun e w' => e = .returned (.tuple #[natV none 0 0, .int .i64 4]) ∧ Ext w w' := by
  have hck : ∀ w' t G, Hid (Ext w w') → G = w'.heap.size → Calls Tryz.prog 203 #[.slice (some ⟨G, 0, none⟩) 2 2] (w'.alloc (Obj.cells #[.slice A n c, .slice B m d] t)) fun e w'' => e = .returned (.int .i64 0) ∧ Ext (w'.alloc (Obj.cells #[.slice A n c, .slice B m d] t)) w'' := fun w' t G he hG => checks_new A B n c m d _ _ w w' hA hB (chk_lim ha) (chk_lim hb) he t G hG
  have hmx := hA.mx
  have hmy := hB.mx
  have hcx := hA.cap
  have hcy := hB.cap
  have HA := Lib.hid hA
  have HB := Lib.hid hB
  have hlx := Lib.hid hA.len
  have hly := Lib.hid hB.len
  have HS := Lib.hid hs
  clear hA hB ha hb hs
  go_enter Tryz.func135, Tryz.ntmps135
  go_wp2_with (first
    | (go_at_call 203; (with_reducible refine (hck _ _ _ (Lib.hid (by (repeat (first | exact ext_refl _ | assumption | refine ext_setCell ?_ (by simp; try omega) _ | refine ext_alloc ?_ _ | refine ext_drew ?_ | refine ext_drewN ?_ _ | refine ext_trans ?_ (Aft.use _) | refine ext_trans ?_ (by assumption))))) (by simp)).mono ?_); rintro e w1 ⟨rfl, xb1⟩; obtain ⟨xc1, xf1, xl1, xz1⟩ := ext_use xb1; (try simp at xz1); obtain ⟨l1_0, gc, gf⟩ := kp xb1 (w.heap.size) (by first | omega | (simp; try omega)); have r1_0 := gc 0; have f1_0 := gf 0; clear gc gf; obtain ⟨l1_1, gc, gf⟩ := kp xb1 (w.heap.size + 1) (by first | omega | (simp; try omega)); have r1_1 := gc 0; have f1_1 := gf 0; clear gc gf; obtain ⟨l1_2, gc, gf⟩ := kp xb1 (w.heap.size + 1 + 1) (by first | omega | (simp; try omega)); have r1_2 := gc 0; have f1_2 := gf 0; clear gc gf)
   )
  go_quiet (fail)
  go_wp2_with (first
    | (at_make; refine make_u32 rfl _ _ rfl _ _ _ _ (n + m) rfl rfl (by simp) (by simp) (by omega) ?_; intro w2 hx2 ho2; have hext2 := Lib.hid hx2; clear hx2)
    | go_in)
  have hw1 : Hid (Ext w w1) := Lib.hid (by (repeat (first | exact ext_refl _ | assumption | refine ext_setCell ?_ (by simp; try omega) _ | refine ext_alloc ?_ _ | refine ext_drew ?_ | refine ext_drewN ?_ _ | refine ext_trans ?_ (Aft.use _) | refine ext_trans ?_ (by assumption))))
  have hE2 : Hid (Ext w1 w2) := Lib.hid (ext_trans (ext_drewN (ext_refl w1) nq) hext2.out)
  have hGl : w1.heap.size < w2.heap.size := (ho2.out.lt w1.heap.size rfl).2
  have hG2 : w.heap.size + 1 + 1 < w1.heap.size := l1_2
  go_loopw [43] (fun vi wr => ∃ (i : Nat) (os : List Nat), i ≤ n ∧ vi = .int .i64 (i : Int) ∧ Hid (os.length = n + m ∧ Lb os ∧ val os = val ((lim a).take i) * b ∧ ∀ p, i + m ≤ p → os.getD p 0 = 0) ∧
      Hid (wr.ownsRow w1.heap.size 54 1 (.slice (some ⟨w1.heap.size, 0, none⟩) (n + m) (n + m)) (n + m) (os.map u32V)) ∧ Hid (Ext w1 wr))
    (fun vi _ => n - (intOf vi).toNat)
  case atStart => exact ⟨0, List.replicate (n + m) 0, Nat.zero_le _, rfl, ⟨by simp, lb_replicate _, by rw [val_replicate]; simp [val], fun p _ => getD_replicate0 _ _⟩, ho2.out, hE2.out⟩
  case round =>
    clear ho2 hext2 hE2
    obtain ⟨i, os, hi, rfl, hos, hown, hext⟩ := hrel
    have hgl : w1.heap.size < wr.heap.size := (hown.out.lt w1.heap.size (by simp [Value.ownBlock])).2
    by_cases h0 : i < n
    · obtain ⟨bx, ox, hXe⟩ : ∃ b off, A = some ⟨b, off, none⟩ := by
        rcases HA.out.shape with ⟨_, h, _⟩ | h
        · omega
        · exact h
      subst hXe
      obtain ⟨x, hx, hxb, hcx1⟩ := ((HA.out.ext hw1.out).ext hext.out).get i h0
      go_wp2
      go_loopw [12, 63] (fun vc vk wr2 => ∃ (k cy : Nat) (os : List Nat), k ≤ m ∧ cy < 4294967296 ∧ vk = .int .i64 (k : Int) ∧ vc = .int .u64 (cy : Int) ∧
          Hid (os.length = n + m ∧ Lb os ∧ val os + Bs ^ (i + k) * cy = val ((lim a).take i) * b + Bs ^ i * (x * val ((lim b).take k)) ∧ ∀ p, i + m ≤ p → os.getD p 0 = 0) ∧
          Hid (wr2.ownsRow w1.heap.size 54 1 (.slice (some ⟨w1.heap.size, 0, none⟩) (n + m) (n + m)) (n + m) (os.map u32V)) ∧ Hid (Ext w1 wr2))
        (fun _ vk _ => m - (intOf vk).toNat)
      case atStart => exact ⟨0, 0, os, Nat.zero_le _, by omega, rfl, rfl, ⟨hos.out.1, hos.out.2.1, by rw [hos.out.2.2.1]; simp [val], hos.out.2.2.2⟩, hown.out, hext.out⟩
      case round =>
        clear hos hown hext os hcx1 hgl
        obtain ⟨k, cy, os, hk, hcyb, rfl, rfl, hos, hown, hext⟩ := hrel
        have hgl : w1.heap.size < wr.heap.size := (hown.out.lt w1.heap.size (by simp [Value.ownBlock])).2
        by_cases hkm : k < m
        · obtain ⟨by', oy, hYe⟩ : ∃ b off, B = some ⟨b, off, none⟩ := by
            rcases HB.out.shape with ⟨_, h, _⟩ | h
            · omega
            · exact h
          subst hYe
          obtain ⟨y, hy, hyb, hcy2⟩ := ((HB.out.ext hw1.out).ext hext.out).get k hkm
          obtain ⟨o, ho, hob⟩ : ∃ o : Nat, Hid (os.getD (i + k) 0 = o) ∧ o < 4294967296 := ⟨_, rfl, lb_getD hos.out.2.1 _⟩
          obtain ⟨hc1, hf1⟩ := own_at hown.out (i + k) (by omega)
          rw [ho.out] at hc1
          obtain ⟨p, hp⟩ : ∃ p, p = x * y := ⟨_, rfl⟩
          have hpb : p ≤ 18446744065119617025 := by
            rw [hp]
            exact Nat.mul_le_mul (show x ≤ 4294967295 by omega) (show y ≤ 4294967295 by omega)
          have hpi : (x : Int) * (y : Int) = (p : Int) := by rw [hp]; exact (Int.natCast_mul _ _).symm
          have HP := Lib.hid hp
          clear hp
          go_wp2
          case roundEnd =>
            have hP := HP.out
            refine ⟨⟨k + 1, (p + o + cy) / 4294967296, os.set (i + k) ((p + o + cy) % 4294967296), by omega, by omega, by simp, ?_, ⟨?_, ?_, ?_, ?_⟩, ?_, ?_⟩, ?_⟩
            · simp; omega
            · simp [hos.out.1]
            · exact lb_set hos.out.2.1 _ (Nat.mod_lt _ (by decide))
            · rw [hP]
              exact times_step (by rw [hos.out.1]; omega) hos.out.2.2.1 ho.out hy.out
            · intro q hq
              rw [getD_set_ne (by omega)]
              exact hos.out.2.2.2 q hq
            · show World.ownsRow _ _ _ _ _ _ _
              have := own_set hown.out (i + k) ((p + o + cy) % 4294967296)
              have e : ((cy : Int) + ((p : Int) + (o : Int))) % 4294967296 = (((p + o + cy) % 4294967296 : Nat) : Int) := by omega
              rw [e]
              exact this
            · exact ext_setCell hext.out (Nat.le_refl _) _
            · simp [intOf]; omega
        · obtain rfl : k = m := by omega
          obtain ⟨hc1, hf1⟩ := own_at hown.out (i + k) (by omega)
          rw [hos.out.2.2.2 _ (Nat.le_refl _)] at hc1
          clear hkm
          go_wp2
          case roundEnd =>
            refine ⟨⟨i + 1, os.set (i + k) cy, by omega, by simp, ⟨?_, ?_, ?_, ?_⟩, ?_, ?_⟩, ?_⟩
            · simp [hos.out.1]
            · exact lb_set hos.out.2.1 _ hcyb
            · have h := hos.out.2.2.1
              rw [take_ge (l := lim b) (by rw [hly.out]; exact Nat.le_refl _), val_lim] at h
              have h2 := times_last (ys := lim b) (by rw [hos.out.1]; omega) (by rw [val_lim]; exact h) (hos.out.2.2.2 _ (Nat.le_refl _)) hx.out
              rwa [val_lim] at h2
            · intro q hq
              rw [getD_set_ne (by omega)]
              exact hos.out.2.2.2 q (by omega)
            · exact own_set hown.out _ _
            · exact ext_setCell hext.out (Nat.le_refl _) _
            · simp [intOf]; omega
    · obtain rfl : i = n := by omega
      have hval : val os = a * b := by
        have h1 := hos.out.2.2.1
        rwa [take_ge (by rw [hlx.out]; exact Nat.le_refl _), val_lim] at h1
      obtain ⟨G', c', he, hRR⟩ := Rd.own hown.out hos.out.2.1
      cases he
      have HR := Lib.hid hRR
      have HV := Lib.hid hval
      clear hRR hval hck h0
      obtain ⟨xc7, xf7, xl7, xz7⟩ := ext_use (hext.out)
      obtain ⟨l7_0, gc, gf⟩ := kp (hext.out) (w.heap.size + 1 + 1) (by first | omega | (simp; try omega))
      have r7_0 := gc 0
      have f7_0 := gf 0
      clear gc gf
      go_wp2_with (first
        | (go_at_call 204; (with_reducible refine (nfits_many _ _ _ _ _ HR.out (by rw [HV.out]; exact HS.out)).mono ?_); rintro e w8 ⟨rfl, xb8⟩; obtain ⟨xc8, xf8, xl8, xz8⟩ := ext_use xb8; (try simp at xz8); obtain ⟨l8_0, gc, gf⟩ := kp xb8 (w.heap.size + 1 + 1) (by first | omega | (simp; try omega)); have r8_0 := gc 0; have f8_0 := gf 0; clear gc gf)
       )
      have hw1' := hw1.out
      have hext' := hext.out
      refine bodyPost_ret (v := .tuple #[natV none 0 0, .int .i64 4]) ?h rfl ⟨rfl, ?_⟩
      case h => simp [results, Tryz.results135, go_sem, *]
      exact ext_setCell (ext_trans hw1' (ext_trans hext' xb8)) (show w.heap.size ≤ w.heap.size + 1 + 1 by omega) _
/-- Too long, however it shows. -/
theorem pmul_big (A B : Option Addr) (n c m d : Nat) (a b : Nat) (w : World) (hA : Rd w A n c (lim a)) (hB : Rd w B m d (lim b)) (ha : (lim a).length ≤ 16384) (hb : (lim b).length ≤ 16384) (hs : 16384 < (lim (a * b)).length) :
    Calls Tryz.prog 135 #[natV A n c, natV B m d] w fun e w' => e = .returned (.tuple #[natV none 0 0, .int .i64 4]) ∧ Ext w w' := by
  by_cases h : n + m ≤ 16385
  · exact pmul_near A B n c m d a b w hA hB ha hb h hs
  · exact pmul_far A B n c m d a b w hA hB ha hb (by omega)
/-- What is short enough had short parts. -/
theorem mul_parts {a b : Nat} (ha : a ≠ 0) (hb : b ≠ 0) : (lim a).length + (lim b).length ≤ (lim (a * b)).length + 1 := by
  obtain ⟨a1, a2⟩ := lim_len ha
  obtain ⟨b1, b2⟩ := lim_len hb
  have h1 : Bs ^ ((lim a).length - 1 + ((lim b).length - 1)) ≤ a * b := by rw [Nat.pow_add]; exact Nat.mul_le_mul a1 b1
  have h2 := lim_lt (a * b)
  have h3 := (Nat.pow_lt_pow_iff_right (a := Bs) (by decide)).1 (Nat.lt_of_le_of_lt h1 h2)
  omega
end Go.Proofs.YtiapoflkeliljaaGreatDoor
end
section
/- The program's powers, as long as they may be. -/
namespace Go.Proofs.YtiapoflkeliljaaGreatDoor
open Go.RowKit
attribute [local go_sem] sz2 sz3 sz4 sz5 sz6 sz7 sz8
set_option maxHeartbeats 4000000
set_option maxRecDepth 100000
attribute [local irreducible] Calls
theorem npow_wide (b n : Nat) (hb : 2 ≤ b) (hb2 : b < 4294967296) (hn : 1 ≤ n) (hn2 : n ≤ 524288) (hl : (lim (b ^ n)).length ≤ 16384) (w : World) : Calls Tryz.prog 134 #[.int .u32 (b : Int), .int .i64 (n : Int)] w (NatPost0 w (b ^ n)) := by
  obtain ⟨N, hN⟩ : ∃ N, N = b ^ n := ⟨_, rfl⟩
  have hN0 : 0 < N := by rw [hN]; exact Nat.pow_pos (by omega)
  have hst : 1 * b ^ n = N := by rw [hN, Nat.one_mul]
  rw [← hN] at hl ⊢
  have HL := Lib.hid hl
  have HST := Lib.hid hst
  clear hl hst hN
  have hn1 : ((n : Int) == 0) = false := by rw [beq_eq_false_iff_ne]; omega
  go_enter Tryz.func134, Tryz.ntmps134
  go_wp2_with (first
    | (go_at_call 136; (with_reducible refine (nof_one _).mono ?_); rintro e w3 ⟨A3, k3, rfl, hR3, xb3⟩)
    | (go_at_call 136; (with_reducible refine (nof_any b (by omega) _).mono ?_); rintro e w4 ⟨A4, k4, rfl, hR4, xb4⟩)
   )
  have hs3 : w.heap.size + 1 ≤ w3.heap.size := by have := ext_size xb3; simpa using this
  have hs4 : w3.heap.size ≤ w4.heap.size := ext_size xb4
  have hE4 := Lib.hid (ext_trans (ext_alloc (ext_refl w) (Obj.cells #[.slice none 0 0] 30)) (ext_trans xb3 xb4))
  have r0 := (Below.cell (p := ⟨w.heap.size, 0, none⟩) (ext_trans xb3 xb4) (by simp)).trans (show _ = some (Value.slice none 0 0) by simp [go_sem])
  have f0 := (Below.frozen (p := ⟨w.heap.size, 0, none⟩) (ext_trans xb3 xb4) (by simp)).trans (show _ = false by simp [go_sem])
  have hR3' := Lib.hid (hR3.out.1.ext xb4)
  have hF3 : ∀ x, A3 = some x → w.heap.size < x.block := fun x hx => by have := hR3.out.2 x hx; simp at this; omega
  have o36 : Off A3 k3 w4.heap.size := hR3'.out.off (Nat.le_refl _)
  have o37 : Off A3 k3 (w4.heap.size + 1) := hR3'.out.off (by omega)
  have o46 : Off A4 k4 w4.heap.size := hR4.out.1.off (Nat.le_refl _)
  have o47 : Off A4 k4 (w4.heap.size + 1) := hR4.out.1.off (by omega)
  have hlt : w.heap.size < w4.heap.size := by omega
  have HOFF := Lib.hid (And.intro o36 (And.intro o37 (And.intro o46 (And.intro o47 hF3))))
  clear o36 o37 o46 o47
  go_loopw [1] (fun vi wr => PowRel w w4.heap.size (w4.heap.size + 1) N vi wr) (fun vi _ => (intOf vi).toNat)
  case atStart =>
    have k1 : w.heap.size < ((w4.alloc (Obj.cells #[.slice A3 k3 k3] 30)).heap.size) := by simp; omega
    exact ⟨n, 1, b, A3, k3, A4, k4, ⟨hn, hn2⟩, rfl, HST.out, hR3'.out.ext (ext_alloc (ext_alloc (ext_refl _) _) _), hR4.out.1.ext (ext_alloc (ext_alloc (ext_refl _) _) _), HOFF.out,
      ⟨by simp [go_sem], by simp [go_sem], by rw [World.cell?_alloc_lt _ _ _ k1, World.cell?_alloc_lt _ _ _ hlt]; exact r0, by simp [go_sem], by simp [go_sem], by simp [go_sem, hlt, f0], by simp⟩, ext_alloc (ext_alloc hE4.out _) _⟩
  case round =>
    obtain ⟨G6, hG6⟩ : ∃ G, G = w4.heap.size := ⟨_, rfl⟩
    rw [← hG6] at hrel hlt
    simp only [← hG6]
    obtain ⟨G7, hG7⟩ : ∃ G, G = G6 + 1 := ⟨_, rfl⟩
    rw [← hG7] at hrel
    simp only [← hG7]
    have h67 : G6 < G7 := by omega
    have hr7 : w.heap.size < G7 := by omega
    have h67' : ¬ G6 = G7 := by omega
    have h76' : ¬ G7 = G6 := by omega
    clear hG6 hG7 HOFF hR3' hF3 r0 f0 hE4 hs3 hs4 hR3 hR4 xb3 xb4 HST
    obtain ⟨rem, o, s, O, ko, Q, kq, ⟨h1, h2⟩, rfl, hst, hO, hQ, hoff, hpc, hE⟩ := hrel
    obtain ⟨p1, p2, p3, p4⟩ := pow_le' hst.out hN0 h1
    have lo := hO.out.len
    have lq := hQ.out.len
    have o0 : o ≠ 0 := by rintro rfl; have := hst.out; rw [Nat.zero_mul] at this; omega
    have s0 : s ≠ 0 := by rintro rfl; have := hst.out; rw [Nat.zero_pow (by omega), Nat.mul_zero] at this; omega
    have lo1 : (lim o).length ≤ 16384 := Nat.le_trans (lim_mono p1) HL.out
    have lq1 : (lim s).length ≤ 16384 := Nat.le_trans (lim_mono p2) HL.out
    have l3 : (lim (o * s)).length ≤ 16384 := Nat.le_trans (lim_mono p3) HL.out
    have l4 := mul_parts o0 s0
    have l5 := mul_parts s0 s0
    have c1 : ∀ wx, Ext wr wx → Calls Tryz.prog 135 #[natV O ko ko, natV Q kq kq] wx (NatPost0 wx (o * s)) := fun wx hx =>
      pmul_any O Q ko ko kq kq o s wx (hO.out.ext hx) (hQ.out.ext hx) lo1 lq1 (by omega) l3
    have c2 : 2 ≤ rem → ∀ wx, Rd wx Q kq kq (lim s) → Calls Tryz.prog 135 #[natV Q kq kq, natV Q kq kq] wx (NatPost0 wx (s * s)) := fun h wx hx => by
      have l6 : (lim (s * s)).length ≤ 16384 := Nat.le_trans (lim_mono (p4 h)) HL.out
      exact pmul_any Q Q kq kq kq kq s s wx hx hx lq1 lq1 (by omega) l6
    clear l3 l4 l5 o0 s0
    obtain ⟨c6, c7, cr, f6, f7, fr, l7⟩ := hpc.out
    have eand := and_one rem (by omega)
    obtain ⟨rem2, hrem2⟩ : ∃ r, r = rem / 2 := ⟨_, rfl⟩
    have e2 : (rem : Int) / 2 = (rem2 : Int) := by omega
    clear p1 p2 p3 p4 lo1 lq1 lo lq
    by_cases hodd : rem % 2 = 1
    · rw [hodd] at eand
      have hodd' := Lib.hid (pow_odd hst.out hodd)
      rw [← hrem2] at hodd'
      have HR2 := Lib.hid hrem2
      clear hrem2
      by_cases h0 : rem2 = 0
      · subst h0
        rw [Nat.pow_zero, Nat.mul_one] at hodd'
        go_wp2_with (first
          | (go_at_call 135; (with_reducible refine (c1 _ (ext_refl _)).mono ?_); rintro e w5 ⟨O5, k5, rfl, hR5, xb5⟩; have hp5 := Lib.hid ((hpc.out.ext h67 hr7 xb5).set6 h67 hlt (.slice O5 k5 k5)); have hq5 := Lib.hid (hpc.out.ext h67 hr7 xb5); obtain ⟨d6, d7, dr, g6, g7, gr, m7⟩ := hq5.out; obtain ⟨i6, i7, ir, j6, j7, jr, n7⟩ := hp5.out)
         )
        have hcr := World.cell?_setCell_same _ _ (.slice O5 k5 k5) ir
        have n5 : ∀ x, O5 = some x → G7 < x.block := fun x hx => by have := hR5.out.2 x hx; have := hpc.out.l7; omega
        have hRv : Rd w5 O5 k5 k5 (lim N) := by have := hR5.out.1; rwa [hodd'.out] at this
        refine bodyPost_ret (v := .tuple #[natV O5 k5 k5, .int .i64 0]) ?h rfl ⟨O5, k5, rfl, ⟨(hRv.set _ (fun x hx => Nat.lt_trans h67 (n5 x hx))).set _ (fun x hx => by have := n5 x hx; show w.heap.size < x.block; omega), fun x hx => by have := n5 x hx; show w.heap.size ≤ x.block; omega⟩, ext_setCell (ext_setCell (ext_trans hE.out xb5) (Nat.le_of_lt hlt) _) (Nat.le_refl _) _⟩
        case h => simp [results, Tryz.results134, go_sem, hcr]
      · have h0' : ((rem2 : Int) == 0) = false := by rw [beq_eq_false_iff_ne]; omega
        have hrm := HR2.out
        have c2' := c2 (by omega)
        clear c2 hrm
        go_wp2_with (first
          | (go_at_call 135; (with_reducible refine (c1 _ (ext_refl _)).mono ?_); rintro e w5 ⟨O5, k5, rfl, hR5, xb5⟩; have hp5 := Lib.hid ((hpc.out.ext h67 hr7 xb5).set6 h67 hlt (.slice O5 k5 k5)); have hq5 := Lib.hid (hpc.out.ext h67 hr7 xb5); obtain ⟨d6, d7, dr, g6, g7, gr, m7⟩ := hq5.out; obtain ⟨i6, i7, ir, j6, j7, jr, n7⟩ := hp5.out; have hQ5 := Lib.hid ((hQ.out.ext xb5).tch ((Tch.refl _ w5).set 0 (.slice O5 k5 k5)) hoff.out.2.2.1))
          | (go_at_call 135; (with_reducible refine (c2' _ hQ5.out).mono ?_); rintro e w6 ⟨Q6, k6, rfl, hR6, xb6⟩; have hp6 := Lib.hid (hp5.out.ext h67 hr7 xb6); obtain ⟨s6, s7, sr, t6, t7, tr, q7⟩ := hp6.out)
         )
        have n5 : ∀ x, O5 = some x → G7 < x.block := fun x hx => by have := hR5.out.2 x hx; have := hpc.out.l7; omega
        have n6 : ∀ x, Q6 = some x → G7 < x.block := fun x hx => by have := hR6.out.2 x hx; simp at this; omega
        case roundEnd =>
          refine ⟨⟨rem2, o * s, s * s, O5, k5, Q6, k6, ⟨by omega, by have := HR2.out; omega⟩, rfl, hodd'.out, ?_, ?_, ⟨?_, ?_, ?_, ?_, ?_⟩, hp6.out.set7 h67 hlt _, ?_⟩, ?_⟩
          · exact ((hR5.out.1.set _ (fun x hx => Nat.lt_trans h67 (n5 x hx))).ext xb6).set _ n5
          · exact hR6.out.1.set _ n6
          · exact fun x hx _ e => by have := n5 x hx; omega
          · exact fun x hx _ e => by have := n5 x hx; omega
          · exact fun x hx _ e => by have := n6 x hx; omega
          · exact fun x hx _ e => by have := n6 x hx; omega
          · exact fun x hx => by have := n5 x hx; omega
          · exact ext_setCell (ext_trans (ext_setCell (ext_trans hE.out xb5) (Nat.le_of_lt hlt) _) xb6) (Nat.le_of_lt hr7) _
          · have := HR2.out; simp [intOf]; omega
    · have hev : rem % 2 = 0 := by omega
      rw [hev] at eand
      have hev' := Lib.hid (pow_even hst.out hev)
      rw [← hrem2] at hev'
      have HR2 := Lib.hid hrem2
      have c2' := c2 (by omega)
      have h0' : ((rem2 : Int) == 0) = false := by rw [beq_eq_false_iff_ne]; omega
      clear hrem2 c2 hodd hev
      go_wp2_with (first
        | (go_at_call 135; (with_reducible refine (c2' _ hQ.out).mono ?_); rintro e w6 ⟨Q6, k6, rfl, hR6, xb6⟩; have hp6 := Lib.hid (hpc.out.ext h67 hr7 xb6); obtain ⟨s6, s7, sr, t6, t7, tr, q7⟩ := hp6.out)
       )
      have n6 : ∀ x, Q6 = some x → G7 < x.block := fun x hx => by have := hR6.out.2 x hx; have := hpc.out.l7; omega
      case roundEnd =>
        refine ⟨⟨rem2, o, s * s, O, ko, Q6, k6, ⟨?_, ?_⟩, rfl, hev'.out, ?_, ?_, ⟨hoff.out.1, hoff.out.2.1, ?_, ?_, hoff.out.2.2.2.2⟩, hp6.out.set7 h67 hlt _, ?_⟩, ?_⟩
        · have : rem2 ≠ 0 := by intro h; subst h; simp at h0'
          omega
        · have := HR2.out; omega
        · exact (hO.out.ext xb6).tch ((Tch.refl _ w6).set 0 _) hoff.out.2.1
        · exact hR6.out.1.set _ n6
        · exact fun x hx _ e => by have := n6 x hx; omega
        · exact fun x hx _ e => by have := n6 x hx; omega
        · exact ext_setCell (ext_trans hE.out xb6) (Nat.le_of_lt hr7) _
        · have := HR2.out; simp [intOf]; omega
end Go.Proofs.YtiapoflkeliljaaGreatDoor
end
section
/- The program's fractions: taken. -/
namespace Go.Proofs.YtiapoflkeliljaaGreatDoor
open Go.RowKit
attribute [local go_sem] sz2 sz3 sz4 sz5 sz6 sz7 sz8
set_option maxHeartbeats 4000000
set_option maxRecDepth 100000
attribute [local irreducible] Calls
attribute [local go_sem high] neq_look
/-- A fraction of the library's, in a block of its own, with words of its own. -/
abbrev KPost (w : World) (z : Int) (d : Nat) : Ending → World → Prop := fun e w' => ∃ (g : Nat) (A : Option Addr) (n c : Nat) (D : Option Addr) (m k : Nat), e = .returned (.tuple #[.pointer (some ⟨g, 0, none⟩), .int .i64 0]) ∧
  Hid (RatIs w' g z A n c d D m k ∧ Fr w A ∧ Fr w D) ∧ w.heap.size ≤ g ∧ Ext w w'
theorem ra_seen (neg : Bool) (A : Option Addr) (n c : Nat) (D : Option Addr) (m k : Nat) (w : World) : Calls Tryz.prog 160 #[ratV neg A n c D m k] w fun e w' => e = .returned (.agg #[.bool neg, .int .i64 (n : Int), .int .i64 (m : Int)]) ∧ Ext w w' := by
  go_enter Tryz.func160, Tryz.ntmps160
  go_wp2
  refine bodyPost_ret (v := .agg #[.bool neg, .int .i64 ↑n, .int .i64 ↑m]) ?h rfl ⟨rfl, ?_⟩
  case h => simp [results, Tryz.results160, go_sem]
  repeat (first | exact ext_refl _ | assumption | refine ext_setCell ?_ (by simp; try omega) _ | refine ext_alloc ?_ _ | refine ext_drew ?_ | refine ext_drewN ?_ _ | refine ext_trans ?_ (Aft.use _) | refine ext_trans ?_ (by assumption))
theorem ra_taken (neg : Bool) (A : Option Addr) (n c a : Nat) (D : Option Addr) (m k d : Nat) (hd : d ≠ 0) (hn : n ≤ 16384) (hm : m ≤ 16384) (hg : Nat.gcd a d = 1) (hng : neg = true → a ≠ 0) (w : World) (hT : Tz w) (hA : Rd w A n c (lim a)) (hD : Rd w D m k (lim d)) :
    Calls Tryz.prog 80 #[ratV neg A n c D m k] w (KPost w (sgn neg a) (lowD a d)) := by
  have HA := Lib.hid hA
  have HD := Lib.hid hD
  have HT := Lib.hid hT
  have hla := hA.len
  have hld := hD.len
  have hm0 : ((m : Int) == 0) = false := by
    rw [beq_eq_false_iff_ne]
    intro h; exact hd (lim_nil.1 (List.eq_nil_of_length_eq_zero (by omega)))
  have chA : ∀ w', Ext w w' → Calls Tryz.prog 98 #[natV A n c] w' fun e w'' => e = .returned (.int .i64 0) ∧ Ext w' w'' := fun w' he => by
    have := ncheck_any A n c (lim a) w' (HA.out.ext he); rwa [chk_lim (by omega)] at this
  have chD : ∀ w', Ext w w' → Calls Tryz.prog 98 #[natV D m k] w' fun e w'' => e = .returned (.int .i64 0) ∧ Ext w' w'' := fun w' he => by
    have := ncheck_any D m k (lim d) w' (HD.out.ext he); rwa [chk_lim (by omega)] at this
  have kA : ∀ w', Ext w w' → Calls Tryz.prog 99 #[natV A n c] w' (NPost w' a) := fun w' he => ra_whole A n c a (by omega) w' (HA.out.ext he)
  have kD : ∀ w', Ext w w' → Calls Tryz.prog 99 #[natV D m k] w' (NPost w' d) := fun w' he => ra_whole D m k d (by omega) w' (HD.out.ext he)
  clear hA hD hT
  go_enter Tryz.func80, Tryz.ntmps80
  go_upto_region 3 with (first
    | (go_at_call 98; (with_reducible refine (chA _ (by (repeat (first | exact ext_refl _ | assumption | refine ext_setCell ?_ (by simp; try omega) _ | refine ext_alloc ?_ _ | refine ext_drew ?_ | refine ext_drewN ?_ _ | refine ext_trans ?_ (Aft.use _) | refine ext_trans ?_ (by assumption))))).mono ?_); rintro e w1 ⟨rfl, xb1⟩; obtain ⟨xc1, xf1, xl1, xz1⟩ := ext_use xb1; (try simp at xz1); obtain ⟨l1_0, gc, gf⟩ := kp xb1 (w.heap.size) (by first | omega | (simp; try omega)); have r1_0 := gc 0; have f1_0 := gf 0; have r1_0_1 := gc 1; have f1_0_1 := gf 1; have r1_0_2 := gc 2; have f1_0_2 := gf 2; clear gc gf)
    | (go_at_call 98; (with_reducible refine (chD _ (by (repeat (first | exact ext_refl _ | assumption | refine ext_setCell ?_ (by simp; try omega) _ | refine ext_alloc ?_ _ | refine ext_drew ?_ | refine ext_drewN ?_ _ | refine ext_trans ?_ (Aft.use _) | refine ext_trans ?_ (by assumption))))).mono ?_); rintro e w2 ⟨rfl, xb2⟩; obtain ⟨xc2, xf2, xl2, xz2⟩ := ext_use xb2; (try simp at xz2); obtain ⟨l2_0, gc, gf⟩ := kp xb2 (w.heap.size) (by first | omega | (simp; try omega)); have r2_0 := gc 0; have f2_0 := gf 0; have r2_0_1 := gc 1; have f2_0_1 := gf 1; have r2_0_2 := gc 2; have f2_0_2 := gf 2; clear gc gf)
   )
  have z0 : w2.cell? ⟨w.heap.size, 0, none⟩ = some (.bool neg) := by simp [go_sem, *]
  have z1 : w2.cell? ⟨w.heap.size, 1, none⟩ = some (.slice A n c) := by simp [go_sem, *]
  have z2 : w2.cell? ⟨w.heap.size, 2, none⟩ = some (.slice D m k) := by simp [go_sem, *]
  have zl : w.heap.size < w2.heap.size := by assumption
  have hE2 : Hid (Ext w w2) := by show Ext w w2; (repeat (first | exact ext_refl _ | assumption | refine ext_setCell ?_ (by simp; try omega) _ | refine ext_alloc ?_ _ | refine ext_drew ?_ | refine ext_drewN ?_ _ | refine ext_trans ?_ (Aft.use _) | refine ext_trans ?_ (by assumption)))
  clear chA chD
  go_cut [4, 5] (fun p q wc => ∃ (b1 : Nat) (B1 : Option Addr) (k1 l1 b3 : Nat) (B3 : Option Addr) (k3 l3 : Nat), p = .pointer (some ⟨b1, 0, none⟩) ∧ q = .pointer (some ⟨b3, 0, none⟩) ∧ Hid (IntIs wc b1 0 a B1 k1 l1) ∧ Hid (IntIs wc b3 0 d B3 k3 l3) ∧ Hid (b3 ≠ b1 ∧ Off B3 k3 b1 ∧ w2.heap.size ≤ b1) ∧ Hid (Ext w2 wc))
  case first =>
    go_region_with (first
      | (go_at_call 99; (with_reducible refine (kA _ (ext_trans hE2.out (by (repeat (first | exact ext_refl _ | assumption | refine ext_setCell ?_ (by simp; try omega) _ | refine ext_alloc ?_ _ | refine ext_drew ?_ | refine ext_drewN ?_ _ | refine ext_trans ?_ (Aft.use _) | refine ext_trans ?_ (by assumption)))))).mono ?_); rintro e w5 ⟨b5, B5, k5, l5, rfl, hI5, hb5, xb5⟩; obtain ⟨xc5, xf5, xl5, xz5⟩ := ext_use xb5; (try simp at xz5); obtain ⟨l5_0, gc, gf⟩ := kp xb5 (w.heap.size) (by first | omega | (simp; try omega)); have r5_0 := gc 0; have f5_0 := gf 0; have r5_0_1 := gc 1; have f5_0_1 := gf 1; have r5_0_2 := gc 2; have f5_0_2 := gf 2; clear gc gf)
      | (go_at_call 99; (with_reducible refine (kD _ (ext_trans hE2.out (by (repeat (first | exact ext_refl _ | assumption | refine ext_setCell ?_ (by simp; try omega) _ | refine ext_alloc ?_ _ | refine ext_drew ?_ | refine ext_drewN ?_ _ | refine ext_trans ?_ (Aft.use _) | refine ext_trans ?_ (by assumption)))))).mono ?_); rintro e w6 ⟨b6, B6, k6, l6, rfl, hI6, hb6, xb6⟩; obtain ⟨xc6, xf6, xl6, xz6⟩ := ext_use xb6; (try simp at xz6); obtain ⟨l6_0, gc, gf⟩ := kp xb6 (w.heap.size) (by first | omega | (simp; try omega)); have r6_0 := gc 0; have f6_0 := gf 0; have r6_0_1 := gc 1; have f6_0_1 := gf 1; have r6_0_2 := gc 2; have f6_0_2 := gf 2; clear gc gf)
     )
    all_goals
      go_wp2_with fail
      go_meet
      case rel =>
        have q5 := hI5.out.1.room.lt
        have q6 := hI6.out.1.room.lt
        simp at hb5 hb6
        first
          | exact ⟨b5, B5, k5, l5, b6, B6, k6, l6, rfl, rfl, hI5.out.1.ext xb6, hI6.out.1, ⟨by omega, hI6.out.2.off q5 k6, by omega⟩, ext_trans (ext_drew (ext_refl w2)) (ext_trans xb5 xb6)⟩
          | exact ⟨b5, B5, k5, l5, b6, B6, k6, l6, rfl, rfl, hI5.out.1, hI6.out.1.ext xb5, ⟨by omega, hI6.out.1.rd.off hb5, by have := ext_size xb6; simp at this; omega⟩, ext_trans (ext_drew (ext_refl w2)) (ext_trans xb6 xb5)⟩
  case rest =>
    obtain ⟨b1, B1, k1, l1, b3, B3, k3, l3, rfl, rfl, hI1, hI3, hap, hEc⟩ := hcut
    have hk1 := Nat.le_trans (Nat.le_of_eq (hI1.out.lenNat.symm.trans hla)) hn
    have hk3 := Nat.le_trans (Nat.le_of_eq (hI3.out.lenNat.symm.trans hld)) hm
    have hk1b : k1 ≤ 1000000 := by omega
    have hk1c : k1 ≤ 400000 := by omega
    have hk3c : k3 ≤ 400000 := by omega
    clear xb1 xb2 kA kD
    have hl3 := lowD_len (a := a) hd
    rw [hla, hld] at hl3
    have hn' := Nat.le_trans hl3.2.2 hn
    have hm' := Nat.le_trans hl3.2.1 (Nat.le_trans hm (show 16384 ≤ 100000 by decide))
    have hdl := Nat.le_trans hl3.1 hm
    have hden : denOf (lowD a d) = d := by
      unfold denOf lowD
      by_cases h0 : a = 0
      · rw [if_pos h0, if_pos rfl]; subst h0; rw [Nat.gcd_zero_left] at hg; exact hg.symm
      · rw [if_neg h0, hg, Nat.div_one, if_neg hd]
    have y0 := (Below.cell (p := ⟨w.heap.size, 0, none⟩) hEc.out zl).trans z0
    go_upto_if 33 with (fail)
    go_cut [4] (fun p wn => ∃ (B2 : Option Addr) (k2 l2 : Nat), p = .pointer (some ⟨b1, 0, none⟩) ∧ k2 ≤ 400000 ∧ Hid (IntIs wn b1 0 (sgn neg a) B2 k2 l2) ∧ Hid (IntIs wn b3 0 d B3 k3 l3) ∧ Hid (Ext w2 wn))
    case first =>
      cases neg with
      | false =>
        go_wp2
        go_meet
        case rel => exact ⟨B1, k1, l1, rfl, hk1c, hI1.out, hI3, hEc⟩
      | true =>
        go_wp2_with (first
          | (go_at_call 100; (with_reducible refine (bi_Neg b1 0 b1 0 B1 k1 l1 a hk1b _ hI1.out.room hI1.out).mono ?_); rintro e w7 ⟨rfl, B2, k2, l2, hI2, xt2⟩)
         )
        go_meet
        case rel =>
          refine ⟨B2, k2, l2, rfl, ?_, hI2.out.1, hI3.out.tch xt2 hap.out.1 hap.out.2.1, xt2.ext hEc.out hap.out.2.2⟩
          have := hI2.out.1.rd.len; rw [Int.natAbs_neg, Int.natAbs_natCast, hla] at this; omega
    case rest =>
    obtain ⟨wq, rfl⟩ : ∃ wq, wq = wc := ⟨wc, rfl⟩
    obtain ⟨B2, k2, l2, rfl, hk2, hI2, hI3, hEc⟩ := hcut
    clear y0
    have y0 := (Below.cell (p := ⟨w.heap.size, 0, none⟩) hEc.out zl).trans z0
    have y1 := (Below.cell (p := ⟨w.heap.size, 1, none⟩) hEc.out zl).trans z1
    have y2 := (Below.cell (p := ⟨w.heap.size, 2, none⟩) hEc.out zl).trans z2
    have yl := ext_lt hEc.out _ zl
    have hE3 := Lib.hid (ext_trans hE2.out hEc.out)
    have hTr := Lib.hid (HT.out.ext hE3.out)
    go_upto_region 8 with (first
      | (go_at_call 71; (with_reducible refine (br_SetFrac' _ b1 b3 neg a d hd B2 k2 l2 B3 k3 l3 hk2 hk3c _ (hTr.out.ext (ext_alloc (ext_refl _) _)) (rat_room wq) (hI2.out.ext (ext_alloc (ext_refl _) _)) (hI3.out.ext (ext_alloc (ext_refl _) _))).mono ?_); rintro e w4 ⟨rfl, A4, n4, c4, D4, m4, e4, hI4, xt4⟩; have hn4 := Nat.le_trans (Nat.le_of_eq hI4.out.1.int.lenSgn.symm) hn'; have hm4 := Nat.le_trans (Nat.le_of_eq hI4.out.1.rd.len.symm) hm'; have hx4 := Lib.hid (xt4.ext (ext_alloc (ext_refl wq) _) (Nat.le_refl _)); have v0 := (Below.cell (p := ⟨w.heap.size, 0, none⟩) hx4.out yl).trans y0; have v1 := (Below.cell (p := ⟨w.heap.size, 1, none⟩) hx4.out yl).trans y1; have v2 := (Below.cell (p := ⟨w.heap.size, 2, none⟩) hx4.out yl).trans y2; have vl := ext_lt hx4.out _ yl)
      | (go_at_call 72; (with_reducible refine (ra_told_ok _ _ A4 n4 c4 _ D4 m4 e4 hn4 hm4 hdl _ hI4.out.1).mono ?_); rintro e w5 ⟨A5, n5, c5, D5, m5, e5, rfl, hI5, xb5⟩; obtain ⟨xc5, xf5, xl5, xz5⟩ := ext_use xb5; (try simp at xz5); obtain ⟨l5_0, gc, gf⟩ := kp xb5 (w.heap.size) (by first | omega | (simp; try omega)); have r5_0 := gc 0; have f5_0 := gf 0; have r5_0_1 := gc 1; have f5_0_1 := gf 1; have r5_0_2 := gc 2; have f5_0_2 := gf 2; clear gc gf)
     )
    have hds : decide (sgn neg a < 0) = neg := by rw [sgn_lt]; cases neg; rfl; exact decide_eq_true (Nat.pos_of_ne_zero (hng rfl))
    obtain rfl : n5 = n := by rw [← hI5.out.1.len, ← hla, sgn_abs, hg, Nat.div_one]
    obtain rfl : m5 = m := by rw [← hI5.out.2.2.1.len, hden, hld]
    have hE5 := Lib.hid (ext_trans hx4.out xb5)
    have hR5 := Lib.hid (hI4.out.1.ext xb5)
    have hN5 := Lib.hid (hI3.out.ext hE5.out)
    have kDen : ∀ wx, Ext w5 wx → Calls Tryz.prog 83 #[.pointer (some ⟨wq.heap.size, 0, none⟩)] wx (NPost wx d) := fun wx hx => by
      have := br_Denom _ _ _ _ _ _ _ _ _ (by omega) wx (hR5.out.ext hx); rwa [hden] at this
    have kCmp : ∀ b7 B7 k7 l7 wx, Ext w5 wx → IntIs wx b7 0 d B7 k7 l7 → Calls Tryz.prog 161 #[.pointer (some ⟨b7, 0, none⟩), .pointer (some ⟨b3, 0, none⟩)] wx fun e w' => e = .returned (.int .i64 0) ∧ Ext wx w' := fun b7 B7 k7 l7 wx hx h7 => by
      have := bi_Cmp b7 0 b3 0 d d B7 k7 l7 B3 k3 l3 wx h7 (hN5.out.ext hx); rwa [Int.sub_self, Int.sign_zero] at this
    clear hng
    generalize hdz : decide (sgn neg a < 0) = dz
    rw [hdz] at hds
    subst hds
    clear hdz
    have hcl : Hid (Ext w (w5.alloc (Obj.cells #[.bool false, .slice A5 n5 c5, .slice D5 m5 e5] 32))) := ext_alloc (ext_trans hE3.out hE5.out) _
    go_cut [61] (fun v wn => v = .bool false ∧ Hid (Ext w5 wn))
    case first =>
      go_region_with (first
        | (go_at_call 160; (with_reducible refine (ra_seen _ _ _ _ _ _ _ _).mono ?_); rintro e w6 ⟨rfl, xb6⟩; obtain ⟨xc6, xf6, xl6, xz6⟩ := ext_use xb6; (try simp at xz6); obtain ⟨l6_0, gc, gf⟩ := kp xb6 (w.heap.size) (by first | omega | (simp; try omega)); have r6_0 := gc 0; have f6_0 := gf 0; have r6_0_1 := gc 1; have f6_0_1 := gf 1; have r6_0_2 := gc 2; have f6_0_2 := gf 2; clear gc gf; obtain ⟨l6_1, gc, gf⟩ := kp xb6 (w5.heap.size) (by first | omega | (simp; try omega)); have r6_1 := gc 0; have f6_1 := gf 0; have r6_1_1 := gc 1; have f6_1_1 := gf 1; have r6_1_2 := gc 2; have f6_1_2 := gf 2; clear gc gf)
        | (go_at_call 83; (with_reducible refine (kDen _ (by (repeat (first | exact ext_refl _ | assumption | refine ext_setCell ?_ (by simp; try omega) _ | refine ext_alloc ?_ _ | refine ext_drew ?_ | refine ext_drewN ?_ _ | refine ext_trans ?_ (Aft.use _) | refine ext_trans ?_ (by assumption))))).mono ?_); rintro e w7 ⟨b7, B7, k7, l7, rfl, hI7, hb7, xb7⟩; obtain ⟨xc7, xf7, xl7, xz7⟩ := ext_use xb7; (try simp at xz7); obtain ⟨l7_0, gc, gf⟩ := kp xb7 (w.heap.size) (by first | omega | (simp; try omega)); have r7_0 := gc 0; have f7_0 := gf 0; have r7_0_1 := gc 1; have f7_0_1 := gf 1; have r7_0_2 := gc 2; have f7_0_2 := gf 2; clear gc gf; obtain ⟨l7_1, gc, gf⟩ := kp xb7 (w5.heap.size) (by first | omega | (simp; try omega)); have r7_1 := gc 0; have f7_1 := gf 0; have r7_1_1 := gc 1; have f7_1_1 := gf 1; have r7_1_2 := gc 2; have f7_1_2 := gf 2; clear gc gf)
        | (go_at_call 161; (with_reducible refine (kCmp b7 B7 k7 l7 _ (by (repeat (first | exact ext_refl _ | assumption | refine ext_setCell ?_ (by simp; try omega) _ | refine ext_alloc ?_ _ | refine ext_drew ?_ | refine ext_drewN ?_ _ | refine ext_trans ?_ (Aft.use _) | refine ext_trans ?_ (by assumption)))) hI7.out.1).mono ?_); rintro e w8 ⟨rfl, xb8⟩; obtain ⟨xc8, xf8, xl8, xz8⟩ := ext_use xb8; (try simp at xz8); obtain ⟨l8_0, gc, gf⟩ := kp xb8 (w.heap.size) (by first | omega | (simp; try omega)); have r8_0 := gc 0; have f8_0 := gf 0; have r8_0_1 := gc 1; have f8_0_1 := gf 1; have r8_0_2 := gc 2; have f8_0_2 := gf 2; clear gc gf; obtain ⟨l8_1, gc, gf⟩ := kp xb8 (w5.heap.size) (by first | omega | (simp; try omega)); have r8_1 := gc 0; have f8_1 := gf 0; have r8_1_1 := gc 1; have f8_1_1 := gf 1; have r8_1_2 := gc 2; have f8_1_2 := gf 2; clear gc gf)
       )
      all_goals
        go_wp2_with fail
        go_meet
        case rel => exact ⟨rfl, (show Ext _ _ by (repeat (first | exact ext_refl _ | assumption | refine ext_setCell ?_ (by simp; try omega) _ | refine ext_alloc ?_ _ | refine ext_drew ?_ | refine ext_drewN ?_ _ | refine ext_trans ?_ (Aft.use _) | refine ext_trans ?_ (by assumption))))⟩
    case rest =>
      obtain ⟨rfl, hEn⟩ := hcut
      go_wp2
      refine bodyPost_ret (v := .tuple #[.pointer (some ⟨wq.heap.size, 0, none⟩), .int .i64 0]) ?h rfl ⟨_, A4, n4, c4, D4, m4, e4, rfl, ⟨?_, hI4.out.2.1.mono (ext_alloc hE3.out _), hI4.out.2.2.mono (ext_alloc hE3.out _)⟩, ext_size hE3.out, ext_trans (ext_trans hE3.out hE5.out) hEn.out⟩
      case h => simp [results, Tryz.results80, go_sem]
      have := hR5.out.ext hEn.out
      rwa [hg, Nat.div_one] at this
end Go.Proofs.YtiapoflkeliljaaGreatDoor
end
section
/- Fractions of the library's: products. -/
namespace Go.Proofs.YtiapoflkeliljaaGreatDoor
open Go.RowKit
attribute [local go_sem] sz2 sz3 sz4 sz5 sz6 sz7 sz8
set_option maxHeartbeats 4000000
set_option maxRecDepth 100000
attribute [local irreducible] Calls
end Go.Proofs.YtiapoflkeliljaaGreatDoor
end
section
/- Fractions of the library's: a product in lowest terms. -/
namespace Go.Proofs.YtiapoflkeliljaaGreatDoor
open Go.RowKit
attribute [local go_sem] sz2 sz3 sz4 sz5 sz6 sz7 sz8
set_option maxHeartbeats 4000000
set_option maxRecDepth 100000
attribute [local irreducible] Calls
attribute [local go_sem] D2.Oper.detAt D2.detUpon D2.relUpon
namespace D2
theorem stays_word (N v : Nat) : Stays (RWord N v) := fun _ _ _ _ ⟨A, k, c, h1, h2, h3⟩ he => ⟨A, k, c, h1, h2.ext he, h3⟩
end D2
end Go.Proofs.YtiapoflkeliljaaGreatDoor
end
section
/- Fractions of the library's: the order. -/
namespace Go.Proofs.YtiapoflkeliljaaGreatDoor
open Go.RowKit
attribute [local go_sem] sz2 sz3 sz4 sz5 sz6 sz7 sz8
set_option maxHeartbeats 4000000
set_option maxRecDepth 100000
attribute [local irreducible] Calls
attribute [local go_sem] D2.Oper.detAt D2.detUpon D2.relUpon
end Go.Proofs.YtiapoflkeliljaaGreatDoor
end
section
/- Fractions of the library's: sums. -/
namespace Go.Proofs.YtiapoflkeliljaaGreatDoor
open Go.RowKit
attribute [local go_sem] sz2 sz3 sz4 sz5 sz6 sz7 sz8
set_option maxHeartbeats 4000000
set_option maxRecDepth 100000
attribute [local irreducible] Calls
attribute [local go_sem] D2.Oper.detAt D2.detUpon D2.relUpon
end Go.Proofs.YtiapoflkeliljaaGreatDoor
end
section
/- The program's fractions: sums, products, order. -/
namespace Go.Proofs.YtiapoflkeliljaaGreatDoor
open Go.RowKit
attribute [local go_sem] sz2 sz3 sz4 sz5 sz6 sz7 sz8
set_option maxHeartbeats 4000000
set_option maxRecDepth 100000
attribute [local irreducible] Calls
theorem run_makeFunc'' (P : Program) (fn : Fn) (first cap : Array Value) (w : World) : (Instr.makeFunc fn first cap).run P w = .ok (.func fn first cap) w := rfl
attribute [local go_sem] run_makeFunc''
theorem canN_le (z : Int) (d : Nat) : (canN z d).natAbs ≤ z.natAbs := by unfold canN; rw [sgn_abs]; exact Nat.div_le_self _ _
end Go.Proofs.YtiapoflkeliljaaGreatDoor
end
section
/- The program's fractions: order. -/
namespace Go.Proofs.YtiapoflkeliljaaGreatDoor
open Go.RowKit
attribute [local go_sem] sz2 sz3 sz4 sz5 sz6 sz7 sz8
set_option maxHeartbeats 4000000
set_option maxRecDepth 100000
attribute [local irreducible] Calls
end Go.Proofs.YtiapoflkeliljaaGreatDoor
end
