/- Lemmas of this proof, laid together: BigD. -/
import Derived.Test.YtnkajjealkggdaaGreatDoorMg13
import Derived.Test.YtnkajjealkggdaaGreatDoorMg11
import Derived.Maps.AppendAt
set_option linter.unusedSimpArgs false
set_option linter.unusedVariables false
section
/- Words of the library's: a number is added to a row, from a word on. -/
namespace Go.Proofs.YtnkajjealkggdaaGreatDoor
open Go.RowKit
attribute [local go_sem] sz2 sz3 sz4 sz5 sz6 sz7 sz8
set_option maxHeartbeats 4000000
set_option maxRecDepth 100000
attribute [local irreducible] Calls
theorem only_refl (w : World) (r : Option Nat) : w.grownBy w r := ⟨rfl, rfl, rfl, Nat.le_refl _, fun _ _ _ => rfl⟩
theorem only_set (w : World) (g i : Nat) (u : Value) : w.grownBy (w.setCell ⟨g, i, none⟩ u) (some g) :=
  ⟨rfl, rfl, rfl, by simp, fun k _ hk => Go.Deep.blk_setCell_other w ⟨g, i, none⟩ u k (fun e => hk (by rw [e]))⟩
theorem only_ext {W w w' : World} {g : Nat} (h : Ext W w) (hg : w.grownBy w' (some g)) (hW : W.heap.size ≤ g) : Ext W w' :=
  ⟨hg.os.trans h.os, hg.tape.trans h.tape, hg.output.trans h.output, Nat.le_trans h.size hg.size, fun i hi =>
    (hg.block i (Nat.lt_of_lt_of_le hi h.size) (by intro e; simp at e; omega)).trans (h.block i hi)⟩
theorem addAt_step {os ys : List Nat} {n p cy o y T : Nat} (hl : os.length = n) (hp : p < n) (hv : val os + Bs ^ p * cy = T) (ho : os.getD p 0 = o) :
    val (os.set p ((o + cy + y) % 4294967296)) + Bs ^ (p + 1) * ((o + cy + y) / 4294967296) = T + Bs ^ p * y := by
  have h1 := val_set os p ((o + cy + y) % 4294967296) (by omega)
  rw [ho] at h1
  have h2 : (o + cy + y) % 4294967296 + Bs * ((o + cy + y) / 4294967296) = o + cy + y := Nat.mod_add_div _ _
  have h3 : Bs ^ p * ((o + cy + y) % 4294967296) + Bs ^ (p + 1) * ((o + cy + y) / 4294967296) = Bs ^ p * o + Bs ^ p * cy + Bs ^ p * y := by
    rw [Nat.pow_succ, Nat.mul_assoc, ← Nat.mul_add, h2, Nat.mul_add, Nat.mul_add]
  omega
theorem bw_addAt (base g n : Nat) (B : Option Addr) (m d : Nat) (ys : List Nat) (at_ : Nat) (os : List Nat) (w : World) (hown : w.ownsRow base 48 1 (.slice (some ⟨g, 0, none⟩) n n) n (os.map u32V)) (hos : Lb os)
    (hB : Rd w B m d ys) (hap : ∀ a, B = some a → ys ≠ [] → a.block ≠ g) (hfit : val os + Bs ^ at_ * val ys < Bs ^ n) (hn : n ≤ 3000000) (hat : at_ + m ≤ n) :
    Calls Tryz.prog 201 #[.slice (some ⟨g, 0, none⟩) n n, .slice B m d, .int .i64 (at_ : Int)] w fun e w' => ∃ os' : List Nat, e = .returned (.tuple #[]) ∧ Hid (w'.ownsRow base 48 1 (.slice (some ⟨g, 0, none⟩) n n) n (os'.map u32V)) ∧
      Hid (Lb os' ∧ val os' = val os + Bs ^ at_ * val ys) ∧ Hid (w.grownBy w' (some g)) := by
  have hmy := hB.mx
  have hcy := hB.cap
  have HB := Lib.hid hB
  have hly := Lib.hid hB.len
  have hby := Lib.hid hB.lb
  have hgl : g < w.heap.size := (hown.lt g rfl).2
  have hbg : base ≤ g := (hown.lt g rfl).1
  have hol : os.length = n := by have := hown.1; simpa using this
  have HO := Lib.hid hown
  have HFit := Lib.hid hfit
  have Hap := Lib.hid hap
  have HOL := Lib.hid (show os.length = n ∧ Lb os from ⟨hol, hos⟩)
  clear hB hown hos hfit hap hol
  go_enter Tryz.func201, Tryz.ntmps201
  go_wp2
  go_loopw [6, 7] (fun vc vi wr => ∃ (i cy : Nat) (zs : List Nat), i ≤ n ∧ cy ≤ 1 ∧ vi = .int .i64 (i : Int) ∧ vc = .int .u64 (cy : Int) ∧ (m < i → at_ + i ≤ n) ∧ Hid (zs.length = n ∧ Lb zs ∧ val zs + Bs ^ (at_ + i) * cy = val os + Bs ^ at_ * val (ys.take i)) ∧
      Hid (wr.ownsRow base 48 1 (.slice (some ⟨g, 0, none⟩) n n) n (zs.map u32V)) ∧ Hid (w.grownBy wr (some g)))
    (fun _ vi _ => n + 1 - (intOf vi).toNat)
  case atStart => exact ⟨0, 0, os, Nat.zero_le _, by omega, rfl, rfl, by omega, ⟨HOL.out.1, HOL.out.2, by simp [val]⟩, HO.out, only_refl _ _⟩
  case round =>
    clear HO
    obtain ⟨i, cy, zs, hi, hcy1, rfl, rfl, him, hz, hown, hgr⟩ := hrel
    have hE : Hid (Rd wr B m d ys) := Lib.hid (rd_grown HB.out hgr.out (fun a ha hne e => Hap.out a ha hne (by simp at e; exact e.symm)))
    by_cases hgo : i < m ∨ 0 < cy
    · have hlt : at_ + i < n := by
        rcases hgo with h | h
        · omega
        · rcases Nat.lt_or_ge i m with h1 | h1
          · omega
          · have h2 := hz.out.2.2
            have h3 := HFit.out
            rw [take_ge (by rw [hly.out]; exact h1)] at h2
            have h4 : Bs ^ (at_ + i) * 1 ≤ Bs ^ (at_ + i) * cy := Nat.mul_le_mul_left _ h
            have h5 : Bs ^ (at_ + i) < Bs ^ n := by omega
            exact (Nat.pow_lt_pow_iff_right (by decide)).1 h5
      obtain ⟨o, ho, hob⟩ : ∃ o : Nat, Hid (zs.getD (at_ + i) 0 = o) ∧ o < 4294967296 := ⟨_, rfl, lb_getD hz.out.2.1 _⟩
      obtain ⟨hc1, hf1⟩ := own_at hown.out (at_ + i) hlt
      rw [ho.out] at hc1
      have fin : ∀ (y : Nat) (z q : Int), y < 4294967296 → ys.getD i 0 = y → z = (((o + cy + y) % 4294967296 : Nat) : Int) → q = (((o + cy + y) / 4294967296 : Nat) : Int) → ∃ (i' cy' : Nat) (zs' : List Nat), i' ≤ n ∧ cy' ≤ 1 ∧ Value.int IntKind.i64 ((i : Int) + 1) = .int .i64 (i' : Int) ∧ Value.int IntKind.u64 q = .int .u64 (cy' : Int) ∧ (m < i' → at_ + i' ≤ n) ∧
          Hid (zs'.length = n ∧ Lb zs' ∧ val zs' + Bs ^ (at_ + i') * cy' = val os + Bs ^ at_ * val (ys.take i')) ∧
          Hid ((wr.setCell ⟨g, at_ + i, none⟩ (.int .u32 z)).ownsRow base 48 1 (.slice (some ⟨g, 0, none⟩) n n) n (zs'.map u32V)) ∧ Hid (w.grownBy (wr.setCell ⟨g, at_ + i, none⟩ (.int .u32 z)) (some g)) := by
        rintro y z q hyb hy rfl rfl
        refine ⟨i + 1, (o + cy + y) / 4294967296, zs.set (at_ + i) ((o + cy + y) % 4294967296), by omega, by omega, by simp, rfl, by omega, ⟨by rw [List.length_set]; exact hz.out.1, lb_set hz.out.2.1 _ (Nat.mod_lt _ (by decide)), ?_⟩, own_set hown.out _ _, hgr.out.trans (only_set _ _ _ _)⟩
        have h1 := addAt_step (ys := ys) (y := y) hz.out.1 hlt hz.out.2.2 ho.out
        rw [val_take_succ, hy, ← Nat.add_assoc, h1, Nat.mul_add, ← Nat.mul_assoc, ← Nat.pow_add, Nat.add_assoc]
      by_cases hm0 : i < m
      · obtain ⟨by', oy, hYe⟩ : ∃ b off, B = some ⟨b, off, none⟩ := by
          rcases HB.out.shape with ⟨_, h, _⟩ | h
          · omega
          · exact h
        subst hYe
        obtain ⟨y, hy, hyb, hcy2⟩ := hE.out.get i hm0
        have HF := Lib.hid (fun z q => fin y z q hyb hy.out)
        clear fin
        go_wp2
        all_goals
          refine ⟨HF.out _ _ (by omega) (by omega), ?_⟩
          simp [intOf]; omega
      · have hy0 : ys.getD i 0 = 0 := getD_ge (by rw [hly.out]; omega)
        have HF := Lib.hid (fun z q => fin 0 z q (by decide) hy0)
        clear fin hy0
        go_wp2
        all_goals
          refine ⟨HF.out _ _ (by omega) (by omega), ?_⟩
          simp [intOf]; omega
    · have hc0 : cy = 0 := by omega
      subst hc0
      have hfin : Hid (Lb zs ∧ val zs = val os + Bs ^ at_ * val ys) := by
        refine ⟨hz.out.2.1, ?_⟩
        have h2 := hz.out.2.2
        rw [take_ge (by rw [hly.out]; omega)] at h2
        simpa using h2
      go_wp2
      refine bodyPost_end (v := .tuple #[]) ?h rfl ⟨zs, rfl, hown, hfin, hgr⟩
      case h => simp [results, Tryz.results201, go_sem]
end Go.Proofs.YtnkajjealkggdaaGreatDoor
end
