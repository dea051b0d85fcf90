import Derived.Test.YtbgimjfeigeicaaGreatDoorRows
import Derived.Test.YtbgimjfeigeicaaGreatDoorSl
import Derived.Test.YtbgimjfeigeicaaGreatDoorStr
namespace Go.Proofs.YtbgimjfeigeicaaGreatDoor
open Go.RowKit
attribute [local go_sem] sz2 sz3 sz4 sz5 sz6 sz7 sz8
theorem limb_any (A : Option Addr) (n c : Nat) (xs : List Nat) (i : Nat) (hi : i ≤ 9223372036854775807) (w : World) (hR : Rd w A n c xs) :
    Calls Tryz.prog 138 #[.slice A n c, .int .i64 i] w fun e w' => e = .returned (.int .u64 ((xs.getD i 0 : Nat) : Int)) ∧ w = w' := by
  have hmx := hR.mx
  have hcap := hR.cap
  by_cases hlt : i < n
  · rcases hR.shape with ⟨_, h0, _, _⟩ | ⟨b, off, rfl⟩
    · omega
    obtain ⟨x, hx, hb, hc⟩ := hR.get i hlt
    rw [hx.out]
    clear hR
    go_enter Tryz.func138, Tryz.ntmps138
    go_wp2
    go_ret
    exact ⟨rfl, rfl⟩
  · have e : xs.getD i 0 = 0 := by rw [List.getD_eq_getElem?_getD, List.getElem?_eq_none (by rw [hR.len]; omega)]; rfl
    rw [e]
    clear e hR
    go_enter Tryz.func138, Tryz.ntmps138
    go_wp2
    go_ret
    exact ⟨rfl, rfl⟩
/-- A slice that reads as these limbs, as a post. -/
def PRd (w : World) (v : Value) (xs : List Nat) : Prop := ∃ A n c, v = .slice A n c ∧ Rd w A n c xs
theorem trim_any (A : Option Addr) (n c : Nat) (xs : List Nat) (w : World) (hR : Rd w A n c xs) :
    Calls Tryz.prog 137 #[.slice A n c] w fun e w' => ∃ k, e = .returned (.slice A k c) ∧ Rd w A k c (trimZ xs) ∧ w = w' := by
  have hmx := hR.mx
  have hcap := hR.cap
  rcases hR.shape with ⟨rfl, rfl, rfl, rfl⟩ | ⟨b, off, rfl⟩
  · skip
    go_enter Tryz.func137, Tryz.ntmps137
    go_wp2
    go_loop [3] (fun v => v = .int .i64 0) (fun v => (intOf v).toNat)
    case atStart => rfl
    case round =>
      subst hrel
      go_wp2
      go_ret
      exact ⟨0, rfl, Rd.nil w, rfl⟩
  · have HR := Lib.hid hR
    have hlen := Lib.hid hR.len
    clear hR
    go_enter Tryz.func137, Tryz.ntmps137
    go_wp2
    go_loop [3] (fun v => ∃ k : Nat, k ≤ n ∧ v = .int .i64 k ∧ Hid (trimZ (xs.take k) = trimZ xs)) (fun v => (intOf v).toNat)
    case atStart => exact ⟨n, Nat.le_refl _, rfl, by show trimZ (xs.take n) = trimZ xs; rw [← hlen.out, List.take_length]⟩
    case round =>
      obtain ⟨k, hk, rfl, hT⟩ := hrel
      by_cases h0 : 0 < k
      · obtain ⟨x, hx, hb, hc⟩ := HR.out.get (k - 1) (by omega)
        have hcell : w.cell? ⟨b, off + (k - 1), none⟩ = some (.int .u32 (x : Int)) := hc
        have hsnoc : Hid (xs.take k = xs.take (k - 1) ++ [x]) := by
          have hl : k - 1 < xs.length := by rw [hlen.out]; omega
          have := List.take_succ_eq_append_getElem hl
          rw [show k - 1 + 1 = k by omega] at this
          show xs.take k = xs.take (k - 1) ++ [x]
          rw [this, ← hx.out, List.getD_eq_getElem?_getD, List.getElem?_eq_getElem hl]; rfl
        by_cases hz : x = 0
        · subst hz
          go_wp2
          go_round
          case rel => exact ⟨k - 1, by omega, by go_num, by show trimZ _ = _; rw [← hT.out, hsnoc.out, trimZ_snoc, if_pos rfl]⟩
          case measure => simp [intOf]; omega
        · have hne : ((x : Int) == 0) = false := by simp; omega
          have HZ := Lib.hid hz
          clear hz
          go_wp2
          go_ret
          have e : trimZ xs = xs.take k := by rw [← hT.out, hsnoc.out, trimZ_snoc, if_neg HZ.out]
          exact ⟨k, rfl, by rw [e]; exact HR.out.take hk, rfl⟩
      · have : k = 0 := by omega
        subst this
        have e : trimZ xs = xs.take 0 := by rw [← hT.out]; rfl
        have HE := Lib.hid e
        clear e h0
        go_wp2
        go_ret
        exact ⟨0, rfl, by rw [HE.out]; exact HR.out.take (Nat.zero_le _), rfl⟩
end Go.Proofs.YtbgimjfeigeicaaGreatDoor
