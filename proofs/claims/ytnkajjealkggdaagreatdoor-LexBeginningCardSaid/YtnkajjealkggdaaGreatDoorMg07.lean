/- Lemmas of this proof, laid together: Str. -/
import Derived.WalkKit
import Derived.WalkSpells
import Derived.WalkLawsBesides
import Derived.Lib.Hide
import Derived.ShutString
set_option linter.unusedSimpArgs false
set_option linter.unusedVariables false
section
/- Strings as lists of bytes. -/
namespace Go.Proofs.YtnkajjealkggdaaGreatDoor
open Go.RowKit
/-- A string out of its bytes. -/
def bs (l : List UInt8) : ByteArray := ⟨l.toArray⟩
theorem bs_of (s : ByteArray) : ∃ l, s = bs l := ⟨s.data.toList, by cases s; simp [bs]⟩
theorem bs_size (l : List UInt8) : (bs l).size = l.length := by simp [bs, ByteArray.size]
theorem bs_data (l : List UInt8) : (bs l).data.toList = l := by simp [bs]
theorem bs_toList (l : List UInt8) : (bs l).toList = l := by rw [ByteArray.toList_eq]; simp [bs]
theorem bs_inj {a b : List UInt8} : bs a = bs b ↔ a = b := by
  constructor
  · intro h; have := congrArg (fun x => x.data.toList) h; simpa [bs] using this
  · rintro rfl; rfl
theorem bs_extract (l : List UInt8) (a b : Nat) : (bs l).extract a b = bs ((l.take b).drop a) := by
  have : ((bs l).extract a b).data.toList = (l.take b).drop a := by
    rw [ByteArray.data_extract]
    simp [bs, List.extract_eq_take_drop, List.drop_take]
  cases h : (bs l).extract a b with
  | mk d => rw [h] at this; simp only at this; simp [bs, ← this]
theorem bs_get (l : List UInt8) (i : Nat) (h : i < (bs l).size) : (bs l)[i]'h = l[i]'(by rwa [bs_size] at h) := by
  show (bs l).data[i] = _
  simp [bs]
theorem bs_append (a b : List UInt8) : bs a ++ bs b = bs (a ++ b) := by
  have : (bs a ++ bs b).data.toList = a ++ b := by simp [bs]
  cases h : bs a ++ bs b with
  | mk d => rw [h] at this; simp only at this; simp [bs, ← this]
theorem ret_bool {a b : Bool} (h : a = b) : Ending.returned (.bool a) = .returned (.bool b) := by rw [h]
theorem ret_int {k : IntKind} {a b : Int} (h : a = b) : Ending.returned (.int k a) = .returned (.int k b) := by rw [h]
theorem ret_str {a b : List UInt8} (h : a = b) : Ending.returned (.string (bs a)) = .returned (.string (bs b)) := by rw [h]
def strLen : Value → Nat | .string s => s.size | _ => 0
theorem byte_eq (a b : UInt8) : (((a.toNat : Int) == (b.toNat : Int)) = true) ↔ a = b := by
  constructor
  · intro h; exact UInt8.toNat_inj.1 (by have := beq_iff_eq.1 h; omega)
  · rintro rfl; simp
theorem byte_ne (a b : UInt8) : (((a.toNat : Int) == (b.toNat : Int)) = false) ↔ a ≠ b := by
  rw [← Bool.not_eq_true, byte_eq]
theorem const_get (a : Array UInt8) (i : Nat) (h : i < (⟨a⟩ : ByteArray).size) : ((⟨a⟩ : ByteArray)[i]'h) = a[i]'h := rfl
theorem byte_eqc (a : UInt8) (n : Nat) (hn : n < 256) : (((a.toNat : Int) == (n : Int)) = true) ↔ a = UInt8.ofNat n := by
  constructor
  · intro h
    have := beq_iff_eq.1 h
    apply UInt8.toNat_inj.1
    simp; omega
  · rintro rfl; simp; omega
theorem byte_48 (a : UInt8) : (((a.toNat : Int) == 48) = true) ↔ a = 48 := byte_eqc a 48 (by decide)
theorem byte_48n (a : UInt8) : (((a.toNat : Int) == 48) = false) ↔ a ≠ 48 := by rw [← Bool.not_eq_true, byte_48]
end Go.Proofs.YtnkajjealkggdaaGreatDoor
end
