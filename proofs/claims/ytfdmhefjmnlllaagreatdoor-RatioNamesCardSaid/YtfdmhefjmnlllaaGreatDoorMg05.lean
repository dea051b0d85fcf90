/- Lemmas of this proof, laid together: Str. -/
import Derived.WalkKit
import Derived.WalkSpells
import Derived.WalkLawsBesides
import Derived.Lib.Hide
import Derived.ShutString
set_option linter.unusedSimpArgs false
set_option linter.unusedVariables false
section
/- Strings as lists of bytes. -/
namespace Go.Proofs.YtfdmhefjmnlllaaGreatDoor
open Go.RowKit
def bs (l : List UInt8) : ByteArray := ⟨l.toArray⟩
theorem bs_size (l : List UInt8) : (bs l).size = l.length := by simp [bs, ByteArray.size]
theorem bs_data (l : List UInt8) : (bs l).data.toList = l := by simp [bs]
theorem bs_toList (l : List UInt8) : (bs l).toList = l := by rw [ByteArray.toList_eq]; simp [bs]
theorem bs_extract (l : List UInt8) (a b : Nat) : (bs l).extract a b = bs ((l.take b).drop a) := by
 have : ((bs l).extract a b).data.toList = (l.take b).drop a := by
  rw [ByteArray.data_extract]
  simp [bs, List.extract_eq_take_drop, List.drop_take]
 cases h : (bs l).extract a b with
 | mk d => rw [h] at this; simp only at this; simp [bs, ← this]
theorem bs_get (l : List UInt8) (i : Nat) (h : i < (bs l).size) : (bs l)[i]'h = l[i]'(by rwa [bs_size] at h) := by
 show (bs l).data[i] = _
 simp [bs]
theorem bs_append (a b : List UInt8) : bs a ++ bs b = bs (a ++ b) := by
 have : (bs a ++ bs b).data.toList = a ++ b := by simp [bs]
 cases h : bs a ++ bs b with
 | mk d => rw [h] at this; simp only at this; simp [bs, ← this]
theorem ret_int {k : IntKind} {a b : Int} (h : a = b) : Ending.returned (.int k a) = .returned (.int k b) := by rw [h]
theorem const_get (a : Array UInt8) (i : Nat) (h : i < (⟨a⟩ : ByteArray).size) : ((⟨a⟩ : ByteArray)[i]'h) = a[i]'h := rfl
end Go.Proofs.YtfdmhefjmnlllaaGreatDoor
end
