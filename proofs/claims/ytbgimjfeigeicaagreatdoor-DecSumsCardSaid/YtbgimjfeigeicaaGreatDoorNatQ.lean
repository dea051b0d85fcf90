/- Plain laws for the program's sums, differences, products. -/
import Derived.Test.YtbgimjfeigeicaaGreatDoorNatP
namespace Go.Proofs.YtbgimjfeigeicaaGreatDoor
theorem bit31 (n : Nat) (h : n < 4294967296) : n.testBit 31 = decide (2147483648 ≤ n) := by
  rw [Nat.testBit_eq_decide_div_mod_eq]
  rw [decide_eq_decide]
  have e : (2 : Nat) ^ 31 = 2147483648 := by decide
  rw [e]
  omega
theorem not31 (x : Nat) (h : x < 4294967296) : (4294967295 - x).testBit 31 = !x.testBit 31 := by
  have e := Nat.testBit_two_pow_sub_succ (x := x) (n := 32) (by omega) 31
  rw [show 2 ^ 32 - (x + 1) = 4294967295 - x by omega] at e
  rw [e]; simp
theorem shr31 (n : Nat) (h : n < 4294967296) : n / 2147483648 = if n.testBit 31 = true then 1 else 0 := by
  rw [bit31 n h]
  by_cases h1 : 2147483648 ≤ n
  · rw [if_pos (by simpa using h1)]; omega
  · rw [if_neg (by simpa using h1)]; omega
theorem borrow_law (x y c d : Nat) (hx : x < 4294967296) (hy : y < 4294967296) (hc : c ≤ 1) (hd : d = (x + 8589934592 - y - c) % 4294967296) :
    (((4294967295 - x) &&& y) ||| ((4294967295 - (x ^^^ y)) &&& d)) / 2147483648 = if x < y + c then 1 else 0 := by
  have hd2 : d < 4294967296 := by rw [hd]; exact Nat.mod_lt _ (by decide)
  have hxy : x ^^^ y < 4294967296 := Nat.xor_lt_two_pow (n := 32) hx hy
  have h1 : (4294967295 - x) &&& y < 4294967296 := Nat.lt_of_le_of_lt Nat.and_le_right hy
  have h2 : (4294967295 - (x ^^^ y)) &&& d < 4294967296 := Nat.lt_of_le_of_lt Nat.and_le_right hd2
  rw [shr31 _ (Nat.or_lt_two_pow (n := 32) h1 h2), Nat.testBit_or, Nat.testBit_and, Nat.testBit_and, not31 x hx, not31 _ hxy, Nat.testBit_xor, bit31 x hx, bit31 y hy, bit31 d hd2]
  by_cases a : 2147483648 ≤ x <;> by_cases b : 2147483648 ≤ y <;> by_cases e : 2147483648 ≤ d <;> simp [a, b, e] <;> omega
/-- One limb of a sum, in a row that is there. -/
theorem sum_step {os xs ys : List Nat} {k cy x y : Nat} (hl : k < os.length) (hv : val os + Bs ^ k * cy = val (xs.take k) + val (ys.take k)) (ho : os.getD k 0 = 0) (hx : xs.getD k 0 = x) (hy : ys.getD k 0 = y) :
    val (os.set k ((x + y + cy) % 4294967296)) + Bs ^ (k + 1) * ((x + y + cy) / 4294967296) = val (xs.take (k + 1)) + val (ys.take (k + 1)) := by
  have h1 := val_set os k ((x + y + cy) % 4294967296) hl
  have h2 : (x + y + cy) % 4294967296 + Bs * ((x + y + cy) / 4294967296) = x + y + cy := Nat.mod_add_div _ _
  rw [ho, Nat.mul_zero, Nat.add_zero] at h1
  rw [h1, val_take_succ, val_take_succ, hx, hy, Nat.pow_succ, Nat.mul_assoc, Nat.add_assoc, ← Nat.mul_add, h2, Nat.mul_add, Nat.mul_add]
  omega
/-- One limb of a difference. -/
theorem dif_step {os xs ys : List Nat} {k lt x y : Nat} (hl : k < os.length) (_hb : lt ≤ 1) (hxb : x < 4294967296) (hyb : y < 4294967296) (hv : val os + val (ys.take k) = val (xs.take k) + Bs ^ k * lt) (ho : os.getD k 0 = 0) (hx : xs.getD k 0 = x) (hy : ys.getD k 0 = y) :
    val (os.set k ((x + 8589934592 - y - lt) % 4294967296)) + val (ys.take (k + 1)) = val (xs.take (k + 1)) + Bs ^ (k + 1) * (if x < y + lt then 1 else 0) := by
  have h1 := val_set os k ((x + 8589934592 - y - lt) % 4294967296) hl
  rw [ho, Nat.mul_zero, Nat.add_zero] at h1
  have h2 : (x + 8589934592 - y - lt) % 4294967296 + y + lt = x + Bs * (if x < y + lt then 1 else 0) := by
    unfold Bs
    split <;> omega
  have h3 : Bs ^ k * ((x + 8589934592 - y - lt) % 4294967296) + Bs ^ k * y + Bs ^ k * lt = Bs ^ k * x + Bs ^ (k + 1) * (if x < y + lt then 1 else 0) := by
    rw [← Nat.mul_add, ← Nat.mul_add, h2, Nat.mul_add, Nat.pow_succ, Nat.mul_assoc]
  rw [h1, val_take_succ, val_take_succ, hx, hy]
  omega
/-- Lists in order: from the highest limb on. -/
theorem val_cmp {a b : List Nat} (ha : Lb a) (_hb : Lb b) {k x y : Nat} (hk : k < a.length) (hl : a.length = b.length) (hx : a.getD k 0 = x) (hy : b.getD k 0 = y) (h : a.drop (k + 1) = b.drop (k + 1)) (hlt : x < y) : val a < val b := by
  have sp : ∀ l : List Nat, k < l.length → val l = val (l.take k) + Bs ^ k * (l.getD k 0 + Bs * val (l.drop (k + 1))) := by
    intro l hl
    have e : l = l.take k ++ l[k] :: l.drop (k + 1) := by rw [← List.drop_eq_getElem_cons hl, List.take_append_drop]
    conv => lhs; rw [e]
    rw [val_append, List.length_take, Nat.min_eq_left (by omega), List.getD_eq_getElem?_getD, List.getElem?_eq_getElem hl]
    rfl
  rw [sp a hk, sp b (by omega), hx, hy, h]
  have h1 := val_lt (a.take k) (fun z hz => ha z (List.mem_of_mem_take hz))
  rw [List.length_take, Nat.min_eq_left (by omega)] at h1
  have h2 : Bs ^ k * (x + Bs * val (b.drop (k + 1)) + 1) ≤ Bs ^ k * (y + Bs * val (b.drop (k + 1))) := Nat.mul_le_mul_left _ (by omega)
  rw [Nat.mul_add, Nat.mul_one] at h2
  omega
theorem val_lt_len {a b : Nat} (h : (lim a).length < (lim b).length) : a < b := by
  have h1 := lim_lt a
  have h2 : b ≠ 0 := by intro e; subst e; rw [lim_zero] at h; simp at h
  have h3 := (lim_len h2).1
  have h4 : Bs ^ (lim a).length ≤ Bs ^ ((lim b).length - 1) := Nat.pow_le_pow_right (by decide) (by omega)
  omega
/-- How two numbers compare. -/
def cmpN (a b : Nat) : Int := if a < b then -1 else if b < a then 1 else 0
end Go.Proofs.YtbgimjfeigeicaaGreatDoor
