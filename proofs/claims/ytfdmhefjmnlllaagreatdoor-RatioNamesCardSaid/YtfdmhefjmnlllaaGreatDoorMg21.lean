/- Lemmas of this proof, laid together: ByP, IntC, TwIntC, IntD, TwIntD, TwIntF, RatA, TwRatA, IntE, RatB, TwRatB, SlO, RatC, TwRatC, RatD, TwRatD, BigP, NtK, NtL, TwBigP. -/
import Derived.Test.YtfdmhefjmnlllaaGreatDoorMg20
import Derived.Test.YtfdmhefjmnlllaaGreatDoorMg09
import Derived.Deep.DeepCutAuto
import Derived.Deep.RegionWith
import Derived.Deep.LoopGhost
import Derived.Test.YtfdmhefjmnlllaaGreatDoorMg06
import Derived.Deep.Heap
import Derived.Test.YtfdmhefjmnlllaaGreatDoorMg13
import Derived.Maps.AppendAt
import Derived.Test.YtfdmhefjmnlllaaGreatDoorMg11
import Derived.Test.YtfdmhefjmnlllaaGreatDoorMg12
set_option linter.unusedSimpArgs false
set_option linter.unusedVariables false
section
/- Bytes of a number, the one of most worth first: the plain part. -/
namespace Go.Proofs.YtfdmhefjmnlllaaGreatDoor
set_option maxRecDepth 100000
def beB (n a : Nat) : List UInt8 := (List.range n).map fun i => UInt8.ofNat (a / 256 ^ (n - 1 - i) % 256)
theorem beB_length (n a : Nat) : (beB n a).length = n := by simp [beB]
theorem beB_getD {n a i : Nat} (h : i < n) : ((beB n a).getD i 0).toNat = a / 256 ^ (n - 1 - i) % 256 := by
 rw [List.getD_eq_getElem?_getD, List.getElem?_eq_getElem (by rw [beB_length]; exact h)]
 simp [beB]
theorem pow256 (q r : Nat) : 256 ^ (4 * q + r) = Bs ^ q * 256 ^ r := by rw [Nat.pow_add, Nat.pow_mul]
theorem or_byte {os : List Nat} (hb : Lb os) {q r c V : Nat} (hr : r < 4) (hq : q < os.length) (hv : val os = 256 ^ (4 * q + r + 1) * V) (hc : c < 256) {x : Nat} (hx : os.getD q 0 = x) :
  c * 2 ^ (8 * r) < 4294967296 ∧ (x ||| c * 2 ^ (8 * r)) = x + c * 2 ^ (8 * r) ∧ x + c * 2 ^ (8 * r) < 4294967296 ∧ val (os.set q (x + c * 2 ^ (8 * r))) = 256 ^ (4 * q + r) * (256 * V + c) ∧ Lb (os.set q (x + c * 2 ^ (8 * r))) := by
 have hxb : x < 4294967296 := by
  rw [← hx, List.getD_eq_getElem?_getD, List.getElem?_eq_getElem hq]; exact hb _ (List.getElem_mem hq)
 have hs : val os = val (os.take q) + Bs ^ q * (x + Bs * val (os.drop (q + 1))) := by
  have h1 : os = os.take q ++ (x :: os.drop (q + 1)) := by
   have h2 : os.drop q = x :: os.drop (q + 1) := by
    rw [List.drop_eq_getElem_cons hq]
    rw [List.getD_eq_getElem?_getD, List.getElem?_eq_getElem hq] at hx
    rw [← hx]; rfl
   rw [← h2, List.take_append_drop]
  conv => lhs; rw [h1]
  rw [val_append, List.length_take, Nat.min_eq_left (Nat.le_of_lt hq)]
  rfl
 have ht : val (os.take q) < Bs ^ q := by
  have := val_lt (os.take q) (fun y hy => hb y (List.mem_of_mem_take hy))
  rwa [List.length_take, Nat.min_eq_left (Nat.le_of_lt hq)] at this
 have hp : 0 < Bs ^ q := Nat.pow_pos (by decide)
 have he : 256 ^ (4 * q + r + 1) * V = Bs ^ q * (256 ^ (r + 1) * V) := by rw [Nat.add_assoc, pow256, Nat.mul_assoc]
 have h0 : x + Bs * val (os.drop (q + 1)) = 256 ^ (r + 1) * V := by
  have h1 : Bs ^ q * (256 ^ (r + 1) * V) = val (os.take q) + Bs ^ q * (x + Bs * val (os.drop (q + 1))) := by rw [← he, ← hv, hs]
  have h2 : (Bs ^ q * (256 ^ (r + 1) * V)) / Bs ^ q = (val (os.take q) + Bs ^ q * (x + Bs * val (os.drop (q + 1)))) / Bs ^ q := by rw [h1]
  rw [Nat.mul_div_cancel_left _ hp, Nat.add_mul_div_left _ _ hp, Nat.div_eq_of_lt ht, Nat.zero_add] at h2
  exact h2.symm
 obtain ⟨R, hR⟩ : ∃ R, R = val (os.drop (q + 1)) := ⟨_, rfl⟩
 rw [← hR] at h0
 unfold Bs at h0
 have hdiv : ∃ y, x = 2 ^ (8 * r + 8) * y ∧ 2 ^ (8 * r + 8) * y + 2 ^ (8 * r + 8) ≤ 4294967296 := by
  match r, hr with
  | 0, _ => exact ⟨x / 256, by simp at h0 ⊢; omega, by simp at h0 ⊢; omega⟩
  | 1, _ => exact ⟨x / 65536, by simp at h0 ⊢; omega, by simp at h0 ⊢; omega⟩
  | 2, _ => exact ⟨x / 16777216, by simp at h0 ⊢; omega, by simp at h0 ⊢; omega⟩
  | 3, _ => exact ⟨x / 4294967296, by simp at h0 ⊢; omega, by simp at h0 ⊢; omega⟩
 obtain ⟨y, hy, hyb⟩ := hdiv
 have hcs : c * 2 ^ (8 * r) < 2 ^ (8 * r + 8) := by
  rw [Nat.pow_add, Nat.mul_comm]; exact Nat.mul_lt_mul_of_pos_left hc (Nat.two_pow_pos _)
 have hlt : x + c * 2 ^ (8 * r) < 4294967296 := by omega
 refine ⟨by omega, ?_, hlt, ?_, ?_⟩
 ·rw [hy, Nat.or_comm, or_add hcs]
 ·have h1 := val_set os q (x + c * 2 ^ (8 * r)) hq
  rw [hx, hv, he] at h1
  have h2 : Bs ^ q * (x + c * 2 ^ (8 * r)) = Bs ^ q * x + Bs ^ q * (c * 2 ^ (8 * r)) := Nat.mul_add ..
  have h3 : 256 ^ (4 * q + r) * (256 * V + c) = Bs ^ q * (256 ^ (r + 1) * V) + Bs ^ q * (c * 2 ^ (8 * r)) := by
   rw [pow256, Nat.mul_assoc, Nat.mul_add, Nat.mul_add]
   congr 1
   ·rw [Nat.pow_succ, Nat.mul_assoc]
   ·rw [Nat.mul_comm c, Nat.pow_mul]
  omega
 ·intro z hz
  rcases List.mem_or_eq_of_mem_set hz with h | h
  ·exact hb z h
  ·subst h; exact hlt
theorem byte_next (a k : Nat) : 256 * (a / 256 ^ (k + 1)) + a / 256 ^ k % 256 = a / 256 ^ k := by
 rw [Nat.pow_succ, ← Nat.div_div_eq_div_mul]
 exact Nat.div_add_mod _ _
theorem byte_of_limb (a q r : Nat) (hr : r < 4) : a / Bs ^ q % Bs / 2 ^ (8 * r) % 256 = a / 256 ^ (4 * q + r) % 256 := by
 rw [pow256, ← Nat.div_div_eq_div_mul]
 generalize a / Bs ^ q = D
 unfold Bs
 match r, hr with
 | 0, _ => simp <;> omega
 | 1, _ => simp <;> omega
 | 2, _ => simp <;> omega
 | 3, _ => simp <;> omega
theorem lim_bytes (a : Nat) : ((bitsOf a + 7) / 8 + 3) / 4 = (lim a).length ∧ a < 256 ^ ((bitsOf a + 7) / 8) := by
 by_cases h : a = 0
 ·subst h; simp [bitsOf, lim_zero]
 ·obtain ⟨h0, h1, h2⟩ := bitsOf_spec h
  obtain ⟨h3, h4⟩ := lim_len h
  have h5 := lim_lt a
  have e1 : ∀ k, Bs ^ k = 2 ^ (32 * k) := fun k => by rw [Nat.pow_mul]
  have e2 : ∀ k, 256 ^ k = 2 ^ (8 * k) := fun k => by rw [Nat.pow_mul]
  rw [e1] at h3 h5
  have h6 : 32 * ((lim a).length - 1) < bitsOf a := (Nat.pow_lt_pow_iff_right (a := 2) (by decide)).1 (Nat.lt_of_le_of_lt h3 h2)
  have h7 : bitsOf a - 1 < 32 * (lim a).length := (Nat.pow_lt_pow_iff_right (a := 2) (by decide)).1 (Nat.lt_of_le_of_lt (by first | exact h1 | (have := h1; rwa [Nat.pow_sub_one] at this) | skip) h5)
  refine ⟨by omega, ?_⟩
  rw [e2]
  exact Nat.lt_of_lt_of_le h2 (Nat.pow_le_pow_right (by decide) (by omega))
end Go.Proofs.YtfdmhefjmnlllaaGreatDoor
end
section
/- Whole numbers of the library's: out of bytes. -/
namespace Go.Proofs.YtfdmhefjmnlllaaGreatDoor
open Go.RowKit
attribute [local go_sem] sz2 sz3 sz4 sz5 sz6 sz7 sz8
set_option maxHeartbeats 4000000
set_option maxRecDepth 100000
attribute [local irreducible] Calls
attribute [local go_sem] Oper.detAt detUpon relUpon
theorem bi_Neg (b o bx ox : Nat) (A : Option Addr) (n c : Nat) (z : Int) (hn : n ≤ 1000000) (w : World) (hr : Room w b o) (hx : IntIs w bx ox z A n c) :
  Calls Tryz.prog 63 #[.pointer (some ⟨b, o, none⟩), .pointer (some ⟨bx, ox, none⟩)] w (IPost w b o (-z)) := by
 have HX := Lib.hid hx
 have HR := Lib.hid hr
 have lx := hx.room.lt
 have x0 := hx.neg
 have x1 := hx.words
 clear hx hr
 go_enter Tryz.func63, Tryz.ntmps63
 go_wp2
 refine wp_drawn_tail 11 (tab [(10, RWord w.heap.size z.natAbs)]) (by kernel_rfl) (by kernel_rfl) (by kernel_rfl) (tab_stays (by simp [stays_word])) (fun hq hqf => ?_)
 simp only [List.take_succ_cons, List.take_zero, List.drop_succ_cons, List.drop_zero]
 have y0 := fun nq => (hq nq bx ox lx).trans x0
 have y1 := fun nq => (hq nq bx (ox + 1) lx).trans x1
 iterate 10
  (refine wpK_det rfl (fun K hK => ?_)
   go_simp
   first
    | (refine hK _ ?_; clear hK K)
    | (apply Exists.intro; refine ⟨fun x => ?_, hK _ ?_⟩; (first | exact y0 x | exact y1 x | (simp [y0, y1]; rfl)); clear hK K))
 refine wpK_rel _ rfl rfl ?_ ?_
 ·rintro _ ⟨nn, rfl⟩ _
  unfold Oper.relAt
  go_simp
  exact rel_copied _ _ _ _ _ hn _ _ (ext_size nn.use) (HX.out.rd.ext nn.use)
 rintro v ⟨_, ⟨nn, rfl⟩, hr⟩
 obtain ⟨A9, k9, c9, rfl, -, -⟩ := hr
 clear nn
 refine wpK_nil ?_
 intro nq2 hG
 have r9 : RWord w.heap.size z.natAbs [] (.slice A9 k9 c9) nq2.out := by have := hG.fact 10; simp [Facts.put] at this; exact this
 have hR9 := Lib.hid (rword_at r9)
 have hF9 : Fr w A9 := hR9.out.2
 have hO9 := hF9.off HR.out.lt k9
 clear r9 hG
 go_wp2_with (first
  | (go_at_call 88; (with_reducible refine (bi_set b o _ A9 k9 c9 z.natAbs _ (HR.out.ext nq2.use) hR9.out.1 hO9).mono ?_); rintro e w3 ⟨rfl, hI3, xt3⟩)
  )
 refine bodyPost_ret (v := .pointer (some ⟨b, o, none⟩)) ?h rfl ⟨rfl, A9, k9, c9, ⟨by have := hI3.out; rwa [sgn_neg] at this, hF9⟩, (Tch.of nq2.use).trans xt3⟩
 case h => simp [results, Tryz.results63, go_sem]
theorem bi_SetWords (b o : Nat) (A : Option Addr) (n c a : Nat) (hn : n ≤ 1000000) (w : World) (hr : Room w b o) (hA : Rd w A n c (lim a)) :
  Calls Tryz.prog 144 #[.pointer (some ⟨b, o, none⟩), .slice A n c] w (IPost w b o a) := by
 have HA := Lib.hid hA
 have HR := Lib.hid hr
 have hlt := hr.lt
 have hO : ∀ k, Off (some ⟨w.heap.size, 0, none⟩) k b := fun k x hx _ e => by cases hx; simp at e; omega
 clear hA hr
 go_enter Tryz.func144, Tryz.ntmps144
 go_wp2_with (first
  | (go_at_call 89; (with_reducible refine (bw_copied A n c (lim a) hn _ HA.out).mono ?_); rintro e w2 ⟨rfl, hR2, xb2⟩)
  | (go_at_call 88; (with_reducible refine (bi_set b o _ _ _ _ a _ (HR.out.ext xb2) hR2.out (hO _)).mono ?_); rintro e w3 ⟨rfl, hI3, xt3⟩)
  )
 refine bodyPost_ret (v := .pointer (some ⟨b, o, none⟩)) ?h rfl ⟨rfl, _, _, _, ⟨hI3.out, fun q hq => by cases hq; exact Nat.le_refl _⟩, (Tch.of xb2).trans xt3⟩
 case h => simp [results, Tryz.results144, go_sem]
end Go.Proofs.YtfdmhefjmnlllaaGreatDoor
end
section
/- Whole numbers of the library's: out of bytes. -/
namespace Go.Proofs.YtfdmhefjmnlllaaGreatDoor
open Go.RowKit
attribute [local go_sem] sz2 sz3 sz4 sz5 sz6 sz7 sz8
set_option maxHeartbeats 4000000
set_option maxRecDepth 100000
attribute [local irreducible] Calls
def ByAt (w : World) (g n : Nat) (l : List UInt8) : Prop := g < w.heap.size ∧ ∀ i, i < n → w.cell? ⟨g, i, none⟩ = some (.int .u8 ((l.getD i 0).toNat : Int))
theorem ByAt.ext {w w' : World} {g n : Nat} {l : List UInt8} (h : ByAt w g n l) (he : Ext w w') : ByAt w' g n l :=
 ⟨Nat.lt_of_lt_of_le h.1 he.size, fun i hi => (Below.cell (p := ⟨g, i, none⟩) he h.1).trans (h.2 i hi)⟩
theorem bi_SetBytes (b o g n a : Nat) (hn : n ≤ 1000000) (ha : a < 256 ^ n) (w : World) (hr : Room w b o) (hB : ByAt w g n (beB n a)) :
  Calls Tryz.prog 109 #[.pointer (some ⟨b, o, none⟩), .slice (some ⟨g, 0, none⟩) n n] w (IPost w b o a) := by
 have HR := Lib.hid hr
 have HB := Lib.hid hB
 have hO : ∀ k, Off (some ⟨w.heap.size, 0, none⟩) k b := fun k x hx _ e => by have := hr.lt; cases hx; simp at e; omega
 have hgl := hB.1
 obtain ⟨N, hN⟩ : ∃ N, N = (n + 3) / 4 := ⟨_, rfl⟩
 have e0 : ((n : Int) + 3) / 4 = (N : Int) := by omega
 have HN := Lib.hid (show 4 * N ≥ n ∧ 4 * N ≤ n + 3 by omega)
 have hN1 : N ≤ 1000000 := by omega
 have HA := Lib.hid ha
 clear hB hr hN ha
 go_enter Tryz.func109, Tryz.ntmps109
 go_wp2_with (first
  | (at_make; refine make_u32 rfl _ _ rfl _ _ _ _ N rfl rfl e0 e0 (by omega) ?_; intro w1 hx1 ho1; have hext1 := Lib.hid hx1; clear hx1)
  )
 go_loopw [16] (fun vi wr => ∃ (i : Nat) (os : List Nat), i ≤ n ∧ vi = .int .i64 (i : Int) ∧ Hid (os.length = N ∧ Lb os ∧ val os = 256 ^ (n - i) * (a / 256 ^ (n - i))) ∧
   Hid (wr.ownsRow w.heap.size 47 1 (.slice (some ⟨w.heap.size, 0, none⟩) N N) N (os.map u32V)) ∧ Hid (Ext w wr))
  (fun vi _ => n - (intOf vi).toNat)
 case atStart => exact ⟨0, List.replicate N 0, Nat.zero_le _, rfl, ⟨by simp, lb_replicate _, by rw [val_replicate, Nat.sub_zero, Nat.div_eq_of_lt HA.out, Nat.mul_zero]⟩, ho1.out, hext1.out⟩
 case round =>
  clear ho1 hext1
  obtain ⟨i, os, hi, rfl, hos, hown, hext⟩ := hrel
  by_cases h1 : i < n
  ·obtain ⟨k, hk⟩ : ∃ k, k = n - 1 - i := ⟨_, rfl⟩
   obtain ⟨q, hq⟩ : ∃ q, q = k / 4 := ⟨_, rfl⟩
   obtain ⟨r, hr4⟩ : ∃ r, r = k % 4 := ⟨_, rfl⟩
   obtain ⟨c, hc⟩ : ∃ c, c = a / 256 ^ k % 256 := ⟨_, rfl⟩
   obtain ⟨s, hs⟩ : ∃ s, s = 8 * r := ⟨_, rfl⟩
   have hcell := (HB.out.ext hext.out).2 i h1
   rw [beB_getD h1, ← hk, ← hc] at hcell
   have hc256 : c < 256 := by rw [hc]; exact Nat.mod_lt _ (by decide)
   obtain ⟨x, hx⟩ : ∃ x, os.getD q 0 = x := ⟨_, rfl⟩
   have hqN : q < N := by have := HN.out; omega
   obtain ⟨hc1, hf1⟩ := own_at hown.out q hqN
   rw [hx] at hc1
   have hob := or_byte (V := a / 256 ^ (k + 1)) hos.out.2.1 (show r < 4 by omega) (by rw [hos.out.1]; exact hqN) (by rw [hos.out.2.2, show n - i = 4 * q + r + 1 by omega, show 4 * q + r + 1 = k + 1 by omega]) hc256 hx
   rw [show 4 * q + r = k by omega, hc, byte_next, ← hc, ← hs] at hob
   have e1 : (n : Int) - 1 - (i : Int) = (k : Int) := by omega
   have e2 : (k : Int) / 4 = (q : Int) := by omega
   have e3 : (k : Int) % 4 = (r : Int) := by omega
   have e4 : 8 * (r : Int) = (s : Int) := by omega
   have hs24 : s ≤ 24 := by omega
   have HOB := Lib.hid hob
   have hgl2 : w.heap.size < wr.heap.size := (hown.out.lt w.heap.size rfl).2
   clear hob hk hq hr4 hc hs
   go_wp2
   refine wp_aft_tail 13 (by kernel_rfl) (by kernel_rfl) (by kernel_rfl) (fun hq hqf => ?_)
   simp only [List.take_succ_cons, List.take_zero, List.drop_succ_cons, List.drop_zero]
   repeat (go_big_quiet_step (first | fail
    ))
   refine wpQuiet_nil ?_
   rintro _ ⟨nq, rfl⟩
   have xl := ext_lt nq.use
   have xz := ext_size nq.use
   try simp at xz
   have y1 := (hq nq w.heap.size q hgl2).trans hc1
   have y2 := (hqf nq w.heap.size q hgl2).trans hf1
   clear hq hqf
   have hE2 := Lib.hid nq.use
   have hor : Hid (bits BinOp.or IntKind.u32 (x : Int) ((c : Int) * 2 ^ s % 4294967296) = ((x + c * 2 ^ s : Nat) : Int)) := by
    obtain ⟨o1, o2, o3, -, -⟩ := HOB.out
    have e5 : (c : Int) * 2 ^ s % 4294967296 = ((c * 2 ^ s : Nat) : Int) := by
     have : (c : Int) * 2 ^ s = ((c * 2 ^ s : Nat) : Int) := by simp
     rw [this]; omega
    show _ = _
    rw [e5, bits_or32 _ _ (by omega) o1, o2]
   go_wp2
   case roundEnd =>
    refine ⟨⟨i + 1, os.set q (x + c * 2 ^ s), by omega, by simp, ⟨by simp [hos.out.1], HOB.out.2.2.2.2, ?_⟩, ?_, ?_⟩, ?_⟩
    ·rw [HOB.out.2.2.2.1, show n - (i + 1) = k by omega]
    ·show World.ownsRow _ _ _ _ _ _ _
     rw [hor.out]
     exact own_set (own_ext hown.out hE2.out) _ _
    ·exact jS (jT hext.out hE2.out) (Nat.le_refl _) _
    ·simp [intOf]; omega
  ·obtain rfl : i = n := by omega
   have hv : val os = a := by rw [hos.out.2.2, Nat.sub_self, Nat.pow_zero, Nat.div_one, Nat.one_mul]
   have hT := bw_trim_own hown.out hos.out.2.1 hv
   have hE := hext.out
   clear hv
   go_wp2_with (first
    | (go_at_call 130; (with_reducible refine hT.mono ?_); rintro e w' ⟨⟨j, rfl, hR⟩, rfl⟩)
    | (go_at_call 144; (with_reducible refine (bi_SetWords b o _ j N a (by have := hR.out.cap; omega) _ (HR.out.ext hE) hR.out).mono ?_); rintro e w3 ⟨rfl, A3, n3, c3, hI3, xt3⟩)
    )
   refine bodyPost_ret (v := .pointer (some ⟨b, o, none⟩)) ?h rfl ⟨rfl, A3, n3, c3, ⟨hI3.out.1, Fr.mono hI3.out.2 hE⟩, (Tch.of hE).trans xt3⟩
   case h => simp [results, Tryz.results109, go_sem]
end Go.Proofs.YtfdmhefjmnlllaaGreatDoor
end
section
/- Fractions of the library's: objects in memory, set. -/
namespace Go.Proofs.YtfdmhefjmnlllaaGreatDoor
open Go.RowKit
attribute [local go_sem] sz2 sz3 sz4 sz5 sz6 sz7 sz8
set_option maxHeartbeats 4000000
set_option maxRecDepth 100000
attribute [local irreducible] Calls
attribute [local go_sem] Oper.detAt detUpon relUpon
structure RatRoom (w : World) (g : Nat) : Prop where
 int : Room w g 0
 c2 : ∃ v, w.cell? ⟨g, 2, none⟩ = some v
 f2 : w.frozen? ⟨g, 2, none⟩ = false
structure RatIs (w : World) (g : Nat) (z : Int) (A : Option Addr) (n c : Nat) (d : Nat) (D : Option Addr) (m e : Nat) : Prop where
 int : IntIs w g 0 z A n c
 c2 : w.cell? ⟨g, 2, none⟩ = some (.slice D m e)
 f2 : w.frozen? ⟨g, 2, none⟩ = false
 rd : Rd w D m e (lim d)
 off : Off D m g
theorem RatRoom.ext {w w' : World} {g : Nat} (h : RatRoom w g) (he : Ext w w') : RatRoom w' g := by
 obtain ⟨h1, ⟨v, h2⟩, h3⟩ := h
 exact ⟨h1.ext he, ⟨v, (Below.cell (p := ⟨g, 2, none⟩) he h1.lt).trans h2⟩, (Below.frozen (p := ⟨g, 2, none⟩) he h1.lt).trans h3⟩
theorem RatIs.ext {w w' : World} {g : Nat} {z : Int} {A : Option Addr} {n c : Nat} {d : Nat} {D : Option Addr} {m e : Nat} (h : RatIs w g z A n c d D m e) (he : Ext w w') : RatIs w' g z A n c d D m e :=
 ⟨h.int.ext he, (Below.cell (p := ⟨g, 2, none⟩) he h.int.room.lt).trans h.c2, (Below.frozen (p := ⟨g, 2, none⟩) he h.int.room.lt).trans h.f2, h.rd.ext he, h.off⟩
theorem RatIs.tch {w w' : World} {g b : Nat} {z : Int} {A : Option Addr} {n c : Nat} {d : Nat} {D : Option Addr} {m e : Nat} (h : RatIs w g z A n c d D m e) (ht : Tch b w w') (hg : g ≠ b) (hA : Off A n b) (hD : Off D m b) : RatIs w' g z A n c d D m e :=
 ⟨h.int.tch ht hg hA, (ht.cell (p := ⟨g, 2, none⟩) h.int.room.lt hg).trans h.c2, (ht.frozen (p := ⟨g, 2, none⟩) h.int.room.lt hg).trans h.f2, h.rd.tch ht hD, h.off⟩
def denOf (d : Nat) : Nat := if d = 0 then 1 else d
theorem br_below_new (g : Nat) (z : Int) (A : Option Addr) (n c : Nat) (D : Option Addr) (m e : Nat) (w : World) (hx : RatIs w g z A n c 0 D m e) :
  Calls Tryz.prog 90 #[.pointer (some ⟨g, 0, none⟩)] w fun e w' => e = .returned (.slice (some ⟨w.heap.size, 0, none⟩) 1 1) ∧ Hid (Rd w' (some ⟨w.heap.size, 0, none⟩) 1 1 (lim 1)) ∧ Ext w w' := by
 have hm : m = 0 := by have := hx.rd.len; rw [lim_zero] at this; exact this.symm
 subst hm
 have x2 := hx.c2
 clear hx
 go_enter Tryz.func90, Tryz.ntmps90
 go_wp2
 refine bodyPost_ret (v := .slice (some ⟨w.heap.size, 0, none⟩) 1 1) ?h rfl ⟨rfl, one_row w, jA (jR _) _⟩
 case h => simp [results, Tryz.results90, go_sem]
theorem br_below_old (g : Nat) (z : Int) (A : Option Addr) (n c d : Nat) (hd : d ≠ 0) (D : Option Addr) (m e : Nat) (w : World) (hx : RatIs w g z A n c d D m e) :
  Calls Tryz.prog 90 #[.pointer (some ⟨g, 0, none⟩)] w fun e' w' => e' = .returned (.slice D m e) ∧ Ext w w' := by
 have hm : m ≠ 0 := by have := hx.rd.len; intro h; rw [h] at this; exact hd (lim_nil.1 (List.eq_nil_of_length_eq_zero this))
 have hm1 : ((m : Int) == 0) = false := by rw [beq_eq_false_iff_ne]; omega
 have x2 := hx.c2
 clear hx
 go_enter Tryz.func90, Tryz.ntmps90
 go_wp2
 refine bodyPost_ret (v := .slice D m e) ?h rfl ⟨rfl, jR _⟩
 case h => simp [results, Tryz.results90, go_sem]
abbrev SPost (w : World) (g : Nat) (z : Int) (d : Nat) (A D : Option Addr) : Ending → World → Prop := fun e w' => e = .returned (.pointer (some ⟨g, 0, none⟩)) ∧ ∃ (A' : Option Addr) (n c : Nat) (D' : Option Addr) (m k : Nat),
 Hid (RatIs w' g z A' n c d D' m k ∧ ∀ W, Ext W w → Fr W A → Fr W D → Fr W A' ∧ Fr W D') ∧ Tch g w w'
theorem Fr.szmono {W w : World} {A : Option Addr} (h : Fr w A) (hs : W.heap.size ≤ w.heap.size) : Fr W A := fun a ha => Nat.le_trans hs (h a ha)
theorem Fr.none (w : World) : Fr w none := fun _ h => by cases h
theorem rat_made {w : World} {g : Nat} {z : Int} {A : Option Addr} {n c : Nat} (hi : IntIs w g 0 z A n c) (hc : ∃ v, w.cell? ⟨g, 2, none⟩ = some v) (hf : w.frozen? ⟨g, 2, none⟩ = false) {d : Nat} {D : Option Addr} {m k : Nat} (hD : Rd w D m k (lim d)) (ho : Off D m g) :
  RatIs (w.setCell ⟨g, 2, none⟩ (.slice D m k)) g z A n c d D m k := by
 obtain ⟨v, hv⟩ := hc
 have ht : Tch g w (w.setCell ⟨g, 2, none⟩ (.slice D m k)) := (Tch.refl g w).set 2 _
 have hA := hi.rd.tch ht hi.off
 obtain ⟨⟨r1, ⟨v0, r2⟩, ⟨v1, r3⟩, r4, r5⟩, i2, i3, i4, i5⟩ := hi
 have o0 : ∀ p, p ≠ 2 → (w.setCell ⟨g, 2, none⟩ (.slice D m k)).cell? ⟨g, p, none⟩ = w.cell? ⟨g, p, none⟩ := fun p hp => World.cell?_setCell_other _ _ _ _ (by intro e; simp at e; try omega)
 exact ⟨⟨⟨by simpa using r1, ⟨_, (o0 0 (by omega)).trans r2⟩, ⟨_, (o0 1 (by omega)).trans r3⟩, by simpa using r4, by simpa using r5⟩, (o0 0 (by omega)).trans i2, (o0 1 (by omega)).trans i3, hA, i5⟩,
  World.cell?_setCell_same _ _ _ hv, by simpa using hf, hD.tch ht ho, ho⟩
theorem br_set_zero (g : Nat) (minus : Bool) (A : Option Addr) (n c : Nat) (D : Option Addr) (m k d : Nat) (w : World) (hr : RatRoom w g) (hA : Rd w A n c (lim 0)) (hD : Rd w D m k (lim d)) :
  Calls Tryz.prog 111 #[.pointer (some ⟨g, 0, none⟩), .bool minus, .slice A n c, .slice D m k] w (SPost w g 0 0 A D) := by
 obtain rfl : n = 0 := by have := hA.len; rw [lim_zero] at this; exact this.symm
 have HA := Lib.hid hA
 have HD := Lib.hid hD
 have HR := Lib.hid hr
 have hnil : Rd w none 0 0 (lim 0) := by rw [lim_zero]; exact Rd.nil _
 have hoff : Off none 0 g := fun x hx => by cases hx
 have HN := Lib.hid hnil
 have hfc := hr.c2
 have hff := hr.f2
 obtain ⟨v2, hv2⟩ := hfc
 clear hA hD hr hnil
 go_enter Tryz.func111, Tryz.ntmps111
 go_wp2_with (first
  | (go_at_call 130; (with_reducible refine (bw_trim A 0 c (lim 0) _ HA.out).mono ?_); rintro e w1 ⟨k1, rfl, hR1, rfl⟩; rw [trimZ_lim_lim] at hR1; obtain rfl : k1 = 0 := by have := hR1.len; rw [lim_zero] at this; exact this.symm)
  | (go_at_call 130; (with_reducible refine (bw_trim D m k (lim d) _ HD.out).mono ?_); rintro e w2 ⟨k2, rfl, hR2, rfl⟩)
  | (go_at_call 88; (with_reducible refine (bi_setx g 0 false none 0 0 0 _ HR.out.int HN.out hoff).mono ?_); rintro e w3 ⟨rfl, hI3, xt3, hq3⟩; have hv3 := (hq3.out 2 (by omega) (by omega)).1.trans hv2; have hf3 := (hq3.out 2 (by omega) (by omega)).2.trans hff)
  )
 refine bodyPost_ret (v := .pointer (some ⟨g, 0, none⟩)) ?h rfl ⟨rfl, none, 0, 0, none, 0, 0, ⟨rat_made hI3.out ⟨_, hv3⟩ hf3 (by rw [lim_zero]; exact Rd.nil _) hoff, fun W _ _ _ => ⟨Fr.none W, Fr.none W⟩⟩, xt3.set 2 _⟩
 case h => simp [results, Tryz.results111, go_sem]
theorem br_set_co (g : Nat) (minus : Bool) (A : Option Addr) (n c a : Nat) (ha : a ≠ 0) (D : Option Addr) (m k d : Nat) (hd : d ≠ 0) (hn : n ≤ 400000) (hm : m ≤ 400000) (hg : Nat.gcd a d = 1) (w : World) (hT : Tz w) (hr : RatRoom w g) (hA : Rd w A n c (lim a)) (hD : Rd w D m k (lim d)) (hoA : Off A n g) (hoD : Off D m g) :
  Calls Tryz.prog 111 #[.pointer (some ⟨g, 0, none⟩), .bool minus, .slice A n c, .slice D m k] w (SPost w g (sgn minus a) d A D) := by
 have hn0 : ((n : Int) == 0) = false := by
  rw [beq_eq_false_iff_ne]
  have := hA.len; intro h; exact ha (lim_nil.1 (List.eq_nil_of_length_eq_zero (by omega)))
 have hla := hA.len
 have hld := hD.len
 have HA := Lib.hid hA
 have HD := Lib.hid hD
 have HR := Lib.hid hr
 have HT := Lib.hid hT
 have hgl := hr.int.lt
 have hfc := hr.c2
 have hff := hr.f2
 obtain ⟨v2, hv2⟩ := hfc
 clear hA hD hr hT
 go_enter Tryz.func111, Tryz.ntmps111
 go_wp2_with (first
  | (go_at_call 130; (with_reducible refine (bw_trim A n c (lim a) _ HA.out).mono ?_); rintro e w1 ⟨k1, rfl, hR1, rfl⟩; rw [trimZ_lim_lim] at hR1; obtain rfl : n = k1 := by rw [← hla]; exact hR1.len)
  | (go_at_call 130; (with_reducible refine (bw_trim D m k (lim d) _ HD.out).mono ?_); rintro e w2 ⟨k2, rfl, hR2, rfl⟩; rw [trimZ_lim_lim] at hR2; obtain rfl : m = k2 := by rw [← hld]; exact hR2.len)
  | (go_at_call 124; (with_reducible refine (bw_common A D n c m k a d hn hm _ HT.out HA.out HD.out).mono ?_); rintro e w3 ⟨G, k3, c3, rfl, hG3, xb3⟩)
  )
 have hG3' := Lib.hid (show Rd w3 G k3 c3 (lim 1) by have := hG3.out.1; rwa [hg] at this)
 have hby : ∀ x : Aft w3, Calls Tryz.prog 125 #[.slice A n c, .slice G k3 c3] x.out fun e w'' => e = .returned (.slice A n c) ∧ Ext x.out w'' := fun x => bw_by_one A G n c k3 c3 _ (hG3'.out.ext x.use)
 refine wp_aft_tail 7 (by kernel_rfl) (by kernel_rfl) (by kernel_rfl) (fun hq hqf => ?_)
 simp only [List.take_succ_cons, List.take_zero, List.drop_succ_cons, List.drop_zero]
 repeat (go_big_quiet_step (first
  | (go_at_call 125; exact aft_of (hby _))
  ))
 refine wpQuiet_nil ?_
 rintro _ ⟨nq, rfl⟩
 have xl := ext_lt nq.use
 have xz := ext_size nq.use
 try simp at xz
 have hE4 := Lib.hid (jT xb3 nq.use)
 have hq4 := Lib.hid nq.use
 have hv4 := (Below.cell (p := ⟨g, 2, none⟩) hE4.out hgl).trans hv2
 have hf4 := (Below.frozen (p := ⟨g, 2, none⟩) hE4.out hgl).trans hff
 go_wp2_with (first
  | (go_at_call 88; (with_reducible refine (bi_setx g 0 minus A n c a _ (HR.out.int.ext hE4.out) (HA.out.ext hE4.out) hoA).mono ?_); rintro e w5 ⟨rfl, hI5, xt5, hq5⟩; have hv5 := (hq5.out 2 (by omega) (by omega)).1.trans hv4; have hf5 := (hq5.out 2 (by omega) (by omega)).2.trans hf4; have hD5 := Lib.hid ((HD.out.ext hE4.out).tch xt5 hoD); have hG5 := Lib.hid ((hG3'.out.ext hq4.out).tch xt5 (hG3.out.2.off hgl k3)))
  | (go_at_call 125; (with_reducible refine (bw_by_one D G m k k3 c3 _ hG5.out).mono ?_); rintro e w6 ⟨rfl, xb6⟩; have hgl6 := ext_lt xb6 g hI5.out.room.lt; have hv6 := (Below.cell (p := ⟨g, 2, none⟩) xb6 hI5.out.room.lt).trans hv5; have hf6 := (Below.frozen (p := ⟨g, 2, none⟩) xb6 hI5.out.room.lt).trans hf5)
  )
 refine bodyPost_ret (v := .pointer (some ⟨g, 0, none⟩)) ?h rfl ⟨rfl, A, n, c, D, m, k, ⟨rat_made (hI5.out.ext xb6) ⟨_, hv6⟩ hf6 (hD5.out.ext xb6) hoD, fun W _ h1 h2 => ⟨h1, h2⟩⟩, (((Tch.of hE4.out).trans xt5).trans (Tch.of xb6)).set 2 _⟩
 case h => simp [results, Tryz.results111, go_sem]
theorem br_set_div (g : Nat) (minus : Bool) (A : Option Addr) (n c a : Nat) (ha : a ≠ 0) (D : Option Addr) (m k d : Nat) (hd : d ≠ 0) (hn : n ≤ 400000) (hm : m ≤ 400000) (hg : Nat.gcd a d ≠ 1) (w : World) (hT : Tz w) (hr : RatRoom w g) (hA : Rd w A n c (lim a)) (hD : Rd w D m k (lim d)) (hoA : Off A n g) (hoD : Off D m g) :
  Calls Tryz.prog 111 #[.pointer (some ⟨g, 0, none⟩), .bool minus, .slice A n c, .slice D m k] w (SPost w g (sgn minus (a / Nat.gcd a d : Nat)) (d / Nat.gcd a d) A D) := by
 have hn0 : ((n : Int) == 0) = false := by
  rw [beq_eq_false_iff_ne]
  have := hA.len; intro h; exact ha (lim_nil.1 (List.eq_nil_of_length_eq_zero (by omega)))
 have hla := hA.len
 have hld := hD.len
 have HA := Lib.hid hA
 have HD := Lib.hid hD
 have HR := Lib.hid hr
 have HT := Lib.hid hT
 have hgl := hr.int.lt
 have hfc := hr.c2
 have hff := hr.f2
 obtain ⟨v2, hv2⟩ := hfc
 clear hA hD hr hT
 obtain ⟨gd, hgd⟩ : ∃ gd, gd = Nat.gcd a d := ⟨_, rfl⟩
 rw [← hgd] at hg ⊢
 have hg0 : gd ≠ 0 := by rw [hgd]; intro h; exact ha (Nat.eq_zero_of_gcd_eq_zero_left h)
 have hga : a / gd ≠ 0 := by
  have h1 : gd ≤ a := by rw [hgd]; exact Nat.le_of_dvd (Nat.pos_of_ne_zero ha) (Nat.gcd_dvd_left a d)
  have := Nat.div_pos h1 (Nat.pos_of_ne_zero hg0); omega
 have HGD := Lib.hid hgd
 clear hgd
 go_enter Tryz.func111, Tryz.ntmps111
 go_wp2_with (first
  | (go_at_call 130; (with_reducible refine (bw_trim A n c (lim a) _ HA.out).mono ?_); rintro e w1 ⟨k1, rfl, hR1, rfl⟩; rw [trimZ_lim_lim] at hR1; obtain rfl : n = k1 := by rw [← hla]; exact hR1.len)
  | (go_at_call 130; (with_reducible refine (bw_trim D m k (lim d) _ HD.out).mono ?_); rintro e w2 ⟨k2, rfl, hR2, rfl⟩; rw [trimZ_lim_lim] at hR2; obtain rfl : m = k2 := by rw [← hld]; exact hR2.len)
  | (go_at_call 124; (with_reducible refine (bw_common A D n c m k a d hn hm _ HT.out HA.out HD.out).mono ?_); rintro e w3 ⟨G, k3, c3, rfl, hG3, xb3⟩)
  )
 have hG3' := Lib.hid (show Rd w3 G k3 c3 (lim gd) by have := hG3.out.1; rwa [← HGD.out] at this)
 refine wp_drawn_tail 7 (tab [(6, RWord w3.heap.size (a / gd))]) (by kernel_rfl) (by kernel_rfl) (by kernel_rfl) (tab_stays (by simp [stays_word])) (fun hq hqf => ?_)
 simp only [List.take_succ_cons, List.take_zero, List.drop_succ_cons, List.drop_zero]
 iterate 6
  (refine wpK_det rfl (fun K hK => ?_)
   go_simp
   (refine hK _ ?_; clear hK K))
 refine wpK_rel _ rfl rfl ?_ ?_
 ·rintro _ ⟨nn, rfl⟩ _
  unfold Oper.relAt
  go_simp
  exact rel_by _ A G n c k3 c3 a gd hg hg0 hga hn _ _ (ext_size nn.use) (HA.out.ext (jT xb3 nn.use)) (hG3'.out.ext nn.use)
 rintro v ⟨_, ⟨nn, rfl⟩, hr⟩
 obtain ⟨A9, k9, c9, rfl, -, -⟩ := hr
 clear nn
 refine wpK_nil ?_
 intro nq hGG
 have r9 : RWord w3.heap.size (a / gd) [] (.slice A9 k9 c9) nq.out := by have := hGG.fact 6; simp [Facts.put] at this; exact this
 have hR9 := Lib.hid (rword_at r9)
 have hF9 : Fr w3 A9 := hR9.out.2
 have hgl3 : g < w3.heap.size := ext_lt xb3 g hgl
 have hO9 := hF9.off hgl3 k9
 clear r9 hGG
 have hE4 := Lib.hid (jT xb3 nq.use)
 have hq4 := Lib.hid nq.use
 have hv4 := (Below.cell (p := ⟨g, 2, none⟩) hE4.out hgl).trans hv2
 have hf4 := (Below.frozen (p := ⟨g, 2, none⟩) hE4.out hgl).trans hff
 go_wp2_with (first
  | (go_at_call 88; (with_reducible refine (bi_setx g 0 minus A9 k9 c9 (a / gd) _ (HR.out.int.ext hE4.out) hR9.out.1 hO9).mono ?_); rintro e w5 ⟨rfl, hI5, xt5, hq5⟩; have hv5 := (hq5.out 2 (by omega) (by omega)).1.trans hv4; have hf5 := (hq5.out 2 (by omega) (by omega)).2.trans hf4; have hD5 := Lib.hid ((HD.out.ext hE4.out).tch xt5 hoD); have hG5 := Lib.hid ((hG3'.out.ext hq4.out).tch xt5 (hG3.out.2.off hgl k3)))
  | (go_at_call 125; (with_reducible refine (bw_by_div D G m k k3 c3 d gd hg hg0 hm _ hD5.out hG5.out).mono ?_); rintro e w6 ⟨D6, k6, c6, rfl, hR6, xb6⟩; have hgl6 := ext_lt xb6 g hI5.out.room.lt; have hv6 := (Below.cell (p := ⟨g, 2, none⟩) xb6 hI5.out.room.lt).trans hv5; have hf6 := (Below.frozen (p := ⟨g, 2, none⟩) xb6 hI5.out.room.lt).trans hf5)
  )
 refine bodyPost_ret (v := .pointer (some ⟨g, 0, none⟩)) ?h rfl ⟨rfl, A9, k9, c9, D6, k6, c6, ⟨rat_made (hI5.out.ext xb6) ⟨_, hv6⟩ hf6 hR6.out.1 (hR6.out.2.off hI5.out.room.lt k6), fun W hW _ _ => ⟨Fr.mono hF9 (jT hW xb3), Fr.szmono hR6.out.2 (Nat.le_trans (ext_size (jT hW hE4.out)) xt5.size)⟩⟩, (((Tch.of hE4.out).trans xt5).trans (Tch.of xb6)).set 2 _⟩
 case h => simp [results, Tryz.results111, go_sem]
def lowD (a d : Nat) : Nat := if a = 0 then 0 else d / Nat.gcd a d
theorem br_set (g : Nat) (minus : Bool) (A : Option Addr) (n c a : Nat) (D : Option Addr) (m k d : Nat) (hd : d ≠ 0) (hn : n ≤ 400000) (hm : m ≤ 400000) (w : World) (hT : Tz w) (hr : RatRoom w g) (hA : Rd w A n c (lim a)) (hD : Rd w D m k (lim d)) (hoA : Off A n g) (hoD : Off D m g) :
  Calls Tryz.prog 111 #[.pointer (some ⟨g, 0, none⟩), .bool minus, .slice A n c, .slice D m k] w (SPost w g (sgn minus (a / Nat.gcd a d : Nat)) (lowD a d) A D) := by
 by_cases h0 : a = 0
 ·subst h0
  have e1 : sgn minus (0 / Nat.gcd 0 d : Nat) = 0 := by rw [Nat.zero_div]; cases minus <;> rfl
  rw [e1]
  exact br_set_zero g minus A n c D m k d w hr hA hD
 ·have e2 : lowD a d = d / Nat.gcd a d := if_neg h0
  rw [e2]
  by_cases h1 : Nat.gcd a d = 1
  ·have := br_set_co g minus A n c a h0 D m k d hd hn hm h1 w hT hr hA hD hoA hoD
   rw [h1, Nat.div_one, Nat.div_one]; exact this
  ·exact br_set_div g minus A n c a h0 D m k d hd hn hm h1 w hT hr hA hD hoA hoD
abbrev FPost (w : World) (g : Nat) (z : Int) (d : Nat) : Ending → World → Prop := fun e w' => e = .returned (.pointer (some ⟨g, 0, none⟩)) ∧ ∃ (A' : Option Addr) (n c : Nat) (D' : Option Addr) (m k : Nat),
 Hid (RatIs w' g z A' n c d D' m k ∧ Fr w A' ∧ Fr w D') ∧ Tch g w w'
def qneg (x y : Int) : Bool := decide (x < 0) != decide (y < 0)
theorem br_SetFrac (g bx b2 : Nat) (x y : Int) (hy : y ≠ 0) (A : Option Addr) (n c : Nat) (D : Option Addr) (m k : Nat) (hn : n ≤ 400000) (hm : m ≤ 400000) (w : World) (hT : Tz w) (hr : RatRoom w g) (hx : IntIs w bx 0 x A n c) (hyy : IntIs w b2 0 y D m k) :
  Calls Tryz.prog 65 #[.pointer (some ⟨g, 0, none⟩), .pointer (some ⟨bx, 0, none⟩), .pointer (some ⟨b2, 0, none⟩)] w
   (FPost w g (sgn (qneg x y) (x.natAbs / Nat.gcd x.natAbs y.natAbs : Nat)) (lowD x.natAbs y.natAbs)) := by
 have HX := Lib.hid hx
 have HY := Lib.hid hyy
 have HR := Lib.hid hr
 have HT := Lib.hid hT
 have lx := hx.room.lt
 have x0 := hx.neg
 have x1 := hx.words
 have ly := hyy.room.lt
 have v0 := hyy.neg
 have v1 := hyy.words
 have hgl := hr.int.lt
 simp only [Nat.zero_add] at x1 v1
 clear hx hyy hr hT
 go_enter Tryz.func65, Tryz.ntmps65
 go_wp2
 refine wp_drawn_tail 20 (tab [(14, RWord w.heap.size x.natAbs), (19, RWord w.heap.size y.natAbs)]) (by kernel_rfl) (by kernel_rfl) (by kernel_rfl) (tab_stays (by simp [stays_word])) (fun hq hqf => ?_)
 simp only [List.take_succ_cons, List.take_zero, List.drop_succ_cons, List.drop_zero]
 have y0 := fun nq => (hq nq bx 0 lx).trans x0
 have y1 := fun nq => (hq nq bx 1 lx).trans x1
 have y2 := fun nq => (hq nq b2 0 ly).trans v0
 have y3 := fun nq => (hq nq b2 1 ly).trans v1
 iterate 14
  (refine wpK_det rfl (fun K hK => ?_)
   go_simp
   first
    | (refine hK _ ?_; clear hK K)
    | (apply Exists.intro; refine ⟨fun x => ?_, hK _ ?_⟩; (first | exact y0 x | exact y1 x | exact y2 x | exact y3 x | (simp [y0, y1, y2, y3]; rfl)); clear hK K))
 refine wpK_rel _ rfl rfl ?_ ?_
 ·rintro _ ⟨nn, rfl⟩ _
  unfold Oper.relAt
  go_simp
  exact rel_copied _ _ _ _ _ (by omega) _ _ (ext_size nn.use) (HX.out.rd.ext nn.use)
 rintro v ⟨_, ⟨nn, rfl⟩, hr⟩
 obtain ⟨A9, k9, c9, rfl, -, -⟩ := hr
 clear nn
 iterate 4
  (refine wpK_det rfl (fun K hK => ?_)
   go_simp
   first
    | (refine hK _ ?_; clear hK K)
    | (apply Exists.intro; refine ⟨fun x => ?_, hK _ ?_⟩; (first | exact y0 x | exact y1 x | exact y2 x | exact y3 x | (simp [y0, y1, y2, y3]; rfl)); clear hK K))
 refine wpK_rel _ rfl rfl ?_ ?_
 ·rintro _ ⟨nn, rfl⟩ _
  unfold Oper.relAt
  go_simp
  exact rel_copied _ _ _ _ _ (by omega) _ _ (ext_size nn.use) (HY.out.rd.ext nn.use)
 rintro v ⟨_, ⟨nn, rfl⟩, hr⟩
 obtain ⟨B9, m9, d9, rfl, -, -⟩ := hr
 clear nn
 refine wpK_nil ?_
 intro nq hG
 have r9 : RWord w.heap.size x.natAbs [] (.slice A9 k9 c9) nq.out := by have := hG.fact 14; simp [Facts.put] at this; exact this
 have s9 : RWord w.heap.size y.natAbs [] (.slice B9 m9 d9) nq.out := by have := hG.fact 19; simp [Facts.put] at this; exact this
 have hR9 := Lib.hid (rword_at r9)
 have hS9 := Lib.hid (rword_at s9)
 have hF9 : Fr w A9 := hR9.out.2
 have hF8 : Fr w B9 := hS9.out.2
 have hO9 := hF9.off hgl k9
 have hO8 := hF8.off hgl m9
 have l1 : k9 ≤ 400000 := by rw [← hR9.out.1.len, HX.out.rd.len]; exact hn
 have l2 : m9 ≤ 400000 := by rw [← hS9.out.1.len, HY.out.rd.len]; exact hm
 have hE := Lib.hid nq.use
 have hyn : y.natAbs ≠ 0 := by omega
 clear r9 s9 hG
 go_wp2_with (first
  | (go_at_call 111; (with_reducible refine (br_set g _ A9 k9 c9 x.natAbs B9 m9 d9 y.natAbs hyn l1 l2 _ (HT.out.ext hE.out) (HR.out.ext hE.out) hR9.out.1 hS9.out.1 hO9 hO8).mono ?_); rintro e w3 ⟨rfl, A3, n3, c3, D3, m3, k3, hI3, xt3⟩)
  )
 refine bodyPost_ret (v := .pointer (some ⟨g, 0, none⟩)) ?h rfl ⟨rfl, A3, n3, c3, D3, m3, k3, ⟨hI3.out.1, hI3.out.2 w hE.out hF9 hF8⟩, (Tch.of hE.out).trans xt3⟩
 case h => simp [results, Tryz.results65, go_sem]
end Go.Proofs.YtfdmhefjmnlllaaGreatDoor
end
section
/- Whole numbers of the library's: out of limbs. -/
namespace Go.Proofs.YtfdmhefjmnlllaaGreatDoor
open Go.RowKit
attribute [local go_sem] sz2 sz3 sz4 sz5 sz6 sz7 sz8
set_option maxHeartbeats 4000000
set_option maxRecDepth 100000
attribute [local irreducible] Calls
theorem bV_ofNat (x : Nat) : bV (UInt8.ofNat (x % 256)) = .int .u8 ((x : Int) % 256) := by
 simp [bV]
theorem ofNat_byte (x : Nat) : (UInt8.ofNat (x % 256)).toNat = x % 256 := by simp
theorem getD_set8 {l : List UInt8} {i j : Nat} {y : UInt8} (hi : i < l.length) : (l.set i y).getD j 0 = if i = j then y else l.getD j 0 := by
 rw [List.getD_eq_getElem?_getD, List.getD_eq_getElem?_getD, List.getElem?_set]
 by_cases h : i = j
 ·subst h; simp [hi]
 ·simp [h]
theorem ra_whole (A : Option Addr) (n c a : Nat) (hn : n ≤ 200000) (w : World) (hA : Rd w A n c (lim a)) :
  Calls Tryz.prog 62 #[natV A n c] w fun e w' => ∃ (b : Nat) (B : Option Addr) (k d : Nat), e = .returned (.pointer (some ⟨b, 0, none⟩)) ∧ Hid (IntIs w' b 0 a B k d ∧ Fr w B) ∧ w.heap.size ≤ b ∧ Ext w w' := by
 have hmx := hA.mx
 have hcx := hA.cap
 have HA := Lib.hid hA
 have HL := Lib.hid (show a < 256 ^ (4 * n) by have := lim_lt a; rw [hA.len] at this; rw [Nat.pow_mul]; exact this)
 clear hA
 go_enter Tryz.func62, Tryz.ntmps62
 go_wp2_with (first
  | (at_make; refine make_u8 rfl _ _ rfl _ _ _ _ (4 * n) rfl rfl (by simp) (by simp) (by omega) ?_; intro w1 hx1 ho1; have hext1 := Lib.hid hx1; have cb : w1.cell? ⟨w.heap.size, 0, none⟩ = some (.slice A n c) := (Below.cell (p := ⟨w.heap.size, 0, none⟩) hx1 (by simp)).trans (by simp [go_sem]); clear hx1)
  )
 have hG : (w.alloc (Obj.cells #[Value.slice A n c] 24)).heap.size = w.heap.size + 1 := by simp
 rw [hG] at ho1
 have hE0 := Lib.hid (jT (jA (jR w) _) hext1.out)
 clear hG hext1
 go_loopw [15] (fun vi wr => ∃ (i : Nat) (l : List UInt8), i ≤ n ∧ vi = .int .i64 (i : Int) ∧ Hid (l.length = 4 * n ∧ ∀ p, p < 4 * n → 4 * n ≤ p + 4 * i → (l.getD p 0).toNat = a / 256 ^ (4 * n - 1 - p) % 256) ∧
   Hid (wr.ownsRow (w.heap.size + 1) 5 1 (.slice (some ⟨w.heap.size + 1, 0, none⟩) (4 * n) (4 * n)) (4 * n) (l.map bV)) ∧ Hid (Ext w wr) ∧ wr.cell? ⟨w.heap.size, 0, none⟩ = some (.slice A n c))
  (fun vi _ => n - (intOf vi).toNat)
 case atStart => exact ⟨0, List.replicate (4 * n) 0, Nat.zero_le _, rfl, ⟨by simp, fun p h1 h2 => by omega⟩, ho1.out, hE0.out, cb⟩
 case round =>
  clear ho1 hE0 cb
  obtain ⟨i, l, hi, rfl, hl, hown, hext, cb⟩ := hrel
  by_cases h1 : i < n
  ·obtain ⟨bx, ox, hXe⟩ : ∃ b off, A = some ⟨b, off, none⟩ := by
    rcases HA.out.shape with ⟨_, h, _⟩ | h
    ·omega
    ·exact h
   subst hXe
   obtain ⟨x, hx, hxb, hcx1⟩ := (HA.out.ext hext.out).get i h1
   have hlt : w.heap.size < wr.heap.size := by have : w.heap.size + 1 < wr.heap.size := (hown.out.lt _ rfl).2; omega
   obtain ⟨t, ht⟩ : ∃ t, t = 4 * n - 4 * i := ⟨_, rfl⟩
   obtain ⟨t1, ht1⟩ : ∃ u, u = t - 1 := ⟨_, rfl⟩
   obtain ⟨t2, ht2⟩ : ∃ u, u = t - 2 := ⟨_, rfl⟩
   obtain ⟨t3, ht3⟩ : ∃ u, u = t - 3 := ⟨_, rfl⟩
   obtain ⟨t4, ht4⟩ : ∃ u, u = t - 4 := ⟨_, rfl⟩
   have et : 4 * (n : Int) - 4 * (i : Int) = (t : Int) := by omega
   have e1 : (t : Int) - 1 = (t1 : Int) := by omega
   have e2 : (t : Int) - 2 = (t2 : Int) := by omega
   have e3 : (t : Int) - 3 = (t3 : Int) := by omega
   have e4 : (t : Int) - 4 = (t4 : Int) := by omega
   have b1 : t1 < 4 * n := by omega
   have b2 : t2 < 4 * n := by omega
   have b3 : t3 < 4 * n := by omega
   have b4 : t4 < 4 * n := by omega
   have b5 : t ≤ 4 * n := by omega
   obtain ⟨c1, f1⟩ := ownb_at hown.out t1 b1
   obtain ⟨c2, f2⟩ := ownb_at hown.out t2 b2
   obtain ⟨c3, f3⟩ := ownb_at hown.out t3 b3
   obtain ⟨c4, f4⟩ := ownb_at hown.out t4 b4
   have d12 : ¬ t1 = t2 := by omega
   have d13 : ¬ t1 = t3 := by omega
   have d14 : ¬ t1 = t4 := by omega
   have d23 : ¬ t2 = t3 := by omega
   have d24 : ¬ t2 = t4 := by omega
   have d34 : ¬ t3 = t4 := by omega
   have HT := Lib.hid (show t = 4 * n - 4 * i ∧ t1 = t - 1 ∧ t2 = t - 2 ∧ t3 = t - 3 ∧ t4 = t - 4 ∧ 4 ≤ t by omega)
   clear ht ht1 ht2 ht3 ht4
   go_wp2
   case roundEnd =>
    obtain ⟨ht, ht1, ht2, ht3, ht4, ht5⟩ := HT.out
    have hlim : x = a / Bs ^ i % Bs := by rw [← limb_at]; exact hx.out.symm
    have lb : ∀ r, r < 4 → x / 2 ^ (8 * r) % 256 = a / 256 ^ (4 * i + r) % 256 := fun r hr => by rw [hlim, byte_of_limb _ _ _ hr]
    have v1 : Value.int IntKind.u8 ((x : Int) % 256) = bV (UInt8.ofNat (x % 256)) := (bV_ofNat x).symm
    have v2 : Value.int IntKind.u8 ((x : Int) / 256 % 256) = bV (UInt8.ofNat (x / 256 % 256)) := by rw [bV_ofNat]; simp
    have v3 : Value.int IntKind.u8 ((x : Int) / 65536 % 256) = bV (UInt8.ofNat (x / 65536 % 256)) := by rw [bV_ofNat]; simp
    have v4 : Value.int IntKind.u8 ((x : Int) / 16777216) = bV (UInt8.ofNat (x / 16777216 % 256)) := by
     have e : ((x / 16777216 : Nat) : Int) % 256 = (x : Int) / 16777216 := by omega
     rw [bV_ofNat, e]
    rw [v1, v2, v3, v4]
    refine ⟨⟨i + 1, (((l.set t1 (UInt8.ofNat (x % 256))).set t2 (UInt8.ofNat (x / 256 % 256))).set t3 (UInt8.ofNat (x / 65536 % 256))).set t4 (UInt8.ofNat (x / 16777216 % 256)), by omega, by simp, ⟨by simp [hl.out.1], fun p hp hq => ?_⟩, ?_, ?_, ?_⟩, ?_⟩
    ·have hlen := hl.out.1
     rw [getD_set8 (by simp [hlen]; omega), getD_set8 (by simp [hlen]; omega), getD_set8 (by simp [hlen]; omega), getD_set8 (by omega)]
     by_cases p4 : t4 = p
     ·rw [if_pos p4, ofNat_byte]
      have := lb 3 (by omega)
      rw [show 4 * n - 1 - p = 4 * i + 3 by omega, ← this]
     ·rw [if_neg p4]
      by_cases p3 : t3 = p
      ·rw [if_pos p3, ofNat_byte]
       have := lb 2 (by omega)
       rw [show 4 * n - 1 - p = 4 * i + 2 by omega, ← this]
      ·rw [if_neg p3]
       by_cases p2 : t2 = p
       ·rw [if_pos p2, ofNat_byte]
        have := lb 1 (by omega)
        rw [show 4 * n - 1 - p = 4 * i + 1 by omega, ← this]
       ·rw [if_neg p2]
        by_cases p1 : t1 = p
        ·rw [if_pos p1, ofNat_byte]
         have := lb 0 (by omega)
         rw [show 4 * n - 1 - p = 4 * i + 0 by omega, ← this]; simp
        ·rw [if_neg p1]
         exact hl.out.2 p hp (by omega)
    ·exact ownb_set (ownb_set (ownb_set (ownb_set hown.out _ _) _ _) _ _) _ _
    ·exact jS (jS (jS (jS hext.out (by simp) _) (by simp) _) (by simp) _) (by simp) _
    ·have fr : ∀ (W : World) (p : Nat) (u : Value), (W.setCell ⟨w.heap.size + 1, p, none⟩ u).cell? ⟨w.heap.size, 0, none⟩ = W.cell? ⟨w.heap.size, 0, none⟩ := fun W p u => World.cell?_setCell_other _ _ _ _ (by intro e; simp at e)
     rw [fr, fr, fr, fr]; exact cb
    ·simp [intOf]; omega
  ·obtain rfl : i = n := by omega
   have hby : Hid (ByAt wr (w.heap.size + 1) (4 * i) (beB (4 * i) a)) := by
    refine ⟨(hown.out.lt _ rfl).2, fun p hp => ?_⟩
    rw [(ownb_at hown.out p hp).1, hl.out.2 p hp (by omega), beB_getD hp]
   have hsz := (hown.out.lt _ rfl).2
   have hroom : Room (wr.alloc (Obj.cells #[.bool false, .slice none 0 0] 66)) wr.heap.size 0 := ⟨by simp, ⟨_, by simp [go_sem]; rfl⟩, ⟨_, by simp [go_sem]; rfl⟩, by simp [go_sem], by simp [go_sem]⟩
   have HRM := Lib.hid hroom
   clear hroom
   go_wp2_with (first
    | (go_at_call 109; (with_reducible refine (bi_SetBytes _ 0 _ (4 * i) a (by omega) HL.out _ HRM.out (hby.out.ext (jA (jR _) _))).mono ?_); rintro e w3 ⟨rfl, A3, n3, c3, hI3, xt3⟩)
    )
   have hEE := Lib.hid (xt3.ext (jA hext.out _) (ext_size hext.out))
   refine bodyPost_ret (v := .pointer (some ⟨wr.heap.size, 0, none⟩)) ?h rfl ⟨_, A3, n3, c3, rfl, ⟨hI3.out.1, Fr.mono hI3.out.2 (jA hext.out _)⟩, ext_size hext.out, hEE.out⟩
   case h => simp [results, Tryz.results62, go_sem]
end Go.Proofs.YtfdmhefjmnlllaaGreatDoor
end
section
/- Fractions of the library's: above and below the line; bytes, limbs. -/
namespace Go.Proofs.YtfdmhefjmnlllaaGreatDoor
open Go.RowKit
attribute [local go_sem] sz2 sz3 sz4 sz5 sz6 sz7 sz8
set_option maxHeartbeats 4000000
set_option maxRecDepth 100000
attribute [local irreducible] Calls
abbrev NPost (w : World) (z : Int) : Ending → World → Prop := fun e w' => ∃ (b : Nat) (B : Option Addr) (k l : Nat), e = .returned (.pointer (some ⟨b, 0, none⟩)) ∧ Hid (IntIs w' b 0 z B k l ∧ Fr w B) ∧ w.heap.size ≤ b ∧ Ext w w'
theorem int_room (w : World) : Room (w.alloc (Obj.cells #[.bool false, .slice none 0 0] 66)) w.heap.size 0 :=
 ⟨by simp, ⟨_, by simp [go_sem]; rfl⟩, ⟨_, by simp [go_sem]; rfl⟩, by simp [go_sem], by simp [go_sem]⟩
theorem br_Num (g : Nat) (z : Int) (A : Option Addr) (n c d : Nat) (D : Option Addr) (m e : Nat) (hn : n ≤ 1000000) (w : World) (hx : RatIs w g z A n c d D m e) :
  Calls Tryz.prog 42 #[.pointer (some ⟨g, 0, none⟩)] w (NPost w z) := by
 have HX := Lib.hid hx
 clear hx
 have hrm := Lib.hid (int_room w)
 go_enter Tryz.func42, Tryz.ntmps42
 go_wp2_with (first
  | (go_at_call 87; (with_reducible refine (bi_Set w.heap.size 0 g 0 A n c z hn _ hrm.out (HX.out.int.ext (jA (jR _) _))).mono ?_); rintro e w3 ⟨rfl, A3, n3, c3, hI3, xt3⟩)
  )
 have hEE := Lib.hid (xt3.ext (jA (jR w) _) (Nat.le_refl _))
 refine bodyPost_ret (v := .pointer (some ⟨w.heap.size, 0, none⟩)) ?h rfl ⟨_, A3, n3, c3, rfl, ⟨hI3.out.1, Fr.mono hI3.out.2 (jA (jR w) _)⟩, Nat.le_refl _, hEE.out⟩
 case h => simp [results, Tryz.results42, go_sem]
theorem br_below (g : Nat) (z : Int) (A : Option Addr) (n c d : Nat) (D : Option Addr) (m e : Nat) (w : World) (hx : RatIs w g z A n c d D m e) :
  Calls Tryz.prog 90 #[.pointer (some ⟨g, 0, none⟩)] w fun e' w' => ∃ (B : Option Addr) (k l : Nat), e' = .returned (.slice B k l) ∧ Hid (Rd w' B k l (lim (denOf d)) ∧ (B = D ∨ Fr w B)) ∧ Ext w w' := by
 by_cases hd : d = 0
 ·subst hd
  refine (br_below_new g z A n c D m e w hx).mono ?_
  rintro e w' ⟨rfl, h1, h2⟩
  exact ⟨_, _, _, rfl, ⟨h1.out, .inr (fun q hq => by cases hq; exact Nat.le_refl _)⟩, h2⟩
 ·refine (br_below_old g z A n c d hd D m e w hx).mono ?_
  rintro e w' ⟨rfl, h1⟩
  exact ⟨_, _, _, rfl, ⟨by unfold denOf; rw [if_neg hd]; exact hx.rd.ext h1, .inl rfl⟩, h1⟩
theorem denOf_len {d m : Nat} (h : (lim d).length = m) : (lim (denOf d)).length ≤ m + 1 := by
 unfold denOf
 split
 ·rw [lim_one (by decide) (by decide)]; simp
 ·omega
theorem br_Denom (g : Nat) (z : Int) (A : Option Addr) (n c d : Nat) (D : Option Addr) (m e : Nat) (hm : m ≤ 900000) (w : World) (hx : RatIs w g z A n c d D m e) :
  Calls Tryz.prog 43 #[.pointer (some ⟨g, 0, none⟩)] w (NPost w (denOf d : Nat)) := by
 have HX := Lib.hid hx
 have hld := denOf_len hx.rd.len
 clear hx
 have hrm := Lib.hid (int_room w)
 have hO : ∀ W' : World, w.heap.size < W'.heap.size → ∀ k, Off (some ⟨W'.heap.size, 0, none⟩) k w.heap.size := fun W' h k x hx _ e => by cases hx; simp at e; omega
 go_enter Tryz.func43, Tryz.ntmps43
 go_wp2_with (first
  | (go_at_call 90; (with_reducible refine (br_below g z A n c d D m e _ (HX.out.ext (jA (jR _) _))).mono ?_); rintro e w3 ⟨B3, k3, l3, rfl, hB3, xb3⟩; have hl3 : w.heap.size < w3.heap.size := ext_lt xb3 _ (by simp); have hk3 : k3 ≤ 1000000 := by (have := hB3.out.1.len; omega))
  | (go_at_call 89; (with_reducible refine (bw_copied B3 k3 l3 _ hk3 _ hB3.out.1).mono ?_); rintro e w4 ⟨rfl, hR4, xb4⟩)
  | (go_at_call 88; (with_reducible refine (bi_set w.heap.size 0 false _ k3 k3 (denOf d) _ ((hrm.out.ext xb3).ext xb4) hR4.out (hO w3 hl3 _)).mono ?_); rintro e w5 ⟨rfl, hI5, xt5⟩)
  )
 have hE4 := jT (jT (jA (jR w) _) xb3) xb4
 have hEE := Lib.hid (xt5.ext hE4 (Nat.le_refl _))
 refine bodyPost_ret (v := .pointer (some ⟨w.heap.size, 0, none⟩)) ?h rfl ⟨_, _, _, _, rfl, ⟨hI5.out, fun q hq => by cases hq; exact Nat.le_of_lt hl3⟩, Nat.le_refl _, hEE.out⟩
 case h => simp [results, Tryz.results43, go_sem]
theorem bi_BitLen (b o : Nat) (z : Int) (A : Option Addr) (n c : Nat) (hn : n ≤ 1000000) (w : World) (hx : IntIs w b o z A n c) :
  Calls Tryz.prog 131 #[.pointer (some ⟨b, o, none⟩)] w fun e w' => e = .returned (.int .i64 (bitsOf z.natAbs : Nat)) ∧ Ext w w' := by
 have HX := Lib.hid hx
 have x1 := hx.words
 clear hx
 go_enter Tryz.func131, Tryz.ntmps131
 go_wp2_with (first
  | (go_at_call 159; (with_reducible refine (bw_bitLen A n c z.natAbs hn _ HX.out.rd).mono ?_); rintro e w2 ⟨rfl, xb2⟩)
  )
 refine bodyPost_ret (v := .int .i64 ↑(bitsOf z.natAbs)) ?h rfl ⟨rfl, xb2⟩
 case h => simp [results, Tryz.results131, go_sem]
theorem ra_long (b o : Nat) (z : Int) (A : Option Addr) (n c : Nat) (hn : n ≤ 1000000) (w : World) (hx : IntIs w b o z A n c) :
  Calls Tryz.prog 110 #[.pointer (some ⟨b, o, none⟩)] w fun e w' => e = .returned (.bool (decide ((524288 : Int) < (bitsOf z.natAbs : Nat)))) ∧ Ext w w' := by
 have HX := Lib.hid hx
 clear hx
 go_enter Tryz.func110, Tryz.ntmps110
 go_wp2_with (first
  | (go_at_call 131; (with_reducible refine (bi_BitLen b o z A n c hn _ HX.out).mono ?_); rintro e w2 ⟨rfl, xb2⟩)
  )
 refine bodyPost_ret (v := .bool (decide ((524288:Int) < ↑(bitsOf z.natAbs)))) ?h rfl ⟨rfl, xb2⟩
 case h => simp [results, Tryz.results110, go_sem]
end Go.Proofs.YtfdmhefjmnlllaaGreatDoor
end
section
/- Rows of limbs of a call's own, whole. -/
namespace Go.Proofs.YtfdmhefjmnlllaaGreatDoor
open Go.RowKit
theorem own_zero {w : World} {base : Nat} {e : TypeId} {size : Nat} {v : Value} {n : Nat} {xs : List Value} (h : w.ownsRow base e size v n xs) : w.ownsRow 0 e size v n xs := by
 obtain ⟨h1, h2⟩ := h
 refine ⟨h1, ?_⟩
 rcases h2 with h2 | ⟨g, cap, cur, rfl, _, h3⟩
 ·exact .inl h2
 ·exact .inr ⟨g, cap, cur, rfl, Nat.zero_le _, h3⟩
theorem own_still {w w' : World} {e : TypeId} {size : Nat} {A : Option Addr} {c m n : Nat} {xs : List Value} (h : w.ownsRow 0 e size (.slice A m c) n xs) (hb : ∀ a, A = some a → w'.heap[a.block]? = w.heap[a.block]?) : w'.ownsRow 0 e size (.slice A m c) n xs := by
 obtain ⟨h1, h2⟩ := h
 refine ⟨h1, ?_⟩
 rcases h2 with h2 | ⟨g, cap, cur, he, h0, h3, h4⟩
 ·exact .inl h2
 ·refine .inr ⟨g, cap, cur, he, h0, ?_, h4⟩
  have := hb ⟨g, 0, none⟩ (by simp only [Value.slice.injEq] at he; exact he.1)
  exact this.trans h3
theorem own_lt {w : World} {e : TypeId} {size : Nat} {A : Option Addr} {c m n : Nat} {xs : List Value} (h : w.ownsRow 0 e size (.slice A m c) n xs) {a : Addr} (ha : A = some a) : a.block < w.heap.size := by
 subst ha
 exact (h.lt a.block rfl).2
structure RdO (w : World) (A : Option Addr) (n c : Nat) (xs : List Nat) (Z : Option Addr) : Prop extends Rd w A n c xs where
 own : w.ownsRow 0 47 1 (.slice A n c) n (xs.map u32V)
 apt : ∀ a z, A = some a → Z = some z → a.block ≠ z.block
 full : c = n
instance rdoRd (w : World) (A : Option Addr) (n c : Nat) (xs : List Nat) (Z : Option Addr) : CoeOut (RdO w A n c xs Z) (Rd w A n c xs) := ⟨RdO.toRd⟩
theorem RdO.ext {w w' : World} {A : Option Addr} {n c : Nat} {xs : List Nat} {Z : Option Addr} (h : RdO w A n c xs Z) (he : Ext w w') : RdO w' A n c xs Z :=
 ⟨h.toRd.ext he, own_still h.own (fun a ha => he.block _ (own_lt h.own ha)), h.apt, h.full⟩
theorem RdO.set {w : World} {A : Option Addr} {n c : Nat} {xs : List Nat} {Z : Option Addr} (h : RdO w A n c xs Z) {p : Addr} (u : Value) (hne : ∀ a, A = some a → p.block < a.block) : RdO (w.setCell p u) A n c xs Z :=
 ⟨h.toRd.set u hne, own_still h.own (fun a ha => Go.Deep.blk_setCell_other w p u a.block (Nat.ne_of_gt (hne a ha))), h.apt, h.full⟩
theorem RdO.tch {b : Nat} {w w' : World} {A : Option Addr} {n c : Nat} {xs : List Nat} {Z : Option Addr} (h : RdO w A n c xs Z) (ht : Tch b w w') (ho : ∀ a, A = some a → a.block ≠ b) : RdO w' A n c xs Z :=
 ⟨h.toRd.tch ht (fun a ha _ => ho a ha), own_still h.own (fun a ha => ht.block _ (own_lt h.own ha) (ho a ha)), h.apt, h.full⟩
theorem RdO.weak {w : World} {A : Option Addr} {n c : Nat} {xs : List Nat} {Z : Option Addr} (h : RdO w A n c xs none) (hz : ∀ a z, A = some a → Z = some z → a.block ≠ z.block) : RdO w A n c xs Z := ⟨h.toRd, h.own, hz, h.full⟩
theorem RdO.set3 {w : World} {A : Option Addr} {n c : Nat} {xs : List Nat} {Z : Option Addr} (h : RdO w A n c xs Z) {b : Nat} (hne : ∀ a, A = some a → b < a.block) (v0 v1 v2 : Value) : RdO (((w.setCell ⟨b, 0, none⟩ v0).setCell ⟨b, 1, none⟩ v1).setCell ⟨b, 2, none⟩ v2) A n c xs Z :=
 ((h.set v0 hne).set v1 hne).set v2 hne
end Go.Proofs.YtfdmhefjmnlllaaGreatDoor
end
section
/- Whole numbers of the library's: told in bytes and in limbs. -/
namespace Go.Proofs.YtfdmhefjmnlllaaGreatDoor
open Go.RowKit
attribute [local go_sem] sz2 sz3 sz4 sz5 sz6 sz7 sz8
set_option maxHeartbeats 4000000
set_option maxRecDepth 100000
attribute [local irreducible] Calls
theorem bi_Bytes (b o : Nat) (z : Int) (A : Option Addr) (n c : Nat) (hn : n ≤ 1000000) (w : World) (hx : IntIs w b o z A n c) :
  Calls Tryz.prog 91 #[.pointer (some ⟨b, o, none⟩)] w fun e w' => ∃ g, e = .returned (.slice (some ⟨g, 0, none⟩) ((bitsOf z.natAbs + 7) / 8) ((bitsOf z.natAbs + 7) / 8)) ∧ Hid (ByAt w' g ((bitsOf z.natAbs + 7) / 8) (beB ((bitsOf z.natAbs + 7) / 8) z.natAbs)) ∧ w.heap.size ≤ g ∧ Ext w w' := by
 obtain ⟨a, ha⟩ : ∃ a, a = z.natAbs := ⟨_, rfl⟩
 obtain ⟨tb, htb⟩ : ∃ t, t = bitsOf a := ⟨_, rfl⟩
 obtain ⟨N, hN⟩ : ∃ N, N = (tb + 7) / 8 := ⟨_, rfl⟩
 have HX := Lib.hid hx
 have x1 := hx.words
 have lx := hx.room.lt
 have hbl : ∀ w', Ext w w' → Calls Tryz.prog 131 #[.pointer (some ⟨b, o, none⟩)] w' fun e w'' => e = .returned (.int .i64 (tb : Int)) ∧ Ext w' w'' := fun w' he => by
  have := bi_BitLen b o z A n c hn w' (HX.out.ext he); rwa [← ha, ← htb] at this
 have hR := Lib.hid hx.rd
 have hlen := hx.rd.len
 rw [← ha] at hR hlen ⊢
 have hlb := lim_bytes a
 rw [← htb, ← hN] at hlb
 rw [← htb, ← hN]
 have hNn : (N + 3) / 4 = n := by rw [← hlen]; exact hlb.1
 have hN2 : N ≤ 4 * n := by omega
 have eN : ((tb : Int) + 7) / 8 = (N : Int) := by omega
 have htb2 : tb ≤ 40000000 := by omega
 clear hx ha htb hN hlb hlen
 go_enter Tryz.func91, Tryz.ntmps91
 go_wp2_with (first
  | (go_at_call 131; (with_reducible refine (hbl _ (jR _)).mono ?_); rintro e w0 ⟨rfl, xb0⟩)
  | (at_make; refine make_u8 rfl _ _ rfl _ _ _ _ N rfl rfl eN eN (by omega) ?_; intro w1 hx1 ho1; have hext1 := Lib.hid hx1; clear hx1)
  )
 have hE1 := Lib.hid (jT xb0 hext1.out)
 have hg0 : w.heap.size ≤ w0.heap.size := ext_size xb0
 obtain ⟨g, hgg⟩ : ∃ g, g = w0.heap.size := ⟨_, rfl⟩
 rw [← hgg] at ho1 hg0 ⊢
 clear xb0 hext1 hgg
 go_loopw [13] (fun vi wr => ∃ (i : Nat) (l : List UInt8), i ≤ N ∧ vi = .int .i64 (i : Int) ∧ Hid (l.length = N ∧ ∀ p, p < i → (l.getD p 0).toNat = a / 256 ^ (N - 1 - p) % 256) ∧
   Hid (wr.ownsRow g 5 1 (.slice (some ⟨g, 0, none⟩) N N) N (l.map bV)) ∧ Hid (Ext w wr))
  (fun vi _ => N - (intOf vi).toNat)
 case atStart => exact ⟨0, List.replicate N 0, Nat.zero_le _, rfl, ⟨by simp, fun p h => by omega⟩, ho1.out, hE1.out⟩
 case round =>
  clear ho1 hE1
  obtain ⟨i, l, hi, rfl, hl, hown, hext⟩ := hrel
  by_cases h1 : i < N
  ·obtain ⟨bx, ox, hXe⟩ : ∃ b off, A = some ⟨b, off, none⟩ := by
    rcases hR.out.shape with ⟨_, h, _⟩ | h
    ·omega
    ·exact h
   subst hXe
   obtain ⟨k, hk⟩ : ∃ k, k = N - 1 - i := ⟨_, rfl⟩
   obtain ⟨q, hq⟩ : ∃ q, q = k / 4 := ⟨_, rfl⟩
   obtain ⟨r, hr4⟩ : ∃ r, r = k % 4 := ⟨_, rfl⟩
   obtain ⟨s, hs⟩ : ∃ s, s = 8 * r := ⟨_, rfl⟩
   have hqn : q < n := by omega
   obtain ⟨x, hx, hxb, hcx1⟩ := (hR.out.ext hext.out).get q hqn
   have xw := (Below.cell (p := ⟨b, o + 1, none⟩) hext.out lx).trans x1
   have hgl : g < wr.heap.size := (hown.out.lt _ rfl).2
   obtain ⟨hc1, hf1⟩ := ownb_at hown.out i h1
   have e1 : (N : Int) - 1 - (i : Int) = (k : Int) := by omega
   have e2 : (k : Int) / 4 = (q : Int) := by omega
   have e3 : (k : Int) % 4 = (r : Int) := by omega
   have e4 : 8 * (r : Int) = (s : Int) := by omega
   have hs24 : s ≤ 24 := by omega
   have hxl : x = a / Bs ^ q % Bs := by rw [← limb_at]; exact hx.out.symm
   have hcc : x / 2 ^ s % 256 = a / 256 ^ k % 256 := by
    rw [hxl, hs, byte_of_limb _ _ _ (by omega), show 4 * q + r = k by omega]
   have HCC := Lib.hid hcc
   have HK := Lib.hid hk
   clear hcc hk hq hr4 hs hxl
   go_wp2
   case roundEnd =>
    have v1 : Value.int IntKind.u8 ((x : Int) / 2 ^ s % 256) = bV (UInt8.ofNat (x / 2 ^ s % 256)) := by rw [bV_ofNat]; simp
    rw [v1]
    refine ⟨⟨i + 1, l.set i (UInt8.ofNat (x / 2 ^ s % 256)), by omega, by simp, ⟨by simp [hl.out.1], fun p hp => ?_⟩, ?_, ?_⟩, ?_⟩
    ·rw [getD_set8 (by rw [hl.out.1]; exact h1)]
     by_cases p1 : i = p
     ·subst p1
      rw [if_pos rfl, ofNat_byte, HCC.out, HK.out]
     ·rw [if_neg p1]
      exact hl.out.2 p (by omega)
    ·exact ownb_set hown.out _ _
    ·exact jS hext.out hg0 _
    ·simp [intOf]; omega
  ·obtain rfl : i = N := by omega
   have hby : Hid (ByAt wr g i (beB i a)) := by
    refine ⟨(hown.out.lt _ rfl).2, fun p hp => ?_⟩
    rw [(ownb_at hown.out p hp).1, hl.out.2 p hp, beB_getD hp]
   go_wp2
   refine bodyPost_ret (v := .slice (some ⟨g, 0, none⟩) i i) ?h rfl ⟨g, rfl, hby, hg0, hext.out⟩
   case h => simp [results, Tryz.results91, go_sem]
theorem ra_limbs (b o : Nat) (z : Int) (A : Option Addr) (nw c : Nat) (hnw : nw ≤ 200000) (w : World) (hx : IntIs w b o z A nw c) :
  Calls Tryz.prog 45 #[.pointer (some ⟨b, o, none⟩)] w fun e w' => ∃ (B : Option Addr) (k l : Nat), e = .returned (natV B k l) ∧ Hid (RdO w' B k l (lim z.natAbs) none ∧ Fr w B) ∧ Ext w w' := by
 have HX := Lib.hid hx
 have hby := fun w' (he : Ext w w') => bi_Bytes b o z A nw c (by omega) w' (HX.out.ext he)
 obtain ⟨a, ha⟩ : ∃ a, a = z.natAbs := ⟨_, rfl⟩
 rw [← ha] at hby ⊢
 have hlb := lim_bytes a
 have hlen := hx.rd.len
 rw [← ha] at hlen
 obtain ⟨n, hn'⟩ : ∃ n, n = (bitsOf a + 7) / 8 := ⟨_, rfl⟩
 rw [← hn'] at hby hlb
 obtain ⟨N, hN⟩ : ∃ N, N = (n + 3) / 4 := ⟨_, rfl⟩
 have e0 : ((n : Int) + 3) / 4 = (N : Int) := by omega
 have hNl : N = nw := by omega
 have HN := Lib.hid (show 4 * N ≥ n ∧ 4 * N ≤ n + 3 ∧ N = (lim a).length by omega)
 have hN1 : N ≤ 200000 := by omega
 have hn : n ≤ 1000000 := by omega
 have HA := Lib.hid hlb.2
 clear hx hn' hN hlb hlen ha hNl
 go_enter Tryz.func45, Tryz.ntmps45
 go_wp2_with (first
  | (go_at_call 91; (with_reducible refine (hby _ (jA (jR _) _)).mono ?_); rintro e w0 ⟨g, rfl, hB0, hg0, xb0⟩)
  | (at_make; refine make_u32 rfl _ _ rfl _ _ _ _ N rfl rfl e0 e0 (by omega) ?_; intro w1 hx1 ho1; have hext1 := Lib.hid hx1; clear hx1)
  )
 have hE0 := Lib.hid (jT (jA (jR w) _) xb0)
 have hgl := hB0.out.1
 have hwl : w.heap.size < w0.heap.size := ext_lt xb0 _ (by simp)
 have cb0 : w0.cell? ⟨w.heap.size, 0, none⟩ = some (.slice none 0 0) := (Below.cell (p := ⟨w.heap.size, 0, none⟩) xb0 (by simp)).trans (by simp [go_sem])
 have cf0 : w0.frozen? ⟨w.heap.size, 0, none⟩ = false := (Below.frozen (p := ⟨w.heap.size, 0, none⟩) xb0 (by simp)).trans (by simp [go_sem])
 obtain ⟨G, hGG⟩ : ∃ G, G = w0.heap.size := ⟨_, rfl⟩
 have hG0 : w0.heap.size ≤ G := by omega
 rw [← hGG] at ho1
 simp only [← hGG]
 have hGw : w.heap.size < G := by omega
 clear hGG
 go_loopw [17] (fun vi wr => ∃ (i : Nat) (os : List Nat), i ≤ n ∧ vi = .int .i64 (i : Int) ∧ Hid (os.length = N ∧ Lb os ∧ val os = 256 ^ (n - i) * (a / 256 ^ (n - i))) ∧
   Hid (wr.ownsRow G 47 1 (.slice (some ⟨G, 0, none⟩) N N) N (os.map u32V)) ∧ Hid (Ext w0 wr))
  (fun vi _ => n - (intOf vi).toNat)
 case atStart => exact ⟨0, List.replicate N 0, Nat.zero_le _, rfl, ⟨by simp, lb_replicate _, by rw [val_replicate, Nat.sub_zero, Nat.div_eq_of_lt HA.out, Nat.mul_zero]⟩, ho1.out, hext1.out⟩
 case round =>
  clear ho1 hext1
  obtain ⟨i, os, hi, rfl, hos, hown, hext⟩ := hrel
  by_cases h1 : i < n
  ·obtain ⟨k, hk⟩ : ∃ k, k = n - 1 - i := ⟨_, rfl⟩
   obtain ⟨q, hq⟩ : ∃ q, q = k / 4 := ⟨_, rfl⟩
   obtain ⟨r, hr4⟩ : ∃ r, r = k % 4 := ⟨_, rfl⟩
   obtain ⟨c, hc⟩ : ∃ c, c = a / 256 ^ k % 256 := ⟨_, rfl⟩
   obtain ⟨s, hs⟩ : ∃ s, s = 8 * r := ⟨_, rfl⟩
   have hcell := (hB0.out.ext hext.out).2 i h1
   rw [beB_getD h1, ← hk, ← hc] at hcell
   have hc256 : c < 256 := by rw [hc]; exact Nat.mod_lt _ (by decide)
   obtain ⟨x, hx⟩ : ∃ x, os.getD q 0 = x := ⟨_, rfl⟩
   have hqN : q < N := by have := HN.out; omega
   obtain ⟨hc1, hf1⟩ := own_at hown.out q hqN
   rw [hx] at hc1
   have hob := or_byte (V := a / 256 ^ (k + 1)) hos.out.2.1 (show r < 4 by omega) (by rw [hos.out.1]; exact hqN) (by rw [hos.out.2.2, show n - i = 4 * q + r + 1 by omega, show 4 * q + r + 1 = k + 1 by omega]) hc256 hx
   rw [show 4 * q + r = k by omega, hc, byte_next, ← hc, ← hs] at hob
   have e1 : (n : Int) - 1 - (i : Int) = (k : Int) := by omega
   have e2 : (k : Int) / 4 = (q : Int) := by omega
   have e3 : (k : Int) % 4 = (r : Int) := by omega
   have e4 : 8 * (r : Int) = (s : Int) := by omega
   have hs24 : s ≤ 24 := by omega
   have HOB := Lib.hid hob
   have hgl2 : G < wr.heap.size := (hown.out.lt G rfl).2
   clear hob hk hq hr4 hc hs
   go_wp2
   refine wp_aft_tail 13 (by kernel_rfl) (by kernel_rfl) (by kernel_rfl) (fun hq hqf => ?_)
   simp only [List.take_succ_cons, List.take_zero, List.drop_succ_cons, List.drop_zero]
   repeat (go_big_quiet_step (first | fail
    ))
   refine wpQuiet_nil ?_
   rintro _ ⟨nq, rfl⟩
   have xl := ext_lt nq.use
   have xz := ext_size nq.use
   try simp at xz
   have y1 := (hq nq G q hgl2).trans hc1
   have y2 := (hqf nq G q hgl2).trans hf1
   clear hq hqf
   have hE2 := Lib.hid nq.use
   have hor : Hid (bits BinOp.or IntKind.u32 (x : Int) ((c : Int) * 2 ^ s % 4294967296) = ((x + c * 2 ^ s : Nat) : Int)) := by
    obtain ⟨o1, o2, o3, -, -⟩ := HOB.out
    have e5 : (c : Int) * 2 ^ s % 4294967296 = ((c * 2 ^ s : Nat) : Int) := by
     have : (c : Int) * 2 ^ s = ((c * 2 ^ s : Nat) : Int) := by simp
     rw [this]; omega
    show _ = _
    rw [e5, bits_or32 _ _ (by omega) o1, o2]
   go_wp2
   case roundEnd =>
    refine ⟨⟨i + 1, os.set q (x + c * 2 ^ s), by omega, by simp, ⟨by simp [hos.out.1], HOB.out.2.2.2.2, ?_⟩, ?_, ?_⟩, ?_⟩
    ·rw [HOB.out.2.2.2.1, show n - (i + 1) = k by omega]
    ·show World.ownsRow _ _ _ _ _ _ _
     rw [hor.out]
     exact own_set (own_ext hown.out hE2.out) _ _
    ·exact jS (jT hext.out hE2.out) hG0 _
    ·simp [intOf]; omega
  ·obtain rfl : i = n := by omega
   have hv : os = lim a := by
    refine val_inj _ _ hos.out.2.1 (lb_lim a) ?_ ?_
    ·rw [hos.out.1]; exact HN.out.2.2
    ·rw [val_lim, hos.out.2.2, Nat.sub_self, Nat.pow_zero, Nat.div_one, Nat.one_mul]
   subst hv
   have cb := (Below.cell (p := ⟨w.heap.size, 0, none⟩) hext.out hwl).trans cb0
   have cf := (Below.frozen (p := ⟨w.heap.size, 0, none⟩) hext.out hwl).trans cf0
   have hwr : w.heap.size < wr.heap.size := ext_lt hext.out _ hwl
   have hRd : Hid (RdO wr (some ⟨G, 0, none⟩) N N (lim a) none) := by
    obtain ⟨A', c', he, hR⟩ := Rd.own hown.out (lb_lim a)
    cases he
    exact ⟨hR, own_zero hown.out, (fun _ _ _ h => by cases h), rfl⟩
   go_wp2
   have hE9 := Lib.hid (jT hE0.out hext.out)
   have hcr := World.cell?_setCell_same _ _ (.slice (some ⟨G, 0, none⟩) N N) cb
   refine bodyPost_ret (v := natV (some ⟨G, 0, none⟩) N N) ?h rfl ⟨_, _, _, rfl, ⟨hRd.out.set _ (fun x hx => by cases hx; exact hGw), fun x hx => by cases hx; exact Nat.le_of_lt hGw⟩, jS hE9.out (Nat.le_refl _) _⟩
   case h => simp [results, Tryz.results45, go_sem, hcr, natV]
end Go.Proofs.YtfdmhefjmnlllaaGreatDoor
end
section
/- Fractions of the library's: the sign; told. -/
namespace Go.Proofs.YtfdmhefjmnlllaaGreatDoor
open Go.RowKit
attribute [local go_sem] sz2 sz3 sz4 sz5 sz6 sz7 sz8
set_option maxHeartbeats 4000000
set_option maxRecDepth 100000
attribute [local irreducible] Calls
theorem int_nil {w : World} {b o : Nat} {z : Int} {A : Option Addr} {n c : Nat} (h : IntIs w b o z A n c) : n = 0 ↔ z = 0 := by
 rw [← h.rd.len]
 constructor
 ·intro e; have := lim_nil.1 (List.eq_nil_of_length_eq_zero e); omega
 ·intro e; subst e; simp [lim_zero]
theorem bi_Sign (b o : Nat) (z : Int) (A : Option Addr) (n c : Nat) (w : World) (hx : IntIs w b o z A n c) :
  Calls Tryz.prog 44 #[.pointer (some ⟨b, o, none⟩)] w fun e w' => e = .returned (.int .i64 z.sign) ∧ Ext w w' := by
 have x0 := hx.neg
 have x1 := hx.words
 have hn := int_nil hx
 clear hx
 by_cases hz : z = 0
 ·obtain rfl : n = 0 := hn.2 hz
  subst hz
  clear hn
  go_enter Tryz.func44, Tryz.ntmps44
  go_wp2
  refine bodyPost_ret (v := .int .i64 0) ?h rfl ⟨rfl, jR _⟩
  case h => simp [results, Tryz.results44, go_sem]
 ·have h1 : ((n : Int) == 0) = false := by rw [beq_eq_false_iff_ne]; omega
  clear hn
  by_cases hs : z < 0
  ·have e1 : decide (z < 0) = true := decide_eq_true hs
   rw [e1] at x0
   have e2 : z.sign = -1 := Int.sign_eq_neg_one_of_neg hs
   clear hs e1 hz
   go_enter Tryz.func44, Tryz.ntmps44
   go_wp2
   refine bodyPost_ret (v := .int .i64 (-1)) ?h rfl ⟨by rw [e2], jR _⟩
   case h => simp [results, Tryz.results44, go_sem]
  ·have e1 : decide (z < 0) = false := decide_eq_false hs
   rw [e1] at x0
   have e2 : z.sign = 1 := Int.sign_eq_one_of_pos (by omega)
   clear hs e1 hz
   go_enter Tryz.func44, Tryz.ntmps44
   go_wp2
   refine bodyPost_ret (v := .int .i64 1) ?h rfl ⟨by rw [e2], jR _⟩
   case h => simp [results, Tryz.results44, go_sem]
theorem br_Sign (g : Nat) (z : Int) (A : Option Addr) (n c : Nat) (w : World) (hx : IntIs w g 0 z A n c) :
  Calls Tryz.prog 66 #[.pointer (some ⟨g, 0, none⟩)] w fun e w' => e = .returned (.int .i64 z.sign) ∧ Ext w w' := by
 have HX := Lib.hid hx
 clear hx
 go_enter Tryz.func66, Tryz.ntmps66
 go_wp2_with (first
  | (go_at_call 44; (with_reducible refine (bi_Sign g 0 z A n c _ HX.out).mono ?_); rintro e w2 ⟨rfl, xb2⟩)
  )
 refine bodyPost_ret (v := .int .i64 z.sign) ?h rfl ⟨rfl, xb2⟩
 case h => simp [results, Tryz.results66, go_sem]
theorem bits_len (a : Nat) : 524288 < bitsOf a ↔ 16384 < (lim a).length := by
 by_cases h : a = 0
 ·subst h; simp [bitsOf, lim_zero]
 ·obtain ⟨h0, h1, h2⟩ := bitsOf_spec h
  obtain ⟨h3, h4⟩ := lim_len h
  have h5 := lim_lt a
  have e1 : ∀ k, Bs ^ k = 2 ^ (32 * k) := fun k => by rw [Nat.pow_mul]
  rw [e1] at h3 h5
  have h6 : 32 * ((lim a).length - 1) < bitsOf a := (Nat.pow_lt_pow_iff_right (a := 2) (by decide)).1 (Nat.lt_of_le_of_lt h3 h2)
  have h7 : bitsOf a - 1 < 32 * (lim a).length := (Nat.pow_lt_pow_iff_right (a := 2) (by decide)).1 (Nat.lt_of_le_of_lt h1 h5)
  omega
abbrev ratV (neg : Bool) (A : Option Addr) (n c : Nat) (D : Option Addr) (m k : Nat) : Value := .agg #[.bool neg, .slice A n c, .slice D m k]
theorem res3 (w wx : World) (t : TypeId) (he : Ext (w.alloc (Obj.cells #[.bool false, .slice none 0 0, .slice none 0 0] t)) wx) :
  wx.cell? ⟨w.heap.size, 0, none⟩ = some (.bool false) ∧ wx.cell? ⟨w.heap.size, 1, none⟩ = some (.slice none 0 0) ∧ wx.cell? ⟨w.heap.size, 2, none⟩ = some (.slice none 0 0) ∧
  wx.frozen? ⟨w.heap.size, 0, none⟩ = false ∧ wx.frozen? ⟨w.heap.size, 1, none⟩ = false ∧ wx.frozen? ⟨w.heap.size, 2, none⟩ = false ∧ w.heap.size < wx.heap.size := by
 have hl : w.heap.size < (w.alloc (Obj.cells #[.bool false, .slice none 0 0, .slice none 0 0] t)).heap.size := by simp
 exact ⟨(Below.cell (p := ⟨w.heap.size, 0, none⟩) he hl).trans (by simp [go_sem]), (Below.cell (p := ⟨w.heap.size, 1, none⟩) he hl).trans (by simp [go_sem]), (Below.cell (p := ⟨w.heap.size, 2, none⟩) he hl).trans (by simp [go_sem]),
  (Below.frozen (p := ⟨w.heap.size, 0, none⟩) he hl).trans (by simp [go_sem]), (Below.frozen (p := ⟨w.heap.size, 1, none⟩) he hl).trans (by simp [go_sem]), (Below.frozen (p := ⟨w.heap.size, 2, none⟩) he hl).trans (by simp [go_sem]), ext_lt he _ hl⟩
theorem set3 {W : World} {b : Nat} {x0 x1 x2 : Value} (r0 : W.cell? ⟨b, 0, none⟩ = some x0) (r1 : W.cell? ⟨b, 1, none⟩ = some x1) (r2 : W.cell? ⟨b, 2, none⟩ = some x2) (v0 v1 v2 : Value) :
  (((W.setCell ⟨b, 0, none⟩ v0).setCell ⟨b, 1, none⟩ v1).setCell ⟨b, 2, none⟩ v2).cell? ⟨b, 0, none⟩ = some v0 ∧ (((W.setCell ⟨b, 0, none⟩ v0).setCell ⟨b, 1, none⟩ v1).setCell ⟨b, 2, none⟩ v2).cell? ⟨b, 1, none⟩ = some v1 ∧
  (((W.setCell ⟨b, 0, none⟩ v0).setCell ⟨b, 1, none⟩ v1).setCell ⟨b, 2, none⟩ v2).cell? ⟨b, 2, none⟩ = some v2 := by
 refine ⟨?_, ?_, ?_⟩
 ·rw [World.cell?_setCell_other _ _ _ _ (by intro e; simp at e), World.cell?_setCell_other _ _ _ _ (by intro e; simp at e)]; exact World.cell?_setCell_same _ _ _ r0
 ·rw [World.cell?_setCell_other _ _ _ _ (by intro e; simp at e)]
  refine World.cell?_setCell_same _ _ _ (u := x1) ?_
  rw [World.cell?_setCell_other _ _ _ _ (by intro e; simp at e)]; exact r1
 ·refine World.cell?_setCell_same _ _ _ (u := x2) ?_
  rw [World.cell?_setCell_other _ _ _ _ (by intro e; simp at e), World.cell?_setCell_other _ _ _ _ (by intro e; simp at e)]; exact r2
theorem ext_set3 {w W : World} (h : Ext w W) {b : Nat} (hb : w.heap.size ≤ b) (v0 v1 v2 : Value) : Ext w (((W.setCell ⟨b, 0, none⟩ v0).setCell ⟨b, 1, none⟩ v1).setCell ⟨b, 2, none⟩ v2) :=
 jS (jS (jS h hb _) hb _) hb _
theorem Rd.set3 {w : World} {A : Option Addr} {n c : Nat} {xs : List Nat} (h : Rd w A n c xs) {b : Nat} (hne : ∀ a, A = some a → b < a.block) (v0 v1 v2 : Value) : Rd (((w.setCell ⟨b, 0, none⟩ v0).setCell ⟨b, 1, none⟩ v1).setCell ⟨b, 2, none⟩ v2) A n c xs :=
 ((h.set v0 hne).set v1 hne).set v2 hne
theorem ra_told_num (g : Nat) (z : Int) (A : Option Addr) (n c d : Nat) (D : Option Addr) (m e : Nat) (hn : n ≤ 100000) (hl : 16384 < n) (w : World) (hx : RatIs w g z A n c d D m e) :
  Calls Tryz.prog 64 #[.pointer (some ⟨g, 0, none⟩)] w fun e w' => e = .returned (.tuple #[ratV false none 0 0 none 0 0, .int .i64 4]) ∧ Ext w w' := by
 have HX := Lib.hid hx
 have hbl : decide ((524288 : Int) < (bitsOf z.natAbs : Nat)) = true := decide_eq_true (by have := (bits_len z.natAbs).2 (by rw [hx.int.rd.len]; exact hl); omega)
 have HBL := Lib.hid hbl
 have hxl := hx.int.rd.len
 clear hx hbl
 go_enter Tryz.func64, Tryz.ntmps64
 go_wp2_with (first
  | (go_at_call 42; (with_reducible refine (br_Num g z A n c d D m e (by omega) _ (HX.out.ext (jA (jR _) _))).mono ?_); rintro e w1 ⟨b1, B1, k1, l1, rfl, hI1, hb1, xb1⟩)
  | (go_at_call 110; (with_reducible refine (ra_long b1 0 z B1 k1 l1 (by have := hI1.out.1.rd.len; omega) _ hI1.out.1).mono ?_); rintro e w2 ⟨rfl, xb2⟩; rw [HBL.out]; obtain ⟨r0, r1, r2, f0, f1, f2, rl⟩ := res3 w w2 _ (jT xb1 xb2))
  )
 obtain ⟨q0, q1, q2⟩ := set3 r0 r1 r2 (.bool false) (.slice none 0 0) (.slice none 0 0)
 have hE := Lib.hid (jT (jA (jR w) _) (jT xb1 xb2))
 refine bodyPost_ret (v := .tuple #[ratV false none 0 0 none 0 0, .int .i64 4]) ?h rfl ⟨rfl, ext_set3 hE.out (Nat.le_refl _) _ _ _⟩
 case h => simp [results, Tryz.results64, go_sem, q0, q1, q2, natV]
abbrev TPost (w : World) (z : Int) (d : Nat) : Ending → World → Prop := fun e w' => ∃ (A : Option Addr) (n c : Nat) (D : Option Addr) (m k : Nat), e = .returned (.tuple #[ratV (decide (z < 0)) A n c D m k, .int .i64 0]) ∧
 Hid (RdO w' A n c (lim z.natAbs) none ∧ Fr w A ∧ RdO w' D m k (lim d) A ∧ Fr w D) ∧ Ext w w'
theorem ra_told_ok (g : Nat) (z : Int) (A : Option Addr) (n c d : Nat) (D : Option Addr) (m e : Nat) (hn : n ≤ 16384) (hm : m ≤ 100000) (hl : (lim (denOf d)).length ≤ 16384) (w : World) (hx : RatIs w g z A n c d D m e) :
  Calls Tryz.prog 64 #[.pointer (some ⟨g, 0, none⟩)] w (TPost w z (denOf d)) := by
 have HX := Lib.hid hx
 have hbl : decide ((524288 : Int) < (bitsOf z.natAbs : Nat)) = false := decide_eq_false (by have := (bits_len z.natAbs).1; rw [hx.int.rd.len] at this; omega)
 have HBL := Lib.hid hbl
 have hbd : decide ((524288 : Int) < (bitsOf (denOf d) : Nat)) = false := decide_eq_false (by have := (bits_len (denOf d)).1; omega)
 have HBD := Lib.hid hbd
 have hxl := hx.int.rd.len
 have hsg : decide (z.sign < 0) = decide (z < 0) := by rw [decide_eq_decide]; exact Int.sign_neg_iff
 have HSG := Lib.hid hsg
 clear hx hbl hbd hsg
 go_enter Tryz.func64, Tryz.ntmps64
 go_wp2_with (first
  | (go_at_call 42; (with_reducible refine (br_Num g z A n c d D m e (by omega) _ (HX.out.ext (jA (jR _) _))).mono ?_); rintro e w1 ⟨b1, B1, k1, l1, rfl, hI1, hb1, xb1⟩; have hk1 : k1 ≤ 1000000 := by (have := hI1.out.1.rd.len; omega))
  | (go_at_call 110; (with_reducible refine (ra_long b1 0 z B1 k1 l1 hk1 _ hI1.out.1).mono ?_); rintro e w2 ⟨rfl, xb2⟩; rw [HBL.out])
  | (go_at_call 43; (with_reducible refine (br_Denom g z A n c d D m e (by omega) _ (HX.out.ext (jT (jA (jR _) _) (jT xb1 xb2)))).mono ?_); rintro e w3 ⟨b3, B3, k3, l3, rfl, hI3, hb3, xb3⟩; have hk3 : k3 ≤ 1000000 := by (have := hI3.out.1.rd.len; simp at this; omega))
  | (go_at_call 110; (with_reducible refine (ra_long b3 0 (denOf d : Nat) B3 k3 l3 hk3 _ hI3.out.1).mono ?_); rintro e w4 ⟨rfl, xb4⟩; rw [Int.natAbs_natCast, HBD.out]; have hE4 := Lib.hid (jT (jA (jR w) (Obj.cells #[.bool false, .slice none 0 0, .slice none 0 0] 26)) (jT (jT xb1 xb2) (jT xb3 xb4))); have hF4 := Lib.hid (jT (jT xb1 xb2) (jT xb3 xb4)))
  | (go_at_call 66; (with_reducible refine (br_Sign g z A n c _ (HX.out.ext hE4.out).int).mono ?_); rintro e w5 ⟨rfl, xb5⟩)
  | (go_at_call 42; (with_reducible refine (br_Num g z A n c d D m e (by omega) _ (HX.out.ext (jT hE4.out xb5))).mono ?_); rintro e w6 ⟨b6, B6, k6, l6, rfl, hI6, hb6, xb6⟩; have hk6 : k6 ≤ 200000 := by (have := hI6.out.1.rd.len; omega))
  | (go_at_call 45; (with_reducible refine (ra_limbs b6 0 z B6 k6 l6 hk6 _ hI6.out.1).mono ?_); rintro e w7 ⟨A7, k7, c7, rfl, hR7, xb7⟩)
  | (go_at_call 43; (with_reducible refine (br_Denom g z A n c d D m e (by omega) _ (HX.out.ext (jT hE4.out (jT xb5 (jT xb6 xb7))))).mono ?_); rintro e w8 ⟨b8, B8, k8, l8, rfl, hI8, hb8, xb8⟩; have hk8 : k8 ≤ 200000 := by (have := hI8.out.1.rd.len; simp at this; omega))
  | (go_at_call 45; (with_reducible refine (ra_limbs b8 0 (denOf d : Nat) B8 k8 l8 hk8 _ hI8.out.1).mono ?_); rintro e w9 ⟨A9, k9, c9, rfl, hR9, xb9⟩; obtain ⟨r0, r1, r2, f0, f1, f2, rl⟩ := res3 w w9 _ (jT hF4.out (jT xb5 (jT xb6 (jT xb7 (jT xb8 xb9))))))
  )
 have hA7 : RdO w9 A7 k7 c7 (lim z.natAbs) none := hR7.out.1.ext (jT xb8 xb9)
 have hA9 : RdO w9 A9 k9 c9 (lim (denOf d)) A7 := by
  have := hR9.out.1
  rw [Int.natAbs_natCast] at this
  refine this.weak fun a z ha hz => ?_
  have h1 := hR9.out.2 a ha
  have h2 := own_lt hR7.out.1.own hz
  have h3 := ext_size xb8
  omega
 have hs4 : w.heap.size + 1 ≤ w4.heap.size := by have := ext_size hF4.out; simpa using this
 have hF7 : Fr w4 A7 := hR7.out.2.mono (jT xb5 xb6)
 have hF9 : Fr w4 A9 := hR9.out.2.mono (jT (jT xb5 xb6) (jT xb7 xb8))
 have n7 : ∀ a, A7 = some a → w.heap.size < a.block := fun a ha => by have := hF7 a ha; omega
 have n9 : ∀ a, A9 = some a → w.heap.size < a.block := fun a ha => by have := hF9 a ha; omega
 have hE := Lib.hid (jT hE4.out (jT xb5 (jT xb6 (jT xb7 (jT xb8 xb9)))))
 obtain ⟨q0, q1, q2⟩ := set3 r0 r1 r2 (.bool (decide (z < 0))) (.slice A7 k7 c7) (.slice A9 k9 c9)
 refine bodyPost_ret (v := .tuple #[ratV (decide (z < 0)) A7 k7 c7 A9 k9 c9, .int .i64 0]) ?h rfl ⟨A7, k7, c7, A9, k9, c9, rfl, ⟨hA7.set3 n7 _ _ _, fun a ha => Nat.le_of_lt (n7 a ha), hA9.set3 n9 _ _ _, fun a ha => Nat.le_of_lt (n9 a ha)⟩, ext_set3 hE.out (Nat.le_refl _) _ _ _⟩
 case h => simp [results, Tryz.results64, go_sem, q0, q1, q2, natV]
end Go.Proofs.YtfdmhefjmnlllaaGreatDoor
end
section
/- Words of the library's: times a word and a word more, in place; powers. -/
namespace Go.Proofs.YtfdmhefjmnlllaaGreatDoor
open Go.RowKit
attribute [local go_sem] sz2 sz3 sz4 sz5 sz6 sz7 sz8
set_option maxHeartbeats 4000000
set_option maxRecDepth 100000
theorem small_len {x m cc : Nat} (hm : 0 < m) {os : List Nat} {k cy : Nat} (hk : os.length = k) (hb : Lb os) (hkx : (lim x).length = k) (hv : val os + Bs ^ k * cy = x * m + cc) (hcy : cy < Bs) :
  (cy = 0 → os = lim (x * m + cc)) ∧ (0 < cy → os ++ [cy] = lim (x * m + cc)) := by
 constructor
 ·intro h
  subst h
  rw [Nat.mul_zero, Nat.add_zero] at hv
  rw [← hv]
  refine lim_of os hb ?_
  intro hne
  have h0 : x ≠ 0 := by
   intro e
   subst e
   rw [lim_zero] at hkx
   have h1 := List.length_pos_iff.2 hne
   simp at hkx
   omega
  have h1 := (lim_len h0).1
  have h2 : x * 1 ≤ x * m := Nat.mul_le_mul_left _ hm
  rw [hkx, ← hk] at h1
  omega
 ·intro h
  have h1 : val (os ++ [cy]) = x * m + cc := by rw [val_snoc, hk]; exact hv
  rw [← h1]
  refine lim_of _ (lb_snoc.2 ⟨hb, hcy⟩) ?_
  intro _
  rw [List.length_append, val_snoc]
  simp only [List.length_singleton, Nat.add_sub_cancel]
  have : Bs ^ os.length * 1 ≤ Bs ^ os.length * cy := Nat.mul_le_mul_left _ h
  omega
attribute [local irreducible] Calls
theorem bw_mulSmall (W : World) (v : Value) (n x m cc : Nat) (hm : 0 < m) (hm2 : m < 4294967296) (hcc : cc < 4294967296) (hn : n ≤ 100000) (w : World) (hE : Ext W w) (hown : w.ownsRow W.heap.size 47 1 v n ((lim x).map u32V)) :
  Calls Tryz.prog 154 #[v, .int .u32 (m : Int), .int .u32 (cc : Int)] w fun e w' => ∃ (v' : Value) (n' : Nat), e = .returned v' ∧ Hid (w'.ownsRow W.heap.size 47 1 v' n' ((lim (x * m + cc)).map u32V)) ∧ n' ≤ n + 1 ∧ Ext W w' := by
 have hkx : (lim x).length = n := by have := hown.1; simpa using this
 obtain ⟨AO, cO, rfl, hRd⟩ := Rd.own hown (lb_lim x)
 have hcO := hRd.cap
 have hcOm := hRd.mx
 have HO := Lib.hid hown
 have HW := Lib.hid hE
 have HK := Lib.hid hkx
 clear hRd hown hE hkx
 go_enter Tryz.func154, Tryz.ntmps154
 go_wp2
 go_loopw [7, 8] (fun vc vi wr => ∃ (p cy : Nat) (os : List Nat), p ≤ n ∧ cy < 4294967296 ∧ vi = .int .i64 (p : Int) ∧ vc = .int .u64 (cy : Int) ∧ Hid (os.length = n ∧ Lb os ∧ os.drop p = (lim x).drop p ∧ val (os.take p) + Bs ^ p * cy = val ((lim x).take p) * m + cc) ∧
   Hid (wr.ownsRow W.heap.size 47 1 (.slice AO n cO) n (os.map u32V)) ∧ Hid (Ext W wr)) (fun _ vi _ => n - (intOf vi).toNat)
 case atStart => exact ⟨0, cc, lim x, Nat.zero_le _, hcc, rfl, rfl, ⟨HK.out, lb_lim x, rfl, by simp [val]⟩, HO.out, HW.out⟩
 case round =>
  clear HO HW
  obtain ⟨p, cy, os, hp, hcy, rfl, rfl, hos, hown, hext⟩ := hrel
  by_cases hpk : p < n
  ·obtain ⟨g, hg⟩ : ∃ g, AO = some ⟨g, 0, none⟩ := by
    rcases hown.out.2 with ⟨_, h⟩ | ⟨g, cap', cur, h, _⟩
    ·omega
    ·simp only [Value.slice.injEq] at h
     exact ⟨g, h.1⟩
   subst hg
   have hlt := hown.out.lt g rfl
   obtain ⟨o, ho, hob⟩ : ∃ o : Nat, Hid ((lim x).getD p 0 = o) ∧ o < 4294967296 := ⟨_, rfl, lb_getD (lb_lim x) _⟩
   have ho2 : os.getD p 0 = o := by
    have h1 := congrArg (fun z : List Nat => z.getD 0 0) hos.out.2.2.1
    simp only [List.getD_eq_getElem?_getD, List.getElem?_drop, Nat.add_zero] at h1
    rw [List.getD_eq_getElem?_getD, h1, ← List.getD_eq_getElem?_getD]
    exact ho.out
   obtain ⟨hc1, hf1⟩ := own_at hown.out p hpk
   rw [ho2] at hc1
   obtain ⟨pr, hpr⟩ : ∃ pr, pr = o * m := ⟨_, rfl⟩
   have hprb : pr ≤ 18446744065119617025 := by
    rw [hpr]
    exact Nat.mul_le_mul (show o ≤ 4294967295 by omega) (show m ≤ 4294967295 by omega)
   have hpri : (o : Int) * (m : Int) = (pr : Int) := by rw [hpr]; exact (Int.natCast_mul _ _).symm
   have HPR := Lib.hid hpr
   have hlg := hlt.2
   clear hpr ho2 hlt
   go_wp2
   case roundEnd =>
    have hst := inpl_step (T := m) hos.out.1 HK.out hpk hos.out.2.2.1 hos.out.2.2.2 ho.out
    rw [← HPR.out] at hst
    refine ⟨⟨p + 1, (cy + pr) / 4294967296, os.set p ((cy + pr) % 4294967296), by omega, by omega, by simp, by go_num, ⟨by rw [List.length_set]; exact hos.out.1, lb_set hos.out.2.1 _ (Nat.mod_lt _ (by decide)), hst.1, hst.2⟩, ?_, ?_⟩, ?_⟩
    ·have e : ((pr : Int) + (cy : Int)) % 4294967296 = (((cy + pr) % 4294967296 : Nat) : Int) := by omega
     show World.ownsRow _ _ _ _ _ _ _
     rw [e]
     exact own_set hown.out p _
    ·exact jS hext.out ((hown.out.lt g rfl).1) _
    ·simp [intOf]; omega
  ·obtain rfl : p = n := by omega
   have hfin : Hid (val os + Bs ^ p * cy = x * m + cc) := Lib.hid (by
    have h1 := hos.out.2.2.2
    rw [take_ge (by rw [hos.out.1]; exact Nat.le_refl _), take_ge (by rw [HK.out]; exact Nat.le_refl _), val_lim] at h1
    exact h1)
   have hS := Lib.hid (small_len hm hos.out.1 hos.out.2.1 HK.out hfin.out hcy)
   clear hpk
   by_cases hc0 : 0 < cy
   ·go_wp2_with (first
     | (at_builtin; refine push_u32 rfl _ _ rfl _ rfl hext.out hown.out rfl cy ⟨wr.heap.size, 0, none⟩ 1 rfl (by rw [World.cell?_alloc_at _ _ _ _ rfl]; simp [u32V]; try omega) (by omega) ?_)
     | go_in)
    all_goals
     intro v' w3 hx3 ho3
     have HX3 := Lib.hid hx3
     have HO3 := Lib.hid ho3
     clear hx3 ho3 hown hext
     go_wp2
     refine bodyPost_ret (v := v') ?h rfl ⟨_, p + 1, rfl, ?_, Nat.le_refl _, HX3.out⟩
     case h => simp [results, Tryz.results154, go_sem]
     rw [← hS.out.2 hc0, List.map_append]
     exact HO3
   ·obtain rfl : cy = 0 := by omega
    go_wp2
    refine bodyPost_ret (v := .slice AO p cO) ?h rfl ⟨_, rfl, p, ?_, by omega, hext.out⟩
    case h => simp [results, Tryz.results154, go_sem]
    rw [← hS.out.1 (by simp)]
    exact hown
end Go.Proofs.YtfdmhefjmnlllaaGreatDoor
end
section
/- The program's whole numbers: small ones; powers. -/
namespace Go.Proofs.YtfdmhefjmnlllaaGreatDoor
open Go.RowKit
attribute [local go_sem] sz2 sz3 sz4 sz5 sz6 sz7 sz8
set_option maxHeartbeats 4000000
set_option maxRecDepth 100000
attribute [local irreducible] Calls
theorem and_one (r : Nat) (hr : r < 9223372036854775808) : bits BinOp.and IntKind.i64 (r : Int) 1 = ((r % 2 : Nat) : Int) := by
 have h1 : (BitVec.ofInt 64 (r : Int)).toNat = r := by rw [BitVec.ofInt_natCast, BitVec.toNat_ofNat]; exact Nat.mod_eq_of_lt (by omega)
 have h2 : (BitVec.ofInt 64 1).toNat = 1 := by decide
 show IntKind.i64.wrap ((BitVec.ofInt 64 (r : Int) &&& BitVec.ofInt 64 1).toNat : Int) = _
 rw [BitVec.toNat_and, h1, h2, Nat.and_one_is_mod, IntKind.wrap_i64]
 omega
structure PC (w : World) (G6 G7 Gr : Nat) (v6 v7 vr : Value) : Prop where
 c6 : w.cell? ⟨G6, 0, none⟩ = some v6
 c7 : w.cell? ⟨G7, 0, none⟩ = some v7
 cr : w.cell? ⟨Gr, 0, none⟩ = some vr
 f6 : w.frozen? ⟨G6, 0, none⟩ = false
 f7 : w.frozen? ⟨G7, 0, none⟩ = false
 fr : w.frozen? ⟨Gr, 0, none⟩ = false
 l7 : G7 < w.heap.size
theorem PC.ext {w w' : World} {G6 G7 Gr : Nat} {v6 v7 vr : Value} (h : PC w G6 G7 Gr v6 v7 vr) (h6 : G6 < G7) (hr : Gr < G7) (he : Ext w w') : PC w' G6 G7 Gr v6 v7 vr :=
 ⟨(Below.cell (p := ⟨G6, 0, none⟩) he (Nat.lt_trans h6 h.l7)).trans h.c6, (Below.cell (p := ⟨G7, 0, none⟩) he h.l7).trans h.c7, (Below.cell (p := ⟨Gr, 0, none⟩) he (Nat.lt_trans hr h.l7)).trans h.cr,
  (Below.frozen (p := ⟨G6, 0, none⟩) he (Nat.lt_trans h6 h.l7)).trans h.f6, (Below.frozen (p := ⟨G7, 0, none⟩) he h.l7).trans h.f7, (Below.frozen (p := ⟨Gr, 0, none⟩) he (Nat.lt_trans hr h.l7)).trans h.fr, ext_lt he _ h.l7⟩
end Go.Proofs.YtfdmhefjmnlllaaGreatDoor
end
section
/- The program's numbers: bits, shifts down. -/
namespace Go.Proofs.YtfdmhefjmnlllaaGreatDoor
open Go.RowKit
attribute [local go_sem] sz2 sz3 sz4 sz5 sz6 sz7 sz8
set_option maxHeartbeats 4000000
set_option maxRecDepth 100000
attribute [local irreducible] Calls
theorem and_one32 (r : Nat) (hr : r < 4294967296) : bits BinOp.and IntKind.u32 (r : Int) 1 = ((r % 2 : Nat) : Int) := by
 have h1 : (BitVec.ofInt 32 (r : Int)).toNat = r := by rw [BitVec.ofInt_natCast, BitVec.toNat_ofNat]; exact Nat.mod_eq_of_lt (by omega)
 have h2 : (BitVec.ofInt 32 1).toNat = 1 := by decide
 show IntKind.u32.wrap ((BitVec.ofInt 32 (r : Int) &&& BitVec.ofInt 32 1).toNat : Int) = _
 rw [BitVec.toNat_and, h1, h2, Nat.and_one_is_mod, IntKind.wrap_u32]
 omega
end Go.Proofs.YtfdmhefjmnlllaaGreatDoor
end
