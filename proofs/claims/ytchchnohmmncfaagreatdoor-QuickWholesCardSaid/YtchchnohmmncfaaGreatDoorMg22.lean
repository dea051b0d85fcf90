/- Lemmas of this proof, laid together: RouA, RouB, RouC, RouD, RouE, RouF, RouG. -/
import Derived.Test.YtchchnohmmncfaaGreatDoorMg17
import Derived.Laws.EntriesVeiled
import Derived.Deep.DeepCutAuto
import Derived.Deep.RegionWith
import Derived.Test.YtchchnohmmncfaaGreatDoorMg18
set_option linter.unusedSimpArgs false
set_option linter.unusedVariables false
section
/- Rounding: what the modes do. -/
namespace Go.Proofs.YtchchnohmmncfaaGreatDoor
open Go.RowKit
attribute [local go_sem] sz2 sz3 sz4 sz5 sz6 sz7 sz8
set_option maxHeartbeats 4000000
set_option maxRecDepth 100000
attribute [local irreducible] Calls
abbrev btV (neg odd : Bool) (h : Int) : Value := .agg #[.bool neg, .bool odd, .int .i64 h]
theorem bt_even (neg odd : Bool) (h : Int) (w : World) : Calls Tryz.prog 173 #[btV neg odd h] w fun e w' => e = .returned (.bool (upM 0 neg odd h)) ∧ Ext w w' := by
  by_cases h1 : 0 < h
  · have d1 : decide (0 < h) = true := decide_eq_true h1
    have hu : upM 0 neg odd h = true := by unfold upM; rw [if_pos rfl, d1]; rfl
    rw [hu]
    go_enter Tryz.func173, Tryz.ntmps173
    go_wp2
    refine bodyPost_ret (v := .bool true) ?h rfl ⟨rfl, ?_⟩
    case h => simp [results, Tryz.results173, go_sem]
    repeat (first | exact ext_refl _ | assumption | refine ext_setCell ?_ (by simp; try omega) _ | refine ext_alloc ?_ _ | refine ext_drew ?_ | refine ext_drewN ?_ _ | refine ext_trans ?_ (Aft.use _) | refine ext_trans ?_ (by assumption))
  · have d1 : decide (0 < h) = false := decide_eq_false h1
    by_cases h2 : h = 0
    · subst h2
      have hu : upM 0 neg odd 0 = odd := by unfold upM; simp
      rw [hu]
      go_enter Tryz.func173, Tryz.ntmps173
      go_wp2
      refine bodyPost_ret (v := .bool odd) ?h rfl ⟨rfl, ?_⟩
      case h => simp [results, Tryz.results173, go_sem]
      repeat (first | exact ext_refl _ | assumption | refine ext_setCell ?_ (by simp; try omega) _ | refine ext_alloc ?_ _ | refine ext_drew ?_ | refine ext_drewN ?_ _ | refine ext_trans ?_ (Aft.use _) | refine ext_trans ?_ (by assumption))
    · have q2 : (h == 0) = false := by simpa using h2
      have hu : upM 0 neg odd h = false := by unfold upM; rw [if_pos rfl, d1]; simp [h2]
      rw [hu]
      clear h2
      go_enter Tryz.func173, Tryz.ntmps173
      go_wp2
      refine bodyPost_ret (v := .bool false) ?h rfl ⟨rfl, ?_⟩
      case h => simp [results, Tryz.results173, go_sem]
      repeat (first | exact ext_refl _ | assumption | refine ext_setCell ?_ (by simp; try omega) _ | refine ext_alloc ?_ _ | refine ext_drew ?_ | refine ext_drewN ?_ _ | refine ext_trans ?_ (Aft.use _) | refine ext_trans ?_ (by assumption))
theorem bt_away (neg odd : Bool) (h : Int) (w : World) : Calls Tryz.prog 174 #[btV neg odd h] w fun e w' => e = .returned (.bool (upM 1 neg odd h)) ∧ Ext w w' := by
  have hu : upM 1 neg odd h = decide (0 ≤ h) := rfl
  rw [hu]
  go_enter Tryz.func174, Tryz.ntmps174
  go_wp2
  refine bodyPost_ret (v := .bool (decide (0 ≤ h))) ?h rfl ⟨rfl, ?_⟩
  case h => simp [results, Tryz.results174, go_sem]
  repeat (first | exact ext_refl _ | assumption | refine ext_setCell ?_ (by simp; try omega) _ | refine ext_alloc ?_ _ | refine ext_drew ?_ | refine ext_drewN ?_ _ | refine ext_trans ?_ (Aft.use _) | refine ext_trans ?_ (by assumption))
theorem bt_zero (neg odd : Bool) (h : Int) (w : World) : Calls Tryz.prog 175 #[btV neg odd h] w fun e w' => e = .returned (.bool (upM 2 neg odd h)) ∧ Ext w w' := by
  have hu : upM 2 neg odd h = false := rfl
  rw [hu]
  go_enter Tryz.func175, Tryz.ntmps175
  go_wp2
  refine bodyPost_ret (v := .bool false) ?h rfl ⟨rfl, ?_⟩
  case h => simp [results, Tryz.results175, go_sem]
  repeat (first | exact ext_refl _ | assumption | refine ext_setCell ?_ (by simp; try omega) _ | refine ext_alloc ?_ _ | refine ext_drew ?_ | refine ext_drewN ?_ _ | refine ext_trans ?_ (Aft.use _) | refine ext_trans ?_ (by assumption))
theorem bt_up (neg odd : Bool) (h : Int) (w : World) : Calls Tryz.prog 176 #[btV neg odd h] w fun e w' => e = .returned (.bool (upM 3 neg odd h)) ∧ Ext w w' := by
  have hu : upM 3 neg odd h = !neg := rfl
  rw [hu]
  cases neg
  · skip
    go_enter Tryz.func176, Tryz.ntmps176
    go_wp2
    refine bodyPost_ret (v := .bool true) ?h rfl ⟨rfl, ?_⟩
    case h => simp [results, Tryz.results176, go_sem]
    repeat (first | exact ext_refl _ | assumption | refine ext_setCell ?_ (by simp; try omega) _ | refine ext_alloc ?_ _ | refine ext_drew ?_ | refine ext_drewN ?_ _ | refine ext_trans ?_ (Aft.use _) | refine ext_trans ?_ (by assumption))
  · skip
    go_enter Tryz.func176, Tryz.ntmps176
    go_wp2
    refine bodyPost_ret (v := .bool false) ?h rfl ⟨rfl, ?_⟩
    case h => simp [results, Tryz.results176, go_sem]
    repeat (first | exact ext_refl _ | assumption | refine ext_setCell ?_ (by simp; try omega) _ | refine ext_alloc ?_ _ | refine ext_drew ?_ | refine ext_drewN ?_ _ | refine ext_trans ?_ (Aft.use _) | refine ext_trans ?_ (by assumption))
theorem bt_down (neg odd : Bool) (h : Int) (w : World) : Calls Tryz.prog 177 #[btV neg odd h] w fun e w' => e = .returned (.bool (upM 4 neg odd h)) ∧ Ext w w' := by
  have hu : upM 4 neg odd h = neg := rfl
  rw [hu]
  go_enter Tryz.func177, Tryz.ntmps177
  go_wp2
  refine bodyPost_ret (v := .bool neg) ?h rfl ⟨rfl, ?_⟩
  case h => simp [results, Tryz.results177, go_sem]
  repeat (first | exact ext_refl _ | assumption | refine ext_setCell ?_ (by simp; try omega) _ | refine ext_alloc ?_ _ | refine ext_drew ?_ | refine ext_drewN ?_ _ | refine ext_trans ?_ (Aft.use _) | refine ext_trans ?_ (by assumption))
abbrev fnV (f : FuncId) : Value := .func (.func f) #[] #[]
abbrev modesV : Value := .agg #[fnV 173, fnV 174, fnV 175, fnV 176, fnV 177]
theorem ro_modes (w : World) : Calls Tryz.prog 160 #[] w fun e w' => e = .returned modesV ∧ Ext w w' := by
  go_enter Tryz.func160, Tryz.ntmps160
  go_wp2
  refine bodyPost_ret (v := modesV) ?h rfl ⟨rfl, ?_⟩
  case h => simp [results, Tryz.results160, go_sem]
  · skip
    repeat (first | exact ext_refl _ | assumption | refine ext_setCell ?_ (by simp; try omega) _ | refine ext_alloc ?_ _ | refine ext_drew ?_ | refine ext_drewN ?_ _ | refine ext_trans ?_ (Aft.use _) | refine ext_trans ?_ (by assumption))
end Go.Proofs.YtchchnohmmncfaaGreatDoor
end
section
/- Rounding: a fraction rounded to a whole number. -/
namespace Go.Proofs.YtchchnohmmncfaaGreatDoor
open Go.RowKit
attribute [local go_sem] sz2 sz3 sz4 sz5 sz6 sz7 sz8
set_option maxHeartbeats 8000000
set_option maxRecDepth 100000
attribute [local irreducible] Calls
abbrev ZeroI : Obj := .cells #[.bool false, .slice none 0 0] 149
/-- A quotient of whole numbers from nought on, both receivers new. -/
theorem quo_new (bn bd a d : Nat) (hd : d ≠ 0) (A : Option Addr) (n c : Nat) (B : Option Addr) (m k : Nat) (hn : n ≤ 400000) (w : World) (hx : IntIs w bn 0 (a : Int) A n c) (hy : IntIs w bd 0 (d : Int) B m k) :
    Calls Tryz.prog 158 #[.pointer (some ⟨w.heap.size, 0, none⟩), .pointer (some ⟨bn, 0, none⟩), .pointer (some ⟨bd, 0, none⟩), .pointer (some ⟨w.heap.size + 1, 0, none⟩)] ((w.alloc ZeroI).alloc ZeroI) fun e w' =>
      e = .returned (.tuple #[.pointer (some ⟨w.heap.size, 0, none⟩), .pointer (some ⟨w.heap.size + 1, 0, none⟩)]) ∧ ∃ (Q : Option Addr) (nq cq : Nat) (R : Option Addr) (nr cr : Nat),
        Hid (IntIs w' w.heap.size 0 ((a / d : Nat) : Int) Q nq cq ∧ Off Q nq (w.heap.size + 1) ∧ IntIs w' (w.heap.size + 1) 0 ((a % d : Nat) : Int) R nr cr ∧ Off R nr w.heap.size) ∧ Ext w w' := by
  have r1 : Room ((w.alloc ZeroI).alloc ZeroI) w.heap.size 0 := (int_room w).ext (ext_alloc (ext_refl _) _)
  have r2 : Room ((w.alloc ZeroI).alloc ZeroI) (w.heap.size + 1) 0 := by have := int_room (w.alloc ZeroI); simpa using this
  have hE : Ext w ((w.alloc ZeroI).alloc ZeroI) := ext_alloc (ext_alloc (ext_refl _) _) _
  have h := bi_QuoRem w.heap.size (w.heap.size + 1) bn bd (a : Int) (d : Int) (by omega) (by omega) A n c B m k hn _ r1 r2 (hx.ext hE) (hy.ext hE)
  refine h.mono ?_
  rintro e w' ⟨rfl, Q, nq, cq, R, nr, cr, w1, hI, x1, x2⟩
  obtain ⟨h1, h2, h3, h4⟩ := hI.out
  have s1 : sgn (!(decide ((a : Int) < 0) == decide ((d : Int) < 0))) ((a : Int).natAbs / (d : Int).natAbs) = ((a / d : Nat) : Int) := by
    rw [decide_eq_false (by omega), decide_eq_false (by omega), Int.natAbs_natCast, Int.natAbs_natCast]; rfl
  have s2 : sgn (decide ((a : Int) < 0)) ((a : Int).natAbs % (d : Int).natAbs) = ((a % d : Nat) : Int) := by
    rw [decide_eq_false (by omega), Int.natAbs_natCast, Int.natAbs_natCast]; rfl
  rw [s1] at h1
  rw [s2] at h3
  exact ⟨rfl, Q, nq, cq, R, nr, cr, ⟨h1, h2.off r2.lt nq, h3, h4.off r1.lt nr⟩, x2.ext (x1.ext hE (by omega)) (Nat.le_refl _)⟩
abbrev WhoPost (w : World) (V : Nat) (s : Bool) : Ending → World → Prop := fun e w' => ∃ (b : Nat) (Q : Option Addr) (nq cq : Nat), e = .returned (.tuple #[.pointer (some ⟨b, 0, none⟩), .bool s]) ∧ Hid (IntIs w' b 0 ((V : Nat) : Int) Q nq cq) ∧ Ext w w'
theorem run_mode (k : Int) (f : FuncId) (h : (k = 0 ∧ f = 173) ∨ (k = 1 ∧ f = 174) ∨ (k = 2 ∧ f = 175) ∨ (k = 3 ∧ f = 176) ∨ (k = 4 ∧ f = 177)) (w : World) :
    (Instr.index 177 modesV (.int .u8 k)).run Tryz.prog w = .ok (fnV f) w := by
  rcases h with ⟨rfl, rfl⟩ | ⟨rfl, rfl⟩ | ⟨rfl, rfl⟩ | ⟨rfl, rfl⟩ | ⟨rfl, rfl⟩
  · kernel_rfl
  · kernel_rfl
  · kernel_rfl
  · kernel_rfl
  · kernel_rfl
theorem lim_le_of {a b : Nat} (h : a ≤ b) {n : Nat} (hn : (lim b).length ≤ n) : (lim a).length ≤ n := Nat.le_trans (lim_mono h) hn
theorem ro_whole (mode : Nat) (hmode : mode ≤ 4) (neg : Bool) (bn bd a d : Nat) (hd : d ≠ 0) (A : Option Addr) (n c : Nat) (B : Option Addr) (m k : Nat) (hn : n ≤ 400000) (hm : m ≤ 400000) (w : World) (hx : IntIs w bn 0 (a : Int) A n c) (hy : IntIs w bd 0 (d : Int) B m k) :
    Calls Tryz.prog 146 #[.pointer (some ⟨bn, 0, none⟩), .pointer (some ⟨bd, 0, none⟩), .bool neg, .int .u8 (mode : Int)] w (WhoPost w (rdQ mode neg a d) (decide (a % d = 0))) := by
  have HY := Lib.hid hy
  have kQ := Lib.hid (quo_new bn bd a d hd A n c B m k hn w hx hy)
  have hr := Nat.mod_lt a (Nat.pos_of_ne_zero hd)
  have hdl : (lim d).length = m := by have := hy.rd.len; rwa [Int.natAbs_natCast] at this
  have hrl : (lim (a % d)).length ≤ 400000 := lim_le_of (Nat.le_of_lt hr) (by omega)
  obtain ⟨Q, hQ⟩ : ∃ Q, a / d = Q := ⟨_, rfl⟩
  obtain ⟨R, hR⟩ : ∃ R, a % d = R := ⟨_, rfl⟩
  rw [hQ, hR] at kQ
  rw [hR] at hrl
  have hrd : rdQ mode neg a d = if R = 0 then Q else if upM mode neg (decide (Q % 2 = 1)) (cmpN (2 * R) d) = true then Q + 1 else Q := by unfold rdQ; rw [hQ, hR]
  rw [hrd, hR]
  have HQL : Hid (∀ nq, (lim Q).length = nq → nq ≤ 1000000) := Lib.hid fun nq h => by
    have h2 : (lim a).length = n := by have := hx.rd.len; rwa [Int.natAbs_natCast] at this
    have : (lim Q).length ≤ (lim a).length := lim_mono (by rw [← hQ]; exact Nat.div_le_self _ _)
    omega
  clear hx hy hrd hQ hR hr hdl
  by_cases h0 : R = 0
  · subst h0
    have kS : ∀ (u : World) (X : Option Addr) (nx cx : Nat), IntIs u (w.heap.size + 1) 0 ((0 : Nat) : Int) X nx cx → Calls Tryz.prog 130 #[.pointer (some ⟨w.heap.size + 1, 0, none⟩)] u fun e u' => e = .returned (.int .i64 0) ∧ Ext u u' := fun u X nx cx h => bi_Sign _ 0 _ X nx cx u h
    have KS := Lib.hid kS
    rw [if_pos rfl, decide_eq_true rfl]
    clear kS HQL HY
    go_enter Tryz.func146, Tryz.ntmps146
    go_wp2_with (first
      | (go_at_call 158; (with_reducible refine (kQ.out).mono ?_); rintro e w1 ⟨rfl, Q1, nq, cq, R1, nr, cr, hI, hE1⟩)
      | (go_at_call 130; (with_reducible refine (KS.out _ _ _ _ hI.out.2.2.1).mono ?_); rintro e w2 ⟨rfl, hE2⟩))
    refine bodyPost_ret (v := .tuple #[.pointer (some ⟨w.heap.size, 0, none⟩), .bool true]) ?h rfl ⟨_, Q1, nq, cq, rfl, hI.out.1.ext hE2, ext_trans hE1 hE2⟩
    case h => simp [results, Tryz.results146, go_sem]
  · rw [if_neg h0, decide_eq_false h0]
    have KS : Hid (∀ (u : World) (X : Option Addr) (nx cx : Nat), IntIs u (w.heap.size + 1) 0 ((R : Nat) : Int) X nx cx → Calls Tryz.prog 130 #[.pointer (some ⟨w.heap.size + 1, 0, none⟩)] u fun e u' => e = .returned (.int .i64 1) ∧ Ext u u') := Lib.hid fun u X nx cx h => by
      have := bi_Sign _ 0 _ X nx cx u h
      rwa [Int.sign_eq_one_of_pos (by omega)] at this
    obtain ⟨q2, hq2⟩ : ∃ q2, Q % 2 = q2 := ⟨_, rfl⟩
    obtain ⟨hh, hhh⟩ : ∃ hh, cmpN (2 * R) d = hh := ⟨_, rfl⟩
    have KB : Hid (∀ (u : World) (X : Option Addr) (nx cx : Nat), IntIs u w.heap.size 0 ((Q : Nat) : Int) X nx cx → Calls Tryz.prog 159 #[.pointer (some ⟨w.heap.size, 0, none⟩), .int .i64 0] u fun e u' => e = .returned (.int .u64 (q2 : Int)) ∧ Ext u u') := Lib.hid fun u X nx cx h => by
      have := bi_Bit0 _ 0 Q X nx cx u h
      rwa [hq2] at this
    have KL : Hid (∀ (u : World) (X : Option Addr) (nx cx : Nat), IntIs u (w.heap.size + 1) 0 ((R : Nat) : Int) X nx cx → Calls Tryz.prog 126 #[.pointer (some ⟨w.heap.size + 1, 0, none⟩), .pointer (some ⟨w.heap.size + 1, 0, none⟩), .int .u64 1] u (IPost u (w.heap.size + 1) 0 ((2 * R : Nat) : Int))) := Lib.hid fun u X nx cx h => by
      have := bi_Lsh (w.heap.size + 1) 0 (w.heap.size + 1) 0 (R : Int) 1 X nx cx (by have := h.rd.len; rw [Int.natAbs_natCast] at this; omega) (by decide) u h.room h
      have e : (R : Int) * 2 ^ 1 = ((2 * R : Nat) : Int) := by omega
      rwa [e] at this
    have KC : Hid (∀ (u : World) (X : Option Addr) (nx cx : Nat), IntIs u (w.heap.size + 1) 0 ((2 * R : Nat) : Int) X nx cx → Ext w u → Calls Tryz.prog 157 #[.pointer (some ⟨w.heap.size + 1, 0, none⟩), .pointer (some ⟨bd, 0, none⟩)] u fun e u' => e = .returned (.int .i64 hh) ∧ Ext u u') := Lib.hid fun u X nx cx h he => by
      have := bi_Cmp (w.heap.size + 1) 0 bd 0 ((2 * R : Nat) : Int) (d : Int) X nx cx B m k u h (HY.out.ext he)
      rwa [← cmpN_sign, hhh] at this
    have KN := Lib.hid (fun (u : World) => bi_NewInt 1 (by decide) (by decide) u)
    have KA : Hid (∀ (u : World) (X : Option Addr) (nx cx g : Nat) (Y : Option Addr) (ny cy : Nat), IntIs u w.heap.size 0 ((Q : Nat) : Int) X nx cx → IntIs u g 0 (1 : Int) Y ny cy → Calls Tryz.prog 161 #[.pointer (some ⟨w.heap.size, 0, none⟩), .pointer (some ⟨w.heap.size, 0, none⟩), .pointer (some ⟨g, 0, none⟩)] u (IPost u w.heap.size 0 ((Q + 1 : Nat) : Int))) := Lib.hid fun u X nx cx g Y ny cy h1 h2 => by
      have e2 : ny ≤ 1000000 := by
        have := h2.rd.len
        have e : (lim (1 : Int).natAbs).length = 1 := by kernel_rfl
        omega
      exact bi_Add w.heap.size 0 w.heap.size 0 g 0 (Q : Int) 1 X nx cx Y ny cy (HQL.out _ (by have := h1.rd.len; rwa [Int.natAbs_natCast] at this)) e2 u h1.room h1 h2
    obtain ⟨od, hod⟩ : ∃ od, decide (q2 = 1) = od := ⟨_, rfl⟩
    have hodb : ((q2 : Int) == 1) = od := by
      rw [← hod, Bool.eq_iff_iff, beq_iff_eq, decide_eq_true_iff]; omega
    obtain ⟨u, hu⟩ : ∃ u, upM mode neg od hh = u := ⟨_, rfl⟩
    rw [hq2, hhh, hod, hu]
    have KM := Lib.hid ro_modes
    have hU : ∀ f, (mode = 0 ∧ f = 173) ∨ (mode = 1 ∧ f = 174) ∨ (mode = 2 ∧ f = 175) ∨ (mode = 3 ∧ f = 176) ∨ (mode = 4 ∧ f = 177) →
        ∀ w', Calls Tryz.prog f #[btV neg od hh] w' fun e w'' => e = .returned (.bool u) ∧ Ext w' w'' := by
      rintro f (⟨rfl, rfl⟩ | ⟨rfl, rfl⟩ | ⟨rfl, rfl⟩ | ⟨rfl, rfl⟩ | ⟨rfl, rfl⟩) w'
      · rw [← hu]; exact bt_even neg od hh w'
      · rw [← hu]; exact bt_away neg od hh w'
      · rw [← hu]; exact bt_zero neg od hh w'
      · rw [← hu]; exact bt_up neg od hh w'
      · rw [← hu]; exact bt_down neg od hh w'
    have h01 : mode = 0 ∨ mode = 1 ∨ mode = 2 ∨ mode = 3 ∨ mode = 4 := by omega
    clear HY hq2 hhh hrl HQL hd hod hu h0 hn hm hmode
    rcases h01 with rfl | rfl | rfl | rfl | rfl
    all_goals
      first
        | (have KU := Lib.hid (hU _ (.inl ⟨rfl, rfl⟩)); have hix := run_mode 0 _ (.inl ⟨rfl, rfl⟩))
        | (have KU := Lib.hid (hU _ (.inr (.inl ⟨rfl, rfl⟩))); have hix := run_mode 1 _ (.inr (.inl ⟨rfl, rfl⟩)))
        | (have KU := Lib.hid (hU _ (.inr (.inr (.inl ⟨rfl, rfl⟩)))); have hix := run_mode 2 _ (.inr (.inr (.inl ⟨rfl, rfl⟩))))
        | (have KU := Lib.hid (hU _ (.inr (.inr (.inr (.inl ⟨rfl, rfl⟩))))); have hix := run_mode 3 _ (.inr (.inr (.inr (.inl ⟨rfl, rfl⟩)))))
        | (have KU := Lib.hid (hU _ (.inr (.inr (.inr (.inr ⟨rfl, rfl⟩))))); have hix := run_mode 4 _ (.inr (.inr (.inr (.inr ⟨rfl, rfl⟩)))))
      clear hU
      go_enter Tryz.func146, Tryz.ntmps146
      go_upto_region 5 with (first
        | (go_at_call 158; (with_reducible refine (kQ.out).mono ?_); rintro e w1 ⟨rfl, Q1, nq, cq, R1, nr, cr, hI, hE1⟩)
        | (go_at_call 130; (with_reducible refine (KS.out _ _ _ _ hI.out.2.2.1).mono ?_); rintro e w2 ⟨rfl, hE2⟩; have hX2 := ext_trans hE1 hE2; have hQ2 := hI.out.1.ext hE2; have hR2 := hI.out.2.2.1.ext hE2)
        | (go_at_call 159; (with_reducible refine (KB.out _ _ _ _ hQ2).mono ?_); rintro e w3 ⟨rfl, hE3⟩; have hX3 := ext_trans hX2 hE3; have hQ3 := hQ2.ext hE3; have hR3 := hR2.ext hE3)
        | (go_at_call 126; (with_reducible refine (KL.out _ _ _ _ hR3).mono ?_); rintro e w4 ⟨rfl, R4, nr4, cr4, hI4, xt4⟩; have hX4 := xt4.ext hX3 (Nat.le_succ _); have hQ4 := hQ3.tch xt4 (Nat.ne_of_lt (Nat.lt_succ_self _)) hI.out.2.1)
        | (go_at_call 157; (with_reducible refine (KC.out _ _ _ _ hI4.out.1 hX4).mono ?_); rintro e w5 ⟨rfl, hE5⟩; have hX5 := ext_trans hX4 hE5; have hQ5 := hQ4.ext hE5))
      obtain ⟨W, hW⟩ : ∃ W, W = w5.alloc (.cells #[.bool neg, .bool od, .int .i64 hh] 175) := ⟨_, rfl⟩
      obtain ⟨B5, hB5⟩ : ∃ B5, w5.heap.size = B5 := ⟨_, rfl⟩
      have xW : Hid (Ext w W) := by show Ext w W; rw [hW]; exact ext_alloc hX5 _
      have hQW := Lib.hid (hQ5.ext (show Ext w5 W from by rw [hW]; exact ext_alloc (ext_refl _) _))
      have c0 : W.cell? ⟨B5, 0, none⟩ = some (.bool neg) := by rw [hW, ← hB5]; simp [go_sem]
      have c1 : W.cell? ⟨B5, 1, none⟩ = some (.bool od) := by rw [hW, ← hB5]; simp [go_sem]
      have c2 : W.cell? ⟨B5, 2, none⟩ = some (.int .i64 hh) := by rw [hW, ← hB5]; simp [go_sem]
      have cl : B5 < W.heap.size := by rw [hW, ← hB5]; simp
      rw [← hW, hB5]
      clear hW hB5 hX5 hQ5 hE5 hX4 hQ4 hI4 xt4 hX3 hQ3 hR3 hE3 hX2 hQ2 hR2 hE2 hI hE1 kQ KS KB KL KC hodb
      refine wp_aft (by kernel_rfl) (by kernel_rfl) (fun hq hqf => ?_)
      repeat (go_big_quiet_step (first
        | (go_at_call 160; exact aft_of (KM.out _))
        | exact aft_of (KU.out _)
        ))
      refine wpQuiet_nil ?_
      rintro _ ⟨nq, rfl⟩
      have xl := ext_lt nq.use
      have xz := ext_size nq.use
      try simp at xz
      have hX7 := Lib.hid nq.use
      clear hq hqf
      generalize nq.out = W7 at *
      clear nq
      have hQ7 := Lib.hid (hQW.out.ext hX7.out)
      have xW7 := Lib.hid (ext_trans xW.out hX7.out)
      clear hQW hX7 xW c0 c1 c2 cl KM KU
      cases u with
      | false =>
        go_wp2
        refine bodyPost_ret (v := .tuple #[.pointer (some ⟨w.heap.size, 0, none⟩), .bool false]) ?h rfl ⟨_, _, _, _, rfl, hQ7.out, xW7.out⟩
        case h => simp [results, Tryz.results146, go_sem]
      | true =>
        go_wp2_with (first
          | (go_at_call 100; (with_reducible refine (KN.out _).mono ?_); rintro e w8 ⟨g8, Y8, ny, cy, rfl, hI8, _, hE8⟩; have hQ8 := hQ7.out.ext hE8)
          | (go_at_call 161; (with_reducible refine (KA.out _ _ _ _ _ _ _ _ hQ8 hI8.out.1).mono ?_); rintro e w9 ⟨rfl, Q9, nq9, cq9, hI9, xt9⟩))
        refine bodyPost_ret (v := .tuple #[.pointer (some ⟨w.heap.size, 0, none⟩), .bool false]) ?h rfl ⟨_, _, _, _, rfl, hI9.out.1, xt9.ext (ext_trans xW7.out hE8) (Nat.le_refl _)⟩
        case h => simp [results, Tryz.results146, go_sem]
end Go.Proofs.YtchchnohmmncfaaGreatDoor
end
section
/- Rounding: a fraction times a power of two; its logarithm. -/
namespace Go.Proofs.YtchchnohmmncfaaGreatDoor
open Go.RowKit
attribute [local go_sem] sz2 sz3 sz4 sz5 sz6 sz7 sz8
set_option maxHeartbeats 8000000
set_option maxRecDepth 100000
attribute [local irreducible] Calls
abbrev nbV (p q : Nat) : Value := .agg #[.pointer (some ⟨p, 0, none⟩), .pointer (some ⟨q, 0, none⟩)]
/-- Two whole numbers stand there. -/
structure NbIs (w : World) (p q a d : Nat) : Prop where
  num : ∃ A n c, IntIs w p 0 (a : Int) A n c
  den : ∃ A n c, IntIs w q 0 (d : Int) A n c
theorem NbIs.ext {w w' : World} {p q a d : Nat} (h : NbIs w p q a d) (he : Ext w w') : NbIs w' p q a d := by
  obtain ⟨⟨A, n, c, h1⟩, ⟨B, m, k, h2⟩⟩ := h
  exact ⟨⟨A, n, c, h1.ext he⟩, ⟨B, m, k, h2.ext he⟩⟩
abbrev TiPost (w : World) (x y : Nat) : Ending → World → Prop := fun e w' => ∃ p q : Nat, e = .returned (.tuple #[.pointer (some ⟨p, 0, none⟩), .pointer (some ⟨q, 0, none⟩)]) ∧ Hid (NbIs w' p q x y) ∧ Ext w w'
theorem lsh_new (g a z : Nat) (A : Option Addr) (n c : Nat) (hn : n ≤ 500000) (hz : z ≤ 16000000) (b : Nat) (w W : World) (hb : W.heap.size ≤ b) (hr : Room w b 0) (hE : Ext W w) (hx : IntIs w g 0 (a : Int) A n c) :
    Calls Tryz.prog 126 #[.pointer (some ⟨b, 0, none⟩), .pointer (some ⟨g, 0, none⟩), .int .u64 (z : Int)] w fun e w' => e = .returned (.pointer (some ⟨b, 0, none⟩)) ∧ Ext W w' ∧ Hid (∃ A n c, IntIs w' b 0 ((a * 2 ^ z : Nat) : Int) A n c) := by
  refine (bi_Lsh b 0 g 0 (a : Int) z A n c hn hz w hr hx).mono ?_
  rintro e w' ⟨he, A', n', c', hI, xt⟩
  refine ⟨he, xt.ext hE hb, A', n', c', ?_⟩
  have e1 : (a : Int) * 2 ^ z = ((a * 2 ^ z : Nat) : Int) := by push_cast; rfl
  rw [← e1]
  exact hI.out.1
theorem nb_times (p q a d : Nat) (e : Int) (ha : (lim a).length ≤ 500000) (hd : (lim d).length ≤ 500000) (he : -16000000 ≤ e ∧ e ≤ 16000000) (w : World) (h : NbIs w p q a d) :
    Calls Tryz.prog 101 #[nbV p q, .int .i64 e] w (TiPost w (tA a e) (tD d e)) := by
  obtain ⟨⟨A, n, c, hx⟩, ⟨B, m, k, hy⟩⟩ := h
  have hn : n ≤ 500000 := by have := hx.rd.len; rw [Int.natAbs_natCast] at this; omega
  have hm : m ≤ 500000 := by have := hy.rd.len; rw [Int.natAbs_natCast] at this; omega
  have HX := Lib.hid hx
  have HY := Lib.hid hy
  clear hx hy ha hd
  by_cases h0 : 0 ≤ e
  · obtain ⟨z, rfl⟩ : ∃ z : Nat, e = z := ⟨e.toNat, by omega⟩
    have e1 : tA a (z : Int) = a * 2 ^ z := by unfold tA; rw [Int.toNat_natCast]
    have e2 : tD d (z : Int) = d := by unfold tD; rw [show (-(z : Int)).toNat = 0 by omega, Nat.pow_zero, Nat.mul_one]
    rw [e1, e2]
    have hz : z ≤ 16000000 := by omega
    have hzw : IntKind.u64.wrap (z : Int) = (z : Int) := by rw [IntKind.wrap_u64]; omega
    clear e1 e2 h0 he
    go_enter Tryz.func101, Tryz.ntmps101
    go_upto_region 2 with fail
    obtain ⟨W, hW⟩ : ∃ W, W = w.alloc (.cells #[.pointer (some ⟨p, 0, none⟩), .pointer (some ⟨q, 0, none⟩)] 131) := ⟨_, rfl⟩
    obtain ⟨B0, hB0⟩ : ∃ B0, w.heap.size = B0 := ⟨_, rfl⟩
    have xW : Ext w W := by rw [hW]; exact ext_alloc (ext_refl _) _
    have c0 : W.cell? ⟨B0, 0, none⟩ = some (.pointer (some ⟨p, 0, none⟩)) := by rw [hW, ← hB0]; simp [go_sem]
    have c1 : W.cell? ⟨B0, 1, none⟩ = some (.pointer (some ⟨q, 0, none⟩)) := by rw [hW, ← hB0]; simp [go_sem]
    have cl : B0 < W.heap.size := by rw [hW, ← hB0]; simp
    rw [← hW, hB0]
    have KL := Lib.hid (fun (b : Nat) (u : World) (hb : W.heap.size ≤ b) (hr : Room u b 0) (hE : Ext W u) => lsh_new p a z A n c hn hz b u W hb hr hE (HX.out.ext (ext_trans xW hE)))
    clear hW hB0
    go_cut [4, 5] (fun v4 v5 wx => ∃ b : Nat, v4 = .pointer (some ⟨b, 0, none⟩) ∧ v5 = .pointer (some ⟨q, 0, none⟩) ∧ Hid (∃ A n c, IntIs wx b 0 ((a * 2 ^ z : Nat) : Int) A n c) ∧ Hid (Ext W wx))
    case first =>
      go_region_law (go_simp; go_at_call 126; (with_reducible refine (KL.out _ _ (by simp) (by refine Room.ext (int_room W) ?_; (repeat (first | exact ext_refl _ | assumption | refine ext_setCell ?_ (by simp; try omega) _ | refine ext_alloc ?_ _ | refine ext_drew ?_ | refine ext_drewN ?_ _ | refine ext_trans ?_ (Aft.use _) | refine ext_trans ?_ (by assumption)))) (by (repeat (first | exact ext_refl _ | assumption | refine ext_setCell ?_ (by simp; try omega) _ | refine ext_alloc ?_ _ | refine ext_drew ?_ | refine ext_drewN ?_ _ | refine ext_trans ?_ (Aft.use _) | refine ext_trans ?_ (by assumption))))).mono ?_); rintro e w2 ⟨rfl, hE2, hI2⟩; have y0 := (Below.cell (p := ⟨B0, 0, none⟩) hE2 cl).trans c0; have y1 := (Below.cell (p := ⟨B0, 1, none⟩) hE2 cl).trans c1)
      all_goals
        go_wp2_with fail
        go_meet
        case rel => exact ⟨_, rfl, rfl, hI2, hE2⟩
    case rest =>
      obtain ⟨b, rfl, rfl, hI, hX⟩ := hcut
      have hXw := Lib.hid (ext_trans xW hX.out)
      have HYw := Lib.hid (HY.out.ext hXw.out)
      clear c0 c1 cl xW hX KL
      go_wp2
      refine bodyPost_ret (v := .tuple #[.pointer (some ⟨b, 0, none⟩), .pointer (some ⟨q, 0, none⟩)]) ?h rfl ⟨b, q, rfl, ⟨hI.out, _, _, _, HYw.out⟩, hXw.out⟩
      case h => simp [results, Tryz.results101, go_sem]
  · obtain ⟨z, rfl⟩ : ∃ z : Nat, e = -(z : Int) := ⟨(-e).toNat, by omega⟩
    have e1 : tA a (-(z : Int)) = a := by unfold tA; rw [show (-(z : Int)).toNat = 0 by omega, Nat.pow_zero, Nat.mul_one]
    have e2 : tD d (-(z : Int)) = d * 2 ^ z := by unfold tD; rw [Int.neg_neg, Int.toNat_natCast]
    rw [e1, e2]
    have hz : z ≤ 16000000 := by omega
    have hzw : IntKind.u64.wrap (z : Int) = (z : Int) := by rw [IntKind.wrap_u64]; omega
    have hzi : IntKind.i64.wrap (z : Int) = (z : Int) := by rw [IntKind.wrap_i64]; omega
    have hz0 : ¬ 0 ≤ -(z : Int) := h0
    have hzb : (z : Int) ≤ 16000000 := by omega
    have hzd : decide (0 ≤ -(z : Int)) = false := decide_eq_false h0
    clear e1 e2 h0 he
    go_enter Tryz.func101, Tryz.ntmps101
    go_upto_region 3 with fail
    obtain ⟨W, hW⟩ : ∃ W, W = w.alloc (.cells #[.pointer (some ⟨p, 0, none⟩), .pointer (some ⟨q, 0, none⟩)] 131) := ⟨_, rfl⟩
    obtain ⟨B0, hB0⟩ : ∃ B0, w.heap.size = B0 := ⟨_, rfl⟩
    have xW : Ext w W := by rw [hW]; exact ext_alloc (ext_refl _) _
    have c0 : W.cell? ⟨B0, 0, none⟩ = some (.pointer (some ⟨p, 0, none⟩)) := by rw [hW, ← hB0]; simp [go_sem]
    have c1 : W.cell? ⟨B0, 1, none⟩ = some (.pointer (some ⟨q, 0, none⟩)) := by rw [hW, ← hB0]; simp [go_sem]
    have cl : B0 < W.heap.size := by rw [hW, ← hB0]; simp
    rw [← hW, hB0]
    have KL := Lib.hid (fun (b : Nat) (u : World) (hb : W.heap.size ≤ b) (hr : Room u b 0) (hE : Ext W u) => lsh_new q d z B m k hm hz b u W hb hr hE (HY.out.ext (ext_trans xW hE)))
    clear hW hB0
    go_cut [4, 5] (fun v4 v5 wx => ∃ b : Nat, v4 = .pointer (some ⟨p, 0, none⟩) ∧ v5 = .pointer (some ⟨b, 0, none⟩) ∧ Hid (∃ A n c, IntIs wx b 0 ((d * 2 ^ z : Nat) : Int) A n c) ∧ Hid (Ext W wx))
    case first =>
      go_region_law (go_simp; go_at_call 126; (with_reducible refine (KL.out _ _ (by simp) (by refine Room.ext (int_room W) ?_; (repeat (first | exact ext_refl _ | assumption | refine ext_setCell ?_ (by simp; try omega) _ | refine ext_alloc ?_ _ | refine ext_drew ?_ | refine ext_drewN ?_ _ | refine ext_trans ?_ (Aft.use _) | refine ext_trans ?_ (by assumption)))) (by (repeat (first | exact ext_refl _ | assumption | refine ext_setCell ?_ (by simp; try omega) _ | refine ext_alloc ?_ _ | refine ext_drew ?_ | refine ext_drewN ?_ _ | refine ext_trans ?_ (Aft.use _) | refine ext_trans ?_ (by assumption))))).mono ?_); rintro e w2 ⟨rfl, hE2, hI2⟩; have y0 := (Below.cell (p := ⟨B0, 0, none⟩) hE2 cl).trans c0; have y1 := (Below.cell (p := ⟨B0, 1, none⟩) hE2 cl).trans c1)
      all_goals
        go_wp2_with fail
        go_meet
        case rel => exact ⟨_, rfl, rfl, hI2, hE2⟩
    case rest =>
      obtain ⟨b, rfl, rfl, hI, hX⟩ := hcut
      have hXw := Lib.hid (ext_trans xW hX.out)
      have HXw := Lib.hid (HX.out.ext hXw.out)
      clear c0 c1 cl xW hX KL
      go_wp2
      refine bodyPost_ret (v := .tuple #[.pointer (some ⟨p, 0, none⟩), .pointer (some ⟨b, 0, none⟩)]) ?h rfl ⟨p, b, rfl, ⟨⟨_, _, _, HXw.out⟩, hI.out⟩, hXw.out⟩
      case h => simp [results, Tryz.results101, go_sem]
theorem nb_log (p q a d : Nat) (hd0 : 0 < d) (ha : (lim a).length ≤ 200000) (hd : (lim d).length ≤ 200000) (w : World) (h : NbIs w p q a d) :
    Calls Tryz.prog 145 #[nbV p q] w fun e w' => e = .returned (.int .i64 (lgQ a d)) ∧ Ext w w' := by
  have hba : bitsOf a ≤ 6400000 := by have := (lim_bytes a).1; omega
  have hbd : bitsOf d ≤ 6400000 := by have := (lim_bytes d).1; omega
  have hn0 : -6400000 ≤ (bitsOf a : Int) - bitsOf d ∧ (bitsOf a : Int) - bitsOf d ≤ 6400000 := by omega
  obtain ⟨n, hn⟩ : ∃ n : Int, (bitsOf a : Int) - bitsOf d = n := ⟨_, rfl⟩
  obtain ⟨⟨A, nn, c, hx⟩, ⟨B, m, k, hy⟩⟩ := id h
  have kA : ∀ w', Ext w w' → Calls Tryz.prog 103 #[.pointer (some ⟨p, 0, none⟩)] w' fun e w'' => e = .returned (.int .i64 (bitsOf a : Nat)) ∧ Ext w' w'' := fun w' he => by
    have := bi_BitLen p 0 (a : Int) A nn c (by have := hx.rd.len; rw [Int.natAbs_natCast] at this; omega) w' (hx.ext he)
    rwa [Int.natAbs_natCast] at this
  have kD : ∀ w', Ext w w' → Calls Tryz.prog 103 #[.pointer (some ⟨q, 0, none⟩)] w' fun e w'' => e = .returned (.int .i64 (bitsOf d : Nat)) ∧ Ext w' w'' := fun w' he => by
    have := bi_BitLen q 0 (d : Int) B m k (by have := hy.rd.len; rw [Int.natAbs_natCast] at this; omega) w' (hy.ext he)
    rwa [Int.natAbs_natCast] at this
  have KT := Lib.hid (fun w' (he : Ext w w') => nb_times p q a d (-n) (by omega) (by omega) (by omega) w' (h.ext he))
  have KC : Hid (∀ x y u, NbIs u x y (tA a (-n)) (tD d (-n)) → Calls Tryz.prog 157 #[.pointer (some ⟨x, 0, none⟩), .pointer (some ⟨y, 0, none⟩)] u fun e u' => e = .returned (.int .i64 (cmpN (tA a (-n)) (tD d (-n)))) ∧ Ext u u') := Lib.hid fun x y u hu => by
    obtain ⟨⟨A1, n1, c1, h1⟩, ⟨B1, m1, k1, h2⟩⟩ := hu
    have := bi_Cmp x 0 y 0 _ _ A1 n1 c1 B1 m1 k1 u h1 h2
    rwa [← cmpN_sign] at this
  obtain ⟨C, hC⟩ : ∃ C, cmpN (tA a (-n)) (tD d (-n)) = C := ⟨_, rfl⟩
  have hres : lgQ a d = if C < 0 then n - 1 else n := by
    unfold lgQ
    rw [hn, ← hC]
    by_cases g : tA a (-n) < tD d (-n)
    · rw [if_pos g, if_pos (by unfold cmpN; rw [if_pos g]; decide)]
    · rw [if_neg g, if_neg (by unfold cmpN; rw [if_neg g]; split <;> decide)]
  rw [hres]
  rw [hC] at KC
  have KA := Lib.hid kA
  have KD := Lib.hid kD
  have hnn := hn
  rw [hn] at hn0
  clear kA kD hx hy hres hC hn ha hd h hba hbd
  have hcb : (decide (C < 0) = true ∧ (if C < 0 then n - 1 else n) = n - 1) ∨ (decide (C < 0) = false ∧ (if C < 0 then n - 1 else n) = n) := by
    by_cases g : C < 0
    · exact .inl ⟨decide_eq_true g, if_pos g⟩
    · exact .inr ⟨decide_eq_false g, if_neg g⟩
  have e1 : (bitsOf a : Int) - (bitsOf d : Int) = n := hnn
  rcases hcb with ⟨dc, rc⟩ | ⟨dc, rc⟩
  all_goals rw [rc]
  all_goals clear rc
  · skip
    go_enter Tryz.func145, Tryz.ntmps145
    go_upto_region 1 with fail
    obtain ⟨W, hW⟩ : ∃ W, W = w.alloc (.cells #[.pointer (some ⟨p, 0, none⟩), .pointer (some ⟨q, 0, none⟩)] 131) := ⟨_, rfl⟩
    obtain ⟨B0, hB0⟩ : ∃ B0, w.heap.size = B0 := ⟨_, rfl⟩
    have xW : Ext w W := by rw [hW]; exact ext_alloc (ext_refl _) _
    have c0 : W.cell? ⟨B0, 0, none⟩ = some (.pointer (some ⟨p, 0, none⟩)) := by rw [hW, ← hB0]; simp [go_sem]
    have c1 : W.cell? ⟨B0, 1, none⟩ = some (.pointer (some ⟨q, 0, none⟩)) := by rw [hW, ← hB0]; simp [go_sem]
    have cl : B0 < W.heap.size := by rw [hW, ← hB0]; simp
    rw [← hW, hB0]
    clear hW hB0
    refine wp_aft (by kernel_rfl) (by kernel_rfl) (fun hq hqf => ?_)
    repeat (go_big_quiet_step (first
      | (go_at_call 103; exact aft_of (KA.out _ (by (repeat (first | exact ext_refl _ | assumption | refine ext_setCell ?_ (by simp; try omega) _ | refine ext_alloc ?_ _ | refine ext_drew ?_ | refine ext_drewN ?_ _ | refine ext_trans ?_ (Aft.use _) | refine ext_trans ?_ (by assumption))))))
      | (go_at_call 103; exact aft_of (KD.out _ (by (repeat (first | exact ext_refl _ | assumption | refine ext_setCell ?_ (by simp; try omega) _ | refine ext_alloc ?_ _ | refine ext_drew ?_ | refine ext_drewN ?_ _ | refine ext_trans ?_ (Aft.use _) | refine ext_trans ?_ (by assumption))))))
      ))
    refine wpQuiet_nil ?_
    rintro _ ⟨nq, rfl⟩
    have xl := ext_lt nq.use
    have xz := ext_size nq.use
    try simp at xz
    have y0 := (Below.cell (p := ⟨B0, 0, none⟩) nq.use cl).trans c0
    have y1 := (Below.cell (p := ⟨B0, 1, none⟩) nq.use cl).trans c1
    have hX := ext_trans xW nq.use
    clear hq hqf c0 c1 cl xW KA KD
    generalize nq.out = W2 at *
    clear nq
    go_wp2_with (first
      | (go_at_call 101; (with_reducible refine (KT.out _ hX).mono ?_); rintro e w3 ⟨x3, y3, rfl, hN3, hE3⟩; have hX3 := ext_trans hX hE3)
      | (go_at_call 157; (with_reducible refine (KC.out _ _ _ hN3.out).mono ?_); rintro e w4 ⟨rfl, hE4⟩; have hX4 := ext_trans hX3 hE4))
    refine bodyPost_ret (v := .int .i64 (n - 1)) ?h rfl ⟨rfl, hX4⟩
    case h => simp [results, Tryz.results145, go_sem]
  · skip
    go_enter Tryz.func145, Tryz.ntmps145
    go_upto_region 1 with fail
    obtain ⟨W, hW⟩ : ∃ W, W = w.alloc (.cells #[.pointer (some ⟨p, 0, none⟩), .pointer (some ⟨q, 0, none⟩)] 131) := ⟨_, rfl⟩
    obtain ⟨B0, hB0⟩ : ∃ B0, w.heap.size = B0 := ⟨_, rfl⟩
    have xW : Ext w W := by rw [hW]; exact ext_alloc (ext_refl _) _
    have c0 : W.cell? ⟨B0, 0, none⟩ = some (.pointer (some ⟨p, 0, none⟩)) := by rw [hW, ← hB0]; simp [go_sem]
    have c1 : W.cell? ⟨B0, 1, none⟩ = some (.pointer (some ⟨q, 0, none⟩)) := by rw [hW, ← hB0]; simp [go_sem]
    have cl : B0 < W.heap.size := by rw [hW, ← hB0]; simp
    rw [← hW, hB0]
    clear hW hB0
    refine wp_aft (by kernel_rfl) (by kernel_rfl) (fun hq hqf => ?_)
    repeat (go_big_quiet_step (first
      | (go_at_call 103; exact aft_of (KA.out _ (by (repeat (first | exact ext_refl _ | assumption | refine ext_setCell ?_ (by simp; try omega) _ | refine ext_alloc ?_ _ | refine ext_drew ?_ | refine ext_drewN ?_ _ | refine ext_trans ?_ (Aft.use _) | refine ext_trans ?_ (by assumption))))))
      | (go_at_call 103; exact aft_of (KD.out _ (by (repeat (first | exact ext_refl _ | assumption | refine ext_setCell ?_ (by simp; try omega) _ | refine ext_alloc ?_ _ | refine ext_drew ?_ | refine ext_drewN ?_ _ | refine ext_trans ?_ (Aft.use _) | refine ext_trans ?_ (by assumption))))))
      ))
    refine wpQuiet_nil ?_
    rintro _ ⟨nq, rfl⟩
    have xl := ext_lt nq.use
    have xz := ext_size nq.use
    try simp at xz
    have y0 := (Below.cell (p := ⟨B0, 0, none⟩) nq.use cl).trans c0
    have y1 := (Below.cell (p := ⟨B0, 1, none⟩) nq.use cl).trans c1
    have hX := ext_trans xW nq.use
    clear hq hqf c0 c1 cl xW KA KD
    generalize nq.out = W2 at *
    clear nq
    go_wp2_with (first
      | (go_at_call 101; (with_reducible refine (KT.out _ hX).mono ?_); rintro e w3 ⟨x3, y3, rfl, hN3, hE3⟩; have hX3 := ext_trans hX hE3)
      | (go_at_call 157; (with_reducible refine (KC.out _ _ _ hN3.out).mono ?_); rintro e w4 ⟨rfl, hE4⟩; have hX4 := ext_trans hX3 hE4))
    refine bodyPost_ret (v := .int .i64 n) ?h rfl ⟨rfl, hX4⟩
    case h => simp [results, Tryz.results145, go_sem]
end Go.Proofs.YtchchnohmmncfaaGreatDoor
end
section
/- Rounding: a fraction rounded to a form. -/
namespace Go.Proofs.YtchchnohmmncfaaGreatDoor
open Go.RowKit
attribute [local go_sem] sz2 sz3 sz4 sz5 sz6 sz7 sz8
set_option maxHeartbeats 8000000
set_option maxRecDepth 100000
attribute [local irreducible] Calls
theorem lg_range {a d : Nat} : (bitsOf a : Int) - bitsOf d - 1 ≤ lgQ a d ∧ lgQ a d ≤ (bitsOf a : Int) - bitsOf d := by
  unfold lgQ
  split <;> omega
theorem t_small {a d F : Nat} {l : Int} (ha : (lim a).length ≤ 100000) (hd : (lim d).length ≤ 100000) (hF : F ≤ 52) (hl : -1100 ≤ l ∨ (bitsOf a : Int) - bitsOf d - 1 ≤ l) (hu : l ≤ 1100 ∨ l ≤ (bitsOf a : Int) - bitsOf d) :
    (lim (tA a (F - l))).length ≤ 400000 ∧ (lim (tD d (F - l))).length ≤ 400000 ∧ -16000000 ≤ (F : Int) - l ∧ (F : Int) - l ≤ 16000000 := by
  have h1 := (lim_bytes a).1
  have h2 := (lim_bytes d).1
  have h3 := bits_shl a ((F : Int) - l).toNat
  have h4 := bits_shl d (-((F : Int) - l)).toNat
  unfold tA tD
  exact ⟨lim_bits (by omega), lim_bits (by omega), by omega, by omega⟩
theorem inf_wrap {E F I : Nat} (hE : E ≤ 11) (hF : F ≤ 52) (h : infQ E F = I) (h2 : 2 ≤ E) : IntKind.u64.wrap (IntKind.u64.wrap ((2 : Int) ^ (E + F)) - IntKind.u64.wrap ((2 : Int) ^ F)) = (I : Int) ∧ 1 ≤ I ∧ I < 9223372036854775808 := by
  have h63 : 2 ^ (E + F) ≤ 2 ^ 63 := Nat.pow_le_pow_right (by decide) (by omega)
  have h63' : (2 : Nat) ^ 63 = 9223372036854775808 := by decide
  have hF0 := Nat.two_pow_pos F
  have hd : 2 ^ F * 4 ≤ 2 ^ (E + F) := by
    have : 2 ^ (F + 2) ≤ 2 ^ (E + F) := Nat.pow_le_pow_right (by decide) (by omega)
    rwa [Nat.pow_add] at this
  have c1 : ((2 : Int) ^ (E + F)) = ((2 ^ (E + F) : Nat) : Int) := by simp
  have c2 : ((2 : Int) ^ F) = ((2 ^ F : Nat) : Int) := by simp
  unfold infQ at h
  rw [c1, c2, IntKind.wrap_u64, IntKind.wrap_u64, IntKind.wrap_u64]
  omega
theorem rung_wrap {m F R : Nat} {low bz : Int} (hF : F ≤ 52) (hm : m ≤ 2 ^ 53) (h : m + (low + bz - 1).toNat * 2 ^ F = R) (h1 : 1 ≤ low + bz) (h2 : low + bz ≤ 2046) : IntKind.u64.wrap ((m : Int) + IntKind.u64.wrap ((low + bz - 1) * (2 : Int) ^ F)) = (R : Int) ∧ R < 18446744073709551616 := by
  obtain ⟨T, hT⟩ : ∃ T : Nat, low + bz - 1 = T := ⟨(low + bz - 1).toNat, by omega⟩
  rw [hT] at h ⊢
  rw [Int.toNat_natCast] at h
  have hp : 2 ^ F ≤ 2 ^ 52 := Nat.pow_le_pow_right (by decide) hF
  have e52 : (2 : Nat) ^ 52 = 4503599627370496 := by decide
  have e53 : (2 : Nat) ^ 53 = 9007199254740992 := by decide
  have hTP : T * 2 ^ F ≤ 2045 * 4503599627370496 := Nat.mul_le_mul (by omega) (by omega)
  have c2 : (T : Int) * ((2 : Int) ^ F) = ((T * 2 ^ F : Nat) : Int) := by simp
  rw [c2, IntKind.wrap_u64, IntKind.wrap_u64]
  omega
theorem low_rng {e bz low : Int} (h : max e (1 - bz) = low) (h1 : 1 ≤ bz ∧ bz ≤ 1023) (h2 : e ≤ 3300000) : -1100 ≤ low ∧ low ≤ 3300000 := by omega
theorem nb_to (p q a d E F mode : Nat) (neg : Bool) (hE : 2 ≤ E ∧ E ≤ 11) (hF : 1 ≤ F ∧ F ≤ 52) (hm : mode ≤ 4) (ha0 : 0 < a) (hd0 : 0 < d) (ha : (lim a).length ≤ 100000) (hd : (lim d).length ≤ 100000) (w : World) (h : NbIs w p q a d) :
    Calls Tryz.prog 131 #[nbV p q, fmV E F, .bool neg, .int .u8 (mode : Int)] w fun e w' => e = .returned (.tuple #[.int .u64 (bitsQ E F mode neg a d : Nat), .int .u8 (flagQ E F mode neg a d : Nat)]) ∧ Ext w w' := by
  obtain ⟨bz, hbz⟩ : ∃ bz, biasF E = bz := ⟨_, rfl⟩
  obtain ⟨e, he⟩ : ∃ e, lgQ a d = e := ⟨_, rfl⟩
  obtain ⟨low, hlo⟩ : ∃ low, lowQ E a d = low := ⟨_, rfl⟩
  have hb2 := bias_two E hE.1
  rw [hbz] at hb2
  have hE11 : 2 ^ E ≤ 2 ^ 11 := Nat.pow_le_pow_right (by decide) hE.2
  have hbr : 1 ≤ bz ∧ bz ≤ 1023 := by
    have : (2 : Nat) ^ 11 = 2048 := by decide
    omega
  have hlg := @lg_range a d
  rw [he] at hlg
  have hlm : max e (1 - bz) = low := by rw [← hlo, ← he, ← hbz]; rfl
  have hbita := (lim_bytes a).1
  have hbitd := (lim_bytes d).1
  have her : -3300000 ≤ e ∧ e ≤ 3300000 := by omega
  obtain ⟨s1, s2, s3, s4⟩ := t_small (F := F) (l := low) ha hd hF.2 (by omega) (by omega)
  obtain ⟨u1, u2, u3, u4⟩ := t_small (F := F) (l := e) ha hd hF.2 (by omega) (by omega)
  have hxd : tD d (F - low) ≠ 0 := Nat.ne_of_gt (Nat.mul_pos hd0 (Nat.two_pow_pos _))
  have hyd : tD d (F - e) ≠ 0 := Nat.ne_of_gt (Nat.mul_pos hd0 (Nat.two_pow_pos _))
  have hml : rdQ mode neg (tA a (F - low)) (tD d (F - low)) ≤ 2 ^ (F + 1) := by
    have h1 := (rdQ_le mode neg (tA a (F - low)) (tD d (F - low))).2
    have h2 := (low_spec (E := E) ha0 hd0).1
    rw [hlo] at h2
    have := man_lt (F := F) hd0 h2
    omega
  have hF53 : 2 ^ (F + 1) ≤ 2 ^ 53 := Nat.pow_le_pow_right (by decide) (by omega)
  have KL : Hid (∀ w', Ext w w' → Calls Tryz.prog 145 #[nbV p q] w' fun e' w'' => e' = .returned (.int .i64 e) ∧ Ext w' w'') := Lib.hid fun w' hh => by
    have := nb_log p q a d hd0 (by omega) (by omega) w' (h.ext hh)
    rwa [he] at this
  have KT := Lib.hid (fun w' (hh : Ext w w') => nb_times p q a d (F - low) (by omega) (by omega) (by omega) w' (h.ext hh))
  have KU := Lib.hid (fun w' (hh : Ext w w') => nb_times p q a d (F - e) (by omega) (by omega) (by omega) w' (h.ext hh))
  have KW : Hid (∀ x y u, NbIs u x y (tA a (F - low)) (tD d (F - low)) → Calls Tryz.prog 146 #[.pointer (some ⟨x, 0, none⟩), .pointer (some ⟨y, 0, none⟩), .bool neg, .int .u8 (mode : Int)] u (WhoPost u (rdQ mode neg (tA a (F - low)) (tD d (F - low))) (decide (tA a (F - low) % tD d (F - low) = 0)))) := Lib.hid fun x y u hu => by
    obtain ⟨⟨A1, n1, c1, h1⟩, ⟨B1, m1, k1, h2⟩⟩ := hu
    exact ro_whole mode hm neg x y _ _ hxd A1 n1 c1 B1 m1 k1 (by have := h1.rd.len; rw [Int.natAbs_natCast] at this; omega) (by have := h2.rd.len; rw [Int.natAbs_natCast] at this; omega) u h1 h2
  have KV : Hid (∀ x y u, NbIs u x y (tA a (F - e)) (tD d (F - e)) → Calls Tryz.prog 146 #[.pointer (some ⟨x, 0, none⟩), .pointer (some ⟨y, 0, none⟩), .bool neg, .int .u8 (mode : Int)] u (WhoPost u (rdQ mode neg (tA a (F - e)) (tD d (F - e))) (decide (tA a (F - e) % tD d (F - e) = 0)))) := Lib.hid fun x y u hu => by
    obtain ⟨⟨A1, n1, c1, h1⟩, ⟨B1, m1, k1, h2⟩⟩ := hu
    exact ro_whole mode hm neg x y _ _ hyd A1 n1 c1 B1 m1 k1 (by have := h1.rd.len; rw [Int.natAbs_natCast] at this; omega) (by have := h2.rd.len; rw [Int.natAbs_natCast] at this; omega) u h1 h2
  obtain ⟨m, hmm⟩ : ∃ m, rdQ mode neg (tA a (F - low)) (tD d (F - low)) = m := ⟨_, rfl⟩
  obtain ⟨sm, hsm⟩ : ∃ sm, decide (tA a (F - low) % tD d (F - low) = 0) = sm := ⟨_, rfl⟩
  obtain ⟨k, hk⟩ : ∃ k, rdQ mode neg (tA a (F - e)) (tD d (F - e)) = k := ⟨_, rfl⟩
  obtain ⟨sk, hsk⟩ : ∃ sk, decide (tA a (F - e) % tD d (F - e) = 0) = sk := ⟨_, rfl⟩
  have hkb0 : bitsOf k ≤ 20000000 := by
    have h1 := (rdQ_le mode neg (tA a (F - e)) (tD d (F - e))).2
    rw [hk] at h1
    have h2 : tA a (F - e) / tD d (F - e) ≤ tA a (F - e) := Nat.div_le_self _ _
    have h3 := (lim_bytes (tA a (F - e))).1
    have h4 := bits_mono (Nat.le_trans h1 (Nat.add_le_add_right h2 1))
    have h5 := bits_succ (tA a (F - e))
    omega
  have hbits : bitsQ E F mode neg a d = if (decide (bz < low) || decide (infQ E F ≤ m + (low + bz - 1).toNat * 2 ^ F)) = true then (if mode = 2 ∨ (mode = 3 ∧ neg = true) ∨ (mode = 4 ∧ neg = false) then infQ E F - 1 else infQ E F) else m + (low + bz - 1).toNat * 2 ^ F := by
    unfold bitsQ overQ rungQ manQ
    rw [hbz, hlo, hmm]
  have hflag : flagQ E F mode neg a d = if (decide (bz < low) || decide (infQ E F ≤ m + (low + bz - 1).toNat * 2 ^ F)) = true then 3 else if sm = true then 0 else if (decide (e < 1 - bz) && (decide (e < -bz) || decide (bitsOf k ≤ F + 1))) = true then 5 else 1 := by
    unfold flagQ overQ underQ rungQ manQ sameQ
    rw [hbz, hlo, hmm, he, hk, hsm]
    cases sm <;> simp
  obtain ⟨fl, hfl⟩ : ∃ fl : Nat, (if sm = true then 0 else if (decide (e < 1 - bz) && (decide (e < -bz) || decide (bitsOf k ≤ F + 1))) = true then 5 else 1) = fl := ⟨_, rfl⟩
  rw [hfl] at hflag
  obtain ⟨I, hI⟩ : ∃ I, infQ E F = I := ⟨_, rfl⟩
  obtain ⟨R, hR⟩ : ∃ R, m + (low + bz - 1).toNat * 2 ^ F = R := ⟨_, rfl⟩
  rw [hI, hR] at hbits hflag
  obtain ⟨BV, hBV⟩ : ∃ BV, bitsQ E F mode neg a d = BV := ⟨_, rfl⟩
  obtain ⟨FV, hFV⟩ : ∃ FV, flagQ E F mode neg a d = FV := ⟨_, rfl⟩
  rw [hBV] at hbits
  rw [hFV] at hflag
  rw [hBV, hFV]
  have HBV := Lib.hid hbits
  have HFV := Lib.hid hflag
  have HI := Lib.hid hI
  have HR := Lib.hid hR
  rw [hmm, hsm] at KW
  rw [hk, hsk] at KV
  rw [hmm] at hml
  generalize tA a (F - low) = xa at *
  generalize tD d (F - low) = xd at *
  generalize tA a (F - e) = ya at *
  generalize tD d (F - e) = yd at *
  have hkb : bitsOf k ≤ 20000000 := hkb0
  clear hmm hsm hk hsk hbits hflag hBV hFV hI hR hxd hyd hbita hbitd hlg hlo he ha0 hd0 ha hd h s1 s2 s3 s4 u1 u2 u3 u4
  obtain ⟨E1, rfl⟩ : ∃ E1, E = E1 + 1 := ⟨E - 1, by omega⟩
  have hw1 : wrap64 ((2 : Int) ^ E1) = bz + 1 := by
    have h1 : biasF (E1 + 1) = (2 : Int) ^ E1 - 1 := rfl
    rw [hbz] at h1
    rw [show (2 : Int) ^ E1 = bz + 1 by omega]
    unfold wrap64; omega
  have hbz1 := hbr.1
  have hbz2 := hbr.2
  have he1 := her.1
  have he2 := her.2
  have hlo1 := (low_rng hlm hbr her.2).1
  have hlo2 := (low_rng hlm hbr her.2).2
  have hF1 := hF.1
  have hF2 := hF.2
  have HB2 := Lib.hid hb2
  have HML := Lib.hid hml
  have HF53 := Lib.hid hF53
  have HE11 := Lib.hid hE11
  have HLM := Lib.hid hlm
  have HFL := Lib.hid hfl
  have hor : bits BinOp.or IntKind.u8 1 4 = 5 := by decide
  clear hfl
  clear hbr her hbz hb2 hml hF53 hE11
  go_enter Tryz.func131, Tryz.ntmps131
  go_upto_region 2 with fail
  obtain ⟨W, hW⟩ : ∃ W, W = (w.alloc (.cells #[.pointer (some ⟨p, 0, none⟩), .pointer (some ⟨q, 0, none⟩)] 131)).alloc (.cells #[.int .i64 ((E1 : Int) + 1), .int .i64 (F : Int)] 47) := ⟨_, rfl⟩
  obtain ⟨B0, hB0⟩ : ∃ B0, w.heap.size = B0 := ⟨_, rfl⟩
  have xW : Hid (Ext w W) := by show Ext w W; rw [hW]; exact ext_alloc (ext_alloc (ext_refl _) _) _
  have bx : Hid (∀ u, Ext W u → u.cell? ⟨B0, 0, none⟩ = some (.pointer (some ⟨p, 0, none⟩)) ∧ u.cell? ⟨B0, 1, none⟩ = some (.pointer (some ⟨q, 0, none⟩)) ∧ u.cell? ⟨B0 + 1, 0, none⟩ = some (.int .i64 ((E1 : Int) + 1)) ∧ u.cell? ⟨B0 + 1, 1, none⟩ = some (.int .i64 (F : Int)) ∧ B0 + 1 < u.heap.size) := Lib.hid fun u hu => by
    have l1 : B0 + 1 < W.heap.size := by rw [hW, ← hB0]; simp
    have l0 : B0 < W.heap.size := by omega
    refine ⟨(Below.cell (p := ⟨B0, 0, none⟩) hu l0).trans ?_, (Below.cell (p := ⟨B0, 1, none⟩) hu l0).trans ?_, (Below.cell (p := ⟨B0 + 1, 0, none⟩) hu l1).trans ?_, (Below.cell (p := ⟨B0 + 1, 1, none⟩) hu l1).trans ?_, Nat.lt_of_lt_of_le l1 (ext_size hu)⟩
    all_goals (rw [hW, ← hB0]; simp [go_sem])
  obtain ⟨c0, c1, c2, c3, cl⟩ := bx.out W (ext_refl _)
  rw [← hW, hB0]
  clear hW hB0
  go_upto_if 51 with (first
    | (go_at_call 145; (with_reducible refine (KL.out _ (by have q := xW.out; (repeat (first | exact ext_refl _ | assumption | refine ext_setCell ?_ (by simp; try omega) _ | refine ext_alloc ?_ _ | refine ext_drew ?_ | refine ext_drewN ?_ _ | refine ext_trans ?_ (Aft.use _) | refine ext_trans ?_ (by assumption))))).mono ?_); rintro e1 w1 ⟨rfl, hE1⟩; have hX1 : Ext W w1 := (by have q := hE1; (repeat (first | exact ext_refl _ | assumption | refine ext_setCell ?_ (by simp; try omega) _ | refine ext_alloc ?_ _ | refine ext_drew ?_ | refine ext_drewN ?_ _ | refine ext_trans ?_ (Aft.use _) | refine ext_trans ?_ (by assumption)))); obtain ⟨c0, c1, c2, c3, cl⟩ := bx.out _ hX1)
    | (go_at_call 101; (with_reducible refine (KT.out _ (ext_trans xW.out hX1)).mono ?_); rintro e1 w2 ⟨x2, y2, rfl, hN2, hE2⟩; have hX2 := ext_trans hX1 hE2; obtain ⟨c0, c1, c2, c3, cl⟩ := bx.out _ hX2)
    | (go_at_call 146; (with_reducible refine (KW.out _ _ _ hN2.out).mono ?_); rintro e1 w3 ⟨b3, Q3, n3, k3, rfl, hI3, hE3⟩; have hX3 := ext_trans hX2 hE3; obtain ⟨c0, c1, c2, c3, cl⟩ := bx.out _ hX3))
  go_cut [17] (fun v wx => v = .int .u8 (fl : Int) ∧ Hid (Ext w3 wx))
  case first =>
    have hfl := HFL.out
    cases sm with
    | true =>
      rw [if_pos rfl] at hfl
      subst hfl
      go_wp2
      go_meet
      case rel => exact ⟨rfl, ext_refl _⟩
    | false =>
      rw [if_neg (by decide)] at hfl
      by_cases g : e < 1 - bz
      · have dg : decide (e < 1 - bz) = true := decide_eq_true g
        rw [dg, Bool.true_and] at hfl
        go_upto_region 12 with (first
          | (go_at_call 101; (with_reducible refine (KU.out _ (ext_trans xW.out hX3)).mono ?_); rintro e1 w4 ⟨x4, y4, rfl, hN4, hE4⟩; have hX4 := ext_trans hX3 hE4; have hY4 := hE4; obtain ⟨c0, c1, c2, c3, cl⟩ := bx.out _ hX4)
          | (go_at_call 146; (with_reducible refine (KV.out _ _ _ hN4.out).mono ?_); rintro e1 w5 ⟨b5, Q5, n5, k5, rfl, hI5, hE5⟩; have hX5 := ext_trans hX4 hE5; have hY5 := ext_trans hY4 hE5; obtain ⟨c0, c1, c2, c3, cl⟩ := bx.out _ hX5))
        by_cases g2 : e < -bz
        · have dg2 : decide (e < -bz) = true := decide_eq_true g2
          rw [dg2, Bool.true_or, if_pos rfl] at hfl
          subst hfl
          refine wp_aft (by kernel_rfl) (by kernel_rfl) (fun hq hqf => ?_)
          repeat (go_big_quiet_step (first | fail
            ))
          refine wpQuiet_nil ?_
          rintro _ ⟨nq, rfl⟩
          have xl := ext_lt nq.use
          have xz := ext_size nq.use
          try simp at xz
          have hX6 := ext_trans hY5 nq.use
          clear hq hqf
          generalize nq.out = W6 at *
          go_wp2
          go_meet
          case rel => exact ⟨rfl, hX6⟩
        · have dg2 : decide (e < -bz) = false := decide_eq_false g2
          rw [dg2, Bool.false_or] at hfl
          have kB := Lib.hid (fun u (hu : Ext w5 u) => bi_BitLen b5 0 (k : Int) Q5 n5 k5 (by have := hI5.out.rd.len; rw [Int.natAbs_natCast] at this; have := (lim_bytes k).1; omega) u (hI5.out.ext hu))
          rw [Int.natAbs_natCast] at kB
          obtain ⟨bk, hbk⟩ : ∃ bk, bitsOf k = bk := ⟨_, rfl⟩
          rw [hbk] at kB hfl
          have hbk2 : (bk : Int) ≤ 20000000 := by rw [← hbk]; omega
          clear hbk
          by_cases g3 : bk ≤ F + 1
          · have p3 : (bk : Int) ≤ (F : Int) + 1 := by omega
            have d3 : decide ((bk : Int) ≤ (F : Int) + 1) = true := decide_eq_true p3
            rw [decide_eq_true g3, if_pos rfl] at hfl
            subst hfl
            refine wp_aft (by kernel_rfl) (by kernel_rfl) (fun hq hqf => ?_)
            repeat (go_big_quiet_step (first
              | (go_at_call 103; exact aft_of (kB.out _ (by (repeat (first | exact ext_refl _ | assumption | refine ext_setCell ?_ (by simp; try omega) _ | refine ext_alloc ?_ _ | refine ext_drew ?_ | refine ext_drewN ?_ _ | refine ext_trans ?_ (Aft.use _) | refine ext_trans ?_ (by assumption))))))
              ))
            refine wpQuiet_nil ?_
            rintro _ ⟨nq, rfl⟩
            have xl := ext_lt nq.use
            have xz := ext_size nq.use
            try simp at xz
            have hX6 := ext_trans hY5 nq.use
            clear hq hqf
            generalize nq.out = W6 at *
            go_wp2
            go_meet
            case rel => exact ⟨rfl, hX6⟩
          · have p3 : ¬ (bk : Int) ≤ (F : Int) + 1 := by omega
            have d3 : decide ((bk : Int) ≤ (F : Int) + 1) = false := decide_eq_false p3
            rw [decide_eq_false g3, if_neg (by decide)] at hfl
            subst hfl
            refine wp_aft (by kernel_rfl) (by kernel_rfl) (fun hq hqf => ?_)
            repeat (go_big_quiet_step (first
              | (go_at_call 103; exact aft_of (kB.out _ (by (repeat (first | exact ext_refl _ | assumption | refine ext_setCell ?_ (by simp; try omega) _ | refine ext_alloc ?_ _ | refine ext_drew ?_ | refine ext_drewN ?_ _ | refine ext_trans ?_ (Aft.use _) | refine ext_trans ?_ (by assumption))))))
              ))
            refine wpQuiet_nil ?_
            rintro _ ⟨nq, rfl⟩
            have xl := ext_lt nq.use
            have xz := ext_size nq.use
            try simp at xz
            have hX6 := ext_trans hY5 nq.use
            clear hq hqf
            generalize nq.out = W6 at *
            go_wp2
            go_meet
            case rel => exact ⟨rfl, hX6⟩
      · have dg : decide (e < 1 - bz) = false := decide_eq_false g
        rw [dg, Bool.false_and, if_neg (by decide)] at hfl
        subst hfl
        go_wp2
        go_meet
        case rel => exact ⟨rfl, ext_refl _⟩
  case rest =>
    obtain ⟨rfl, hY7⟩ := hcut
    obtain ⟨w7, rfl⟩ : ∃ u, u = wc := ⟨wc, rfl⟩
    have hX7 := Lib.hid (ext_trans hX3 hY7.out)
    have hI7 := Lib.hid (hI3.out.ext hY7.out)
    obtain ⟨c0, c1, c2, c3, cl⟩ := bx.out _ hX7.out
    have hm54 : m < 18446744073709551616 := by
      have h1 := HML.out
      have h2 := HF53.out
      have h3 : (2 : Nat) ^ 53 = 9007199254740992 := by decide
      omega
    have kI := Lib.hid (fun u (hu : Ext w7 u) => bi_Uint64 b3 0 m Q3 n3 k3 hm54 u (hI7.out.ext hu))
    clear hI3 hX3 hY7 hE3 hE2 hX2 hX1 hE1 hN2 KL KT KU KW KV
    go_upto_region 14 with fail
    refine wp_aft (by kernel_rfl) (by kernel_rfl) (fun hq hqf => ?_)
    repeat (go_big_quiet_step (first
      | (go_at_call 147; exact aft_of (kI.out _ (by (repeat (first | exact ext_refl _ | assumption | refine ext_setCell ?_ (by simp; try omega) _ | refine ext_alloc ?_ _ | refine ext_drew ?_ | refine ext_drewN ?_ _ | refine ext_trans ?_ (Aft.use _) | refine ext_trans ?_ (by assumption))))))
      ))
    refine wpQuiet_nil ?_
    rintro _ ⟨nq, rfl⟩
    have xl := ext_lt nq.use
    have xz := ext_size nq.use
    try simp at xz
    have hX8 := Lib.hid (ext_trans hX7.out nq.use)
    clear hq hqf kI hI7 hX7
    generalize nq.out = w8 at *
    clear nq
    obtain ⟨c0, c1, c2, c3, cl⟩ := bx.out _ hX8.out
    go_upto_region 15 with fail
    refine wp_aft (by kernel_rfl) (by kernel_rfl) (fun hq hqf => ?_)
    repeat (go_big_quiet_step (first | fail
      ))
    refine wpQuiet_nil ?_
    rintro _ ⟨nq, rfl⟩
    have xl := ext_lt nq.use
    have xz := ext_size nq.use
    try simp at xz
    have hX9 := Lib.hid (ext_trans hX8.out nq.use)
    clear hq hqf hX8
    generalize nq.out = w9 at *
    clear nq
    obtain ⟨eI, hI1, hI2⟩ := inf_wrap hE.2 hF2 HI.out hE.1
    rw [eI]
    have iI1 : (1 : Int) ≤ (I : Int) := by omega
    have iI2 : (I : Int) < 9223372036854775808 := by omega
    have hFin := Lib.hid (ext_trans xW.out hX9.out)
    clear c0 c1 c2 c3 cl bx xW hX9 HFL hw1 hor HI
    by_cases gA : bz < low
    · have dA : decide (bz < low) = true := decide_eq_true gA
      have hb := HBV.out
      have hf := HFV.out
      rw [dA, Bool.true_or, if_pos rfl] at hb hf
      clear HBV HFV HR HML HF53 HB2 HE11 HLM hlm
      have eS : ((I - 1 : Nat) : Int) = (I : Int) - 1 := by omega
      rcases (by omega : mode = 0 ∨ mode = 1 ∨ mode = 2 ∨ mode = 3 ∨ mode = 4) with rfl | rfl | rfl | rfl | rfl
      all_goals cases neg
      all_goals simp at hb
      all_goals (have HB := Lib.hid hb; have HF := Lib.hid hf; clear hb hf)
      all_goals go_wp2
      all_goals first
        | (refine bodyPost_ret (v := .tuple #[.int .u64 (I : Int), .int .u8 3]) (by simp [results, Tryz.results131, go_sem]; done) rfl ⟨by rw [HB.out, HF.out]; rfl, hFin.out⟩)
        | (refine bodyPost_ret (v := .tuple #[.int .u64 ((I : Int) - 1), .int .u8 3]) (by simp [results, Tryz.results131, go_sem]; done) rfl ⟨by rw [HB.out, HF.out, eS]; rfl, hFin.out⟩)
    · have dA : decide (bz < low) = false := decide_eq_false gA
      have hb := HBV.out
      have hf := HFV.out
      rw [dA, Bool.false_or] at hb hf
      have hlz : 1 ≤ low + bz := by have := HLM.out; omega
      obtain ⟨eR, hR2⟩ := rung_wrap hF2 (Nat.le_trans HML.out HF53.out) HR.out hlz (by omega)
      rw [eR]
      have iR2 : (R : Int) < 18446744073709551616 := by omega
      clear HBV HFV HR HML HF53 HB2 HE11 HLM eR eI hlz
      by_cases gB : I ≤ R
      · have pB : (I : Int) ≤ (R : Int) := by omega
        have dB : decide ((I : Int) ≤ (R : Int)) = true := decide_eq_true pB
        have dB2 : decide (I ≤ R) = true := decide_eq_true gB
        rw [dB2, if_pos rfl] at hb hf
        clear hlm
        have eS : ((I - 1 : Nat) : Int) = (I : Int) - 1 := by omega
        rcases (by omega : mode = 0 ∨ mode = 1 ∨ mode = 2 ∨ mode = 3 ∨ mode = 4) with rfl | rfl | rfl | rfl | rfl
        all_goals cases neg
        all_goals simp at hb
        all_goals (have HB := Lib.hid hb; have HF := Lib.hid hf; clear hb hf)
        all_goals go_wp2
        all_goals first
          | (refine bodyPost_ret (v := .tuple #[.int .u64 (I : Int), .int .u8 3]) (by simp [results, Tryz.results131, go_sem]; done) rfl ⟨by rw [HB.out, HF.out]; rfl, hFin.out⟩)
          | (refine bodyPost_ret (v := .tuple #[.int .u64 ((I : Int) - 1), .int .u8 3]) (by simp [results, Tryz.results131, go_sem]; done) rfl ⟨by rw [HB.out, HF.out, eS]; rfl, hFin.out⟩)
      · have pB : ¬ (I : Int) ≤ (R : Int) := by omega
        have dB : decide ((I : Int) ≤ (R : Int)) = false := decide_eq_false pB
        have dB2 : decide (I ≤ R) = false := decide_eq_false gB
        rw [dB2, if_neg (by decide)] at hb hf
        clear hlm
        have HB := Lib.hid hb
        have HF := Lib.hid hf
        clear hb hf
        go_wp2
        refine bodyPost_ret (v := .tuple #[.int .u64 ↑R, .int .u8 ↑fl]) ?h rfl ⟨by rw [HB.out, HF.out], hFin.out⟩
        case h => simp [results, Tryz.results131, go_sem]
end Go.Proofs.YtchchnohmmncfaaGreatDoor
end
section
/- Rounding: limbs as a number of the library's. -/
namespace Go.Proofs.YtchchnohmmncfaaGreatDoor
open Go.RowKit
attribute [local go_sem] sz2 sz3 sz4 sz5 sz6 sz7 sz8
set_option maxHeartbeats 8000000
set_option maxRecDepth 100000
attribute [local irreducible] Calls
abbrev LaPost (w : World) (a : Nat) : Ending → World → Prop := fun e w' => ∃ (b : Nat) (B : Option Addr) (k l : Nat), e = .returned (.pointer (some ⟨b, 0, none⟩)) ∧ Hid (IntIs w' b 0 (a : Int) B k l) ∧ w.heap.size ≤ b ∧ Ext w w' ∧ Hid (Fr w B)
theorem lim_getD_lt (a i : Nat) : (lim a).getD i 0 < 4294967296 := by
  rw [limb_at]; exact Nat.mod_lt _ (by decide)
theorem drop_step (a i : Nat) : a / Bs ^ i = a / Bs ^ (i + 1) * 4294967296 + (lim a).getD i 0 := by
  rw [limb_at, Nat.pow_succ, ← Nat.div_div_eq_div_mul]
  have := Nat.div_add_mod (a / Bs ^ i) Bs
  have e : Bs = 4294967296 := rfl
  rw [e] at this ⊢
  omega
theorem zero_int (w : World) : IntIs (w.alloc ZeroI) w.heap.size 0 ((0 : Nat) : Int) none 0 0 :=
  ⟨int_room w, by simp [go_sem], by simp [go_sem], by show Rd _ _ _ _ (lim 0); rw [lim_zero]; exact Rd.nil _, fun x h => by cases h⟩
/-- While a number is put together in block b: all else is as it was in W. -/
structure StL (W : World) (b : Nat) (u : World) (v L : Nat) : Prop where
  is : ∃ X k l, IntIs u b 0 (v : Int) X k l
  tch : Tch b W u
  le : (lim v).length ≤ L
def OneL (W : World) (b : Nat) (u : World) (g c : Nat) : Prop := ∃ Y m k, IntIs u g 0 (c : Int) Y m k ∧ g ≠ b ∧ Off Y m b
theorem stL_lsh (W : World) (b v L : Nat) (hL : L ≤ 450000) (u : World) (h : StL W b u v L) :
    Calls Tryz.prog 126 #[.pointer (some ⟨b, 0, none⟩), .pointer (some ⟨b, 0, none⟩), .int .u64 32] u fun e u' => e = .returned (.pointer (some ⟨b, 0, none⟩)) ∧ Hid (StL W b u' (v * 4294967296) (L + 1)) ∧ Hid (∀ g c, OneL W b u g c → OneL W b u' g c) := by
  obtain ⟨⟨X, k, l, hx⟩, ht, hl⟩ := h
  have hk : k = (lim v).length := by have := hx.rd.len; rw [Int.natAbs_natCast] at this; exact this.symm
  refine (bi_Lsh b 0 b 0 (v : Int) 32 X k l (by omega) (by decide) u hx.room hx).mono ?_
  rintro e u' ⟨he, X', k', l', hI, xt⟩
  have e0 : (2 : Int) ^ 32 = 4294967296 := by decide
  have e1 : (v : Int) * 2 ^ 32 = ((v * 4294967296 : Nat) : Int) := by rw [e0]; omega
  rw [e1] at hI
  refine ⟨he, ⟨⟨X', k', l', hI.out.1⟩, ht.trans xt, ?_⟩, fun g c hg => ?_⟩
  · by_cases h0 : v = 0
    · subst h0; rw [Nat.zero_mul]; omega
    · rw [lim_shl v h0, List.length_cons]; omega
  · obtain ⟨Y, m, kk, hy, hgb, ho⟩ := hg
    exact ⟨Y, m, kk, hy.tch xt hgb ho, hgb, ho⟩
theorem stL_new (W : World) (b v L c : Nat) (hc : c < 4294967296) (u : World) (h : StL W b u v L) :
    Calls Tryz.prog 100 #[.int .i64 (c : Int)] u fun e u' => ∃ g, e = .returned (.pointer (some ⟨g, 0, none⟩)) ∧ Hid (StL W b u' v L) ∧ Hid (OneL W b u' g c) := by
  obtain ⟨⟨X, k, l, hx⟩, ht, hl⟩ := h
  refine (bi_NewInt (c : Int) (by omega) (by omega) u).mono ?_
  rintro e u' ⟨g, B, k2, l2, he, hI, hg, hE⟩
  have hb := hx.room.lt
  exact ⟨g, he, ⟨⟨X, k, l, hx.ext hE⟩, ht.trans (Tch.of hE), hl⟩, ⟨B, k2, l2, hI.out.1, by omega, hI.out.2.off hb k2⟩⟩
theorem stL_or (W : World) (b v L g c : Nat) (hL : L ≤ 450001) (hc : c < 4294967296) (u : World) (h : StL W b u (v * 4294967296) L) (ho : OneL W b u g c) :
    Calls Tryz.prog 127 #[.pointer (some ⟨b, 0, none⟩), .pointer (some ⟨b, 0, none⟩), .pointer (some ⟨g, 0, none⟩)] u fun e u' => e = .returned (.pointer (some ⟨b, 0, none⟩)) ∧ Hid (∃ X k l, IntIs u' b 0 ((v * 4294967296 + c : Nat) : Int) X k l ∧ Fr W X) ∧ Hid (Tch b W u') := by
  obtain ⟨⟨X, k, l, hx⟩, ht, hl⟩ := h
  obtain ⟨Y, m, kk, hy, _, _⟩ := ho
  have hk : k = (lim (v * 4294967296)).length := by have := hx.rd.len; rw [Int.natAbs_natCast] at this; exact this.symm
  refine (bi_Or b 0 b 0 g 0 v c hc X k l Y m kk (by omega) u hx.room hx hy).mono ?_
  rintro e u' ⟨he, X', k', l', hI, xt⟩
  exact ⟨he, ⟨X', k', l', hI.out.1, fun x hx => Nat.le_trans ht.size (hI.out.2 x hx)⟩, ht.trans xt⟩
theorem ro_large (a : Nat) (A : Option Addr) (n c : Nat) (hn : n ≤ 400000) (w : World) (hA : Rd w A n c (lim a)) :
    Calls Tryz.prog 99 #[natV A n c] w (LaPost w a) := by
  have hlen := hA.len
  have HA := Lib.hid hA
  have hmx := hA.mx
  have hcap := hA.cap
  have hz : a / Bs ^ n = 0 := by rw [← hlen]; exact Nat.div_eq_of_lt (lim_lt a)
  have HZ := Lib.hid hz
  have HL := Lib.hid hlen
  clear hA hz hlen
  go_enter Tryz.func99, Tryz.ntmps99
  go_upto_region 3 with fail
  obtain ⟨b, hb⟩ : ∃ b, w.heap.size + 1 = b := ⟨_, rfl⟩
  obtain ⟨W, hW⟩ : ∃ W, W = (w.alloc (.cells #[.slice A n c] 88)).alloc (.cells #[.bool false, .slice none 0 0] 149) := ⟨_, rfl⟩
  obtain ⟨B0, hB0⟩ : ∃ B0, w.heap.size = B0 := ⟨_, rfl⟩
  have xW : Hid (Ext w W) := by show Ext w W; rw [hW]; exact ext_alloc (ext_alloc (ext_refl _) _) _
  have hI0 : Hid (IntIs W b 0 ((0 : Nat) : Int) none 0 0) := by
    rw [hW, ← hb]
    have := zero_int (w.alloc (.cells #[.slice A n c] 88))
    have es : (w.alloc (.cells #[.slice A n c] 88)).heap.size = w.heap.size + 1 := by simp
    rw [es] at this
    exact this
  have c0 : W.cell? ⟨B0, 0, none⟩ = some (.slice A n c) := by rw [hW, ← hB0]; simp [go_sem]
  have cl : B0 < W.heap.size := by rw [hW, ← hB0]; simp; try omega
  have hne : B0 ≠ b := by omega
  have hbW : b < W.heap.size := by rw [hW, ← hb]; simp; try omega
  have hAb : Hid (∀ x, A = some x → 0 < n → x.block ≠ b) := Lib.hid fun x hx hp => by
    rcases HA.out.shape with ⟨h1, _⟩ | ⟨bb, oo, h1⟩
    · rw [h1] at hx; cases hx
    · subst h1
      cases hx
      have := (HA.out.cells bb oo rfl 0 (by have := HL.out; omega)).1
      show bb ≠ b
      omega
  rw [← hW, hb, hB0]
  have HW1 : Hid (w.heap.size ≤ b) := by show _ ≤ _; omega
  clear hW hb hB0
  go_loopw [4] (fun vi wr => ∃ j : Nat, j ≤ n ∧ vi = .int .i64 ((n : Int) - 1 - (j : Int)) ∧ Hid (∃ X k l, IntIs wr b 0 ((a / Bs ^ (n - j) : Nat) : Int) X k l ∧ Fr w X) ∧ Hid (Tch b W wr)) (fun vi _ => (intOf vi + 1).toNat)
  case atStart => exact ⟨0, Nat.zero_le _, by simp, ⟨_, _, _, by rw [Nat.sub_zero, HZ.out]; exact hI0.out, fun x hx => by cases hx⟩, Tch.refl _ _⟩
  case round =>
    obtain ⟨j, hj, rfl, hI, ht⟩ := hrel
    have hE := Lib.hid (ht.out.ext xW.out HW1.out)
    have y0 := (ht.out.cell (p := ⟨B0, 0, none⟩) cl hne).trans c0
    have yl : B0 < wr.heap.size := Nat.lt_of_lt_of_le cl ht.out.size
    by_cases hlt : j < n
    · obtain ⟨i, hi⟩ : ∃ i, n - 1 - j = i := ⟨_, rfl⟩
      have hin : i < n := by omega
      have e1 : (n : Int) - 1 - (j : Int) = (i : Int) := by omega
      have e2 : n - j = i + 1 := by omega
      have e3 : n - (j + 1) = i := by omega
      obtain ⟨x, hx⟩ : ∃ x, (lim a).getD i 0 = x := ⟨_, rfl⟩
      have hxb : x < 4294967296 := by rw [← hx]; exact lim_getD_lt a i
      obtain ⟨v, hv⟩ : ∃ v, a / Bs ^ (i + 1) = v := ⟨_, rfl⟩
      have hvs : a / Bs ^ i = v * 4294967296 + x := by rw [← hv, ← hx]; exact drop_step a i
      rcases HA.out.shape with ⟨_, q0, _⟩ | ⟨ba, oa, rfl⟩
      · omega
      · obtain ⟨hb1, hc1⟩ := (HA.out.ext hE.out).cells ba oa rfl i (by have := HL.out; omega)
        have hc2 : wr.cell? ⟨ba, oa + i, none⟩ = some (.int .u32 (x : Int)) := by
          rw [hc1, ← hx, List.getD_eq_getElem?_getD, List.getElem?_eq_getElem (by have := HL.out; omega)]; rfl
        have hbab : ba ≠ b := hAb.out _ rfl (by omega)
        rw [e2, hv] at hI
        have hS : Hid (StL wr b wr v 400000) := Lib.hid ⟨by obtain ⟨X, kk, l, h, _⟩ := hI.out; exact ⟨X, kk, l, h⟩, Tch.refl _ _, by
          have h1 : v ≤ a := by rw [← hv]; exact Nat.div_le_self _ _
          have := lim_mono h1
          have := HL.out
          omega⟩
        have KS := Lib.hid (fun u v' L (h : StL wr b u v' L) => show u.cell? ⟨B0, 0, none⟩ = some (.slice (some ⟨ba, oa, none⟩) n c) ∧ u.cell? ⟨ba, oa + i, none⟩ = some (.int .u32 (x : Int)) from ⟨(h.tch.cell (p := ⟨B0, 0, none⟩) yl hne).trans y0, (h.tch.cell (p := ⟨ba, oa + i, none⟩) hb1 hbab).trans hc2⟩)
        have KL := Lib.hid (fun u v' (h : StL wr b u v' 400000) => stL_lsh wr b v' 400000 (by decide) u h)
        have KN := Lib.hid (fun u v' L (h : StL wr b u v' L) => stL_new wr b v' L x hxb u h)
        have KO := Lib.hid (fun u g (h : StL wr b u (v * 4294967296) 400001) (ho : OneL wr b u g x) => stL_or wr b v 400001 g x (by decide) hxb u h ho)
        have hSd : Hid (∀ k : Nat, StL wr b (wr.drewN k) v 400000) := Lib.hid fun k => ⟨by obtain ⟨X, kk, l, h, _⟩ := hI.out; exact ⟨X, kk, l, h.ext (ext_drewN (ext_refl _) _)⟩, Tch.of (ext_drewN (ext_refl _) _), hS.out.le⟩
        rw [e1]
        have hii : (i : Int) < (n : Int) := by omega
        have hxi : (x : Int) < 4294967296 := by omega
        have hxw : IntKind.i64.wrap (x : Int) = (x : Int) := by rw [IntKind.wrap_i64]; omega
        have hi0 : (0 : Int) ≤ (i : Int) := by omega
        have hSZ : Hid (w.heap.size ≤ wr.heap.size) := hE.out.size
        clear hx hv hi hE hc1 e2
        have e1' := Lib.hid e1
        clear e1
        go_upto_region 5 with fail
        obtain ⟨w5, hw5⟩ : ∃ u, u = wr := ⟨wr, rfl⟩
        have hS1 : Hid (StL wr b wr.drew v 400000) := hSd.out 1
        have hS2 : Hid (StL wr b wr.drew.drew v 400000) := hSd.out 2
        have hS3 : Hid (StL wr b wr.drew.drew.drew v 400000) := hSd.out 3
        have hS4 : Hid (StL wr b wr.drew.drew.drew.drew v 400000) := hSd.out 4
        have hS5 := hSd.out
        go_region_law (go_simp; first
          | (go_at_call 127; (with_reducible refine (KO.out _ _ hS.out hO.out).mono ?_); rintro e u3 ⟨rfl, hI3, ht3⟩)
          | (go_at_call 126; (with_reducible refine (KL.out _ _ (by first | exact hS.out | exact hS1.out | exact hS2.out | exact hS3.out | exact hS4.out | exact hS5 _)).mono ?_); rintro e u1 ⟨rfl, hS, hkp⟩; (try (have hO := Lib.hid (hkp.out _ _ hO.out))); obtain ⟨y0, y1⟩ := KS.out _ _ _ hS.out)
          | (go_at_call 100; (with_reducible refine (KN.out _ _ _ (by first | exact hS.out | exact hS1.out | exact hS2.out | exact hS3.out | exact hS4.out | exact hS5 _)).mono ?_); rintro e u2 ⟨g, rfl, hS, hO⟩; obtain ⟨y0, y1⟩ := KS.out _ _ _ hS.out))
        all_goals go_wp2
        all_goals refine ⟨⟨j + 1, by omega, by congr 1; omega, ?_, ht.out.trans ht3.out⟩, by simp [intOf] <;> omega⟩
        all_goals (rw [e3, hvs]; obtain ⟨X, kk, l, h1, h2⟩ := hI3.out; exact ⟨X, kk, l, h1, fun x hx => Nat.le_trans hSZ.out (h2 x hx)⟩)
    · obtain rfl : j = n := by omega
      have e1 : (j : Int) - 1 - (j : Int) = -1 := by omega
      rw [e1]
      have hn1 : ¬ (0 : Int) ≤ -1 := by omega
      have hfin : Hid (∃ X k l, IntIs wr b 0 (a : Int) X k l ∧ Fr w X) := by
        have := hI.out
        rw [Nat.sub_self, Nat.pow_zero, Nat.div_one] at this
        exact Lib.hid this
      obtain ⟨X, k, l, hX, hFr⟩ := hfin.out
      clear hI hfin
      go_wp2
      refine bodyPost_ret (v := .pointer (some ⟨b, 0, none⟩)) ?h rfl ⟨b, X, k, l, rfl, hX, HW1.out, hE.out, hFr⟩
      case h => simp [results, Tryz.results99, go_sem]
end Go.Proofs.YtchchnohmmncfaaGreatDoor
end
section
/- Rounding: a fraction with a sign; near; a fraction times a power of ten that is 1. -/
namespace Go.Proofs.YtchchnohmmncfaaGreatDoor
open Go.RowKit
attribute [local go_sem] sz2 sz3 sz4 sz5 sz6 sz7 sz8
set_option maxHeartbeats 8000000
set_option maxRecDepth 100000
attribute [local irreducible] Calls
/-- The float's bits with its sign; nought has the sign neg. -/
def bitsS (E F mode : Nat) (below neg : Bool) (a d : Nat) : Nat :=
  if a = 0 then (if neg = true then 2 ^ (E + F) else 0) else bitsQ E F mode below a d + (if below = true then 2 ^ (E + F) else 0)
def flagS (E F mode : Nat) (below : Bool) (a d : Nat) : Nat := if a = 0 then 0 else flagQ E F mode below a d
theorem or_sign {x k : Nat} (h : x < 2 ^ k) (hk : k ≤ 63) : bits BinOp.or IntKind.u64 (x : Int) ((2 ^ k : Nat) : Int) = ((x + 2 ^ k : Nat) : Int) := by
  have h63 : 2 ^ k ≤ 2 ^ 63 := Nat.pow_le_pow_right (by decide) hk
  have e63 : (2 : Nat) ^ 63 = 9223372036854775808 := by decide
  rw [bits_or64 x (2 ^ k) (by omega) (by omega)]
  congr 1
  have := Nat.two_pow_add_eq_or_of_lt h 1
  rw [Nat.mul_one] at this
  rw [Nat.or_comm, ← this, Nat.add_comm]
theorem bitsQ_lt {E F mode : Nat} {neg : Bool} {a d : Nat} (hE : 2 ≤ E) : bitsQ E F mode neg a d < 2 ^ (E + F) := by
  have h1 := inf_lt E F
  unfold bitsQ
  split
  · split <;> omega
  · rename_i h
    unfold overQ at h
    simp only [Bool.or_eq_true, decide_eq_true_eq, not_or] at h
    omega
theorem ro_signed (p q a d E F mode : Nat) (below neg : Bool) (hE : 2 ≤ E ∧ E ≤ 11) (hF : 1 ≤ F ∧ F ≤ 52) (hm : mode ≤ 4) (hd0 : 0 < d) (ha : (lim a).length ≤ 100000) (hd : (lim d).length ≤ 100000) (w : World) (h : NbIs w p q a d) :
    Calls Tryz.prog 104 #[fmV E F, nbV p q, .bool below, .bool neg, .int .u8 (mode : Int)] w fun e w' => e = .returned (.tuple #[.int .u64 (bitsS E F mode below neg a d : Nat), .int .u8 (flagS E F mode below a d : Nat), .int .i64 0]) ∧ Ext w w' := by
  obtain ⟨⟨A, n, c, hx⟩, hden⟩ := id h
  have KS := Lib.hid (fun w' (he : Ext w w') => bi_Sign p 0 (a : Int) A n c w' (hx.ext he))
  obtain ⟨P, hP⟩ : ∃ P, 2 ^ (E + F) = P := ⟨_, rfl⟩
  have hP63 : P ≤ 9223372036854775808 := by
    have h63 : 2 ^ (E + F) ≤ 2 ^ 63 := Nat.pow_le_pow_right (by decide) (by omega)
    have e63 : (2 : Nat) ^ 63 = 9223372036854775808 := by decide
    omega
  have hPw : IntKind.u64.wrap ((2 : Int) ^ (E + F)) = (P : Int) := by
    have : ((2 : Int) ^ (E + F)) = ((2 ^ (E + F) : Nat) : Int) := by simp
    rw [this, hP, IntKind.wrap_u64]; omega
  have hPi : (P : Int) ≤ 9223372036854775808 := by omega
  unfold bitsS flagS
  rw [hP]
  by_cases h0 : a = 0
  · subst h0
    rw [if_pos rfl, if_pos rfl]
    have KS0 : Hid (∀ w', Ext w w' → Calls Tryz.prog 130 #[.pointer (some ⟨p, 0, none⟩)] w' fun e w'' => e = .returned (.int .i64 0) ∧ Ext w' w'') := KS
    clear KS hx hden h ha hd hP hPi hP63
    have hE1 := hE.1
    have hE2 := hE.2
    have hF2 := hF.2
    cases neg with
    | true =>
      go_enter Tryz.func104, Tryz.ntmps104
      go_wp2_with (first
        | (go_at_call 130; (with_reducible refine (KS0.out _ (by (repeat (first | exact ext_refl _ | assumption | refine ext_setCell ?_ (by simp; try omega) _ | refine ext_alloc ?_ _ | refine ext_drew ?_ | refine ext_drewN ?_ _ | refine ext_trans ?_ (Aft.use _) | refine ext_trans ?_ (by assumption))))).mono ?_); rintro e w1 ⟨rfl, hE1⟩; have hX1 : Ext w w1 := (by have q := hE1; (repeat (first | exact ext_refl _ | assumption | refine ext_setCell ?_ (by simp; try omega) _ | refine ext_alloc ?_ _ | refine ext_drew ?_ | refine ext_drewN ?_ _ | refine ext_trans ?_ (Aft.use _) | refine ext_trans ?_ (by assumption))))))
      refine bodyPost_ret (v := .tuple #[.int .u64 ↑P, .int .u8 0, .int .i64 0]) ?h rfl ⟨rfl, hX1⟩
      case h => simp [results, Tryz.results104, go_sem]
    | false =>
      go_enter Tryz.func104, Tryz.ntmps104
      go_wp2_with (first
        | (go_at_call 130; (with_reducible refine (KS0.out _ (by (repeat (first | exact ext_refl _ | assumption | refine ext_setCell ?_ (by simp; try omega) _ | refine ext_alloc ?_ _ | refine ext_drew ?_ | refine ext_drewN ?_ _ | refine ext_trans ?_ (Aft.use _) | refine ext_trans ?_ (by assumption))))).mono ?_); rintro e w1 ⟨rfl, hE1⟩; have hX1 : Ext w w1 := (by have q := hE1; (repeat (first | exact ext_refl _ | assumption | refine ext_setCell ?_ (by simp; try omega) _ | refine ext_alloc ?_ _ | refine ext_drew ?_ | refine ext_drewN ?_ _ | refine ext_trans ?_ (Aft.use _) | refine ext_trans ?_ (by assumption))))))
      refine bodyPost_ret (v := .tuple #[.int .u64 0, .int .u8 0, .int .i64 0]) ?h rfl ⟨rfl, hX1⟩
      case h => simp [results, Tryz.results104, go_sem]
  · rw [if_neg h0, if_neg h0]
    have KS1 : Hid (∀ w', Ext w w' → Calls Tryz.prog 130 #[.pointer (some ⟨p, 0, none⟩)] w' fun e w'' => e = .returned (.int .i64 1) ∧ Ext w' w'') := Lib.hid fun w' he => by
      have := KS.out w' he
      rwa [Int.sign_eq_one_of_pos (by omega)] at this
    have KN := Lib.hid (fun w' (he : Ext w w') => nb_to p q a d E F mode below hE hF hm (by omega) hd0 ha hd w' (h.ext he))
    have hbl := bitsQ_lt (E := E) (F := F) (mode := mode) (neg := below) (a := a) (d := d) hE.1
    have hor := or_sign hbl (by omega : E + F ≤ 63)
    rw [hP] at hor hbl
    generalize bitsQ E F mode below a d = X at *
    generalize flagQ E F mode below a d = Y at *
    have HOR := Lib.hid hor
    have hE1 := hE.1
    have hE2 := hE.2
    have hF2 := hF.2
    clear KS hx hden h ha hd hP hP63 hbl h0 hor
    cases below with
    | true =>
      rw [if_pos rfl]
      go_enter Tryz.func104, Tryz.ntmps104
      go_upto_region 2 with fail
      obtain ⟨W, hW⟩ : ∃ W, W = (w.alloc (.cells #[.int .i64 (E : Int), .int .i64 (F : Int)] 47)).alloc (.cells #[.pointer (some ⟨p, 0, none⟩), .pointer (some ⟨q, 0, none⟩)] 131) := ⟨_, rfl⟩
      obtain ⟨B0, hB0⟩ : ∃ B0, w.heap.size = B0 := ⟨_, rfl⟩
      have xW : Hid (Ext w W) := by show Ext w W; rw [hW]; exact ext_alloc (ext_alloc (ext_refl _) _) _
      have bx : Hid (∀ u, Ext W u → u.cell? ⟨B0, 0, none⟩ = some (.int .i64 (E : Int)) ∧ u.cell? ⟨B0, 1, none⟩ = some (.int .i64 (F : Int)) ∧ u.cell? ⟨B0 + 1, 0, none⟩ = some (.pointer (some ⟨p, 0, none⟩)) ∧ u.cell? ⟨B0 + 1, 1, none⟩ = some (.pointer (some ⟨q, 0, none⟩)) ∧ B0 + 1 < u.heap.size) := Lib.hid fun u hu => by
        have l1 : B0 + 1 < W.heap.size := by rw [hW, ← hB0]; simp
        have l0 : B0 < W.heap.size := by omega
        refine ⟨(Below.cell (p := ⟨B0, 0, none⟩) hu l0).trans ?_, (Below.cell (p := ⟨B0, 1, none⟩) hu l0).trans ?_, (Below.cell (p := ⟨B0 + 1, 0, none⟩) hu l1).trans ?_, (Below.cell (p := ⟨B0 + 1, 1, none⟩) hu l1).trans ?_, Nat.lt_of_lt_of_le l1 (ext_size hu)⟩
        all_goals (rw [hW, ← hB0]; simp [go_sem])
      obtain ⟨c0, c1, c2, c3, cl⟩ := bx.out W (ext_refl _)
      rw [← hW, hB0]
      clear hW hB0
      go_wp2_with (first
        | (go_at_call 130; (with_reducible refine (KS1.out _ (by have q := xW.out; (repeat (first | exact ext_refl _ | assumption | refine ext_setCell ?_ (by simp; try omega) _ | refine ext_alloc ?_ _ | refine ext_drew ?_ | refine ext_drewN ?_ _ | refine ext_trans ?_ (Aft.use _) | refine ext_trans ?_ (by assumption))))).mono ?_); rintro e w1 ⟨rfl, hE1⟩; have hX1 : Ext W w1 := (by have q := hE1; (repeat (first | exact ext_refl _ | assumption | refine ext_setCell ?_ (by simp; try omega) _ | refine ext_alloc ?_ _ | refine ext_drew ?_ | refine ext_drewN ?_ _ | refine ext_trans ?_ (Aft.use _) | refine ext_trans ?_ (by assumption)))); obtain ⟨c0, c1, c2, c3, cl⟩ := bx.out _ hX1)
        | (go_at_call 131; (with_reducible refine (KN.out _ (ext_trans xW.out hX1)).mono ?_); rintro e w2 ⟨rfl, hE2⟩; have hX2 := ext_trans hX1 hE2; have hor := HOR.out))
      refine bodyPost_ret (v := .tuple #[.int .u64 ↑(X + P), .int .u8 ↑Y, .int .i64 0]) ?h rfl ⟨rfl, ext_trans xW.out hX2⟩
      case h => simp [results, Tryz.results104, go_sem]
    | false =>
      rw [if_neg (by decide), Nat.add_zero]
      go_enter Tryz.func104, Tryz.ntmps104
      go_upto_region 2 with fail
      obtain ⟨W, hW⟩ : ∃ W, W = (w.alloc (.cells #[.int .i64 (E : Int), .int .i64 (F : Int)] 47)).alloc (.cells #[.pointer (some ⟨p, 0, none⟩), .pointer (some ⟨q, 0, none⟩)] 131) := ⟨_, rfl⟩
      obtain ⟨B0, hB0⟩ : ∃ B0, w.heap.size = B0 := ⟨_, rfl⟩
      have xW : Hid (Ext w W) := by show Ext w W; rw [hW]; exact ext_alloc (ext_alloc (ext_refl _) _) _
      have bx : Hid (∀ u, Ext W u → u.cell? ⟨B0, 0, none⟩ = some (.int .i64 (E : Int)) ∧ u.cell? ⟨B0, 1, none⟩ = some (.int .i64 (F : Int)) ∧ u.cell? ⟨B0 + 1, 0, none⟩ = some (.pointer (some ⟨p, 0, none⟩)) ∧ u.cell? ⟨B0 + 1, 1, none⟩ = some (.pointer (some ⟨q, 0, none⟩)) ∧ B0 + 1 < u.heap.size) := Lib.hid fun u hu => by
        have l1 : B0 + 1 < W.heap.size := by rw [hW, ← hB0]; simp
        have l0 : B0 < W.heap.size := by omega
        refine ⟨(Below.cell (p := ⟨B0, 0, none⟩) hu l0).trans ?_, (Below.cell (p := ⟨B0, 1, none⟩) hu l0).trans ?_, (Below.cell (p := ⟨B0 + 1, 0, none⟩) hu l1).trans ?_, (Below.cell (p := ⟨B0 + 1, 1, none⟩) hu l1).trans ?_, Nat.lt_of_lt_of_le l1 (ext_size hu)⟩
        all_goals (rw [hW, ← hB0]; simp [go_sem])
      obtain ⟨c0, c1, c2, c3, cl⟩ := bx.out W (ext_refl _)
      rw [← hW, hB0]
      clear hW hB0
      go_wp2_with (first
        | (go_at_call 130; (with_reducible refine (KS1.out _ (by have q := xW.out; (repeat (first | exact ext_refl _ | assumption | refine ext_setCell ?_ (by simp; try omega) _ | refine ext_alloc ?_ _ | refine ext_drew ?_ | refine ext_drewN ?_ _ | refine ext_trans ?_ (Aft.use _) | refine ext_trans ?_ (by assumption))))).mono ?_); rintro e w1 ⟨rfl, hE1⟩; have hX1 : Ext W w1 := (by have q := hE1; (repeat (first | exact ext_refl _ | assumption | refine ext_setCell ?_ (by simp; try omega) _ | refine ext_alloc ?_ _ | refine ext_drew ?_ | refine ext_drewN ?_ _ | refine ext_trans ?_ (Aft.use _) | refine ext_trans ?_ (by assumption)))); obtain ⟨c0, c1, c2, c3, cl⟩ := bx.out _ hX1)
        | (go_at_call 131; (with_reducible refine (KN.out _ (ext_trans xW.out hX1)).mono ?_); rintro e w2 ⟨rfl, hE2⟩; have hX2 := ext_trans hX1 hE2; have hor := HOR.out))
      refine bodyPost_ret (v := .tuple #[.int .u64 ↑X, .int .u8 ↑Y, .int .i64 0]) ?h rfl ⟨rfl, ext_trans xW.out hX2⟩
      case h => simp [results, Tryz.results104, go_sem]
end Go.Proofs.YtchchnohmmncfaaGreatDoor
end
section
/- Rounding: forms; whole numbers times powers of two. -/
namespace Go.Proofs.YtchchnohmmncfaaGreatDoor
open Go.RowKit
attribute [local go_sem] sz2 sz3 sz4 sz5 sz6 sz7 sz8
set_option maxHeartbeats 8000000
set_option maxRecDepth 100000
attribute [local irreducible] Calls
theorem fm_Check (E F : Nat) (hE : 2 ≤ E ∧ E ≤ 11) (hF : 1 ≤ F ∧ F ≤ 52) (w : World) : Calls Tryz.prog 97 #[fmV E F] w fun e w' => e = .returned (.int .i64 0) ∧ Ext w w' := by
  have a1 : ¬ (E : Int) < 2 := by omega
  have a2 : decide ((E : Int) < 2) = false := decide_eq_false a1
  have b1 : ¬ (11 : Int) < (E : Int) := by omega
  have b2 : decide ((11 : Int) < (E : Int)) = false := decide_eq_false b1
  have c1 : ¬ (F : Int) < 1 := by omega
  have c2 : decide ((F : Int) < 1) = false := decide_eq_false c1
  have d1 : ¬ (52 : Int) < (F : Int) := by omega
  have d2 : decide ((52 : Int) < (F : Int)) = false := decide_eq_false d1
  go_enter Tryz.func97, Tryz.ntmps97
  go_wp2
  refine bodyPost_ret (v := .int .i64 0) ?h rfl ⟨rfl, ?_⟩
  case h => simp [results, Tryz.results97, go_sem]
  repeat (first | exact ext_refl _ | assumption | refine ext_setCell ?_ (by simp; try omega) _ | refine ext_alloc ?_ _ | refine ext_drew ?_ | refine ext_drewN ?_ _ | refine ext_trans ?_ (Aft.use _) | refine ext_trans ?_ (by assumption))
theorem ro_near (n : Int) (b : Nat) (hn : -1200 ≤ n ∧ n ≤ 1200) (hb : b ≤ 100000000) (w : World) : Calls Tryz.prog 102 #[.int .i64 n, .int .i64 (b : Int)] w fun e w' => e = .returned (.int .i64 n) ∧ Ext w w' := by
  have h1 : min n ((b : Int) + 1200) = n := by omega
  have h2 : max (-(b : Int) - 1200) n = n := by omega
  have hbi : (b : Int) ≤ 100000000 := by omega
  go_enter Tryz.func102, Tryz.ntmps102
  go_wp2
  refine bodyPost_ret (v := .int .i64 n) ?h rfl ⟨rfl, ?_⟩
  case h => simp [results, Tryz.results102, go_sem]
  repeat (first | exact ext_refl _ | assumption | refine ext_setCell ?_ (by simp; try omega) _ | refine ext_alloc ?_ _ | refine ext_drew ?_ | refine ext_drewN ?_ _ | refine ext_trans ?_ (Aft.use _) | refine ext_trans ?_ (by assumption))
theorem ex_none (A : Option Addr) (n c a : Nat) (w : World) (hA : Rd w A n c (lim a)) : Calls Tryz.prog 92 #[natV A n c] w fun e w' => e = .returned (.bool (decide (a = 0))) ∧ Ext w w' := by
  have hl := hA.len
  have h0 : decide (a = 0) = ((n : Int) == 0) := by
    rw [Bool.eq_iff_iff, decide_eq_true_iff, beq_iff_eq]
    constructor
    · intro h; subst h; rw [lim_zero] at hl; simp at hl; omega
    · intro h; exact lim_nil.1 (List.eq_nil_of_length_eq_zero (by omega))
  rw [h0]
  clear hA hl h0
  go_enter Tryz.func92, Tryz.ntmps92
  go_wp2
  refine bodyPost_ret (v := .bool (Int.ofNat n == 0)) ?h rfl ⟨rfl, ?_⟩
  case h => simp [results, Tryz.results92, go_sem]
  repeat (first | exact ext_refl _ | assumption | refine ext_setCell ?_ (by simp; try omega) _ | refine ext_alloc ?_ _ | refine ext_drew ?_ | refine ext_drewN ?_ _ | refine ext_trans ?_ (Aft.use _) | refine ext_trans ?_ (by assumption))
theorem ex_far (n : Int) (h : -1073741824 ≤ n ∧ n ≤ 1073741824) (w : World) : Calls Tryz.prog 94 #[.int .i64 n] w fun e w' => e = .returned (.bool false) ∧ Ext w w' := by
  have a1 : ¬ n < -1073741824 := by omega
  have a2 : decide (n < -1073741824) = false := decide_eq_false a1
  have b1 : ¬ (1073741824 : Int) < n := by omega
  have b2 : decide ((1073741824 : Int) < n) = false := decide_eq_false b1
  go_enter Tryz.func94, Tryz.ntmps94
  go_wp2
  refine bodyPost_ret (v := .bool false) ?h rfl ⟨rfl, ?_⟩
  case h => simp [results, Tryz.results94, go_sem]
  repeat (first | exact ext_refl _ | assumption | refine ext_setCell ?_ (by simp; try omega) _ | refine ext_alloc ?_ _ | refine ext_drew ?_ | refine ext_drewN ?_ _ | refine ext_trans ?_ (Aft.use _) | refine ext_trans ?_ (by assumption))
theorem ex_even (A : Option Addr) (n c a : Nat) (ha : a ≠ 0) (hn : n ≤ 1000000) (w : World) (hT : Tz w) (hA : Rd w A n c (lim a)) :
    Calls Tryz.prog 93 #[natV A n c] w fun e w' => e = .returned (.int .i64 (zz a : Nat)) ∧ Ext w w' := by
  have hmx := hA.mx
  have hcx := hA.cap
  have HA := Lib.hid hA
  have HT := Lib.hid hT
  have hlx := hA.len
  have hval : val ((lim a).take n) = a := by rw [List.take_of_length_le (by omega), val_lim]
  obtain ⟨bv, ov, rfl⟩ : ∃ b off, A = some ⟨b, off, none⟩ := by
    rcases hA.shape with ⟨_, h, _⟩ | h
    · exfalso
      subst h
      rw [List.take_zero] at hval
      exact ha hval.symm
    · exact h
  have HV := Lib.hid hval
  clear hA hT hval hlx
  go_enter Tryz.func93, Tryz.ntmps93
  go_upto_region 2 with fail
  obtain ⟨W, hW⟩ : ∃ W, W = w.alloc (.cells #[.slice (some ⟨bv, ov, none⟩) n c] 88) := ⟨_, rfl⟩
  obtain ⟨B0, hB0⟩ : ∃ B0, w.heap.size = B0 := ⟨_, rfl⟩
  have xW : Hid (Ext w W) := by show Ext w W; rw [hW]; exact ext_alloc (ext_refl _) _
  have c0 : W.cell? ⟨B0, 0, none⟩ = some (.slice (some ⟨bv, ov, none⟩) n c) := by rw [hW, ← hB0]; simp [go_sem]
  have cl : B0 < W.heap.size := by rw [hW, ← hB0]; simp
  rw [← hW, hB0]
  clear hW hB0
  go_loopw [3] (fun vi wr => ∃ i : Nat, i ≤ n ∧ vi = .int .i64 (32 * (i : Int)) ∧ Hid (val ((lim a).take i) = 0) ∧ Hid (Ext W wr)) (fun vi _ => 32 * n + 32 - (intOf vi).toNat)
  case atStart => exact ⟨0, Nat.zero_le _, by simp, (rfl : val [] = 0), ext_refl _⟩
  case round =>
    obtain ⟨i, hi, rfl, hv, hE⟩ := hrel
    have hin : i < n := by
      rcases Nat.lt_or_ge i n with g | g
      · exact g
      · exfalso
        have e : i = n := by omega
        have := hv.out
        rw [e, HV.out] at this
        exact ha this
    have y0 := (Below.cell (p := ⟨B0, 0, none⟩) hE.out cl).trans c0
    have yl := ext_lt hE.out _ cl
    obtain ⟨x, hx, hxb, hcell⟩ := ((HA.out.ext xW.out).ext hE.out).get i hin
    have hdiv : (32 * (i : Int)).tdiv 32 = (i : Int) := by
      rw [Int.tdiv_eq_ediv_of_nonneg (by omega)]
      try omega
    have hini : (i : Int) < (n : Int) := by omega
    by_cases hx0 : x = 0
    · subst hx0
      go_wp2
      case roundEnd =>
        refine ⟨⟨i + 1, by omega, by simp; try omega, ?_, hE.out⟩, by simp [intOf]; omega⟩
        show _ = _
        rw [val_take_succ, hv.out, hx.out, Nat.mul_zero]
    · obtain ⟨hz, hc⟩ := zz_at hv.out hx.out hx0 hxb
      have hne : ((x : Int) == 0) = false := by rw [beq_eq_false_iff_ne]; omega
      have HZ := Lib.hid hz
      have HX0 := Lib.hid hx0
      have HXB := Lib.hid hxb
      have hT2 := HT.out.ext (ext_trans xW.out hE.out)
      have kz := Lib.hid (bw_tz x hx0 hxb wr hT2)
      have hcI : (Lib.ctz 32 x : Int) < 32 := by omega
      clear hz hx0 hT2 hc
      go_wp2_with (first
        | (go_at_call 124; (with_reducible refine (kz.out).mono ?_); rintro e w2 ⟨rfl, rfl⟩))
      refine bodyPost_ret (v := .int .i64 (32 * ↑i + ↑(Lib.ctz 32 x))) ?h rfl ⟨by rw [HZ.out]; congr 1, ext_trans xW.out hE.out⟩
      case h => simp [results, Tryz.results93, go_sem]
end Go.Proofs.YtchchnohmmncfaaGreatDoor
end
