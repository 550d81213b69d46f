/- Contracts and plain laws that the law RealsWhole leans on (texts joined by program; what it does not come to is left out). -/
import Derived.Test.YtmoimcblmmcffaaGreatDoorCards
import Derived.Test.YtmoimcblmmcffaaGreatDoorTie
import Derived.WalkKit
import Derived.ProofKit
import Derived.OpenShut
import Derived.Deep.DeepHandedRow
import Derived.Lib.LaidTab
import Derived.Lib.SmallJoins
import Derived.Test.YtmoimcblmmcffaaGreatDoorProg
import Derived.WalkSpells
import Derived.WalkLawsBesides
import Derived.Deep.RegionHeld3
import Derived.BigQuiet
import Derived.Lib.Hide
import Derived.Deep.QuietTactic
import Derived.Deep.LoopGhost
import Derived.Deep.DeepCutAuto
import Derived.Deep.CutBlock
import Derived.Laws.BitsAllLaws
import Derived.Laws.FloatArith
import Ieee.Arith
import Derived.Laws.FloatBits

namespace Go.Proofs.YtmoimcblmmcffaaGreatDoor.Law
open Go.ChangeShapes Go.WideShapes Go.ChangeAt Go.RowKit
theorem own : ownKnob Tryz.prog.godebug = none := by kernel_rfl
def tab : Array Value := #[.int .u8 0, .int .u8 1, .int .u8 56, .int .u8 2, .int .u8 57, .int .u8 49, .int .u8 28, .int .u8 3, .int .u8 61, .int .u8 58, .int .u8 42, .int .u8 50, .int .u8 38, .int .u8 29, .int .u8 17, .int .u8 4, .int .u8 62, .int .u8 47, .int .u8 59, .int .u8 36, .int .u8 45, .int .u8 43, .int .u8 51, .int .u8 22, .int .u8 53, .int .u8 39, .int .u8 33, .int .u8 30, .int .u8 24, .int .u8 18, .int .u8 12, .int .u8 5, .int .u8 63, .int .u8 55, .int .u8 48, .int .u8 27, .int .u8 60, .int .u8 41, .int .u8 37, .int .u8 16, .int .u8 46, .int .u8 35, .int .u8 44, .int .u8 21, .int .u8 52, .int .u8 32, .int .u8 23, .int .u8 11, .int .u8 54, .int .u8 26, .int .u8 40, .int .u8 15, .int .u8 34, .int .u8 20, .int .u8 31, .int .u8 10, .int .u8 25, .int .u8 14, .int .u8 19, .int .u8 9, .int .u8 13, .int .u8 8, .int .u8 7, .int .u8 6]
noncomputable def laidWorld (os : Os) : World :=
 { World.holding Tryz.prog os ⟨#[], #[], []⟩ with heap := (World.holding Tryz.prog os ⟨#[], #[], []⟩).heap.modify 1 fun
   | .cells _ t frozen => .cells tab t frozen
   | o => o }
theorem u64_wf {a : Int} (h : (Lit.int .u64 a).wf = true) : 0 ≤ a ∧ a ≤ 18446744073709551615 := by
 have h' : (decide (0 ≤ a) && decide (a ≤ 18446744073709551615)) = true := h
 simpa using h'
end Go.Proofs.YtmoimcblmmcffaaGreatDoor.Law

namespace Go.Proofs.YtmoimcblmmcffaaGreatDoor.B
open Go.RowKit
set_option linter.unusedSimpArgs false
set_option linter.unusedVariables false
theorem getD_mem {xs : List Int} {k : Nat} (h : k < xs.length) : xs.getD k 0 ∈ xs := by
 rw [List.getD_eq_getElem?_getD, List.getElem?_eq_getElem h]
 exact List.getElem_mem h
theorem bcell {W w1 : World} (hb : Below W.heap.size W w1) : (∀ b o, b < W.heap.size → w1.cell? ⟨b, o, none⟩ = W.cell? ⟨b, o, none⟩) ∧ (∀ b o, b < W.heap.size → w1.frozen? ⟨b, o, none⟩ = W.frozen? ⟨b, o, none⟩) :=
 ⟨fun b o h => hb.cell (p := ⟨b, o, none⟩) h, fun b o h => hb.frozen (p := ⟨b, o, none⟩) h⟩
def Ret (v : Value) (w : World) : Ending → World → Prop := fun e w' => e = .returned v ∧ Below w.heap.size w w'
abbrev Ext (w0 W w : World) : Prop := (∀ b o, b < W.heap.size → w.cell? ⟨b, o, none⟩ = W.cell? ⟨b, o, none⟩) ∧ (∀ b o, b < W.heap.size → w.frozen? ⟨b, o, none⟩ = W.frozen? ⟨b, o, none⟩) ∧ W.heap.size ≤ w.heap.size ∧ Below w0.heap.size w0 w
theorem below_drew' {B : Nat} {a w : World} (h : Below B a w) : Below B a w.drew := h.drew
theorem below_call {w0 w1 w2 : World} (h : Below w0.heap.size w0 w1) (hb : Below w1.heap.size w1 w2) : Below w0.heap.size w0 w2 := h.trans (hb.mono h.size)
theorem below_alloc0 {w0 w1 : World} (h : Below w0.heap.size w0 w1) (o : Obj) : Below w0.heap.size w0 (w1.alloc o) := h.alloc h.size o
theorem Ext.refl {w0 W : World} (h : Below w0.heap.size w0 W) : Ext w0 W W := ⟨fun _ _ _ => rfl, fun _ _ _ => rfl, Nat.le_refl _, h⟩
theorem Ext.refl0 (w0 : World) : Ext w0 w0 w0 := Ext.refl (Below.refl _ _)
theorem Ext.call {w0 W w1 w2 : World} (h : Ext w0 W w1) (hb : Below w1.heap.size w1 w2) : Ext w0 W w2 :=
 ⟨fun b o hlt => ((bcell hb).1 b o (Nat.lt_of_lt_of_le hlt h.2.2.1)).trans (h.1 b o hlt), fun b o hlt => ((bcell hb).2 b o (Nat.lt_of_lt_of_le hlt h.2.2.1)).trans (h.2.1 b o hlt), Nat.le_trans h.2.2.1 hb.size, h.2.2.2.trans (hb.mono h.2.2.2.size)⟩
theorem Ext.drew {w0 W w1 : World} (h : Ext w0 W w1) : Ext w0 W w1.drew := h.call (Below.refl _ _).drew
theorem Ext.drewN {w0 W w1 : World} (h : Ext w0 W w1) (n : Nat) : Ext w0 W (w1.drewN n) := h.call (below_drewN (Below.refl _ _) n)
theorem Ext.alloc {w0 W w1 : World} (h : Ext w0 W w1) (o : Obj) : Ext w0 W (w1.alloc o) := h.call (below_alloc0 (Below.refl _ _) o)
theorem Ext.next {w0 W w1 w2 : World} (hb : Below w1.heap.size w1 w2) (h : Ext w0 W w1 := by repeat (first | assumption | refine Ext.drew ?_ | refine Ext.drewN ?_ _ | refine Ext.alloc ?_ _ | exact Ext.refl0 _)) : Ext w0 W w2 := h.call hb
theorem Ext.end {w0 W w1 : World} (h : Ext w0 W w1 := by repeat (first | assumption | refine Ext.drew ?_ | refine Ext.drewN ?_ _ | refine Ext.alloc ?_ _ | exact Ext.refl0 _)) : Below w0.heap.size w0 w1 := h.2.2.2
theorem below_end {w0 w1 : World} (h : Below w0.heap.size w0 w1 := by repeat (first | assumption | exact Below.refl _ _ | refine below_drew' ?_ | refine below_drewN' ?_ _ | refine below_alloc0 ?_ _ | exact Ext.end | exact And.right (And.right (And.right (by assumption)))) ) : Below w0.heap.size w0 w1 := h
theorem hide1 {P : Program} {c : Code} {Q : Exit → Act → World → Prop} {a : Act} {w : World} {cs : Array Value} {t : TypeId} (w0 : World)
  (h : ∀ W, (∀ i, W.cell? ⟨w.heap.size, i, none⟩ = cs[i]?) → w.heap.size < W.heap.size → Ext w0 W W → c.wp P Q a W)
  (hb : Below w0.heap.size w0 w := by exact below_end) : c.wp P Q a (w.alloc (.cells cs t (0, 0))) :=
 h _ (fun i => by rw [cell_of_row _ _ i cs t (0, 0) (heap_alloc_new w _)]) (by simp) (Ext.refl (below_alloc0 hb _))
end Go.Proofs.YtmoimcblmmcffaaGreatDoor.B

namespace Go.Proofs.YtmoimcblmmcffaaGreatDoor.B
open Go.RowKit
set_option linter.unusedSimpArgs false
set_option linter.unusedVariables false
def layV : Bool → Value
 | true => .agg #[.int .i64 24, .int .i64 (-149), .int .i64 104, .int .i64 32, .int .u64 2143289344]
 | false => .agg #[.int .i64 53, .int .i64 (-1074), .int .i64 971, .int .i64 64, .int .u64 9221120237041090560]
def signV : Bool → Int
 | true => 2147483648
 | false => 9223372036854775808
def infV : Bool → Int
 | true => 2139095040
 | false => 9218868437227405312
def partV : Bool → Int
 | true => 8388607
 | false => 4503599627370495
def nanV : Bool → Int
 | true => 2143289344
 | false => 9221120237041090560
theorem layoutOf_c (t : Int) (w : World) : Calls Tryz.prog 25 #[.int .i64 t] w (Ret (layV (t == 1)) w) := by
 by_cases h : t = 1
 ·subst h
  go_enter Tryz.func25, Tryz.ntmps25
  go_wp2
  exact bodyPost_ret (v := layV true) (by simp [results, Tryz.results25, go_sem, layV]) rfl ⟨rfl, below_end⟩
 ·have h1 : (t == 1) = false := by simpa using h
  rw [h1]
  go_enter Tryz.func25, Tryz.ntmps25
  go_wp2
  exact bodyPost_ret (v := layV false) (by simp [results, Tryz.results25, go_sem, layV]) rfl ⟨rfl, below_end⟩
theorem sign_c (s : Bool) (w : World) : Calls Tryz.prog 26 #[layV s] w (Ret (.int .u64 (signV s)) w) := by
 cases s
 all_goals
  unfold layV
  go_enter Tryz.func26, Tryz.ntmps26
  go_wp2
  go_ret
  exact ⟨rfl, below_end⟩
theorem part_c (s : Bool) (w : World) : Calls Tryz.prog 99 #[layV s] w (Ret (.int .u64 (partV s)) w) := by
 cases s
 all_goals
  unfold layV
  go_enter Tryz.func99, Tryz.ntmps99
  go_wp2
  go_ret
  exact ⟨rfl, below_end⟩
theorem infinite_c (s : Bool) (w : World) : Calls Tryz.prog 67 #[layV s] w (Ret (.int .u64 (infV s)) w) := by
 have c1 := sign_c s
 have c2 := part_c s
 cases s
 all_goals
  unfold layV at *
  go_enter Tryz.func67, Tryz.ntmps67
  go_wp2
  refine hide1 w (fun W k0 s0 HE => ?_)
  go_region_held3 (fun w' => Ext w W w') (first | exact Ext.drew (by assumption) | exact Ext.next (by assumption)) (first | (go_at_call 26; refine (c1 _).mono ?_; rintro e w1 ⟨rfl, hb1⟩) | (go_at_call 99; refine (c2 _).mono ?_; rintro e w1 ⟨rfl, hb1⟩))
  go_wp2
  go_ret
  exact ⟨rfl, Ext.end⟩
def nothingV (s : Bool) (a : Int) : Bool := decide (infV s < bits .andNot .u64 a (signV s))
def infiniteV (s : Bool) (a : Int) : Bool := bits .andNot .u64 a (signV s) == infV s
def zeroV (s : Bool) (a : Int) : Bool := bits .andNot .u64 a (signV s) == 0
theorem isNothing_c (s : Bool) (a : Int) (w : World) : Calls Tryz.prog 27 #[layV s, .int .u64 a] w (Ret (.bool (nothingV s a)) w) := by
 have c1 := sign_c s
 have c2 := infinite_c s
 unfold nothingV
 cases s
 all_goals
  unfold layV signV infV at *
  go_enter Tryz.func27, Tryz.ntmps27
  go_wp2
  refine hide1 w (fun W k0 s0 HE => ?_)
  go_region_held3 (fun w' => Ext w W w') (first | exact Ext.drew (by assumption) | exact Ext.next (by assumption)) (first | (go_at_call 26; refine (c1 _).mono ?_; rintro e w1 ⟨rfl, hb1⟩) | (go_at_call 67; refine (c2 _).mono ?_; rintro e w1 ⟨rfl, hb1⟩))
  go_wp2
  go_ret
  exact ⟨rfl, Ext.end⟩
end Go.Proofs.YtmoimcblmmcffaaGreatDoor.B

namespace Go.Proofs.YtmoimcblmmcffaaGreatDoor.B
open Go.RowKit
set_option linter.unusedSimpArgs false
set_option linter.unusedVariables false
theorem isInfinite_c (s : Bool) (a : Int) (w : World) : Calls Tryz.prog 29 #[layV s, .int .u64 a] w (Ret (.bool (infiniteV s a)) w) := by
 have c1 := sign_c s
 have c2 := infinite_c s
 unfold infiniteV
 cases s
 all_goals
  simp only [layV, signV, infV, nanV] at *
  go_enter Tryz.func29, Tryz.ntmps29
  go_wp2
  refine hide1 w (fun W k0 s0 HE => ?_)
  go_region_held3 (fun w' => Ext w W w') (first | exact Ext.drew (by assumption) | exact Ext.next (by assumption)) (first | (go_at_call 26; refine (c1 _).mono ?_; rintro e w1 ⟨rfl, hb1⟩) | (go_at_call 67; refine (c2 _).mono ?_; rintro e w1 ⟨rfl, hb1⟩))
  go_wp2
  go_ret
  exact ⟨rfl, Ext.end⟩
theorem isZero_c (s : Bool) (a : Int) (w : World) : Calls Tryz.prog 28 #[layV s, .int .u64 a] w (Ret (.bool (zeroV s a)) w) := by
 have c1 := sign_c s
 unfold zeroV
 cases s
 all_goals
  simp only [layV, signV, infV, nanV] at *
  go_enter Tryz.func28, Tryz.ntmps28
  go_upto_region 1 with (fail)
  refine hide1 w (fun W k0 s0 HE => ?_)
  go_wp2_with (go_at_call 26; refine (c1 _).mono ?_; rintro e w1 ⟨rfl, hb1⟩; have HE := Ext.next (w0 := w) (W := W) hb1)
  go_ret
  exact ⟨rfl, Ext.end⟩
def cleanV (s : Bool) (a : Int) : Int := if nothingV s a = true then nanV s else a
theorem clean_c (s : Bool) (a : Int) (w : World) : Calls Tryz.prog 88 #[layV s, .int .u64 a] w (Ret (.int .u64 (cleanV s a)) w) := by
 have c1 := isNothing_c s a
 unfold cleanV
 generalize nothingV s a = b at *
 cases s <;> cases b
 all_goals
  simp only [layV, signV, infV, nanV] at *
  go_enter Tryz.func88, Tryz.ntmps88
  go_upto_region 1 with (fail)
  refine hide1 w (fun W k0 s0 HE => ?_)
  go_wp2_with (go_at_call 27; refine (c1 _).mono ?_; rintro e w1 ⟨rfl, hb1⟩; have HE := Ext.next (w0 := w) (W := W) hb1)
  go_ret
  exact ⟨rfl, Ext.end⟩
def typeErrV (t : Int) : Int := if t = 1 then 0 else if t = 2 then 0 else 27
theorem typeErr_c (t : Int) (w : World) : Calls Tryz.prog 57 #[.int .i64 t] w (Ret (.int .i64 (typeErrV t)) w) := by
 unfold typeErrV
 by_cases h1 : t = 1
 ·subst h1
  go_enter Tryz.func57, Tryz.ntmps57
  go_wp2
  go_ret
  exact ⟨rfl, below_end⟩
 ·by_cases h2 : t = 2
  ·subst h2
   go_enter Tryz.func57, Tryz.ntmps57
   go_wp2
   go_ret
   exact ⟨rfl, below_end⟩
  ·rw [if_neg h1, if_neg h2]
   have b1 : (t != 1) = true := by simpa using h1
   have b2 : (t != 2) = true := by simpa using h2
   go_enter Tryz.func57, Tryz.ntmps57
   go_wp2
   go_ret
   exact ⟨rfl, below_end⟩
theorem either_c (a b : Int) (w : World) : Calls Tryz.prog 30 #[.int .i64 a, .int .i64 b] w (Ret (.int .i64 (if a = 0 then b else a)) w) := by
 by_cases h : a = 0
 all_goals
  simp only [h, if_true, if_false]
  go_enter Tryz.func30, Tryz.ntmps30
  go_wp2
  go_ret
  exact ⟨rfl, below_end⟩
def rangedV (n lo hi : Int) : Int := if n < lo then 2 else if hi < n then 2 else 0
theorem ranged_c (n lo hi : Int) (w : World) : Calls Tryz.prog 31 #[.int .i64 n, .int .i64 lo, .int .i64 hi] w (Ret (.int .i64 (rangedV n lo hi)) w) := by
 unfold rangedV
 by_cases h1 : n < lo <;> by_cases h2 : hi < n
 all_goals
  simp only [h1, h2, if_true, if_false]
  go_enter Tryz.func31, Tryz.ntmps31
  go_wp2
  go_ret
  exact ⟨rfl, below_end⟩
def kindErrV (n k : Int) : Int := if n < 0 then 15 else if k ≤ n then 15 else 0
theorem kindErr_c (n k : Int) (w : World) : Calls Tryz.prog 46 #[.int .i64 n, .int .i64 k] w (Ret (.int .i64 (kindErrV n k)) w) := by
 unfold kindErrV
 by_cases h1 : n < 0 <;> by_cases h2 : k ≤ n
 all_goals
  simp only [h1, h2, if_true, if_false]
  go_enter Tryz.func46, Tryz.ntmps46
  go_wp2
  go_ret
  exact ⟨rfl, below_end⟩
def Reads (w : World) (A : Option Addr) (xs : List Int) : Prop := ∀ i : Nat, i < xs.length → ∃ ad, A = some ad ∧ w.cell? (ad.add i) = some (.int .u64 (xs.getD i 0))
def bitsErrV (t : Int) (xs : List Int) : Int := if t = 1 ∧ (xs.any fun a => decide (4294967296 ≤ a)) = true then 2 else 0
def Low (t : Int) (xs : List Int) (k : Nat) : Prop := t = 1 → ∀ j, j < k → xs.getD j 0 < 4294967296
theorem Low.succ {t : Int} {xs : List Int} {k : Nat} (h : Low t xs k) (hk : t = 1 → xs.getD k 0 < 4294967296) : Low t xs (k + 1) := fun ht j hj => by
 rcases Nat.lt_succ_iff_lt_or_eq.1 hj with h' | rfl
 ·exact h ht j h'
 ·exact hk ht
theorem Low.all {t : Int} {xs : List Int} (h : Low t xs xs.length) : bitsErrV t xs = 0 := by
 unfold bitsErrV
 rw [if_neg]
 rintro ⟨ht, ha⟩
 obtain ⟨x, hx, hxx⟩ := List.any_eq_true.1 ha
 obtain ⟨j, hj, rfl⟩ := List.mem_iff_getElem.1 hx
 have := h ht j hj
 rw [List.getD_eq_getElem?_getD, List.getElem?_eq_getElem hj] at this
 simp at hxx this
 omega
theorem bitsErr_big {xs : List Int} {k : Nat} (hlt : k < xs.length) (h : ¬ xs.getD k 0 < 4294967296) : bitsErrV 1 xs = 2 := by
 unfold bitsErrV
 rw [if_pos ⟨rfl, List.any_eq_true.2 ⟨xs.getD k 0, getD_mem hlt, by simp at h ⊢; omega⟩⟩]
theorem bitsErr_c (t : Int) (A : Option Addr) (xs : List Int) (c : Nat) (w : World) (hx : ∀ x ∈ xs, 0 ≤ x ∧ x ≤ 18446744073709551615) (hl : xs.length ≤ 1000) (hr : Reads w A xs) :
  Calls Tryz.prog 66 #[.int .i64 t, .slice A xs.length c] w (Ret (.int .i64 (bitsErrV t xs)) w) := by
 go_enter Tryz.func66, Tryz.ntmps66
 go_wp2
 go_loop [9] (fun i => ∃ k : Nat, k ≤ xs.length ∧ i = .int .i64 k ∧ Low t xs k) (fun i => xs.length - (intOf i).toNat)
 case atStart => exact ⟨0, Nat.zero_le _, rfl, fun _ j hj => by omega⟩
 case round =>
  obtain ⟨k, hk, rfl, hlow⟩ := hrel
  by_cases hlt : k < xs.length
  ·obtain ⟨ad, rfl, hcell⟩ := hr k hlt
   have hb := hx (xs.getD k 0) (getD_mem hlt)
   have HR := Lib.hid hr
   have HX := Lib.hid hx
   clear hr hx
   obtain ⟨x, hxk⟩ : ∃ x, xs.getD k 0 = x := ⟨_, rfl⟩
   rw [hxk] at hcell hb
   have HK := Lib.hid hxk
   clear hxk
   by_cases ht : t = 1
   ·subst ht
    by_cases hq : x < 4294967296
    ·have b : (x / 4294967296 != 0) = false := by simp; omega
     have hl2 := hlow.succ (fun _ => by rw [HK.out]; exact hq)
     go_wp2
     go_round
     case rel => exact ⟨k + 1, by omega, by go_num, hl2⟩
     case measure => simp [intOf]; omega
    ·have b : (x / 4294967296 != 0) = true := by simp; omega
     have h2 := Lib.hid (bitsErr_big hlt (by rw [HK.out]; exact hq))
     go_wp2
     go_ret
     exact ⟨by rw [h2.out]; rfl, below_end⟩
   ·have b : (t == 1) = false := by simpa using ht
    have hl2 := hlow.succ (fun h => absurd h ht)
    go_wp2
    go_round
    case rel => exact ⟨k + 1, by omega, by go_num, hl2⟩
    case measure => simp [intOf]; omega
  ·have hk' : k = xs.length := by omega
   have h0 := Lib.hid (Low.all (hk' ▸ hlow))
   clear hk'
   go_wp2
   go_ret
   exact ⟨by rw [h0.out]; rfl, below_end⟩
end Go.Proofs.YtmoimcblmmcffaaGreatDoor.B

namespace Go.Proofs.YtmoimcblmmcffaaGreatDoor.B
open Go.RowKit
set_option linter.unusedSimpArgs false
set_option linter.unusedVariables false
def validV (t : Int) (xs : List Int) : Int := if typeErrV t = 0 then bitsErrV t xs else typeErrV t
theorem valid_c (t : Int) (A : Option Addr) (xs : List Int) (c : Nat) (w : World) (hx : ∀ x ∈ xs, 0 ≤ x ∧ x ≤ 18446744073709551615) (hl : xs.length ≤ 1000) (hr : Reads w A xs) :
  Calls Tryz.prog 24 #[.int .i64 t, .slice A xs.length c] w (Ret (.int .i64 (validV t xs)) w) := by
 have c1 := typeErr_c t w
 have c2 := bitsErr_c t A xs c
 unfold validV
 generalize typeErrV t = e at *
 generalize bitsErrV t xs = b at *
 by_cases he : e = 0
 ·have he1 : (e != 0) = false := by simpa using he
  rw [if_pos he]
  clear he
  go_enter Tryz.func24, Tryz.ntmps24
  go_wp2_with (first | (go_at_call 57; refine c1.mono ?_; rintro e w1 ⟨rfl, hb1⟩; have HE := Ext.next (w0 := w) (W := w) hb1) | (go_at_call 66; refine (c2 _ hx hl (fun i hi => by obtain ⟨ad, h1, h2⟩ := hr i hi; exact ⟨ad, h1, (HE.2.2.2.cell (World.block_lt_of_cell? w _ h2)).trans h2⟩)).mono ?_; rintro e w2 ⟨rfl, hb2⟩; have HE := Ext.next (w0 := w) (W := w) hb2))
  go_ret
  exact ⟨rfl, Ext.end⟩
 ·have he1 : (e != 0) = true := by simpa using he
  rw [if_neg he]
  clear he
  go_enter Tryz.func24, Tryz.ntmps24
  go_wp2_with (go_at_call 57; refine c1.mono ?_; rintro e w1 ⟨rfl, hb1⟩; have HE := Ext.next (w0 := w) (W := w) hb1)
  go_ret
  exact ⟨rfl, Ext.end⟩
theorem reads1 {w : World} {g : Nat} {a : Int} (h : w.cell? ⟨g, 0, none⟩ = some (.int .u64 a)) : Reads w (some ⟨g, 0, none⟩) [a] := fun i hi => by
 obtain rfl : i = 0 := by simp at hi; omega
 exact ⟨_, rfl, h⟩
theorem reads2 {w : World} {g : Nat} {a b : Int} (h : w.cell? ⟨g, 0, none⟩ = some (.int .u64 a)) (h' : w.cell? ⟨g, 1, none⟩ = some (.int .u64 b)) : Reads w (some ⟨g, 0, none⟩) [a, b] := fun i hi => by
 rcases i with _ | _ | i
 ·exact ⟨_, rfl, h⟩
 ·exact ⟨_, rfl, h'⟩
 ·simp at hi; omega
abbrev U64 (a : Int) : Prop := 0 ≤ a ∧ a ≤ 18446744073709551615
theorem valid1_c (t a : Int) (g : Nat) (w : World) (ha : U64 a) (h : w.cell? ⟨g, 0, none⟩ = some (.int .u64 a)) :
  Calls Tryz.prog 24 #[.int .i64 t, .slice (some ⟨g, 0, none⟩) 1 1] w (Ret (.int .i64 (validV t [a])) w) :=
 valid_c t _ [a] 1 w (by simpa using ha) (by simp) (reads1 h)
theorem valid2_c (t a b : Int) (g : Nat) (w : World) (ha : U64 a) (hb : U64 b) (h : w.cell? ⟨g, 0, none⟩ = some (.int .u64 a)) (h' : w.cell? ⟨g, 1, none⟩ = some (.int .u64 b)) :
  Calls Tryz.prog 24 #[.int .i64 t, .slice (some ⟨g, 0, none⟩) 2 2] w (Ret (.int .i64 (validV t [a, b])) w) :=
 valid_c t _ [a, b] 2 w (by intro x hx; simp at hx; rcases hx with rfl | rfl <;> assumption) (by simp) (reads2 h h')
theorem valid_ok1 {t a : Int} (h : validV t [a] = 0) : (t = 1 ∧ a < 4294967296) ∨ t = 2 := by
 unfold validV typeErrV bitsErrV at h
 by_cases h1 : t = 1
 ·subst h1; simp at h; left; exact ⟨rfl, h⟩
 ·by_cases h2 : t = 2
  ·exact .inr h2
  ·simp [h1, h2] at h
def orErr (e r : Int) : Value := .tuple (if e = 0 then #[.int .u64 r, .int .i64 0] else #[.int .u64 0, .int .i64 e])
end Go.Proofs.YtmoimcblmmcffaaGreatDoor.B

namespace Go.Proofs.YtmoimcblmmcffaaGreatDoor.B
open Go.RowKit
set_option linter.unusedSimpArgs false
set_option linter.unusedVariables false
def topV : Bool → Int
 | true => 4294967296
 | false => 18446744073709551616
theorem nat_mask32 (a : Nat) (h : a < 4294967296) : a &&& (18446744073709551615 - 2147483648) = a % 2147483648 := by
 have h1 : a &&& (18446744073709551615 - 2147483648) ≤ a := Nat.and_le_left
 have h2 := Nat.and_mod_two_pow (a := a) (b := 18446744073709551615 - 2147483648) (n := 32)
 rw [Nat.mod_eq_of_lt (show a &&& (18446744073709551615 - 2147483648) < 2 ^ 32 from by omega), Nat.mod_eq_of_lt (show a < 2 ^ 32 from h)] at h2
 rw [h2]
 exact Nat.and_two_pow_sub_one_eq_mod a 31
theorem nat_mask64 (a : Nat) : a &&& (18446744073709551615 - 9223372036854775808) = a % 9223372036854775808 := Nat.and_two_pow_sub_one_eq_mod a 63
theorem andNot_sign (s : Bool) (a : Int) (h : 0 ≤ a) (h1 : a < topV s) : bits .andNot .u64 a (signV s) = a % signV s := by
 obtain ⟨n, rfl⟩ := Int.eq_ofNat_of_zero_le h
 cases s
 ·have h1' : (n : Int) < 18446744073709551616 := h1
  rw [u64_andNot _ _ h h1' (by decide) (by decide)]
  have := nat_mask64 n
  show ((n &&& (18446744073709551615 - 9223372036854775808) : Nat) : Int) = (n : Int) % 9223372036854775808
  rw [this]; rfl
 ·have h1' : (n : Int) < 4294967296 := h1
  rw [u64_andNot _ _ h (by omega) (by decide) (by decide)]
  have := nat_mask32 n (by omega)
  show ((n &&& (18446744073709551615 - 2147483648) : Nat) : Int) = (n : Int) % 2147483648
  rw [this]; rfl
theorem nothing_iff (s : Bool) (a : Int) (h : 0 ≤ a) (h1 : a < topV s) : nothingV s a = decide (infV s < a % signV s) := by
 unfold nothingV; rw [andNot_sign s a h h1]
theorem nat_or (a b k : Nat) (h : a < 2 ^ k) (hb : b < 2 * 2 ^ k) : a ||| (b &&& 2 ^ k) = if b < 2 ^ k then a else a + 2 ^ k := by
 have hp : 0 < 2 ^ k := Nat.two_pow_pos _
 have h1 : (a ||| (b &&& 2 ^ k)) / 2 ^ k = (b / 2 ^ k &&& 1) := by rw [Nat.or_div_two_pow, Nat.and_div_two_pow, Nat.div_self hp, Nat.div_eq_of_lt h, Nat.zero_or]
 have h2 : (a ||| (b &&& 2 ^ k)) % 2 ^ k = a := by rw [Nat.or_mod_two_pow, Nat.and_mod_two_pow, Nat.mod_self, Nat.and_zero, Nat.or_zero, Nat.mod_eq_of_lt h]
 have h3 := Nat.div_add_mod (a ||| (b &&& 2 ^ k)) (2 ^ k)
 rw [h1, h2] at h3
 by_cases hlt : b < 2 ^ k
 ·rw [if_pos hlt]
  rw [Nat.div_eq_of_lt hlt, Nat.zero_and, Nat.mul_zero] at h3
  omega
 ·rw [if_neg hlt]
  have hd : b / 2 ^ k = 1 := Nat.div_eq_of_lt_le (by omega) (by omega)
  rw [hd, Nat.and_self, Nat.mul_one] at h3
  omega
theorem nat_and_ne (b k : Nat) (hb : b < 2 * 2 ^ k) : (b &&& 2 ^ k) = if b < 2 ^ k then 0 else 2 ^ k := by
 have := nat_or 0 b k (Nat.two_pow_pos _) hb
 rw [Nat.zero_or, Nat.zero_add] at this
 exact this
theorem and_sign (s : Bool) (b : Int) (h : 0 ≤ b) (h1 : b < topV s) : bits .and .u64 b (signV s) = if b < signV s then 0 else signV s := by
 obtain ⟨n, rfl⟩ := Int.eq_ofNat_of_zero_le h
 cases s
 ·have h1' : (n : Int) < 18446744073709551616 := h1
  rw [u64_and _ _ h h1' (by decide) (by decide)]
  have := nat_and_ne n 63 (by omega)
  show ((n &&& 2 ^ 63 : Nat) : Int) = if (n : Int) < 9223372036854775808 then 0 else 9223372036854775808
  rw [this]
  by_cases hc : n < 2 ^ 63
  ·rw [if_pos hc, if_pos (by omega)]; omega
  ·rw [if_neg hc, if_neg (by omega)]; omega
 ·have h1' : (n : Int) < 4294967296 := h1
  rw [u64_and _ _ h (by omega) (by decide) (by decide)]
  have := nat_and_ne n 31 (by omega)
  show ((n &&& 2 ^ 31 : Nat) : Int) = if (n : Int) < 2147483648 then 0 else 2147483648
  rw [this]
  by_cases hc : n < 2 ^ 31
  ·rw [if_pos hc, if_pos (by omega)]; omega
  ·rw [if_neg hc, if_neg (by omega)]; omega
theorem or_sign (s : Bool) (a b : Int) (h : 0 ≤ a) (h1 : a < signV s) (hb : b = 0 ∨ b = signV s) : bits .or .u64 a b = a + b := by
 obtain ⟨n, rfl⟩ := Int.eq_ofNat_of_zero_le h
 cases s
 ·have h1' : (n : Int) < 9223372036854775808 := h1
  rcases hb with rfl | rfl
  ·rw [u64_or _ _ h (by omega) (by decide) (by decide)]; simp
  ·have := nat_or n (2 ^ 63) 63 (by omega) (by omega)
   rw [Nat.and_self, if_neg (by omega)] at this
   rw [u64_or _ _ h (by omega) (by decide) (by decide)]
   show ((n ||| 2 ^ 63 : Nat) : Int) = (n : Int) + 9223372036854775808
   rw [this]; omega
 ·have h1' : (n : Int) < 2147483648 := h1
  rcases hb with rfl | rfl
  ·rw [u64_or _ _ h (by omega) (by decide) (by decide)]; simp
  ·have := nat_or n (2 ^ 31) 31 (by omega) (by omega)
   rw [Nat.and_self, if_neg (by omega)] at this
   rw [u64_or _ _ h (by omega) (by decide) (by decide)]
   show ((n ||| 2 ^ 31 : Nat) : Int) = (n : Int) + 2147483648
   rw [this]; omega
end Go.Proofs.YtmoimcblmmcffaaGreatDoor.B

namespace Go.Proofs.YtmoimcblmmcffaaGreatDoor.B
open Go.RowKit
set_option linter.unusedSimpArgs false
set_option linter.unusedVariables false
theorem f32from (n : Int) (w : World) : (callFunc 100 #[.int .u32 n]).run Tryz.prog w = .ok (.value (.float .f32 n.toNat)) w := by kernel_rfl
theorem f64from (n : Int) (w : World) : (callFunc 86 #[.int .u64 n]).run Tryz.prog w = .ok (.value (.float .f64 n.toNat)) w := by kernel_rfl
theorem f32bits (n : Nat) (w : World) : (callFunc 93 #[.float .f32 n]).run Tryz.prog w = .ok (.value (.int .u32 n)) w := by kernel_rfl
theorem f64bits (n : Nat) (w : World) : (callFunc 87 #[.float .f64 n]).run Tryz.prog w = .ok (.value (.int .u64 n)) w := by kernel_rfl
theorem u32w {a : Int} (h : 0 ≤ a) (h1 : a < 4294967296) : IntKind.u32.wrap a = a := by
 simp [IntKind.wrap, IntKind.signed, IntKind.bits]; omega
theorem u64w {a : Int} (h : 0 ≤ a) (h1 : a < 4294967296) : IntKind.u64.wrap a = a := by
 simp [IntKind.wrap, IntKind.signed, IntKind.bits]; omega
theorem real32_c (a : Int) (w : World) (h : 0 ≤ a) (h1 : a < 4294967296) : Calls Tryz.prog 68 #[.int .u64 a] w (Ret (.float .f32 a.toNat) w) := by
 have e := u32w h h1
 have hd := f32from
 clear h h1
 go_enter Tryz.func68, Tryz.ntmps68
 go_wp2
 go_ret
 exact ⟨rfl, below_end⟩
theorem double64_c (a : Int) (w : World) : Calls Tryz.prog 65 #[.int .u64 a] w (Ret (.float .f64 a.toNat) w) := by
 have hd := f64from
 go_enter Tryz.func65, Tryz.ntmps65
 go_wp2
 go_ret
 exact ⟨rfl, below_end⟩
theorem bits32_c (a : Nat) (w : World) (h : a < 4294967296) : Calls Tryz.prog 61 #[.float .f32 a] w (Ret (.int .u64 (cleanV true a)) w) := by
 have c1 := layoutOf_c 1
 have c2 := clean_c true a
 have hd := f32bits
 have e : IntKind.u64.wrap (a : Int) = (a : Int) := u64w (by omega) (by omega)
 clear h
 simp only [layV] at *
 go_enter Tryz.func61, Tryz.ntmps61
 go_wp2_with (first | (go_at_call 25; refine (c1 _).mono ?_; rintro e w1 ⟨rfl, hb1⟩; have HE := Ext.next (w0 := w) (W := w) hb1) | (go_at_call 88; refine (c2 _).mono ?_; rintro e w2 ⟨rfl, hb2⟩; have HE := Ext.next (w0 := w) (W := w) hb2))
 go_ret
 exact ⟨rfl, Ext.end⟩
theorem bits64_c (a : Nat) (w : World) : Calls Tryz.prog 63 #[.float .f64 a] w (Ret (.int .u64 (cleanV false a)) w) := by
 have c1 := layoutOf_c 2
 have c2 := clean_c false a
 have hd := f64bits
 simp only [layV] at *
 go_enter Tryz.func63, Tryz.ntmps63
 go_wp2_with (first | (go_at_call 25; refine (c1 _).mono ?_; rintro e w1 ⟨rfl, hb1⟩; have HE := Ext.next (w0 := w) (W := w) hb1) | (go_at_call 88; refine (c2 _).mono ?_; rintro e w2 ⟨rfl, hb2⟩; have HE := Ext.next (w0 := w) (W := w) hb2))
 go_ret
 exact ⟨rfl, Ext.end⟩
def fkOf : Bool → FloatKind
 | true => .f32
 | false => .f64
def resV (s : Bool) (op : BinOp) (x y : Nat) : Int :=
 match floatBits op (fkOf s) x y with
 | some r => cleanV s r
 | none => nanV s
def RetF (s : Bool) (v : Int) (w : World) : Ending → World → Prop := fun e w' => ∃ r : Nat, e = .returned (.float (fkOf s) r) ∧ r < 2 ^ (fkOf s).format.width ∧ cleanV s r = v ∧ Below w.heap.size w w'
theorem nan_clean (s : Bool) (x y : Nat) (t : Nat) : (Question.nanBits (fkOf s) x y).cut t < 2 ^ (fkOf s).format.width ∧ cleanV s ((Question.nanBits (fkOf s) x y).cut t : Nat) = nanV s := by
 cases s
 ·have h : ((Question.nanBits .f64 x y).cut t) = (t % 2) * 2 ^ 63 + 0x7ff0000000000000 + 1 + (t / 2) % (2 ^ 52 - 1) := rfl
  show (Question.nanBits .f64 x y).cut t < 2 ^ 64 ∧ cleanV false ((Question.nanBits .f64 x y).cut t : Nat) = nanV false
  generalize (Question.nanBits .f64 x y).cut t = r at h
  have hr : r < 2 ^ 64 := by omega
  refine ⟨hr, ?_⟩
  unfold cleanV
  rw [nothing_iff false r (by omega) (by show (r : Int) < 18446744073709551616; omega)]
  rw [if_pos]
  show decide ((9218868437227405312 : Int) < (r : Int) % 9223372036854775808) = true
  rw [decide_eq_true_iff]
  have hb : t % 2 = 0 ∨ t % 2 = 1 := by omega
  rcases hb with hb | hb <;> rw [hb] at h <;> omega
 ·have h : ((Question.nanBits .f32 x y).cut t) = (t % 2) * 2 ^ 31 + 0x7f800000 + 1 + (t / 2) % (2 ^ 23 - 1) := rfl
  show (Question.nanBits .f32 x y).cut t < 2 ^ 32 ∧ cleanV true ((Question.nanBits .f32 x y).cut t : Nat) = nanV true
  generalize (Question.nanBits .f32 x y).cut t = r at h
  have hr : r < 2 ^ 32 := by omega
  refine ⟨hr, ?_⟩
  unfold cleanV
  rw [nothing_iff true r (by omega) (by show (r : Int) < 4294967296; omega)]
  rw [if_pos]
  show decide ((2139095040 : Int) < (r : Int) % 2147483648) = true
  rw [decide_eq_true_iff]
  have hb : t % 2 = 0 ∨ t % 2 = 1 := by omega
  rcases hb with hb | hb <;> rw [hb] at h <;> omega
theorem run_float_nan {P : Program} (w : World) (op : BinOp) (t : TypeId) (k : FloatKind) (x y : Nat) (hop : op = .add ∨ op = .sub ∨ op = .mul ∨ op = .quo) (h : floatBits op k x y = none) :
  (binOp op t (.float k x) (.float k y)).run P w = .ok (.float k ((Question.nanBits k x y).cut (w.tape w.drawn (.nanBits k x y)))) w.drew := by
 rcases hop with rfl | rfl | rfl | rfl <;> simp only [floatBits] at h <;> simp [binOp, Op.floatArith, h, Question.forced]
theorem floatBits_lt {op : BinOp} {k : FloatKind} {x y r : Nat} (h : floatBits op k x y = some r) : r < 2 ^ k.format.width := by
 unfold floatBits at h
 split at h
 ·exact k.format.add_lt h
 ·exact k.format.sub_lt h
 ·exact k.format.mul_lt h
 ·exact k.format.div_lt h
 ·cases h
theorem add_f32_c (x y : Nat) (w : World) : Calls Tryz.prog 112 #[.float .f32 x, .float .f32 y] w (RetF true (resV true .add x y) w) := by
 unfold resV RetF
 cases hf : floatBits .add (fkOf true) x y with
 | some r =>
  have hlt := floatBits_lt hf
  have hrun := fun w => run_float_arith (P := Tryz.prog) w .add 84 .f32 x y r hf
  clear hf
  have H := Lib.hid hlt
  clear hlt
  go_enter Tryz.func112, Tryz.ntmps112
  go_wp2
  go_ret
  exact ⟨r, rfl, H.out, rfl, below_end⟩
 | none =>
  have hrun := fun w => run_float_nan (P := Tryz.prog) w .add 84 .f32 x y (by simp) hf
  have H := Lib.hid (fun t => nan_clean true x y t)
  clear hf
  go_enter Tryz.func112, Tryz.ntmps112
  go_wp2
  go_ret
  exact ⟨_, rfl, (H.out _).1, (H.out _).2, below_end⟩
theorem sub_f32_c (x y : Nat) (w : World) : Calls Tryz.prog 113 #[.float .f32 x, .float .f32 y] w (RetF true (resV true .sub x y) w) := by
 unfold resV RetF
 cases hf : floatBits .sub (fkOf true) x y with
 | some r =>
  have hlt := floatBits_lt hf
  have hrun := fun w => run_float_arith (P := Tryz.prog) w .sub 84 .f32 x y r hf
  clear hf
  have H := Lib.hid hlt
  clear hlt
  go_enter Tryz.func113, Tryz.ntmps113
  go_wp2
  go_ret
  exact ⟨r, rfl, H.out, rfl, below_end⟩
 | none =>
  have hrun := fun w => run_float_nan (P := Tryz.prog) w .sub 84 .f32 x y (by simp) hf
  have H := Lib.hid (fun t => nan_clean true x y t)
  clear hf
  go_enter Tryz.func113, Tryz.ntmps113
  go_wp2
  go_ret
  exact ⟨_, rfl, (H.out _).1, (H.out _).2, below_end⟩
theorem mul_f32_c (x y : Nat) (w : World) : Calls Tryz.prog 114 #[.float .f32 x, .float .f32 y] w (RetF true (resV true .mul x y) w) := by
 unfold resV RetF
 cases hf : floatBits .mul (fkOf true) x y with
 | some r =>
  have hlt := floatBits_lt hf
  have hrun := fun w => run_float_arith (P := Tryz.prog) w .mul 84 .f32 x y r hf
  clear hf
  have H := Lib.hid hlt
  clear hlt
  go_enter Tryz.func114, Tryz.ntmps114
  go_wp2
  go_ret
  exact ⟨r, rfl, H.out, rfl, below_end⟩
 | none =>
  have hrun := fun w => run_float_nan (P := Tryz.prog) w .mul 84 .f32 x y (by simp) hf
  have H := Lib.hid (fun t => nan_clean true x y t)
  clear hf
  go_enter Tryz.func114, Tryz.ntmps114
  go_wp2
  go_ret
  exact ⟨_, rfl, (H.out _).1, (H.out _).2, below_end⟩
theorem quo_f32_c (x y : Nat) (w : World) : Calls Tryz.prog 115 #[.float .f32 x, .float .f32 y] w (RetF true (resV true .quo x y) w) := by
 unfold resV RetF
 cases hf : floatBits .quo (fkOf true) x y with
 | some r =>
  have hlt := floatBits_lt hf
  have hrun := fun w => run_float_arith (P := Tryz.prog) w .quo 84 .f32 x y r hf
  clear hf
  have H := Lib.hid hlt
  clear hlt
  go_enter Tryz.func115, Tryz.ntmps115
  go_wp2
  go_ret
  exact ⟨r, rfl, H.out, rfl, below_end⟩
 | none =>
  have hrun := fun w => run_float_nan (P := Tryz.prog) w .quo 84 .f32 x y (by simp) hf
  have H := Lib.hid (fun t => nan_clean true x y t)
  clear hf
  go_enter Tryz.func115, Tryz.ntmps115
  go_wp2
  go_ret
  exact ⟨_, rfl, (H.out _).1, (H.out _).2, below_end⟩
theorem add_f64_c (x y : Nat) (w : World) : Calls Tryz.prog 116 #[.float .f64 x, .float .f64 y] w (RetF false (resV false .add x y) w) := by
 unfold resV RetF
 cases hf : floatBits .add (fkOf false) x y with
 | some r =>
  have hlt := floatBits_lt hf
  have hrun := fun w => run_float_arith (P := Tryz.prog) w .add 57 .f64 x y r hf
  clear hf
  have H := Lib.hid hlt
  clear hlt
  go_enter Tryz.func116, Tryz.ntmps116
  go_wp2
  go_ret
  exact ⟨r, rfl, H.out, rfl, below_end⟩
 | none =>
  have hrun := fun w => run_float_nan (P := Tryz.prog) w .add 57 .f64 x y (by simp) hf
  have H := Lib.hid (fun t => nan_clean false x y t)
  clear hf
  go_enter Tryz.func116, Tryz.ntmps116
  go_wp2
  go_ret
  exact ⟨_, rfl, (H.out _).1, (H.out _).2, below_end⟩
theorem sub_f64_c (x y : Nat) (w : World) : Calls Tryz.prog 117 #[.float .f64 x, .float .f64 y] w (RetF false (resV false .sub x y) w) := by
 unfold resV RetF
 cases hf : floatBits .sub (fkOf false) x y with
 | some r =>
  have hlt := floatBits_lt hf
  have hrun := fun w => run_float_arith (P := Tryz.prog) w .sub 57 .f64 x y r hf
  clear hf
  have H := Lib.hid hlt
  clear hlt
  go_enter Tryz.func117, Tryz.ntmps117
  go_wp2
  go_ret
  exact ⟨r, rfl, H.out, rfl, below_end⟩
 | none =>
  have hrun := fun w => run_float_nan (P := Tryz.prog) w .sub 57 .f64 x y (by simp) hf
  have H := Lib.hid (fun t => nan_clean false x y t)
  clear hf
  go_enter Tryz.func117, Tryz.ntmps117
  go_wp2
  go_ret
  exact ⟨_, rfl, (H.out _).1, (H.out _).2, below_end⟩
theorem mul_f64_c (x y : Nat) (w : World) : Calls Tryz.prog 118 #[.float .f64 x, .float .f64 y] w (RetF false (resV false .mul x y) w) := by
 unfold resV RetF
 cases hf : floatBits .mul (fkOf false) x y with
 | some r =>
  have hlt := floatBits_lt hf
  have hrun := fun w => run_float_arith (P := Tryz.prog) w .mul 57 .f64 x y r hf
  clear hf
  have H := Lib.hid hlt
  clear hlt
  go_enter Tryz.func118, Tryz.ntmps118
  go_wp2
  go_ret
  exact ⟨r, rfl, H.out, rfl, below_end⟩
 | none =>
  have hrun := fun w => run_float_nan (P := Tryz.prog) w .mul 57 .f64 x y (by simp) hf
  have H := Lib.hid (fun t => nan_clean false x y t)
  clear hf
  go_enter Tryz.func118, Tryz.ntmps118
  go_wp2
  go_ret
  exact ⟨_, rfl, (H.out _).1, (H.out _).2, below_end⟩
theorem quo_f64_c (x y : Nat) (w : World) : Calls Tryz.prog 119 #[.float .f64 x, .float .f64 y] w (RetF false (resV false .quo x y) w) := by
 unfold resV RetF
 cases hf : floatBits .quo (fkOf false) x y with
 | some r =>
  have hlt := floatBits_lt hf
  have hrun := fun w => run_float_arith (P := Tryz.prog) w .quo 57 .f64 x y r hf
  clear hf
  have H := Lib.hid hlt
  clear hlt
  go_enter Tryz.func119, Tryz.ntmps119
  go_wp2
  go_ret
  exact ⟨r, rfl, H.out, rfl, below_end⟩
 | none =>
  have hrun := fun w => run_float_nan (P := Tryz.prog) w .quo 57 .f64 x y (by simp) hf
  have H := Lib.hid (fun t => nan_clean false x y t)
  clear hf
  go_enter Tryz.func119, Tryz.ntmps119
  go_wp2
  go_ret
  exact ⟨_, rfl, (H.out _).1, (H.out _).2, below_end⟩
end Go.Proofs.YtmoimcblmmcffaaGreatDoor.B

namespace Go.Proofs.YtmoimcblmmcffaaGreatDoor.B
open Go.RowKit
set_option linter.unusedSimpArgs false
set_option linter.unusedVariables false
def opFf32 (op : Int) : Value := if op = 0 then .func (.func 112) #[] #[] else if op = 1 then .func (.func 113) #[] #[] else if op = 2 then .func (.func 114) #[] #[] else .func (.func 115) #[] #[]
theorem operation_f32_c (op : Int) (w : World) : Calls Tryz.prog 90 #[.int .i64 op] w (Ret (opFf32 op) w) := by
 unfold opFf32
 by_cases h0 : op = 0
 ·subst h0
  go_enter Tryz.func90, Tryz.ntmps90
  go_wp2
  go_ret
  exact ⟨rfl, below_end⟩
 ·by_cases h1 : op = 1
  ·subst h1
   go_enter Tryz.func90, Tryz.ntmps90
   go_wp2
   go_ret
   exact ⟨rfl, below_end⟩
  ·by_cases h2 : op = 2
   ·subst h2
    go_enter Tryz.func90, Tryz.ntmps90
    go_wp2
    go_ret
    exact ⟨rfl, below_end⟩
   ·rw [if_neg h0, if_neg h1, if_neg h2]
    have b0 : (op == 0) = false := by simpa using h0
    have b1 : (op == 1) = false := by simpa using h1
    have b2 : (op == 2) = false := by simpa using h2
    go_enter Tryz.func90, Tryz.ntmps90
    go_wp2
    go_ret
    exact ⟨rfl, below_end⟩
def opFf64 (op : Int) : Value := if op = 0 then .func (.func 116) #[] #[] else if op = 1 then .func (.func 117) #[] #[] else if op = 2 then .func (.func 118) #[] #[] else .func (.func 119) #[] #[]
theorem operation_f64_c (op : Int) (w : World) : Calls Tryz.prog 91 #[.int .i64 op] w (Ret (opFf64 op) w) := by
 unfold opFf64
 by_cases h0 : op = 0
 ·subst h0
  go_enter Tryz.func91, Tryz.ntmps91
  go_wp2
  go_ret
  exact ⟨rfl, below_end⟩
 ·by_cases h1 : op = 1
  ·subst h1
   go_enter Tryz.func91, Tryz.ntmps91
   go_wp2
   go_ret
   exact ⟨rfl, below_end⟩
  ·by_cases h2 : op = 2
   ·subst h2
    go_enter Tryz.func91, Tryz.ntmps91
    go_wp2
    go_ret
    exact ⟨rfl, below_end⟩
   ·rw [if_neg h0, if_neg h1, if_neg h2]
    have b0 : (op == 0) = false := by simpa using h0
    have b1 : (op == 1) = false := by simpa using h1
    have b2 : (op == 2) = false := by simpa using h2
    go_enter Tryz.func91, Tryz.ntmps91
    go_wp2
    go_ret
    exact ⟨rfl, below_end⟩
theorem on2_add_f32 (a b : Int) (dv : Value) (w : World) (ha : 0 ≤ a ∧ a < 4294967296) (hb : 0 ≤ b ∧ b < 4294967296) :
  Calls Tryz.prog 89 #[.int .i64 1, .int .u64 a, .int .u64 b, .func (.func 112) #[] #[], dv] w (Ret (.int .u64 (resV true .add a.toNat b.toNat)) w) := by
 have c1 := fun w => real32_c a w ha.1 ha.2
 have c2 := fun w => real32_c b w hb.1 hb.2
 have c3 := fun w => add_f32_c a.toNat b.toNat w
 clear ha hb
 go_enter Tryz.func89, Tryz.ntmps89
 go_wp2_with (first | (go_at_call 68; (first | ((with_reducible refine (c1 _).mono ?_); rintro e w1 ⟨rfl, hb1⟩; have HE := Ext.next (w0 := w) (W := w) hb1) | ((with_reducible refine (c2 _).mono ?_); rintro e w1 ⟨rfl, hb1⟩; have HE := Ext.next (w0 := w) (W := w) hb1))) | (go_at_call 112; refine (c3 _).mono ?_; rintro e w1 ⟨r, rfl, hlt, hcl, hb1⟩; have H1 := Lib.hid hlt; have H2 := Lib.hid hcl; clear hlt hcl; have HE := Ext.next (w0 := w) (W := w) hb1) | (go_at_call 61; refine (bits32_c _ _ H1.out).mono ?_; rintro e w1 ⟨rfl, hb1⟩; have HE := Ext.next (w0 := w) (W := w) hb1))
 go_ret
 exact ⟨by rw [← H2.out]; rfl, Ext.end⟩
theorem on2_add_f64 (a b : Int) (dv : Value) (w : World) :
  Calls Tryz.prog 89 #[.int .i64 2, .int .u64 a, .int .u64 b, dv, .func (.func 116) #[] #[]] w (Ret (.int .u64 (resV false .add a.toNat b.toNat)) w) := by
 have c1 := fun w => double64_c a w
 have c2 := fun w => double64_c b w
 have c3 := fun w => add_f64_c a.toNat b.toNat w
 go_enter Tryz.func89, Tryz.ntmps89
 go_wp2_with (first | (go_at_call 65; (first | ((with_reducible refine (c1 _).mono ?_); rintro e w1 ⟨rfl, hb1⟩; have HE := Ext.next (w0 := w) (W := w) hb1) | ((with_reducible refine (c2 _).mono ?_); rintro e w1 ⟨rfl, hb1⟩; have HE := Ext.next (w0 := w) (W := w) hb1))) | (go_at_call 116; refine (c3 _).mono ?_; rintro e w1 ⟨r, rfl, hlt, hcl, hb1⟩; have H1 := Lib.hid hlt; have H2 := Lib.hid hcl; clear hlt hcl; have HE := Ext.next (w0 := w) (W := w) hb1) | (go_at_call 63; refine (bits64_c _ _).mono ?_; rintro e w1 ⟨rfl, hb1⟩; have HE := Ext.next (w0 := w) (W := w) hb1))
 go_ret
 exact ⟨by rw [← H2.out]; rfl, Ext.end⟩
theorem on2_sub_f32 (a b : Int) (dv : Value) (w : World) (ha : 0 ≤ a ∧ a < 4294967296) (hb : 0 ≤ b ∧ b < 4294967296) :
  Calls Tryz.prog 89 #[.int .i64 1, .int .u64 a, .int .u64 b, .func (.func 113) #[] #[], dv] w (Ret (.int .u64 (resV true .sub a.toNat b.toNat)) w) := by
 have c1 := fun w => real32_c a w ha.1 ha.2
 have c2 := fun w => real32_c b w hb.1 hb.2
 have c3 := fun w => sub_f32_c a.toNat b.toNat w
 clear ha hb
 go_enter Tryz.func89, Tryz.ntmps89
 go_wp2_with (first | (go_at_call 68; (first | ((with_reducible refine (c1 _).mono ?_); rintro e w1 ⟨rfl, hb1⟩; have HE := Ext.next (w0 := w) (W := w) hb1) | ((with_reducible refine (c2 _).mono ?_); rintro e w1 ⟨rfl, hb1⟩; have HE := Ext.next (w0 := w) (W := w) hb1))) | (go_at_call 113; refine (c3 _).mono ?_; rintro e w1 ⟨r, rfl, hlt, hcl, hb1⟩; have H1 := Lib.hid hlt; have H2 := Lib.hid hcl; clear hlt hcl; have HE := Ext.next (w0 := w) (W := w) hb1) | (go_at_call 61; refine (bits32_c _ _ H1.out).mono ?_; rintro e w1 ⟨rfl, hb1⟩; have HE := Ext.next (w0 := w) (W := w) hb1))
 go_ret
 exact ⟨by rw [← H2.out]; rfl, Ext.end⟩
theorem on2_sub_f64 (a b : Int) (dv : Value) (w : World) :
  Calls Tryz.prog 89 #[.int .i64 2, .int .u64 a, .int .u64 b, dv, .func (.func 117) #[] #[]] w (Ret (.int .u64 (resV false .sub a.toNat b.toNat)) w) := by
 have c1 := fun w => double64_c a w
 have c2 := fun w => double64_c b w
 have c3 := fun w => sub_f64_c a.toNat b.toNat w
 go_enter Tryz.func89, Tryz.ntmps89
 go_wp2_with (first | (go_at_call 65; (first | ((with_reducible refine (c1 _).mono ?_); rintro e w1 ⟨rfl, hb1⟩; have HE := Ext.next (w0 := w) (W := w) hb1) | ((with_reducible refine (c2 _).mono ?_); rintro e w1 ⟨rfl, hb1⟩; have HE := Ext.next (w0 := w) (W := w) hb1))) | (go_at_call 117; refine (c3 _).mono ?_; rintro e w1 ⟨r, rfl, hlt, hcl, hb1⟩; have H1 := Lib.hid hlt; have H2 := Lib.hid hcl; clear hlt hcl; have HE := Ext.next (w0 := w) (W := w) hb1) | (go_at_call 63; refine (bits64_c _ _).mono ?_; rintro e w1 ⟨rfl, hb1⟩; have HE := Ext.next (w0 := w) (W := w) hb1))
 go_ret
 exact ⟨by rw [← H2.out]; rfl, Ext.end⟩
theorem on2_mul_f32 (a b : Int) (dv : Value) (w : World) (ha : 0 ≤ a ∧ a < 4294967296) (hb : 0 ≤ b ∧ b < 4294967296) :
  Calls Tryz.prog 89 #[.int .i64 1, .int .u64 a, .int .u64 b, .func (.func 114) #[] #[], dv] w (Ret (.int .u64 (resV true .mul a.toNat b.toNat)) w) := by
 have c1 := fun w => real32_c a w ha.1 ha.2
 have c2 := fun w => real32_c b w hb.1 hb.2
 have c3 := fun w => mul_f32_c a.toNat b.toNat w
 clear ha hb
 go_enter Tryz.func89, Tryz.ntmps89
 go_wp2_with (first | (go_at_call 68; (first | ((with_reducible refine (c1 _).mono ?_); rintro e w1 ⟨rfl, hb1⟩; have HE := Ext.next (w0 := w) (W := w) hb1) | ((with_reducible refine (c2 _).mono ?_); rintro e w1 ⟨rfl, hb1⟩; have HE := Ext.next (w0 := w) (W := w) hb1))) | (go_at_call 114; refine (c3 _).mono ?_; rintro e w1 ⟨r, rfl, hlt, hcl, hb1⟩; have H1 := Lib.hid hlt; have H2 := Lib.hid hcl; clear hlt hcl; have HE := Ext.next (w0 := w) (W := w) hb1) | (go_at_call 61; refine (bits32_c _ _ H1.out).mono ?_; rintro e w1 ⟨rfl, hb1⟩; have HE := Ext.next (w0 := w) (W := w) hb1))
 go_ret
 exact ⟨by rw [← H2.out]; rfl, Ext.end⟩
theorem on2_mul_f64 (a b : Int) (dv : Value) (w : World) :
  Calls Tryz.prog 89 #[.int .i64 2, .int .u64 a, .int .u64 b, dv, .func (.func 118) #[] #[]] w (Ret (.int .u64 (resV false .mul a.toNat b.toNat)) w) := by
 have c1 := fun w => double64_c a w
 have c2 := fun w => double64_c b w
 have c3 := fun w => mul_f64_c a.toNat b.toNat w
 go_enter Tryz.func89, Tryz.ntmps89
 go_wp2_with (first | (go_at_call 65; (first | ((with_reducible refine (c1 _).mono ?_); rintro e w1 ⟨rfl, hb1⟩; have HE := Ext.next (w0 := w) (W := w) hb1) | ((with_reducible refine (c2 _).mono ?_); rintro e w1 ⟨rfl, hb1⟩; have HE := Ext.next (w0 := w) (W := w) hb1))) | (go_at_call 118; refine (c3 _).mono ?_; rintro e w1 ⟨r, rfl, hlt, hcl, hb1⟩; have H1 := Lib.hid hlt; have H2 := Lib.hid hcl; clear hlt hcl; have HE := Ext.next (w0 := w) (W := w) hb1) | (go_at_call 63; refine (bits64_c _ _).mono ?_; rintro e w1 ⟨rfl, hb1⟩; have HE := Ext.next (w0 := w) (W := w) hb1))
 go_ret
 exact ⟨by rw [← H2.out]; rfl, Ext.end⟩
theorem on2_quo_f32 (a b : Int) (dv : Value) (w : World) (ha : 0 ≤ a ∧ a < 4294967296) (hb : 0 ≤ b ∧ b < 4294967296) :
  Calls Tryz.prog 89 #[.int .i64 1, .int .u64 a, .int .u64 b, .func (.func 115) #[] #[], dv] w (Ret (.int .u64 (resV true .quo a.toNat b.toNat)) w) := by
 have c1 := fun w => real32_c a w ha.1 ha.2
 have c2 := fun w => real32_c b w hb.1 hb.2
 have c3 := fun w => quo_f32_c a.toNat b.toNat w
 clear ha hb
 go_enter Tryz.func89, Tryz.ntmps89
 go_wp2_with (first | (go_at_call 68; (first | ((with_reducible refine (c1 _).mono ?_); rintro e w1 ⟨rfl, hb1⟩; have HE := Ext.next (w0 := w) (W := w) hb1) | ((with_reducible refine (c2 _).mono ?_); rintro e w1 ⟨rfl, hb1⟩; have HE := Ext.next (w0 := w) (W := w) hb1))) | (go_at_call 115; refine (c3 _).mono ?_; rintro e w1 ⟨r, rfl, hlt, hcl, hb1⟩; have H1 := Lib.hid hlt; have H2 := Lib.hid hcl; clear hlt hcl; have HE := Ext.next (w0 := w) (W := w) hb1) | (go_at_call 61; refine (bits32_c _ _ H1.out).mono ?_; rintro e w1 ⟨rfl, hb1⟩; have HE := Ext.next (w0 := w) (W := w) hb1))
 go_ret
 exact ⟨by rw [← H2.out]; rfl, Ext.end⟩
theorem on2_quo_f64 (a b : Int) (dv : Value) (w : World) :
  Calls Tryz.prog 89 #[.int .i64 2, .int .u64 a, .int .u64 b, dv, .func (.func 119) #[] #[]] w (Ret (.int .u64 (resV false .quo a.toNat b.toNat)) w) := by
 have c1 := fun w => double64_c a w
 have c2 := fun w => double64_c b w
 have c3 := fun w => quo_f64_c a.toNat b.toNat w
 go_enter Tryz.func89, Tryz.ntmps89
 go_wp2_with (first | (go_at_call 65; (first | ((with_reducible refine (c1 _).mono ?_); rintro e w1 ⟨rfl, hb1⟩; have HE := Ext.next (w0 := w) (W := w) hb1) | ((with_reducible refine (c2 _).mono ?_); rintro e w1 ⟨rfl, hb1⟩; have HE := Ext.next (w0 := w) (W := w) hb1))) | (go_at_call 119; refine (c3 _).mono ?_; rintro e w1 ⟨r, rfl, hlt, hcl, hb1⟩; have H1 := Lib.hid hlt; have H2 := Lib.hid hcl; clear hlt hcl; have HE := Ext.next (w0 := w) (W := w) hb1) | (go_at_call 63; refine (bits64_c _ _).mono ?_; rintro e w1 ⟨rfl, hb1⟩; have HE := Ext.next (w0 := w) (W := w) hb1))
 go_ret
 exact ⟨by rw [← H2.out]; rfl, Ext.end⟩
end Go.Proofs.YtmoimcblmmcffaaGreatDoor.B

namespace Fl
open Ieee
def rnd (n d : Nat) : Nat := n / 2 ^ d + (2 ^ d < 2 * (n % 2 ^ d) || (2 ^ d == 2 * (n % 2 ^ d) && n / 2 ^ d % 2 == 1)).toNat
theorem cut_even (neg : Bool) (n d : Nat) : Toward.even.cut neg n d = rnd n d := by
 unfold Toward.cut rnd
 simp only [Nat.one_shiftLeft]
 by_cases h : d ≤ n.log2 + 2
 ·rw [Nat.min_eq_left h]
 ·have h' : n.log2 + 2 ≤ d := by omega
  rw [Nat.min_eq_right h']
  have hlt : n < 2 ^ (n.log2 + 1) := Nat.lt_log2_self
  have e2 : 2 ^ (n.log2 + 2) = 2 * 2 ^ (n.log2 + 1) := by rw [Nat.pow_succ, Nat.mul_comm]
  have hle : 2 ^ (n.log2 + 2) ≤ 2 ^ d := Nat.pow_le_pow_right (by decide) h'
  have d1 : n / 2 ^ (n.log2 + 2) = 0 := Nat.div_eq_of_lt (by omega)
  have d2 : n / 2 ^ d = 0 := Nat.div_eq_of_lt (by omega)
  have m1 : n % 2 ^ (n.log2 + 2) = n := Nat.mod_eq_of_lt (by omega)
  have m2 : n % 2 ^ d = n := Nat.mod_eq_of_lt (by omega)
  simp only [d1, d2, m1, m2]
  have f1 : ¬ (2 ^ (n.log2 + 2) < 2 * n) := by omega
  have f2 : ¬ (2 ^ d < 2 * n) := by omega
  simp [f1, f2]
theorem rnd_zero (n : Nat) : rnd n 0 = n := by
 unfold rnd
 simp [Nat.mod_one]
def sticky (n k : Nat) : Nat := 2 * (n / 2 ^ (k + 1)) + (n % 2 ^ (k + 1) != 0).toNat
theorem pow_split (k d : Nat) : 2 ^ (k + (d + 2)) = 2 ^ (k + 1) * (2 * 2 ^ d) := by
 rw [show k + (d + 2) = (k + 1) + (d + 1) from by omega, Nat.pow_add, Nat.pow_succ 2 d]
 congr 1; omega
theorem rnd_sticky (n k d : Nat) : rnd n (k + (d + 2)) = rnd (sticky n k) (d + 2) := by
 have hP : 0 < 2 ^ (k + 1) := Nat.two_pow_pos _
 have hF : 0 < 2 ^ d := Nat.two_pow_pos _
 unfold rnd sticky
 rw [pow_split]
 have e4 : 2 ^ (d + 2) = 2 * (2 * 2 ^ d) := by rw [Nat.pow_succ, Nat.pow_succ]; omega
 rw [e4]
 generalize 2 ^ (k + 1) = P at *
 generalize 2 ^ d = F at *
 have hn := Nat.div_add_mod n P
 have hr := Nat.mod_lt n hP
 have q1 : n / (P * (2 * F)) = n / P / (2 * F) := (Nat.div_div_eq_div_mul ..).symm
 have m1 : n % (P * (2 * F)) = n % P + P * (n / P % (2 * F)) := Nat.mod_mul
 have hb : (n % P != 0).toNat ≤ 1 := by cases (n % P != 0) <;> decide
 have q2 : (2 * (n / P) + (n % P != 0).toNat) / (2 * (2 * F)) = n / P / (2 * F) := by
  rw [← Nat.div_div_eq_div_mul]; congr 1; omega
 have m2 : (2 * (n / P) + (n % P != 0).toNat) % (2 * (2 * F)) = 2 * (n / P % (2 * F)) + (n % P != 0).toNat := by
  rw [Nat.mod_mul]
  have : (2 * (n / P) + (n % P != 0).toNat) / 2 = n / P := by omega
  rw [this]; omega
 rw [q1, m1, q2, m2]
 generalize n / P = a at *
 generalize n % P = r at *
 generalize a / (2 * F) = q at *
 have hc := Nat.mod_lt a (show 0 < 2 * F by omega)
 generalize a % (2 * F) = c at *
 congr 2
 have key : (P * (2 * F) < 2 * (r + P * c) ↔ 2 * (2 * F) < 2 * (2 * c + (r != 0).toNat)) ∧ (P * (2 * F) = 2 * (r + P * c) ↔ 2 * (2 * F) = 2 * (2 * c + (r != 0).toNat)) := by
  have e : P * (2 * F) = 2 * (P * F) := by rw [Nat.mul_left_comm]
  rw [e]
  rcases Nat.lt_trichotomy F c with h | h | h
  ·have h1 : P * F + P ≤ P * c := by rw [← Nat.mul_succ]; exact Nat.mul_le_mul_left _ h
   constructor <;> constructor <;> intro <;> omega
  ·subst h
   by_cases hr0 : r = 0
   ·subst hr0; simp
   ·have : (r != 0) = true := by simp [hr0]
    rw [this]; constructor <;> constructor <;> intro <;> simp at * <;> omega
  ·have h1 : P * c + P ≤ P * F := by rw [← Nat.mul_succ]; exact Nat.mul_le_mul_left _ h
   constructor <;> constructor <;> intro <;> omega
 congr 1
 ·exact decide_eq_decide.2 key.1
 ·congr 1
  rw [Bool.eq_iff_iff, beq_iff_eq, beq_iff_eq]; exact key.2
def lastOf (f : Format) (m : Nat) (p : Int) : Int := max (p + m.log2 - f.fractionBits) f.leastPlace
def keptOf (f : Format) (m : Nat) (p : Int) : Nat := rnd (m <<< (p - lastOf f m p).toNat) (lastOf f m p - p).toNat
theorem nearest_eq (f : Format) (neg : Bool) (m : Nat) (p : Int) : f.nearest neg m p = if m = 0 then f.word neg 0 else f.word neg (min ((lastOf f m p - f.leastPlace).toNat * f.binade + keptOf f m p) f.infRung) := by
 unfold Format.nearest keptOf lastOf
 simp only [cut_even]
theorem signed_mul (s : Bool) (m a b : Nat) : signed s m (a + b) = signed s m a * 2 ^ b := by
 unfold signed
 have : (m <<< (a + b) : Nat) = (m <<< a) * 2 ^ b := by rw [Nat.shiftLeft_add, Nat.shiftLeft_eq _ b]
 rw [this]
 cases s <;> simp [Int.neg_mul]
theorem compare_mul {x y c : Int} (h : 0 < c) : compare (x * c) (y * c) = compare x y := by
 rcases Int.lt_trichotomy x y with hl | hl | hl
 ·rw [Int.compare_eq_lt.2 hl, Int.compare_eq_lt.2 (Int.mul_lt_mul_of_pos_right hl h)]
 ·subst hl; simp
 ·rw [Int.compare_eq_gt.2 hl, Int.compare_eq_gt.2 (Int.mul_lt_mul_of_pos_right hl h)]
theorem two_pow_pos (n : Nat) : (0 : Int) < 2 ^ n := Int.pow_pos (by decide)
theorem order_at (s t : Bool) (m n : Nat) (i j b : Int) (hi : b ≤ i) (hj : b ≤ j) :
  (Datum.number s m i).order (.number t n j) = some (compare (signed s m (i - b).toNat) (signed t n (j - b).toNat)) := by
 show some (compare (signed s m (i - min i j).toNat) (signed t n (j - min i j).toNat)) = _
 have e1 : (i - b).toNat = (i - min i j).toNat + (min i j - b).toNat := by omega
 have e2 : (j - b).toNat = (j - min i j).toNat + (min i j - b).toNat := by omega
 rw [e1, e2, signed_mul, signed_mul, compare_mul (two_pow_pos _)]
def Same : Datum → Datum → Prop
 | .number s m i, .number t n j => s = t ∧ ∃ b, b ≤ i ∧ b ≤ j ∧ m * 2 ^ (i - b).toNat = n * 2 ^ (j - b).toNat
 | .infinity s, .infinity t => s = t
 | .nan .., .nan .. => True
 | _, _ => False
theorem signed_eq (s : Bool) (m a : Nat) : signed s m a = signed s (m * 2 ^ a) 0 := by
 unfold signed
 simp [Nat.shiftLeft_eq]
theorem Same.order {d d' e e' : Datum} (h : Same d d') (h' : Same e e') : d.order e = d'.order e' := by
 cases d <;> cases d' <;> cases e <;> cases e' <;> try (exact h.elim) <;> try (exact h'.elim)
 all_goals try rfl
 ·rename_i s m i s' m' i' t n j t' n' j'
  obtain ⟨rfl, b, h1, h2, h3⟩ := h
  obtain ⟨rfl, c, k1, k2, k3⟩ := h'
  rw [order_at s t m n i j (min b c) (by omega) (by omega), order_at s t m' n' i' j' (min b c) (by omega) (by omega)]
  have e1 : (i - min b c).toNat = (i - b).toNat + (b - min b c).toNat := by omega
  have e2 : (i' - min b c).toNat = (i' - b).toNat + (b - min b c).toNat := by omega
  have e3 : (j - min b c).toNat = (j - c).toNat + (c - min b c).toNat := by omega
  have e4 : (j' - min b c).toNat = (j' - c).toNat + (c - min b c).toNat := by omega
  rw [e1, e2, e3, e4, signed_mul, signed_mul, signed_mul, signed_mul, signed_eq s m, signed_eq s m', h3, signed_eq t n, signed_eq t n', k3]
 all_goals first | rfl | exact h.elim | exact h'.elim | (cases h; rfl) | (cases h'; rfl) | (cases h; cases h'; rfl) | (obtain ⟨h, -⟩ := h; cases h; rfl) | (obtain ⟨h', -⟩ := h'; cases h'; rfl) | (obtain ⟨h, -⟩ := h; cases h; cases h'; rfl) | (obtain ⟨h', -⟩ := h'; cases h; cases h'; rfl)
theorem binade_pos (f : Format) : 0 < f.binade := Nat.two_pow_pos _
theorem word_parts (f : Format) (neg : Bool) (r : Nat) (h : r < f.signWeight) : (f.word neg r / f.signWeight % 2 == 1) = neg ∧ f.word neg r % f.signWeight = r := by
 have hp : 0 < f.signWeight := Nat.two_pow_pos _
 cases neg
 ·refine ⟨?_, Nat.mod_eq_of_lt h⟩
  show (r / f.signWeight % 2 == 1) = false
  rw [Nat.div_eq_of_lt h]; rfl
 ·refine ⟨?_, ?_⟩
  ·show ((f.signWeight + r) / f.signWeight % 2 == 1) = true
   rw [Nat.add_div_left _ hp, Nat.div_eq_of_lt h]; rfl
  ·show (f.signWeight + r) % f.signWeight = r
   rw [Nat.add_mod_left, Nat.mod_eq_of_lt h]
theorem read_word_sub (f : Format) (neg : Bool) (k : Nat) (h : k < f.binade) : f.read (f.word neg k) = .number neg k f.leastPlace := by
 have h1 := f.infRung_add_binade
 obtain ⟨e1, e2⟩ := word_parts f neg k (by omega)
 unfold Format.read
 simp only [e1, e2, h, if_true]
theorem read_word_normal (f : Format) (neg : Bool) (q k : Nat) (hk : f.binade ≤ k) (hk2 : k < 2 * f.binade) (hq : q * f.binade + k < f.infRung) :
  f.read (f.word neg (q * f.binade + k)) = .number neg k (f.leastPlace + q) := by
 have hb := binade_pos f
 have h1 := f.infRung_add_binade
 obtain ⟨e1, e2⟩ := word_parts f neg (q * f.binade + k) (by omega)
 unfold Format.read
 have n1 : ¬ (q * f.binade + k < f.binade) := by omega
 have d1 : (q * f.binade + k) / f.binade = q + 1 := by
  have : k / f.binade = 1 := Nat.div_eq_of_lt_le (by omega) (by omega)
  rw [Nat.add_comm, Nat.add_mul_div_right _ _ hb, this]; omega
 have m1 : (q * f.binade + k) % f.binade = k - f.binade := by
  rw [Nat.add_comm, Nat.add_mul_mod_self_right, Nat.mod_eq_sub_mod hk, Nat.mod_eq_of_lt (by omega)]
 simp only [e1, e2, n1, if_false, hq, if_true, d1, m1]
 congr 1
 ·omega
theorem read_word_inf (f : Format) (neg : Bool) (hf : f.binade ≤ f.infRung) : f.read (f.word neg f.infRung) = .infinity neg := by
 obtain ⟨e1, e2⟩ := word_parts f neg f.infRung f.infRung_lt
 unfold Format.read
 have n1 : ¬ f.infRung < f.binade := by omega
 simp only [e1, e2, n1, if_false, Nat.lt_irrefl, if_true]
theorem double_least : double.leastPlace = -1074 := by decide
theorem double_inf : double.infRung = 9218868437227405312 := by decide
theorem double_binade : double.binade = 4503599627370496 := by decide
theorem single_least : single.leastPlace = -149 := by decide
theorem single_inf : single.infRung = 2139095040 := by decide
theorem single_binade : single.binade = 8388608 := by decide
theorem double_sign : double.signWeight = 9223372036854775808 := by decide
theorem double_of_small (neg : Bool) (m : Nat) (p : Int) (hm : m < 16777216) (h1 : -149 ≤ p) (h2 : p ≤ 104) :
  Same (double.read (double.nearest neg m p)) (.number neg m p) ∧ (double.read (double.nearest neg m p)).isInfinity = false := by
 rw [nearest_eq]
 by_cases h0 : m = 0
 ·subst h0
  rw [if_pos rfl, read_word_sub _ _ _ (by decide), double_least]
  refine ⟨⟨rfl, -1074, by omega, by omega, by simp⟩, rfl⟩
 ·rw [if_neg h0]
  have hl : m.log2 < 24 := (Nat.log2_lt h0).2 (by omega)
  have hlo : 2 ^ m.log2 ≤ m := Nat.log2_self_le h0
  have hhi : m < 2 ^ (m.log2 + 1) := Nat.lt_log2_self
  obtain ⟨l, hl0⟩ : ∃ l, m.log2 = l := ⟨_, rfl⟩
  have hL : lastOf double m p = p + l - 52 := by
   unfold lastOf
   rw [hl0, double_least]
   show max (p + (l : Int) - 52) (-1074) = p + l - 52
   omega
  rw [hl0] at hl hlo hhi
  have hk : keptOf double m p = m * 2 ^ (52 - l) := by
   unfold keptOf
   rw [hL, show (p + l - 52 - p).toNat = 0 from by omega, rnd_zero, show (p - (p + l - 52)).toNat = 52 - l from by omega, Nat.shiftLeft_eq]
  have k1 : 2 ^ 52 ≤ m * 2 ^ (52 - l) := by
   have : 2 ^ l * 2 ^ (52 - l) = 2 ^ 52 := by rw [← Nat.pow_add]; congr 1; omega
   rw [← this]; exact Nat.mul_le_mul_right _ hlo
  have k2 : m * 2 ^ (52 - l) < 2 ^ 53 := by
   have : 2 ^ (l + 1) * 2 ^ (52 - l) = 2 ^ 53 := by rw [← Nat.pow_add]; congr 1; omega
   rw [← this]; exact Nat.mul_lt_mul_of_pos_right hhi (Nat.two_pow_pos _)
  rw [hL, hk, double_least]
  have e : (p + l - 52 - -1074).toNat * double.binade + m * 2 ^ (52 - l) < double.infRung := by
   rw [double_binade, double_inf]
   have : (p + l - 52 - -1074).toNat ≤ 1149 := by omega
   omega
  rw [Nat.min_eq_left (Nat.le_of_lt e), read_word_normal _ _ _ _ (by rw [double_binade]; exact k1) (by rw [double_binade]; exact k2) e, double_least]
  refine ⟨⟨rfl, p + l - 52, by omega, by omega, ?_⟩, rfl⟩
  rw [show (-1074 + ((p + l - 52 - -1074).toNat : Int) - (p + l - 52)).toNat = 0 from by omega, show (p - (p + l - 52)).toNat = 52 - l from by omega, Nat.pow_zero, Nat.mul_one]
theorem Same.refl (d : Datum) : Same d d := by
 cases d with
 | number s m p => exact ⟨rfl, p, Int.le_refl _, Int.le_refl _, rfl⟩
 | infinity s => exact rfl
 | nan s m => exact trivial
theorem read_cases (f : Format) (a : Nat) :
  (∃ neg k, f.read a = .number neg k f.leastPlace ∧ k < f.binade) ∨
  (∃ neg k, ∃ q : Nat, f.read a = .number neg k (f.leastPlace + q) ∧ f.binade ≤ k ∧ k < 2 * f.binade ∧ (q + 1) * f.binade < f.infRung) ∨
  (∃ neg, f.read a = .infinity neg) ∨ (∃ neg k, f.read a = .nan neg k) := by
 have hb := binade_pos f
 unfold Format.read
 simp only []
 generalize a % f.signWeight = r
 generalize (a / f.signWeight % 2 == 1) = neg
 by_cases h1 : r < f.binade
 ·rw [if_pos h1]; exact .inl ⟨_, _, rfl, h1⟩
 ·rw [if_neg h1]
  by_cases h2 : r < f.infRung
  ·rw [if_pos h2]
   refine .inr (.inl ⟨_, _, _, rfl, by omega, ?_, ?_⟩)
   ·have := Nat.mod_lt r hb; omega
   ·have h3 := Nat.div_mul_le_self r f.binade
    have h4 : 1 ≤ r / f.binade := (Nat.le_div_iff_mul_le hb).2 (by omega)
    have h5 : r / f.binade - 1 + 1 = r / f.binade := by omega
    rw [h5]; omega
  ·rw [if_neg h2]
   by_cases h3 : r = f.infRung
   ·rw [if_pos h3]; exact .inr (.inr (.inl ⟨_, rfl⟩))
   ·rw [if_neg h3]; exact .inr (.inr (.inr ⟨_, _, rfl⟩))
theorem single_number {a : Nat} {neg : Bool} {m : Nat} {p : Int} (h : single.read a = .number neg m p) : m < 16777216 ∧ -149 ≤ p ∧ p ≤ 104 := by
 rcases read_cases single a with ⟨n, k, e, hk⟩ | ⟨n, k, q, e, h1, h2, h3⟩ | ⟨n, e⟩ | ⟨n, k, e⟩
 ·rw [e] at h; cases h; rw [single_binade] at hk; rw [single_least]; omega
 ·rw [e] at h; cases h; rw [single_binade] at h1 h2 h3; rw [single_inf] at h3; rw [single_least]; omega
 ·rw [e] at h; cases h
 ·rw [e] at h; cases h
end Fl

namespace Go.Proofs.YtmoimcblmmcffaaGreatDoor.B
open Go.RowKit
set_option linter.unusedSimpArgs false
set_option linter.unusedVariables false
def WideOK (s : Bool) (n r : Nat) : Prop := Fl.Same (Ieee.double.read r) ((fkOf s).format.read n)
def RetW (s : Bool) (a : Int) (w : World) : Ending → World → Prop := fun e w' => ∃ r : Nat, e = .returned (.float .f64 r) ∧ WideOK s a.toNat r ∧ Below w.heap.size w w'
theorem run_convert_nan {P : Program} {src dst : TypeId} {b : Nat} {s : Bool} {t : Nat} (hs : (P.underlying src).isSome = true) (hd : P.underlying dst = some (.float .f64)) (h : Ieee.single.read b = .nan s t) (w : World) :
  (convert src dst (.float .f32 b)).run P w = .ok (.float .f64 ((Question.nanConv .f64 b).cut (w.tape w.drawn (.nanConv .f64 b)))) w.drew := by
 obtain ⟨u, hs'⟩ := Option.isSome_iff_exists.1 hs
 have h' : FloatKind.f32.decode b = .nan s t := h
 cases u <;> simp [convert, run_underlying hs', run_underlying hd, Conv.floatToFloat, h', Question.forced]
theorem nanConv_nan (b t : Nat) : ∃ s u, Ieee.double.read ((Question.nanConv .f64 b).cut t) = .nan s u := by
 have h : ((Question.nanConv .f64 b).cut t) = (t % 2) * 2 ^ 63 + 0x7ff0000000000000 + 1 + (t / 2) % (2 ^ 52 - 1) := rfl
 generalize (Question.nanConv .f64 b).cut t = r at h
 unfold Ieee.Format.read
 simp only [Fl.double_sign, Fl.double_binade, Fl.double_inf]
 have hb : t % 2 = 0 ∨ t % 2 = 1 := by omega
 have hm : r % 9223372036854775808 = 9218868437227405313 + (t / 2) % 4503599627370495 := by
  rcases hb with hb | hb <;> rw [hb] at h <;> omega
 rw [hm]
 rw [if_neg (by omega), if_neg (by omega), if_neg (by omega)]
 exact ⟨_, _, rfl⟩
theorem wide_c (s : Bool) (a : Int) (w : World) (h : 0 ≤ a) (h1 : a < topV s) : Calls Tryz.prog 45 #[.int .i64 (if s then 1 else 2), .int .u64 a] w (RetW s a w) := by
 cases s
 ·have c1 := fun w => double64_c a w
  clear h h1
  go_enter Tryz.func45, Tryz.ntmps45
  go_wp2_with (go_at_call 65; refine (c1 _).mono ?_; rintro e w1 ⟨rfl, hb1⟩; have HE := Ext.next (w0 := w) (W := w) hb1)
  go_ret
  exact ⟨_, rfl, Fl.Same.refl _, Ext.end⟩
 ·have h1' : a < 4294967296 := h1
  have c1 := fun w => real32_c a w h h1'
  clear h h1 h1'
  have hs : (Tryz.prog.underlying 84).isSome = true := by rw [Tryz.underlying84]; rfl
  unfold RetW
  generalize a.toNat = n at *
  cases hr : Ieee.single.read n with
  | number neg m p =>
   have hb := Fl.single_number hr
   have hd := Fl.double_of_small neg m p hb.1 hb.2.1 hb.2.2
   have hrun : ∀ w, (convert 84 57 (.float .f32 n)).run Tryz.prog w = .ok (.float .f64 (Ieee.double.nearest neg m p)) w := fun w => run_convert_float_float w _ _ .f32 .f64 n _ hs Tryz.underlying57 (by
    unfold floatToFloatBits
    rw [if_neg (by decide)]
    have h' : FloatKind.f32.decode n = .number neg m p := hr
    rw [h']
    have h2 : (FloatKind.f64.decode (FloatKind.f64.encode (.number neg m p))).isInfinity = false := hd.2
    simp only [h2]
    rfl)
   have hok : WideOK true n (Ieee.double.nearest neg m p) := by
    show Fl.Same _ (Ieee.single.read n)
    rw [hr]; exact hd.1
   have H := Lib.hid hok
   clear hok hd hb hr hs
   generalize Ieee.double.nearest neg m p = r at *
   go_enter Tryz.func45, Tryz.ntmps45
   go_wp2_with (go_at_call 68; refine (c1 _).mono ?_; rintro e w1 ⟨rfl, hb1⟩; have HE := Ext.next (w0 := w) (W := w) hb1)
   go_ret
   exact ⟨_, rfl, H.out, Ext.end⟩
  | infinity neg =>
   have hrun : ∀ w, (convert 84 57 (.float .f32 n)).run Tryz.prog w = .ok (.float .f64 (Ieee.double.word neg Ieee.double.infRung)) w := fun w => run_convert_float_float w _ _ .f32 .f64 n _ hs Tryz.underlying57 (by
    unfold floatToFloatBits
    rw [if_neg (by decide)]
    have h' : FloatKind.f32.decode n = .infinity neg := hr
    rw [h']
    rfl)
   have hok : WideOK true n (Ieee.double.word neg Ieee.double.infRung) := by
    show Fl.Same _ (Ieee.single.read n)
    rw [hr, Fl.read_word_inf _ _ (by decide)]; exact rfl
   have H := Lib.hid hok
   clear hok hr hs
   generalize Ieee.double.word neg Ieee.double.infRung = r at *
   go_enter Tryz.func45, Tryz.ntmps45
   go_wp2_with (go_at_call 68; refine (c1 _).mono ?_; rintro e w1 ⟨rfl, hb1⟩; have HE := Ext.next (w0 := w) (W := w) hb1)
   go_ret
   exact ⟨_, rfl, H.out, Ext.end⟩
  | nan neg t =>
   have hrun := fun w => run_convert_nan (P := Tryz.prog) (src := 84) (dst := 57) hs Tryz.underlying57 hr w
   have hok : ∀ t, WideOK true n ((Question.nanConv .f64 n).cut t) := fun t => by
    show Fl.Same _ (Ieee.single.read n)
    obtain ⟨s, u, e⟩ := nanConv_nan n t
    rw [hr, e]; exact trivial
   have H := Lib.hid hok
   clear hok hr hs
   go_enter Tryz.func45, Tryz.ntmps45
   go_wp2_with (go_at_call 68; refine (c1 _).mono ?_; rintro e w1 ⟨rfl, hb1⟩; have HE := Ext.next (w0 := w) (W := w) hb1)
   go_ret
   exact ⟨_, rfl, H.out _, below_drew' (Ext.end (W := w))⟩
def ordV (s : Bool) (a b : Int) : Option Ordering := (fkOf s).format.order a.toNat b.toNat
theorem wide_order {s : Bool} {a b : Int} {x y : Nat} (hx : WideOK s a.toNat x) (hy : WideOK s b.toNat y) : FloatKind.f64.format.order x y = ordV s a b := Fl.Same.order hx hy
theorem valid_ok2 {t a b : Int} (h : validV t [a, b] = 0) : (t = 1 ∧ a < 4294967296 ∧ b < 4294967296) ∨ t = 2 := by
 unfold validV typeErrV bitsErrV at h
 by_cases h1 : t = 1
 ·subst h1; simp at h; left; exact ⟨rfl, by omega, by omega⟩
 ·by_cases h2 : t = 2
  ·exact .inr h2
  ·simp [h1, h2] at h
theorem valid_s2 {t a b : Int} (ha : U64 a) (hb : U64 b) (h : validV t [a, b] = 0) : ∃ s : Bool, t = (if s then 1 else 2) ∧ (t == 1) = s ∧ a < topV s ∧ b < topV s := by
 rcases valid_ok2 h with ⟨rfl, h1, h2⟩ | rfl
 ·exact ⟨true, rfl, rfl, h1, h2⟩
 ·exact ⟨false, rfl, rfl, by show a < 18446744073709551616; omega, by show b < 18446744073709551616; omega⟩
theorem valid_s1 {t a : Int} (ha : U64 a) (h : validV t [a] = 0) : ∃ s : Bool, t = (if s then 1 else 2) ∧ (t == 1) = s ∧ a < topV s := by
 rcases valid_ok1 h with ⟨rfl, h1⟩ | rfl
 ·exact ⟨true, rfl, rfl, h1⟩
 ·exact ⟨false, rfl, rfl, by show a < 18446744073709551616; omega⟩
end Go.Proofs.YtmoimcblmmcffaaGreatDoor.B

namespace Go.Proofs.YtmoimcblmmcffaaGreatDoor.B
open Go.RowKit
set_option linter.unusedSimpArgs false
set_option linter.unusedVariables false
def opB (op : Int) : BinOp := if op = 0 then .add else if op = 1 then .sub else if op = 2 then .mul else .quo
def lessV (s : Bool) (a b : Int) : Bool := ordV s a b == some .lt || (zeroV s a && (zeroV s b && decide (b < a)))
def signOfV (s : Bool) (a b : Int) : Int := if nothingV s a = true then nanV s else bits .or .u64 (bits .andNot .u64 a (signV s)) (bits .and .u64 b (signV s))
def extremeV (least : Bool) (s : Bool) (a b : Int) : Int := if nothingV s a = true then cleanV s b else if nothingV s b = true then a else if lessV s a b == least then a else b
def applyV (op : Int) (s : Bool) (a b : Int) : Int :=
 if op = 4 then signOfV s a b else if op = 5 then extremeV true s a b else if op = 6 then extremeV false s a b else resV s (opB op) a.toNat b.toNat
theorem apply_add_f32 (a b : Int) (w : World) (ha : U64 a) (hb : U64 b) (h1 : a < topV true) (h2 : b < topV true) :
  Calls Tryz.prog 55 #[.int .i64 0, .int .i64 1, .int .u64 a, .int .u64 b] w (Ret (.int .u64 (resV true .add a.toNat b.toNat)) w) := by
 have c1 := layoutOf_c 1
 have c2 := operation_f32_c 0
 have c3 := operation_f64_c 0
 have c4 := fun dv w => ((on2_add_f32 a b dv w ⟨ha.1, h1⟩ ⟨hb.1, h2⟩) : Calls _ _ _ w _)
 clear ha hb h1 h2
 generalize resV true .add a.toNat b.toNat = r at *
 simp only [layV] at *
 simp [opFf32] at c2
 simp [opFf64] at c3
 go_enter Tryz.func55, Tryz.ntmps55
 go_wp2_with (first | (go_at_call 25; refine (c1 _).mono ?_; rintro e w1 ⟨rfl, hb1⟩; have HE := Ext.next (w0 := w) (W := w) hb1) | (go_at_call 90; refine (c2 _).mono ?_; rintro e w1 ⟨rfl, hb1⟩; have HE := Ext.next (w0 := w) (W := w) hb1) | (go_at_call 91; refine (c3 _).mono ?_; rintro e w1 ⟨rfl, hb1⟩; have HE := Ext.next (w0 := w) (W := w) hb1) | (go_at_call 89; refine (c4 _ _).mono ?_; rintro e w1 ⟨rfl, hb1⟩; have HE := Ext.next (w0 := w) (W := w) hb1))
 go_ret
 exact ⟨rfl, Ext.end⟩
theorem apply_add_f64 (a b : Int) (w : World) (ha : U64 a) (hb : U64 b) (h1 : a < topV false) (h2 : b < topV false) :
  Calls Tryz.prog 55 #[.int .i64 0, .int .i64 2, .int .u64 a, .int .u64 b] w (Ret (.int .u64 (resV false .add a.toNat b.toNat)) w) := by
 have c1 := layoutOf_c 2
 have c2 := operation_f32_c 0
 have c3 := operation_f64_c 0
 have c4 := fun dv w => ((on2_add_f64 a b dv w) : Calls _ _ _ w _)
 clear ha hb h1 h2
 generalize resV false .add a.toNat b.toNat = r at *
 simp only [layV] at *
 simp [opFf32] at c2
 simp [opFf64] at c3
 go_enter Tryz.func55, Tryz.ntmps55
 go_wp2_with (first | (go_at_call 25; refine (c1 _).mono ?_; rintro e w1 ⟨rfl, hb1⟩; have HE := Ext.next (w0 := w) (W := w) hb1) | (go_at_call 90; refine (c2 _).mono ?_; rintro e w1 ⟨rfl, hb1⟩; have HE := Ext.next (w0 := w) (W := w) hb1) | (go_at_call 91; refine (c3 _).mono ?_; rintro e w1 ⟨rfl, hb1⟩; have HE := Ext.next (w0 := w) (W := w) hb1) | (go_at_call 89; refine (c4 _ _).mono ?_; rintro e w1 ⟨rfl, hb1⟩; have HE := Ext.next (w0 := w) (W := w) hb1))
 go_ret
 exact ⟨rfl, Ext.end⟩
theorem apply_sub_f32 (a b : Int) (w : World) (ha : U64 a) (hb : U64 b) (h1 : a < topV true) (h2 : b < topV true) :
  Calls Tryz.prog 55 #[.int .i64 1, .int .i64 1, .int .u64 a, .int .u64 b] w (Ret (.int .u64 (resV true .sub a.toNat b.toNat)) w) := by
 have c1 := layoutOf_c 1
 have c2 := operation_f32_c 1
 have c3 := operation_f64_c 1
 have c4 := fun dv w => ((on2_sub_f32 a b dv w ⟨ha.1, h1⟩ ⟨hb.1, h2⟩) : Calls _ _ _ w _)
 clear ha hb h1 h2
 generalize resV true .sub a.toNat b.toNat = r at *
 simp only [layV] at *
 simp [opFf32] at c2
 simp [opFf64] at c3
 go_enter Tryz.func55, Tryz.ntmps55
 go_wp2_with (first | (go_at_call 25; refine (c1 _).mono ?_; rintro e w1 ⟨rfl, hb1⟩; have HE := Ext.next (w0 := w) (W := w) hb1) | (go_at_call 90; refine (c2 _).mono ?_; rintro e w1 ⟨rfl, hb1⟩; have HE := Ext.next (w0 := w) (W := w) hb1) | (go_at_call 91; refine (c3 _).mono ?_; rintro e w1 ⟨rfl, hb1⟩; have HE := Ext.next (w0 := w) (W := w) hb1) | (go_at_call 89; refine (c4 _ _).mono ?_; rintro e w1 ⟨rfl, hb1⟩; have HE := Ext.next (w0 := w) (W := w) hb1))
 go_ret
 exact ⟨rfl, Ext.end⟩
theorem apply_sub_f64 (a b : Int) (w : World) (ha : U64 a) (hb : U64 b) (h1 : a < topV false) (h2 : b < topV false) :
  Calls Tryz.prog 55 #[.int .i64 1, .int .i64 2, .int .u64 a, .int .u64 b] w (Ret (.int .u64 (resV false .sub a.toNat b.toNat)) w) := by
 have c1 := layoutOf_c 2
 have c2 := operation_f32_c 1
 have c3 := operation_f64_c 1
 have c4 := fun dv w => ((on2_sub_f64 a b dv w) : Calls _ _ _ w _)
 clear ha hb h1 h2
 generalize resV false .sub a.toNat b.toNat = r at *
 simp only [layV] at *
 simp [opFf32] at c2
 simp [opFf64] at c3
 go_enter Tryz.func55, Tryz.ntmps55
 go_wp2_with (first | (go_at_call 25; refine (c1 _).mono ?_; rintro e w1 ⟨rfl, hb1⟩; have HE := Ext.next (w0 := w) (W := w) hb1) | (go_at_call 90; refine (c2 _).mono ?_; rintro e w1 ⟨rfl, hb1⟩; have HE := Ext.next (w0 := w) (W := w) hb1) | (go_at_call 91; refine (c3 _).mono ?_; rintro e w1 ⟨rfl, hb1⟩; have HE := Ext.next (w0 := w) (W := w) hb1) | (go_at_call 89; refine (c4 _ _).mono ?_; rintro e w1 ⟨rfl, hb1⟩; have HE := Ext.next (w0 := w) (W := w) hb1))
 go_ret
 exact ⟨rfl, Ext.end⟩
theorem apply_mul_f32 (a b : Int) (w : World) (ha : U64 a) (hb : U64 b) (h1 : a < topV true) (h2 : b < topV true) :
  Calls Tryz.prog 55 #[.int .i64 2, .int .i64 1, .int .u64 a, .int .u64 b] w (Ret (.int .u64 (resV true .mul a.toNat b.toNat)) w) := by
 have c1 := layoutOf_c 1
 have c2 := operation_f32_c 2
 have c3 := operation_f64_c 2
 have c4 := fun dv w => ((on2_mul_f32 a b dv w ⟨ha.1, h1⟩ ⟨hb.1, h2⟩) : Calls _ _ _ w _)
 clear ha hb h1 h2
 generalize resV true .mul a.toNat b.toNat = r at *
 simp only [layV] at *
 simp [opFf32] at c2
 simp [opFf64] at c3
 go_enter Tryz.func55, Tryz.ntmps55
 go_wp2_with (first | (go_at_call 25; refine (c1 _).mono ?_; rintro e w1 ⟨rfl, hb1⟩; have HE := Ext.next (w0 := w) (W := w) hb1) | (go_at_call 90; refine (c2 _).mono ?_; rintro e w1 ⟨rfl, hb1⟩; have HE := Ext.next (w0 := w) (W := w) hb1) | (go_at_call 91; refine (c3 _).mono ?_; rintro e w1 ⟨rfl, hb1⟩; have HE := Ext.next (w0 := w) (W := w) hb1) | (go_at_call 89; refine (c4 _ _).mono ?_; rintro e w1 ⟨rfl, hb1⟩; have HE := Ext.next (w0 := w) (W := w) hb1))
 go_ret
 exact ⟨rfl, Ext.end⟩
theorem apply_mul_f64 (a b : Int) (w : World) (ha : U64 a) (hb : U64 b) (h1 : a < topV false) (h2 : b < topV false) :
  Calls Tryz.prog 55 #[.int .i64 2, .int .i64 2, .int .u64 a, .int .u64 b] w (Ret (.int .u64 (resV false .mul a.toNat b.toNat)) w) := by
 have c1 := layoutOf_c 2
 have c2 := operation_f32_c 2
 have c3 := operation_f64_c 2
 have c4 := fun dv w => ((on2_mul_f64 a b dv w) : Calls _ _ _ w _)
 clear ha hb h1 h2
 generalize resV false .mul a.toNat b.toNat = r at *
 simp only [layV] at *
 simp [opFf32] at c2
 simp [opFf64] at c3
 go_enter Tryz.func55, Tryz.ntmps55
 go_wp2_with (first | (go_at_call 25; refine (c1 _).mono ?_; rintro e w1 ⟨rfl, hb1⟩; have HE := Ext.next (w0 := w) (W := w) hb1) | (go_at_call 90; refine (c2 _).mono ?_; rintro e w1 ⟨rfl, hb1⟩; have HE := Ext.next (w0 := w) (W := w) hb1) | (go_at_call 91; refine (c3 _).mono ?_; rintro e w1 ⟨rfl, hb1⟩; have HE := Ext.next (w0 := w) (W := w) hb1) | (go_at_call 89; refine (c4 _ _).mono ?_; rintro e w1 ⟨rfl, hb1⟩; have HE := Ext.next (w0 := w) (W := w) hb1))
 go_ret
 exact ⟨rfl, Ext.end⟩
theorem apply_quo_f32 (a b : Int) (w : World) (ha : U64 a) (hb : U64 b) (h1 : a < topV true) (h2 : b < topV true) :
  Calls Tryz.prog 55 #[.int .i64 3, .int .i64 1, .int .u64 a, .int .u64 b] w (Ret (.int .u64 (resV true .quo a.toNat b.toNat)) w) := by
 have c1 := layoutOf_c 1
 have c2 := operation_f32_c 3
 have c3 := operation_f64_c 3
 have c4 := fun dv w => ((on2_quo_f32 a b dv w ⟨ha.1, h1⟩ ⟨hb.1, h2⟩) : Calls _ _ _ w _)
 clear ha hb h1 h2
 generalize resV true .quo a.toNat b.toNat = r at *
 simp only [layV] at *
 simp [opFf32] at c2
 simp [opFf64] at c3
 go_enter Tryz.func55, Tryz.ntmps55
 go_wp2_with (first | (go_at_call 25; refine (c1 _).mono ?_; rintro e w1 ⟨rfl, hb1⟩; have HE := Ext.next (w0 := w) (W := w) hb1) | (go_at_call 90; refine (c2 _).mono ?_; rintro e w1 ⟨rfl, hb1⟩; have HE := Ext.next (w0 := w) (W := w) hb1) | (go_at_call 91; refine (c3 _).mono ?_; rintro e w1 ⟨rfl, hb1⟩; have HE := Ext.next (w0 := w) (W := w) hb1) | (go_at_call 89; refine (c4 _ _).mono ?_; rintro e w1 ⟨rfl, hb1⟩; have HE := Ext.next (w0 := w) (W := w) hb1))
 go_ret
 exact ⟨rfl, Ext.end⟩
theorem apply_quo_f64 (a b : Int) (w : World) (ha : U64 a) (hb : U64 b) (h1 : a < topV false) (h2 : b < topV false) :
  Calls Tryz.prog 55 #[.int .i64 3, .int .i64 2, .int .u64 a, .int .u64 b] w (Ret (.int .u64 (resV false .quo a.toNat b.toNat)) w) := by
 have c1 := layoutOf_c 2
 have c2 := operation_f32_c 3
 have c3 := operation_f64_c 3
 have c4 := fun dv w => ((on2_quo_f64 a b dv w) : Calls _ _ _ w _)
 clear ha hb h1 h2
 generalize resV false .quo a.toNat b.toNat = r at *
 simp only [layV] at *
 simp [opFf32] at c2
 simp [opFf64] at c3
 go_enter Tryz.func55, Tryz.ntmps55
 go_wp2_with (first | (go_at_call 25; refine (c1 _).mono ?_; rintro e w1 ⟨rfl, hb1⟩; have HE := Ext.next (w0 := w) (W := w) hb1) | (go_at_call 90; refine (c2 _).mono ?_; rintro e w1 ⟨rfl, hb1⟩; have HE := Ext.next (w0 := w) (W := w) hb1) | (go_at_call 91; refine (c3 _).mono ?_; rintro e w1 ⟨rfl, hb1⟩; have HE := Ext.next (w0 := w) (W := w) hb1) | (go_at_call 89; refine (c4 _ _).mono ?_; rintro e w1 ⟨rfl, hb1⟩; have HE := Ext.next (w0 := w) (W := w) hb1))
 go_ret
 exact ⟨rfl, Ext.end⟩
end Go.Proofs.YtmoimcblmmcffaaGreatDoor.B

namespace Go.Proofs.YtmoimcblmmcffaaGreatDoor.B
open Go.RowKit
set_option linter.unusedSimpArgs false
set_option linter.unusedVariables false
theorem apply_sign_true (a b : Int) (w : World) : Calls Tryz.prog 55 #[.int .i64 4, .int .i64 1, .int .u64 a, .int .u64 b] w (Ret (.int .u64 (signOfV true a b)) w) := by
 have c1 := layoutOf_c 1
 have c2 := isNothing_c true a
 have c3 := sign_c true
 unfold signOfV
 generalize nothingV true a = n at *
 simp only [layV, signV, nanV] at *
 cases n
 ·go_enter Tryz.func55, Tryz.ntmps55
  go_upto_region 4 with (go_at_call 25; refine (c1 _).mono ?_; rintro e w1 ⟨rfl, hb1⟩; have HE := Ext.next (w0 := w) (W := w) hb1)
  refine hide1 w (fun W k0 s0 HW => ?_)
  go_upto_region 6 with (go_at_call 27; refine (c2 _).mono ?_; rintro e w1 ⟨rfl, hb1⟩; have HE := Ext.next (w0 := w) (W := W) hb1)
  go_region_held3 (fun w' => Ext w W w') (first | exact Ext.drew (by assumption) | exact Ext.next (by assumption)) ((go_at_call 26; refine (c3 _).mono ?_; rintro e w1 ⟨rfl, hb1⟩))
  go_wp2
  go_ret
  exact ⟨rfl, Ext.end⟩
 ·go_enter Tryz.func55, Tryz.ntmps55
  go_upto_region 4 with (go_at_call 25; refine (c1 _).mono ?_; rintro e w1 ⟨rfl, hb1⟩; have HE := Ext.next (w0 := w) (W := w) hb1)
  refine hide1 w (fun W k0 s0 HW => ?_)
  go_wp2_with (go_at_call 27; refine (c2 _).mono ?_; rintro e w1 ⟨rfl, hb1⟩; have HE := Ext.next (w0 := w) (W := W) hb1)
  go_ret
  exact ⟨rfl, Ext.end⟩
theorem apply_5_true (a b : Int) (w : World) (ha : U64 a) (hb : U64 b) (h1 : a < topV true) (h2 : b < topV true) : Calls Tryz.prog 55 #[.int .i64 5, .int .i64 1, .int .u64 a, .int .u64 b] w (Ret (.int .u64 (extremeV true true a b)) w) := by
 have c1 := layoutOf_c 1
 have c2 := fun w => isNothing_c true a w
 have c3 := fun w => isNothing_c true b w
 have c4 := fun w => clean_c true b w
 have c5 := fun w => isZero_c true a w
 have c6 := fun w => isZero_c true b w
 have c7 := fun w => wide_c true a w ha.1 h1
 have c8 := fun w => wide_c true b w hb.1 h2
 have HO := Lib.hid (fun x y => @wide_order true a b x y)
 clear ha hb h1 h2
 unfold extremeV lessV
 generalize nothingV true a = n at *
 generalize nothingV true b = m at *
 generalize zeroV true a = z at *
 generalize zeroV true b = y at *
 generalize ordV true a b = o at *
 generalize cleanV true b = c at *
 simp only [layV, signV, nanV] at *
 simp only [Bool.false_eq_true, if_true, if_false] at c7 c8
 cases n
 ·cases m
  ·by_cases hl : o = some .lt
   ·subst hl
    simp only [beq_self_eq_true, Bool.true_or]
    go_enter Tryz.func55, Tryz.ntmps55
    go_upto_region 9 with (go_at_call 25; refine (c1 _).mono ?_; rintro e w1 ⟨rfl, hb1⟩; have HE := Ext.next (w0 := w) (W := w) hb1)
    refine hide1 w (fun W k0 s0 HW => ?_)
    go_wp2_with (first | (go_at_call 27; (first | ((with_reducible refine (c2 _).mono ?_); rintro e w1 ⟨rfl, hb1⟩; have HE := Ext.next (w0 := w) (W := W) hb1) | ((with_reducible refine (c3 _).mono ?_); rintro e w1 ⟨rfl, hb1⟩; have HE := Ext.next (w0 := w) (W := W) hb1))) | (go_at_call 88; refine (c4 _).mono ?_; rintro e w1 ⟨rfl, hb1⟩; have HE := Ext.next (w0 := w) (W := W) hb1) | (go_at_call 28; (first | ((with_reducible refine (c5 _).mono ?_); rintro e w1 ⟨rfl, hb1⟩; have HE := Ext.next (w0 := w) (W := W) hb1) | ((with_reducible refine (c6 _).mono ?_); rintro e w1 ⟨rfl, hb1⟩; have HE := Ext.next (w0 := w) (W := W) hb1))) | (go_at_call 45; (first | ((with_reducible refine (c7 _).mono ?_); rintro e w1 ⟨x, rfl, hx, hb1⟩; have HX := Lib.hid hx; clear hx; have HE := Ext.next (w0 := w) (W := W) hb1) | ((with_reducible refine (c8 _).mono ?_); rintro e w1 ⟨y, rfl, hy, hb1⟩; have ho := HO.out _ _ HX.out hy; clear hy; have HE := Ext.next (w0 := w) (W := W) hb1))))
    go_ret
    exact ⟨rfl, Ext.end⟩
   ·have hl1 : (o == some .lt) = false := by simpa using hl
    clear hl
    rw [hl1]
    cases z
    ·simp only [Bool.false_or, Bool.false_and]
     go_enter Tryz.func55, Tryz.ntmps55
     go_upto_region 9 with (go_at_call 25; refine (c1 _).mono ?_; rintro e w1 ⟨rfl, hb1⟩; have HE := Ext.next (w0 := w) (W := w) hb1)
     refine hide1 w (fun W k0 s0 HW => ?_)
     go_wp2_with (first | (go_at_call 27; (first | ((with_reducible refine (c2 _).mono ?_); rintro e w1 ⟨rfl, hb1⟩; have HE := Ext.next (w0 := w) (W := W) hb1) | ((with_reducible refine (c3 _).mono ?_); rintro e w1 ⟨rfl, hb1⟩; have HE := Ext.next (w0 := w) (W := W) hb1))) | (go_at_call 88; refine (c4 _).mono ?_; rintro e w1 ⟨rfl, hb1⟩; have HE := Ext.next (w0 := w) (W := W) hb1) | (go_at_call 28; (first | ((with_reducible refine (c5 _).mono ?_); rintro e w1 ⟨rfl, hb1⟩; have HE := Ext.next (w0 := w) (W := W) hb1) | ((with_reducible refine (c6 _).mono ?_); rintro e w1 ⟨rfl, hb1⟩; have HE := Ext.next (w0 := w) (W := W) hb1))) | (go_at_call 45; (first | ((with_reducible refine (c7 _).mono ?_); rintro e w1 ⟨x, rfl, hx, hb1⟩; have HX := Lib.hid hx; clear hx; have HE := Ext.next (w0 := w) (W := W) hb1) | ((with_reducible refine (c8 _).mono ?_); rintro e w1 ⟨y, rfl, hy, hb1⟩; have ho := HO.out _ _ HX.out hy; clear hy; have HE := Ext.next (w0 := w) (W := W) hb1))))
     go_ret
     exact ⟨rfl, Ext.end⟩
    ·cases y
     ·simp only [Bool.false_or, Bool.false_and, Bool.true_and]
      go_enter Tryz.func55, Tryz.ntmps55
      go_upto_region 9 with (go_at_call 25; refine (c1 _).mono ?_; rintro e w1 ⟨rfl, hb1⟩; have HE := Ext.next (w0 := w) (W := w) hb1)
      refine hide1 w (fun W k0 s0 HW => ?_)
      go_wp2_with (first | (go_at_call 27; (first | ((with_reducible refine (c2 _).mono ?_); rintro e w1 ⟨rfl, hb1⟩; have HE := Ext.next (w0 := w) (W := W) hb1) | ((with_reducible refine (c3 _).mono ?_); rintro e w1 ⟨rfl, hb1⟩; have HE := Ext.next (w0 := w) (W := W) hb1))) | (go_at_call 88; refine (c4 _).mono ?_; rintro e w1 ⟨rfl, hb1⟩; have HE := Ext.next (w0 := w) (W := W) hb1) | (go_at_call 28; (first | ((with_reducible refine (c5 _).mono ?_); rintro e w1 ⟨rfl, hb1⟩; have HE := Ext.next (w0 := w) (W := W) hb1) | ((with_reducible refine (c6 _).mono ?_); rintro e w1 ⟨rfl, hb1⟩; have HE := Ext.next (w0 := w) (W := W) hb1))) | (go_at_call 45; (first | ((with_reducible refine (c7 _).mono ?_); rintro e w1 ⟨x, rfl, hx, hb1⟩; have HX := Lib.hid hx; clear hx; have HE := Ext.next (w0 := w) (W := W) hb1) | ((with_reducible refine (c8 _).mono ?_); rintro e w1 ⟨y, rfl, hy, hb1⟩; have ho := HO.out _ _ HX.out hy; clear hy; have HE := Ext.next (w0 := w) (W := W) hb1))))
      go_ret
      exact ⟨rfl, Ext.end⟩
     ·by_cases hg : b < a
      ·have hg1 : decide (b < a) = true := by simpa using hg
       simp only [hg1, Bool.false_or, Bool.true_and]
       go_enter Tryz.func55, Tryz.ntmps55
       go_upto_region 9 with (go_at_call 25; refine (c1 _).mono ?_; rintro e w1 ⟨rfl, hb1⟩; have HE := Ext.next (w0 := w) (W := w) hb1)
       refine hide1 w (fun W k0 s0 HW => ?_)
       go_wp2_with (first | (go_at_call 27; (first | ((with_reducible refine (c2 _).mono ?_); rintro e w1 ⟨rfl, hb1⟩; have HE := Ext.next (w0 := w) (W := W) hb1) | ((with_reducible refine (c3 _).mono ?_); rintro e w1 ⟨rfl, hb1⟩; have HE := Ext.next (w0 := w) (W := W) hb1))) | (go_at_call 88; refine (c4 _).mono ?_; rintro e w1 ⟨rfl, hb1⟩; have HE := Ext.next (w0 := w) (W := W) hb1) | (go_at_call 28; (first | ((with_reducible refine (c5 _).mono ?_); rintro e w1 ⟨rfl, hb1⟩; have HE := Ext.next (w0 := w) (W := W) hb1) | ((with_reducible refine (c6 _).mono ?_); rintro e w1 ⟨rfl, hb1⟩; have HE := Ext.next (w0 := w) (W := W) hb1))) | (go_at_call 45; (first | ((with_reducible refine (c7 _).mono ?_); rintro e w1 ⟨x, rfl, hx, hb1⟩; have HX := Lib.hid hx; clear hx; have HE := Ext.next (w0 := w) (W := W) hb1) | ((with_reducible refine (c8 _).mono ?_); rintro e w1 ⟨y, rfl, hy, hb1⟩; have ho := HO.out _ _ HX.out hy; clear hy; have HE := Ext.next (w0 := w) (W := W) hb1))))
       go_ret
       exact ⟨rfl, Ext.end⟩
      ·have hg1 : decide (b < a) = false := by simpa using hg
       simp only [hg1, Bool.false_or, Bool.true_and]
       go_enter Tryz.func55, Tryz.ntmps55
       go_upto_region 9 with (go_at_call 25; refine (c1 _).mono ?_; rintro e w1 ⟨rfl, hb1⟩; have HE := Ext.next (w0 := w) (W := w) hb1)
       refine hide1 w (fun W k0 s0 HW => ?_)
       go_wp2_with (first | (go_at_call 27; (first | ((with_reducible refine (c2 _).mono ?_); rintro e w1 ⟨rfl, hb1⟩; have HE := Ext.next (w0 := w) (W := W) hb1) | ((with_reducible refine (c3 _).mono ?_); rintro e w1 ⟨rfl, hb1⟩; have HE := Ext.next (w0 := w) (W := W) hb1))) | (go_at_call 88; refine (c4 _).mono ?_; rintro e w1 ⟨rfl, hb1⟩; have HE := Ext.next (w0 := w) (W := W) hb1) | (go_at_call 28; (first | ((with_reducible refine (c5 _).mono ?_); rintro e w1 ⟨rfl, hb1⟩; have HE := Ext.next (w0 := w) (W := W) hb1) | ((with_reducible refine (c6 _).mono ?_); rintro e w1 ⟨rfl, hb1⟩; have HE := Ext.next (w0 := w) (W := W) hb1))) | (go_at_call 45; (first | ((with_reducible refine (c7 _).mono ?_); rintro e w1 ⟨x, rfl, hx, hb1⟩; have HX := Lib.hid hx; clear hx; have HE := Ext.next (w0 := w) (W := W) hb1) | ((with_reducible refine (c8 _).mono ?_); rintro e w1 ⟨y, rfl, hy, hb1⟩; have ho := HO.out _ _ HX.out hy; clear hy; have HE := Ext.next (w0 := w) (W := W) hb1))))
       go_ret
       exact ⟨rfl, Ext.end⟩
  ·skip
   go_enter Tryz.func55, Tryz.ntmps55
   go_upto_region 9 with (go_at_call 25; refine (c1 _).mono ?_; rintro e w1 ⟨rfl, hb1⟩; have HE := Ext.next (w0 := w) (W := w) hb1)
   refine hide1 w (fun W k0 s0 HW => ?_)
   go_wp2_with (first | (go_at_call 27; (first | ((with_reducible refine (c2 _).mono ?_); rintro e w1 ⟨rfl, hb1⟩; have HE := Ext.next (w0 := w) (W := W) hb1) | ((with_reducible refine (c3 _).mono ?_); rintro e w1 ⟨rfl, hb1⟩; have HE := Ext.next (w0 := w) (W := W) hb1))) | (go_at_call 88; refine (c4 _).mono ?_; rintro e w1 ⟨rfl, hb1⟩; have HE := Ext.next (w0 := w) (W := W) hb1) | (go_at_call 28; (first | ((with_reducible refine (c5 _).mono ?_); rintro e w1 ⟨rfl, hb1⟩; have HE := Ext.next (w0 := w) (W := W) hb1) | ((with_reducible refine (c6 _).mono ?_); rintro e w1 ⟨rfl, hb1⟩; have HE := Ext.next (w0 := w) (W := W) hb1))) | (go_at_call 45; (first | ((with_reducible refine (c7 _).mono ?_); rintro e w1 ⟨x, rfl, hx, hb1⟩; have HX := Lib.hid hx; clear hx; have HE := Ext.next (w0 := w) (W := W) hb1) | ((with_reducible refine (c8 _).mono ?_); rintro e w1 ⟨y, rfl, hy, hb1⟩; have ho := HO.out _ _ HX.out hy; clear hy; have HE := Ext.next (w0 := w) (W := W) hb1))))
   go_ret
   exact ⟨rfl, Ext.end⟩
 ·skip
  go_enter Tryz.func55, Tryz.ntmps55
  go_upto_region 9 with (go_at_call 25; refine (c1 _).mono ?_; rintro e w1 ⟨rfl, hb1⟩; have HE := Ext.next (w0 := w) (W := w) hb1)
  refine hide1 w (fun W k0 s0 HW => ?_)
  go_wp2_with (first | (go_at_call 27; (first | ((with_reducible refine (c2 _).mono ?_); rintro e w1 ⟨rfl, hb1⟩; have HE := Ext.next (w0 := w) (W := W) hb1) | ((with_reducible refine (c3 _).mono ?_); rintro e w1 ⟨rfl, hb1⟩; have HE := Ext.next (w0 := w) (W := W) hb1))) | (go_at_call 88; refine (c4 _).mono ?_; rintro e w1 ⟨rfl, hb1⟩; have HE := Ext.next (w0 := w) (W := W) hb1) | (go_at_call 28; (first | ((with_reducible refine (c5 _).mono ?_); rintro e w1 ⟨rfl, hb1⟩; have HE := Ext.next (w0 := w) (W := W) hb1) | ((with_reducible refine (c6 _).mono ?_); rintro e w1 ⟨rfl, hb1⟩; have HE := Ext.next (w0 := w) (W := W) hb1))) | (go_at_call 45; (first | ((with_reducible refine (c7 _).mono ?_); rintro e w1 ⟨x, rfl, hx, hb1⟩; have HX := Lib.hid hx; clear hx; have HE := Ext.next (w0 := w) (W := W) hb1) | ((with_reducible refine (c8 _).mono ?_); rintro e w1 ⟨y, rfl, hy, hb1⟩; have ho := HO.out _ _ HX.out hy; clear hy; have HE := Ext.next (w0 := w) (W := W) hb1))))
  go_ret
  exact ⟨rfl, Ext.end⟩
theorem apply_6_true (a b : Int) (w : World) (ha : U64 a) (hb : U64 b) (h1 : a < topV true) (h2 : b < topV true) : Calls Tryz.prog 55 #[.int .i64 6, .int .i64 1, .int .u64 a, .int .u64 b] w (Ret (.int .u64 (extremeV false true a b)) w) := by
 have c1 := layoutOf_c 1
 have c2 := fun w => isNothing_c true a w
 have c3 := fun w => isNothing_c true b w
 have c4 := fun w => clean_c true b w
 have c5 := fun w => isZero_c true a w
 have c6 := fun w => isZero_c true b w
 have c7 := fun w => wide_c true a w ha.1 h1
 have c8 := fun w => wide_c true b w hb.1 h2
 have HO := Lib.hid (fun x y => @wide_order true a b x y)
 clear ha hb h1 h2
 unfold extremeV lessV
 generalize nothingV true a = n at *
 generalize nothingV true b = m at *
 generalize zeroV true a = z at *
 generalize zeroV true b = y at *
 generalize ordV true a b = o at *
 generalize cleanV true b = c at *
 simp only [layV, signV, nanV] at *
 simp only [Bool.false_eq_true, if_true, if_false] at c7 c8
 cases n
 ·cases m
  ·by_cases hl : o = some .lt
   ·subst hl
    simp only [beq_self_eq_true, Bool.true_or]
    go_enter Tryz.func55, Tryz.ntmps55
    go_upto_region 9 with (go_at_call 25; refine (c1 _).mono ?_; rintro e w1 ⟨rfl, hb1⟩; have HE := Ext.next (w0 := w) (W := w) hb1)
    refine hide1 w (fun W k0 s0 HW => ?_)
    go_wp2_with (first | (go_at_call 27; (first | ((with_reducible refine (c2 _).mono ?_); rintro e w1 ⟨rfl, hb1⟩; have HE := Ext.next (w0 := w) (W := W) hb1) | ((with_reducible refine (c3 _).mono ?_); rintro e w1 ⟨rfl, hb1⟩; have HE := Ext.next (w0 := w) (W := W) hb1))) | (go_at_call 88; refine (c4 _).mono ?_; rintro e w1 ⟨rfl, hb1⟩; have HE := Ext.next (w0 := w) (W := W) hb1) | (go_at_call 28; (first | ((with_reducible refine (c5 _).mono ?_); rintro e w1 ⟨rfl, hb1⟩; have HE := Ext.next (w0 := w) (W := W) hb1) | ((with_reducible refine (c6 _).mono ?_); rintro e w1 ⟨rfl, hb1⟩; have HE := Ext.next (w0 := w) (W := W) hb1))) | (go_at_call 45; (first | ((with_reducible refine (c7 _).mono ?_); rintro e w1 ⟨x, rfl, hx, hb1⟩; have HX := Lib.hid hx; clear hx; have HE := Ext.next (w0 := w) (W := W) hb1) | ((with_reducible refine (c8 _).mono ?_); rintro e w1 ⟨y, rfl, hy, hb1⟩; have ho := HO.out _ _ HX.out hy; clear hy; have HE := Ext.next (w0 := w) (W := W) hb1))))
    go_ret
    exact ⟨rfl, Ext.end⟩
   ·have hl1 : (o == some .lt) = false := by simpa using hl
    clear hl
    rw [hl1]
    cases z
    ·simp only [Bool.false_or, Bool.false_and]
     go_enter Tryz.func55, Tryz.ntmps55
     go_upto_region 9 with (go_at_call 25; refine (c1 _).mono ?_; rintro e w1 ⟨rfl, hb1⟩; have HE := Ext.next (w0 := w) (W := w) hb1)
     refine hide1 w (fun W k0 s0 HW => ?_)
     go_wp2_with (first | (go_at_call 27; (first | ((with_reducible refine (c2 _).mono ?_); rintro e w1 ⟨rfl, hb1⟩; have HE := Ext.next (w0 := w) (W := W) hb1) | ((with_reducible refine (c3 _).mono ?_); rintro e w1 ⟨rfl, hb1⟩; have HE := Ext.next (w0 := w) (W := W) hb1))) | (go_at_call 88; refine (c4 _).mono ?_; rintro e w1 ⟨rfl, hb1⟩; have HE := Ext.next (w0 := w) (W := W) hb1) | (go_at_call 28; (first | ((with_reducible refine (c5 _).mono ?_); rintro e w1 ⟨rfl, hb1⟩; have HE := Ext.next (w0 := w) (W := W) hb1) | ((with_reducible refine (c6 _).mono ?_); rintro e w1 ⟨rfl, hb1⟩; have HE := Ext.next (w0 := w) (W := W) hb1))) | (go_at_call 45; (first | ((with_reducible refine (c7 _).mono ?_); rintro e w1 ⟨x, rfl, hx, hb1⟩; have HX := Lib.hid hx; clear hx; have HE := Ext.next (w0 := w) (W := W) hb1) | ((with_reducible refine (c8 _).mono ?_); rintro e w1 ⟨y, rfl, hy, hb1⟩; have ho := HO.out _ _ HX.out hy; clear hy; have HE := Ext.next (w0 := w) (W := W) hb1))))
     go_ret
     exact ⟨rfl, Ext.end⟩
    ·cases y
     ·simp only [Bool.false_or, Bool.false_and, Bool.true_and]
      go_enter Tryz.func55, Tryz.ntmps55
      go_upto_region 9 with (go_at_call 25; refine (c1 _).mono ?_; rintro e w1 ⟨rfl, hb1⟩; have HE := Ext.next (w0 := w) (W := w) hb1)
      refine hide1 w (fun W k0 s0 HW => ?_)
      go_wp2_with (first | (go_at_call 27; (first | ((with_reducible refine (c2 _).mono ?_); rintro e w1 ⟨rfl, hb1⟩; have HE := Ext.next (w0 := w) (W := W) hb1) | ((with_reducible refine (c3 _).mono ?_); rintro e w1 ⟨rfl, hb1⟩; have HE := Ext.next (w0 := w) (W := W) hb1))) | (go_at_call 88; refine (c4 _).mono ?_; rintro e w1 ⟨rfl, hb1⟩; have HE := Ext.next (w0 := w) (W := W) hb1) | (go_at_call 28; (first | ((with_reducible refine (c5 _).mono ?_); rintro e w1 ⟨rfl, hb1⟩; have HE := Ext.next (w0 := w) (W := W) hb1) | ((with_reducible refine (c6 _).mono ?_); rintro e w1 ⟨rfl, hb1⟩; have HE := Ext.next (w0 := w) (W := W) hb1))) | (go_at_call 45; (first | ((with_reducible refine (c7 _).mono ?_); rintro e w1 ⟨x, rfl, hx, hb1⟩; have HX := Lib.hid hx; clear hx; have HE := Ext.next (w0 := w) (W := W) hb1) | ((with_reducible refine (c8 _).mono ?_); rintro e w1 ⟨y, rfl, hy, hb1⟩; have ho := HO.out _ _ HX.out hy; clear hy; have HE := Ext.next (w0 := w) (W := W) hb1))))
      go_ret
      exact ⟨rfl, Ext.end⟩
     ·by_cases hg : b < a
      ·have hg1 : decide (b < a) = true := by simpa using hg
       simp only [hg1, Bool.false_or, Bool.true_and]
       go_enter Tryz.func55, Tryz.ntmps55
       go_upto_region 9 with (go_at_call 25; refine (c1 _).mono ?_; rintro e w1 ⟨rfl, hb1⟩; have HE := Ext.next (w0 := w) (W := w) hb1)
       refine hide1 w (fun W k0 s0 HW => ?_)
       go_wp2_with (first | (go_at_call 27; (first | ((with_reducible refine (c2 _).mono ?_); rintro e w1 ⟨rfl, hb1⟩; have HE := Ext.next (w0 := w) (W := W) hb1) | ((with_reducible refine (c3 _).mono ?_); rintro e w1 ⟨rfl, hb1⟩; have HE := Ext.next (w0 := w) (W := W) hb1))) | (go_at_call 88; refine (c4 _).mono ?_; rintro e w1 ⟨rfl, hb1⟩; have HE := Ext.next (w0 := w) (W := W) hb1) | (go_at_call 28; (first | ((with_reducible refine (c5 _).mono ?_); rintro e w1 ⟨rfl, hb1⟩; have HE := Ext.next (w0 := w) (W := W) hb1) | ((with_reducible refine (c6 _).mono ?_); rintro e w1 ⟨rfl, hb1⟩; have HE := Ext.next (w0 := w) (W := W) hb1))) | (go_at_call 45; (first | ((with_reducible refine (c7 _).mono ?_); rintro e w1 ⟨x, rfl, hx, hb1⟩; have HX := Lib.hid hx; clear hx; have HE := Ext.next (w0 := w) (W := W) hb1) | ((with_reducible refine (c8 _).mono ?_); rintro e w1 ⟨y, rfl, hy, hb1⟩; have ho := HO.out _ _ HX.out hy; clear hy; have HE := Ext.next (w0 := w) (W := W) hb1))))
       go_ret
       exact ⟨rfl, Ext.end⟩
      ·have hg1 : decide (b < a) = false := by simpa using hg
       simp only [hg1, Bool.false_or, Bool.true_and]
       go_enter Tryz.func55, Tryz.ntmps55
       go_upto_region 9 with (go_at_call 25; refine (c1 _).mono ?_; rintro e w1 ⟨rfl, hb1⟩; have HE := Ext.next (w0 := w) (W := w) hb1)
       refine hide1 w (fun W k0 s0 HW => ?_)
       go_wp2_with (first | (go_at_call 27; (first | ((with_reducible refine (c2 _).mono ?_); rintro e w1 ⟨rfl, hb1⟩; have HE := Ext.next (w0 := w) (W := W) hb1) | ((with_reducible refine (c3 _).mono ?_); rintro e w1 ⟨rfl, hb1⟩; have HE := Ext.next (w0 := w) (W := W) hb1))) | (go_at_call 88; refine (c4 _).mono ?_; rintro e w1 ⟨rfl, hb1⟩; have HE := Ext.next (w0 := w) (W := W) hb1) | (go_at_call 28; (first | ((with_reducible refine (c5 _).mono ?_); rintro e w1 ⟨rfl, hb1⟩; have HE := Ext.next (w0 := w) (W := W) hb1) | ((with_reducible refine (c6 _).mono ?_); rintro e w1 ⟨rfl, hb1⟩; have HE := Ext.next (w0 := w) (W := W) hb1))) | (go_at_call 45; (first | ((with_reducible refine (c7 _).mono ?_); rintro e w1 ⟨x, rfl, hx, hb1⟩; have HX := Lib.hid hx; clear hx; have HE := Ext.next (w0 := w) (W := W) hb1) | ((with_reducible refine (c8 _).mono ?_); rintro e w1 ⟨y, rfl, hy, hb1⟩; have ho := HO.out _ _ HX.out hy; clear hy; have HE := Ext.next (w0 := w) (W := W) hb1))))
       go_ret
       exact ⟨rfl, Ext.end⟩
  ·skip
   go_enter Tryz.func55, Tryz.ntmps55
   go_upto_region 9 with (go_at_call 25; refine (c1 _).mono ?_; rintro e w1 ⟨rfl, hb1⟩; have HE := Ext.next (w0 := w) (W := w) hb1)
   refine hide1 w (fun W k0 s0 HW => ?_)
   go_wp2_with (first | (go_at_call 27; (first | ((with_reducible refine (c2 _).mono ?_); rintro e w1 ⟨rfl, hb1⟩; have HE := Ext.next (w0 := w) (W := W) hb1) | ((with_reducible refine (c3 _).mono ?_); rintro e w1 ⟨rfl, hb1⟩; have HE := Ext.next (w0 := w) (W := W) hb1))) | (go_at_call 88; refine (c4 _).mono ?_; rintro e w1 ⟨rfl, hb1⟩; have HE := Ext.next (w0 := w) (W := W) hb1) | (go_at_call 28; (first | ((with_reducible refine (c5 _).mono ?_); rintro e w1 ⟨rfl, hb1⟩; have HE := Ext.next (w0 := w) (W := W) hb1) | ((with_reducible refine (c6 _).mono ?_); rintro e w1 ⟨rfl, hb1⟩; have HE := Ext.next (w0 := w) (W := W) hb1))) | (go_at_call 45; (first | ((with_reducible refine (c7 _).mono ?_); rintro e w1 ⟨x, rfl, hx, hb1⟩; have HX := Lib.hid hx; clear hx; have HE := Ext.next (w0 := w) (W := W) hb1) | ((with_reducible refine (c8 _).mono ?_); rintro e w1 ⟨y, rfl, hy, hb1⟩; have ho := HO.out _ _ HX.out hy; clear hy; have HE := Ext.next (w0 := w) (W := W) hb1))))
   go_ret
   exact ⟨rfl, Ext.end⟩
 ·skip
  go_enter Tryz.func55, Tryz.ntmps55
  go_upto_region 9 with (go_at_call 25; refine (c1 _).mono ?_; rintro e w1 ⟨rfl, hb1⟩; have HE := Ext.next (w0 := w) (W := w) hb1)
  refine hide1 w (fun W k0 s0 HW => ?_)
  go_wp2_with (first | (go_at_call 27; (first | ((with_reducible refine (c2 _).mono ?_); rintro e w1 ⟨rfl, hb1⟩; have HE := Ext.next (w0 := w) (W := W) hb1) | ((with_reducible refine (c3 _).mono ?_); rintro e w1 ⟨rfl, hb1⟩; have HE := Ext.next (w0 := w) (W := W) hb1))) | (go_at_call 88; refine (c4 _).mono ?_; rintro e w1 ⟨rfl, hb1⟩; have HE := Ext.next (w0 := w) (W := W) hb1) | (go_at_call 28; (first | ((with_reducible refine (c5 _).mono ?_); rintro e w1 ⟨rfl, hb1⟩; have HE := Ext.next (w0 := w) (W := W) hb1) | ((with_reducible refine (c6 _).mono ?_); rintro e w1 ⟨rfl, hb1⟩; have HE := Ext.next (w0 := w) (W := W) hb1))) | (go_at_call 45; (first | ((with_reducible refine (c7 _).mono ?_); rintro e w1 ⟨x, rfl, hx, hb1⟩; have HX := Lib.hid hx; clear hx; have HE := Ext.next (w0 := w) (W := W) hb1) | ((with_reducible refine (c8 _).mono ?_); rintro e w1 ⟨y, rfl, hy, hb1⟩; have ho := HO.out _ _ HX.out hy; clear hy; have HE := Ext.next (w0 := w) (W := W) hb1))))
  go_ret
  exact ⟨rfl, Ext.end⟩
theorem apply_sign_false (a b : Int) (w : World) : Calls Tryz.prog 55 #[.int .i64 4, .int .i64 2, .int .u64 a, .int .u64 b] w (Ret (.int .u64 (signOfV false a b)) w) := by
 have c1 := layoutOf_c 2
 have c2 := isNothing_c false a
 have c3 := sign_c false
 unfold signOfV
 generalize nothingV false a = n at *
 simp only [layV, signV, nanV] at *
 cases n
 ·go_enter Tryz.func55, Tryz.ntmps55
  go_upto_region 4 with (go_at_call 25; refine (c1 _).mono ?_; rintro e w1 ⟨rfl, hb1⟩; have HE := Ext.next (w0 := w) (W := w) hb1)
  refine hide1 w (fun W k0 s0 HW => ?_)
  go_upto_region 6 with (go_at_call 27; refine (c2 _).mono ?_; rintro e w1 ⟨rfl, hb1⟩; have HE := Ext.next (w0 := w) (W := W) hb1)
  go_region_held3 (fun w' => Ext w W w') (first | exact Ext.drew (by assumption) | exact Ext.next (by assumption)) ((go_at_call 26; refine (c3 _).mono ?_; rintro e w1 ⟨rfl, hb1⟩))
  go_wp2
  go_ret
  exact ⟨rfl, Ext.end⟩
 ·go_enter Tryz.func55, Tryz.ntmps55
  go_upto_region 4 with (go_at_call 25; refine (c1 _).mono ?_; rintro e w1 ⟨rfl, hb1⟩; have HE := Ext.next (w0 := w) (W := w) hb1)
  refine hide1 w (fun W k0 s0 HW => ?_)
  go_wp2_with (go_at_call 27; refine (c2 _).mono ?_; rintro e w1 ⟨rfl, hb1⟩; have HE := Ext.next (w0 := w) (W := W) hb1)
  go_ret
  exact ⟨rfl, Ext.end⟩
theorem apply_5_false (a b : Int) (w : World) (ha : U64 a) (hb : U64 b) (h1 : a < topV false) (h2 : b < topV false) : Calls Tryz.prog 55 #[.int .i64 5, .int .i64 2, .int .u64 a, .int .u64 b] w (Ret (.int .u64 (extremeV true false a b)) w) := by
 have c1 := layoutOf_c 2
 have c2 := fun w => isNothing_c false a w
 have c3 := fun w => isNothing_c false b w
 have c4 := fun w => clean_c false b w
 have c5 := fun w => isZero_c false a w
 have c6 := fun w => isZero_c false b w
 have c7 := fun w => wide_c false a w ha.1 h1
 have c8 := fun w => wide_c false b w hb.1 h2
 have HO := Lib.hid (fun x y => @wide_order false a b x y)
 clear ha hb h1 h2
 unfold extremeV lessV
 generalize nothingV false a = n at *
 generalize nothingV false b = m at *
 generalize zeroV false a = z at *
 generalize zeroV false b = y at *
 generalize ordV false a b = o at *
 generalize cleanV false b = c at *
 simp only [layV, signV, nanV] at *
 simp only [Bool.false_eq_true, if_true, if_false] at c7 c8
 cases n
 ·cases m
  ·by_cases hl : o = some .lt
   ·subst hl
    simp only [beq_self_eq_true, Bool.true_or]
    go_enter Tryz.func55, Tryz.ntmps55
    go_upto_region 9 with (go_at_call 25; refine (c1 _).mono ?_; rintro e w1 ⟨rfl, hb1⟩; have HE := Ext.next (w0 := w) (W := w) hb1)
    refine hide1 w (fun W k0 s0 HW => ?_)
    go_wp2_with (first | (go_at_call 27; (first | ((with_reducible refine (c2 _).mono ?_); rintro e w1 ⟨rfl, hb1⟩; have HE := Ext.next (w0 := w) (W := W) hb1) | ((with_reducible refine (c3 _).mono ?_); rintro e w1 ⟨rfl, hb1⟩; have HE := Ext.next (w0 := w) (W := W) hb1))) | (go_at_call 88; refine (c4 _).mono ?_; rintro e w1 ⟨rfl, hb1⟩; have HE := Ext.next (w0 := w) (W := W) hb1) | (go_at_call 28; (first | ((with_reducible refine (c5 _).mono ?_); rintro e w1 ⟨rfl, hb1⟩; have HE := Ext.next (w0 := w) (W := W) hb1) | ((with_reducible refine (c6 _).mono ?_); rintro e w1 ⟨rfl, hb1⟩; have HE := Ext.next (w0 := w) (W := W) hb1))) | (go_at_call 45; (first | ((with_reducible refine (c7 _).mono ?_); rintro e w1 ⟨x, rfl, hx, hb1⟩; have HX := Lib.hid hx; clear hx; have HE := Ext.next (w0 := w) (W := W) hb1) | ((with_reducible refine (c8 _).mono ?_); rintro e w1 ⟨y, rfl, hy, hb1⟩; have ho := HO.out _ _ HX.out hy; clear hy; have HE := Ext.next (w0 := w) (W := W) hb1))))
    go_ret
    exact ⟨rfl, Ext.end⟩
   ·have hl1 : (o == some .lt) = false := by simpa using hl
    clear hl
    rw [hl1]
    cases z
    ·simp only [Bool.false_or, Bool.false_and]
     go_enter Tryz.func55, Tryz.ntmps55
     go_upto_region 9 with (go_at_call 25; refine (c1 _).mono ?_; rintro e w1 ⟨rfl, hb1⟩; have HE := Ext.next (w0 := w) (W := w) hb1)
     refine hide1 w (fun W k0 s0 HW => ?_)
     go_wp2_with (first | (go_at_call 27; (first | ((with_reducible refine (c2 _).mono ?_); rintro e w1 ⟨rfl, hb1⟩; have HE := Ext.next (w0 := w) (W := W) hb1) | ((with_reducible refine (c3 _).mono ?_); rintro e w1 ⟨rfl, hb1⟩; have HE := Ext.next (w0 := w) (W := W) hb1))) | (go_at_call 88; refine (c4 _).mono ?_; rintro e w1 ⟨rfl, hb1⟩; have HE := Ext.next (w0 := w) (W := W) hb1) | (go_at_call 28; (first | ((with_reducible refine (c5 _).mono ?_); rintro e w1 ⟨rfl, hb1⟩; have HE := Ext.next (w0 := w) (W := W) hb1) | ((with_reducible refine (c6 _).mono ?_); rintro e w1 ⟨rfl, hb1⟩; have HE := Ext.next (w0 := w) (W := W) hb1))) | (go_at_call 45; (first | ((with_reducible refine (c7 _).mono ?_); rintro e w1 ⟨x, rfl, hx, hb1⟩; have HX := Lib.hid hx; clear hx; have HE := Ext.next (w0 := w) (W := W) hb1) | ((with_reducible refine (c8 _).mono ?_); rintro e w1 ⟨y, rfl, hy, hb1⟩; have ho := HO.out _ _ HX.out hy; clear hy; have HE := Ext.next (w0 := w) (W := W) hb1))))
     go_ret
     exact ⟨rfl, Ext.end⟩
    ·cases y
     ·simp only [Bool.false_or, Bool.false_and, Bool.true_and]
      go_enter Tryz.func55, Tryz.ntmps55
      go_upto_region 9 with (go_at_call 25; refine (c1 _).mono ?_; rintro e w1 ⟨rfl, hb1⟩; have HE := Ext.next (w0 := w) (W := w) hb1)
      refine hide1 w (fun W k0 s0 HW => ?_)
      go_wp2_with (first | (go_at_call 27; (first | ((with_reducible refine (c2 _).mono ?_); rintro e w1 ⟨rfl, hb1⟩; have HE := Ext.next (w0 := w) (W := W) hb1) | ((with_reducible refine (c3 _).mono ?_); rintro e w1 ⟨rfl, hb1⟩; have HE := Ext.next (w0 := w) (W := W) hb1))) | (go_at_call 88; refine (c4 _).mono ?_; rintro e w1 ⟨rfl, hb1⟩; have HE := Ext.next (w0 := w) (W := W) hb1) | (go_at_call 28; (first | ((with_reducible refine (c5 _).mono ?_); rintro e w1 ⟨rfl, hb1⟩; have HE := Ext.next (w0 := w) (W := W) hb1) | ((with_reducible refine (c6 _).mono ?_); rintro e w1 ⟨rfl, hb1⟩; have HE := Ext.next (w0 := w) (W := W) hb1))) | (go_at_call 45; (first | ((with_reducible refine (c7 _).mono ?_); rintro e w1 ⟨x, rfl, hx, hb1⟩; have HX := Lib.hid hx; clear hx; have HE := Ext.next (w0 := w) (W := W) hb1) | ((with_reducible refine (c8 _).mono ?_); rintro e w1 ⟨y, rfl, hy, hb1⟩; have ho := HO.out _ _ HX.out hy; clear hy; have HE := Ext.next (w0 := w) (W := W) hb1))))
      go_ret
      exact ⟨rfl, Ext.end⟩
     ·by_cases hg : b < a
      ·have hg1 : decide (b < a) = true := by simpa using hg
       simp only [hg1, Bool.false_or, Bool.true_and]
       go_enter Tryz.func55, Tryz.ntmps55
       go_upto_region 9 with (go_at_call 25; refine (c1 _).mono ?_; rintro e w1 ⟨rfl, hb1⟩; have HE := Ext.next (w0 := w) (W := w) hb1)
       refine hide1 w (fun W k0 s0 HW => ?_)
       go_wp2_with (first | (go_at_call 27; (first | ((with_reducible refine (c2 _).mono ?_); rintro e w1 ⟨rfl, hb1⟩; have HE := Ext.next (w0 := w) (W := W) hb1) | ((with_reducible refine (c3 _).mono ?_); rintro e w1 ⟨rfl, hb1⟩; have HE := Ext.next (w0 := w) (W := W) hb1))) | (go_at_call 88; refine (c4 _).mono ?_; rintro e w1 ⟨rfl, hb1⟩; have HE := Ext.next (w0 := w) (W := W) hb1) | (go_at_call 28; (first | ((with_reducible refine (c5 _).mono ?_); rintro e w1 ⟨rfl, hb1⟩; have HE := Ext.next (w0 := w) (W := W) hb1) | ((with_reducible refine (c6 _).mono ?_); rintro e w1 ⟨rfl, hb1⟩; have HE := Ext.next (w0 := w) (W := W) hb1))) | (go_at_call 45; (first | ((with_reducible refine (c7 _).mono ?_); rintro e w1 ⟨x, rfl, hx, hb1⟩; have HX := Lib.hid hx; clear hx; have HE := Ext.next (w0 := w) (W := W) hb1) | ((with_reducible refine (c8 _).mono ?_); rintro e w1 ⟨y, rfl, hy, hb1⟩; have ho := HO.out _ _ HX.out hy; clear hy; have HE := Ext.next (w0 := w) (W := W) hb1))))
       go_ret
       exact ⟨rfl, Ext.end⟩
      ·have hg1 : decide (b < a) = false := by simpa using hg
       simp only [hg1, Bool.false_or, Bool.true_and]
       go_enter Tryz.func55, Tryz.ntmps55
       go_upto_region 9 with (go_at_call 25; refine (c1 _).mono ?_; rintro e w1 ⟨rfl, hb1⟩; have HE := Ext.next (w0 := w) (W := w) hb1)
       refine hide1 w (fun W k0 s0 HW => ?_)
       go_wp2_with (first | (go_at_call 27; (first | ((with_reducible refine (c2 _).mono ?_); rintro e w1 ⟨rfl, hb1⟩; have HE := Ext.next (w0 := w) (W := W) hb1) | ((with_reducible refine (c3 _).mono ?_); rintro e w1 ⟨rfl, hb1⟩; have HE := Ext.next (w0 := w) (W := W) hb1))) | (go_at_call 88; refine (c4 _).mono ?_; rintro e w1 ⟨rfl, hb1⟩; have HE := Ext.next (w0 := w) (W := W) hb1) | (go_at_call 28; (first | ((with_reducible refine (c5 _).mono ?_); rintro e w1 ⟨rfl, hb1⟩; have HE := Ext.next (w0 := w) (W := W) hb1) | ((with_reducible refine (c6 _).mono ?_); rintro e w1 ⟨rfl, hb1⟩; have HE := Ext.next (w0 := w) (W := W) hb1))) | (go_at_call 45; (first | ((with_reducible refine (c7 _).mono ?_); rintro e w1 ⟨x, rfl, hx, hb1⟩; have HX := Lib.hid hx; clear hx; have HE := Ext.next (w0 := w) (W := W) hb1) | ((with_reducible refine (c8 _).mono ?_); rintro e w1 ⟨y, rfl, hy, hb1⟩; have ho := HO.out _ _ HX.out hy; clear hy; have HE := Ext.next (w0 := w) (W := W) hb1))))
       go_ret
       exact ⟨rfl, Ext.end⟩
  ·skip
   go_enter Tryz.func55, Tryz.ntmps55
   go_upto_region 9 with (go_at_call 25; refine (c1 _).mono ?_; rintro e w1 ⟨rfl, hb1⟩; have HE := Ext.next (w0 := w) (W := w) hb1)
   refine hide1 w (fun W k0 s0 HW => ?_)
   go_wp2_with (first | (go_at_call 27; (first | ((with_reducible refine (c2 _).mono ?_); rintro e w1 ⟨rfl, hb1⟩; have HE := Ext.next (w0 := w) (W := W) hb1) | ((with_reducible refine (c3 _).mono ?_); rintro e w1 ⟨rfl, hb1⟩; have HE := Ext.next (w0 := w) (W := W) hb1))) | (go_at_call 88; refine (c4 _).mono ?_; rintro e w1 ⟨rfl, hb1⟩; have HE := Ext.next (w0 := w) (W := W) hb1) | (go_at_call 28; (first | ((with_reducible refine (c5 _).mono ?_); rintro e w1 ⟨rfl, hb1⟩; have HE := Ext.next (w0 := w) (W := W) hb1) | ((with_reducible refine (c6 _).mono ?_); rintro e w1 ⟨rfl, hb1⟩; have HE := Ext.next (w0 := w) (W := W) hb1))) | (go_at_call 45; (first | ((with_reducible refine (c7 _).mono ?_); rintro e w1 ⟨x, rfl, hx, hb1⟩; have HX := Lib.hid hx; clear hx; have HE := Ext.next (w0 := w) (W := W) hb1) | ((with_reducible refine (c8 _).mono ?_); rintro e w1 ⟨y, rfl, hy, hb1⟩; have ho := HO.out _ _ HX.out hy; clear hy; have HE := Ext.next (w0 := w) (W := W) hb1))))
   go_ret
   exact ⟨rfl, Ext.end⟩
 ·skip
  go_enter Tryz.func55, Tryz.ntmps55
  go_upto_region 9 with (go_at_call 25; refine (c1 _).mono ?_; rintro e w1 ⟨rfl, hb1⟩; have HE := Ext.next (w0 := w) (W := w) hb1)
  refine hide1 w (fun W k0 s0 HW => ?_)
  go_wp2_with (first | (go_at_call 27; (first | ((with_reducible refine (c2 _).mono ?_); rintro e w1 ⟨rfl, hb1⟩; have HE := Ext.next (w0 := w) (W := W) hb1) | ((with_reducible refine (c3 _).mono ?_); rintro e w1 ⟨rfl, hb1⟩; have HE := Ext.next (w0 := w) (W := W) hb1))) | (go_at_call 88; refine (c4 _).mono ?_; rintro e w1 ⟨rfl, hb1⟩; have HE := Ext.next (w0 := w) (W := W) hb1) | (go_at_call 28; (first | ((with_reducible refine (c5 _).mono ?_); rintro e w1 ⟨rfl, hb1⟩; have HE := Ext.next (w0 := w) (W := W) hb1) | ((with_reducible refine (c6 _).mono ?_); rintro e w1 ⟨rfl, hb1⟩; have HE := Ext.next (w0 := w) (W := W) hb1))) | (go_at_call 45; (first | ((with_reducible refine (c7 _).mono ?_); rintro e w1 ⟨x, rfl, hx, hb1⟩; have HX := Lib.hid hx; clear hx; have HE := Ext.next (w0 := w) (W := W) hb1) | ((with_reducible refine (c8 _).mono ?_); rintro e w1 ⟨y, rfl, hy, hb1⟩; have ho := HO.out _ _ HX.out hy; clear hy; have HE := Ext.next (w0 := w) (W := W) hb1))))
  go_ret
  exact ⟨rfl, Ext.end⟩
theorem apply_6_false (a b : Int) (w : World) (ha : U64 a) (hb : U64 b) (h1 : a < topV false) (h2 : b < topV false) : Calls Tryz.prog 55 #[.int .i64 6, .int .i64 2, .int .u64 a, .int .u64 b] w (Ret (.int .u64 (extremeV false false a b)) w) := by
 have c1 := layoutOf_c 2
 have c2 := fun w => isNothing_c false a w
 have c3 := fun w => isNothing_c false b w
 have c4 := fun w => clean_c false b w
 have c5 := fun w => isZero_c false a w
 have c6 := fun w => isZero_c false b w
 have c7 := fun w => wide_c false a w ha.1 h1
 have c8 := fun w => wide_c false b w hb.1 h2
 have HO := Lib.hid (fun x y => @wide_order false a b x y)
 clear ha hb h1 h2
 unfold extremeV lessV
 generalize nothingV false a = n at *
 generalize nothingV false b = m at *
 generalize zeroV false a = z at *
 generalize zeroV false b = y at *
 generalize ordV false a b = o at *
 generalize cleanV false b = c at *
 simp only [layV, signV, nanV] at *
 simp only [Bool.false_eq_true, if_true, if_false] at c7 c8
 cases n
 ·cases m
  ·by_cases hl : o = some .lt
   ·subst hl
    simp only [beq_self_eq_true, Bool.true_or]
    go_enter Tryz.func55, Tryz.ntmps55
    go_upto_region 9 with (go_at_call 25; refine (c1 _).mono ?_; rintro e w1 ⟨rfl, hb1⟩; have HE := Ext.next (w0 := w) (W := w) hb1)
    refine hide1 w (fun W k0 s0 HW => ?_)
    go_wp2_with (first | (go_at_call 27; (first | ((with_reducible refine (c2 _).mono ?_); rintro e w1 ⟨rfl, hb1⟩; have HE := Ext.next (w0 := w) (W := W) hb1) | ((with_reducible refine (c3 _).mono ?_); rintro e w1 ⟨rfl, hb1⟩; have HE := Ext.next (w0 := w) (W := W) hb1))) | (go_at_call 88; refine (c4 _).mono ?_; rintro e w1 ⟨rfl, hb1⟩; have HE := Ext.next (w0 := w) (W := W) hb1) | (go_at_call 28; (first | ((with_reducible refine (c5 _).mono ?_); rintro e w1 ⟨rfl, hb1⟩; have HE := Ext.next (w0 := w) (W := W) hb1) | ((with_reducible refine (c6 _).mono ?_); rintro e w1 ⟨rfl, hb1⟩; have HE := Ext.next (w0 := w) (W := W) hb1))) | (go_at_call 45; (first | ((with_reducible refine (c7 _).mono ?_); rintro e w1 ⟨x, rfl, hx, hb1⟩; have HX := Lib.hid hx; clear hx; have HE := Ext.next (w0 := w) (W := W) hb1) | ((with_reducible refine (c8 _).mono ?_); rintro e w1 ⟨y, rfl, hy, hb1⟩; have ho := HO.out _ _ HX.out hy; clear hy; have HE := Ext.next (w0 := w) (W := W) hb1))))
    go_ret
    exact ⟨rfl, Ext.end⟩
   ·have hl1 : (o == some .lt) = false := by simpa using hl
    clear hl
    rw [hl1]
    cases z
    ·simp only [Bool.false_or, Bool.false_and]
     go_enter Tryz.func55, Tryz.ntmps55
     go_upto_region 9 with (go_at_call 25; refine (c1 _).mono ?_; rintro e w1 ⟨rfl, hb1⟩; have HE := Ext.next (w0 := w) (W := w) hb1)
     refine hide1 w (fun W k0 s0 HW => ?_)
     go_wp2_with (first | (go_at_call 27; (first | ((with_reducible refine (c2 _).mono ?_); rintro e w1 ⟨rfl, hb1⟩; have HE := Ext.next (w0 := w) (W := W) hb1) | ((with_reducible refine (c3 _).mono ?_); rintro e w1 ⟨rfl, hb1⟩; have HE := Ext.next (w0 := w) (W := W) hb1))) | (go_at_call 88; refine (c4 _).mono ?_; rintro e w1 ⟨rfl, hb1⟩; have HE := Ext.next (w0 := w) (W := W) hb1) | (go_at_call 28; (first | ((with_reducible refine (c5 _).mono ?_); rintro e w1 ⟨rfl, hb1⟩; have HE := Ext.next (w0 := w) (W := W) hb1) | ((with_reducible refine (c6 _).mono ?_); rintro e w1 ⟨rfl, hb1⟩; have HE := Ext.next (w0 := w) (W := W) hb1))) | (go_at_call 45; (first | ((with_reducible refine (c7 _).mono ?_); rintro e w1 ⟨x, rfl, hx, hb1⟩; have HX := Lib.hid hx; clear hx; have HE := Ext.next (w0 := w) (W := W) hb1) | ((with_reducible refine (c8 _).mono ?_); rintro e w1 ⟨y, rfl, hy, hb1⟩; have ho := HO.out _ _ HX.out hy; clear hy; have HE := Ext.next (w0 := w) (W := W) hb1))))
     go_ret
     exact ⟨rfl, Ext.end⟩
    ·cases y
     ·simp only [Bool.false_or, Bool.false_and, Bool.true_and]
      go_enter Tryz.func55, Tryz.ntmps55
      go_upto_region 9 with (go_at_call 25; refine (c1 _).mono ?_; rintro e w1 ⟨rfl, hb1⟩; have HE := Ext.next (w0 := w) (W := w) hb1)
      refine hide1 w (fun W k0 s0 HW => ?_)
      go_wp2_with (first | (go_at_call 27; (first | ((with_reducible refine (c2 _).mono ?_); rintro e w1 ⟨rfl, hb1⟩; have HE := Ext.next (w0 := w) (W := W) hb1) | ((with_reducible refine (c3 _).mono ?_); rintro e w1 ⟨rfl, hb1⟩; have HE := Ext.next (w0 := w) (W := W) hb1))) | (go_at_call 88; refine (c4 _).mono ?_; rintro e w1 ⟨rfl, hb1⟩; have HE := Ext.next (w0 := w) (W := W) hb1) | (go_at_call 28; (first | ((with_reducible refine (c5 _).mono ?_); rintro e w1 ⟨rfl, hb1⟩; have HE := Ext.next (w0 := w) (W := W) hb1) | ((with_reducible refine (c6 _).mono ?_); rintro e w1 ⟨rfl, hb1⟩; have HE := Ext.next (w0 := w) (W := W) hb1))) | (go_at_call 45; (first | ((with_reducible refine (c7 _).mono ?_); rintro e w1 ⟨x, rfl, hx, hb1⟩; have HX := Lib.hid hx; clear hx; have HE := Ext.next (w0 := w) (W := W) hb1) | ((with_reducible refine (c8 _).mono ?_); rintro e w1 ⟨y, rfl, hy, hb1⟩; have ho := HO.out _ _ HX.out hy; clear hy; have HE := Ext.next (w0 := w) (W := W) hb1))))
      go_ret
      exact ⟨rfl, Ext.end⟩
     ·by_cases hg : b < a
      ·have hg1 : decide (b < a) = true := by simpa using hg
       simp only [hg1, Bool.false_or, Bool.true_and]
       go_enter Tryz.func55, Tryz.ntmps55
       go_upto_region 9 with (go_at_call 25; refine (c1 _).mono ?_; rintro e w1 ⟨rfl, hb1⟩; have HE := Ext.next (w0 := w) (W := w) hb1)
       refine hide1 w (fun W k0 s0 HW => ?_)
       go_wp2_with (first | (go_at_call 27; (first | ((with_reducible refine (c2 _).mono ?_); rintro e w1 ⟨rfl, hb1⟩; have HE := Ext.next (w0 := w) (W := W) hb1) | ((with_reducible refine (c3 _).mono ?_); rintro e w1 ⟨rfl, hb1⟩; have HE := Ext.next (w0 := w) (W := W) hb1))) | (go_at_call 88; refine (c4 _).mono ?_; rintro e w1 ⟨rfl, hb1⟩; have HE := Ext.next (w0 := w) (W := W) hb1) | (go_at_call 28; (first | ((with_reducible refine (c5 _).mono ?_); rintro e w1 ⟨rfl, hb1⟩; have HE := Ext.next (w0 := w) (W := W) hb1) | ((with_reducible refine (c6 _).mono ?_); rintro e w1 ⟨rfl, hb1⟩; have HE := Ext.next (w0 := w) (W := W) hb1))) | (go_at_call 45; (first | ((with_reducible refine (c7 _).mono ?_); rintro e w1 ⟨x, rfl, hx, hb1⟩; have HX := Lib.hid hx; clear hx; have HE := Ext.next (w0 := w) (W := W) hb1) | ((with_reducible refine (c8 _).mono ?_); rintro e w1 ⟨y, rfl, hy, hb1⟩; have ho := HO.out _ _ HX.out hy; clear hy; have HE := Ext.next (w0 := w) (W := W) hb1))))
       go_ret
       exact ⟨rfl, Ext.end⟩
      ·have hg1 : decide (b < a) = false := by simpa using hg
       simp only [hg1, Bool.false_or, Bool.true_and]
       go_enter Tryz.func55, Tryz.ntmps55
       go_upto_region 9 with (go_at_call 25; refine (c1 _).mono ?_; rintro e w1 ⟨rfl, hb1⟩; have HE := Ext.next (w0 := w) (W := w) hb1)
       refine hide1 w (fun W k0 s0 HW => ?_)
       go_wp2_with (first | (go_at_call 27; (first | ((with_reducible refine (c2 _).mono ?_); rintro e w1 ⟨rfl, hb1⟩; have HE := Ext.next (w0 := w) (W := W) hb1) | ((with_reducible refine (c3 _).mono ?_); rintro e w1 ⟨rfl, hb1⟩; have HE := Ext.next (w0 := w) (W := W) hb1))) | (go_at_call 88; refine (c4 _).mono ?_; rintro e w1 ⟨rfl, hb1⟩; have HE := Ext.next (w0 := w) (W := W) hb1) | (go_at_call 28; (first | ((with_reducible refine (c5 _).mono ?_); rintro e w1 ⟨rfl, hb1⟩; have HE := Ext.next (w0 := w) (W := W) hb1) | ((with_reducible refine (c6 _).mono ?_); rintro e w1 ⟨rfl, hb1⟩; have HE := Ext.next (w0 := w) (W := W) hb1))) | (go_at_call 45; (first | ((with_reducible refine (c7 _).mono ?_); rintro e w1 ⟨x, rfl, hx, hb1⟩; have HX := Lib.hid hx; clear hx; have HE := Ext.next (w0 := w) (W := W) hb1) | ((with_reducible refine (c8 _).mono ?_); rintro e w1 ⟨y, rfl, hy, hb1⟩; have ho := HO.out _ _ HX.out hy; clear hy; have HE := Ext.next (w0 := w) (W := W) hb1))))
       go_ret
       exact ⟨rfl, Ext.end⟩
  ·skip
   go_enter Tryz.func55, Tryz.ntmps55
   go_upto_region 9 with (go_at_call 25; refine (c1 _).mono ?_; rintro e w1 ⟨rfl, hb1⟩; have HE := Ext.next (w0 := w) (W := w) hb1)
   refine hide1 w (fun W k0 s0 HW => ?_)
   go_wp2_with (first | (go_at_call 27; (first | ((with_reducible refine (c2 _).mono ?_); rintro e w1 ⟨rfl, hb1⟩; have HE := Ext.next (w0 := w) (W := W) hb1) | ((with_reducible refine (c3 _).mono ?_); rintro e w1 ⟨rfl, hb1⟩; have HE := Ext.next (w0 := w) (W := W) hb1))) | (go_at_call 88; refine (c4 _).mono ?_; rintro e w1 ⟨rfl, hb1⟩; have HE := Ext.next (w0 := w) (W := W) hb1) | (go_at_call 28; (first | ((with_reducible refine (c5 _).mono ?_); rintro e w1 ⟨rfl, hb1⟩; have HE := Ext.next (w0 := w) (W := W) hb1) | ((with_reducible refine (c6 _).mono ?_); rintro e w1 ⟨rfl, hb1⟩; have HE := Ext.next (w0 := w) (W := W) hb1))) | (go_at_call 45; (first | ((with_reducible refine (c7 _).mono ?_); rintro e w1 ⟨x, rfl, hx, hb1⟩; have HX := Lib.hid hx; clear hx; have HE := Ext.next (w0 := w) (W := W) hb1) | ((with_reducible refine (c8 _).mono ?_); rintro e w1 ⟨y, rfl, hy, hb1⟩; have ho := HO.out _ _ HX.out hy; clear hy; have HE := Ext.next (w0 := w) (W := W) hb1))))
   go_ret
   exact ⟨rfl, Ext.end⟩
 ·skip
  go_enter Tryz.func55, Tryz.ntmps55
  go_upto_region 9 with (go_at_call 25; refine (c1 _).mono ?_; rintro e w1 ⟨rfl, hb1⟩; have HE := Ext.next (w0 := w) (W := w) hb1)
  refine hide1 w (fun W k0 s0 HW => ?_)
  go_wp2_with (first | (go_at_call 27; (first | ((with_reducible refine (c2 _).mono ?_); rintro e w1 ⟨rfl, hb1⟩; have HE := Ext.next (w0 := w) (W := W) hb1) | ((with_reducible refine (c3 _).mono ?_); rintro e w1 ⟨rfl, hb1⟩; have HE := Ext.next (w0 := w) (W := W) hb1))) | (go_at_call 88; refine (c4 _).mono ?_; rintro e w1 ⟨rfl, hb1⟩; have HE := Ext.next (w0 := w) (W := W) hb1) | (go_at_call 28; (first | ((with_reducible refine (c5 _).mono ?_); rintro e w1 ⟨rfl, hb1⟩; have HE := Ext.next (w0 := w) (W := W) hb1) | ((with_reducible refine (c6 _).mono ?_); rintro e w1 ⟨rfl, hb1⟩; have HE := Ext.next (w0 := w) (W := W) hb1))) | (go_at_call 45; (first | ((with_reducible refine (c7 _).mono ?_); rintro e w1 ⟨x, rfl, hx, hb1⟩; have HX := Lib.hid hx; clear hx; have HE := Ext.next (w0 := w) (W := W) hb1) | ((with_reducible refine (c8 _).mono ?_); rintro e w1 ⟨y, rfl, hy, hb1⟩; have ho := HO.out _ _ HX.out hy; clear hy; have HE := Ext.next (w0 := w) (W := W) hb1))))
  go_ret
  exact ⟨rfl, Ext.end⟩
end Go.Proofs.YtmoimcblmmcffaaGreatDoor.B

namespace Go.Proofs.YtmoimcblmmcffaaGreatDoor.B
open Go.RowKit
set_option linter.unusedSimpArgs false
set_option linter.unusedVariables false
theorem apply_c (op : Int) (s : Bool) (a b : Int) (w : World) (ha : U64 a) (hb : U64 b) (h1 : a < topV s) (h2 : b < topV s) (h0 : 0 ≤ op) (h6 : op ≤ 6) :
  Calls Tryz.prog 55 #[.int .i64 op, .int .i64 (if s then 1 else 2), .int .u64 a, .int .u64 b] w (Ret (.int .u64 (applyV op s a b)) w) := by
 have hop : op = 0 ∨ op = 1 ∨ op = 2 ∨ op = 3 ∨ op = 4 ∨ op = 5 ∨ op = 6 := by omega
 cases s
 ·rcases hop with rfl | rfl | rfl | rfl | rfl | rfl | rfl
  ·simpa [applyV, opB] using apply_add_f64 a b w ha hb h1 h2
  ·simpa [applyV, opB] using apply_sub_f64 a b w ha hb h1 h2
  ·simpa [applyV, opB] using apply_mul_f64 a b w ha hb h1 h2
  ·simpa [applyV, opB] using apply_quo_f64 a b w ha hb h1 h2
  ·simpa [applyV, opB] using apply_sign_false a b w
  ·simpa [applyV, opB] using apply_5_false a b w ha hb h1 h2
  ·simpa [applyV, opB] using apply_6_false a b w ha hb h1 h2
 ·rcases hop with rfl | rfl | rfl | rfl | rfl | rfl | rfl
  ·simpa [applyV, opB] using apply_add_f32 a b w ha hb h1 h2
  ·simpa [applyV, opB] using apply_sub_f32 a b w ha hb h1 h2
  ·simpa [applyV, opB] using apply_mul_f32 a b w ha hb h1 h2
  ·simpa [applyV, opB] using apply_quo_f32 a b w ha hb h1 h2
  ·simpa [applyV, opB] using apply_sign_true a b w
  ·simpa [applyV, opB] using apply_5_true a b w ha hb h1 h2
  ·simpa [applyV, opB] using apply_6_true a b w ha hb h1 h2
def applyErrV (op t a b : Int) : Int := if kindErrV op 7 = 0 then validV t [a, b] else kindErrV op 7
theorem kindErr_ok {n k : Int} (h : kindErrV n k = 0) : 0 ≤ n ∧ n < k := by
 unfold kindErrV at h
 by_cases h1 : n < 0
 ·simp [h1] at h
 ·by_cases h2 : k ≤ n
  ·simp [h1, h2] at h
  ·omega
theorem Apply_c (op t a b : Int) (w : World) (ha : U64 a) (hb : U64 b) :
  Calls Tryz.prog 19 #[.int .i64 op, .int .i64 t, .int .u64 a, .int .u64 b] w (Ret (orErr (applyErrV op t a b) (applyV op (t == 1) a b)) w) := by
 have c1 := fun w => kindErr_c op 7 w
 have c2 := fun g w => valid2_c t a b g w ha hb
 have c3 := fun w => either_c (kindErrV op 7) (validV t [a, b]) w
 have c4 : ∀ w, applyErrV op t a b = 0 → Calls Tryz.prog 55 #[.int .i64 op, .int .i64 t, .int .u64 a, .int .u64 b] w (Ret (.int .u64 (applyV op (t == 1) a b)) w) := fun w he => by
  unfold applyErrV at he
  by_cases hk : kindErrV op 7 = 0
  ·rw [if_pos hk] at he
   obtain ⟨h0, h6⟩ := kindErr_ok hk
   obtain ⟨s, ht, hs, h1, h2⟩ := valid_s2 ha hb he
   have := apply_c op s a b w ha hb h1 h2 h0 (by omega)
   rw [← ht] at this
   rw [hs]; exact this
  ·rw [if_neg hk] at he; exact absurd he hk
 have e0 : (if kindErrV op 7 = 0 then validV t [a, b] else kindErrV op 7) = applyErrV op t a b := rfl
 rw [e0] at c3
 clear e0 ha hb
 generalize applyErrV op t a b = e at *
 generalize applyV op (t == 1) a b = r at *
 generalize kindErrV op 7 = k at *
 generalize validV t [a, b] = v at *
 unfold orErr
 by_cases he : e = 0
 ·subst he
  have c5 := fun w => c4 w rfl
  clear c4
  simp only [if_true]
  go_enter Tryz.func19, Tryz.ntmps19
  go_wp2_with (first | (go_at_call 46; refine (c1 _).mono ?_; rintro e w1 ⟨rfl, hb1⟩; have HE := Ext.next (w0 := w) (W := w) hb1) | (go_at_call 24; refine (c2 _ _ (by go_simp) (by go_simp)).mono ?_; rintro e w1 ⟨rfl, hb1⟩; have HE := Ext.next (w0 := w) (W := w) hb1) | (go_at_call 30; refine (c3 _).mono ?_; rintro e w1 ⟨rfl, hb1⟩; have HE := Ext.next (w0 := w) (W := w) hb1) | (go_at_call 55; refine (c5 _).mono ?_; rintro e w1 ⟨rfl, hb1⟩; have HE := Ext.next (w0 := w) (W := w) hb1))
  go_ret2
  exact ⟨rfl, Ext.end⟩
 ·have he1 : (e != 0) = true := by simpa using he
  rw [if_neg he]
  clear he c4
  go_enter Tryz.func19, Tryz.ntmps19
  go_wp2_with (first | (go_at_call 46; refine (c1 _).mono ?_; rintro e w1 ⟨rfl, hb1⟩; have HE := Ext.next (w0 := w) (W := w) hb1) | (go_at_call 24; refine (c2 _ _ (by go_simp) (by go_simp)).mono ?_; rintro e w1 ⟨rfl, hb1⟩; have HE := Ext.next (w0 := w) (W := w) hb1) | (go_at_call 30; refine (c3 _).mono ?_; rintro e w1 ⟨rfl, hb1⟩; have HE := Ext.next (w0 := w) (W := w) hb1))
  go_ret2
  exact ⟨rfl, Ext.end⟩
end Go.Proofs.YtmoimcblmmcffaaGreatDoor.B

namespace Go.Proofs.YtmoimcblmmcffaaGreatDoor.B
open Go.RowKit
set_option linter.unusedSimpArgs false
set_option linter.unusedVariables false
def fromIntV (s : Bool) (n : Int) : Int := cleanV s (floatOfInt (fkOf s) n : Nat)
theorem fromInteger_c (t n : Int) (w : World) : Calls Tryz.prog 58 #[.int .i64 t, .int .i64 n] w (Ret (.int .u64 (fromIntV (t == 1) n)) w) := by
 by_cases h : t = 1
 ·subst h
  have hlt : floatOfInt .f32 n < 4294967296 := Ieee.Format.write_lt Ieee.single (.number (n < 0) n.natAbs 0)
  have c1 := fun w => bits32_c _ w hlt
  clear hlt
  unfold fromIntV
  simp only [beq_self_eq_true, fkOf]
  go_enter Tryz.func58, Tryz.ntmps58
  go_wp2_with (go_at_call 61; refine (c1 _).mono ?_; rintro e w1 ⟨rfl, hb1⟩; have HE := Ext.next (w0 := w) (W := w) hb1)
  go_ret
  exact ⟨rfl, Ext.end⟩
 ·have h1 : (t == 1) = false := by simpa using h
  have c1 := fun a w => bits64_c a w
  unfold fromIntV
  rw [h1]
  simp only [fkOf]
  clear h
  go_enter Tryz.func58, Tryz.ntmps58
  go_wp2_with (go_at_call 63; refine (c1 _ _).mono ?_; rintro e w1 ⟨rfl, hb1⟩; have HE := Ext.next (w0 := w) (W := w) hb1)
  go_ret
  exact ⟨rfl, Ext.end⟩
def fromErrV (t n : Int) : Int := if typeErrV t = 0 then rangedV n (-2147483648) 2147483647 else typeErrV t
theorem FromInteger_c (t n : Int) (w : World) : Calls Tryz.prog 21 #[.int .i64 t, .int .i64 n] w (Ret (orErr (fromErrV t n) (fromIntV (t == 1) n)) w) := by
 have c1 := fun w => typeErr_c t w
 have c2 := fun w => ranged_c n (-2147483648) 2147483647 w
 have c3 := fun w => either_c (typeErrV t) (rangedV n (-2147483648) 2147483647) w
 have c4 := fun w => fromInteger_c t n w
 have e0 : (if typeErrV t = 0 then rangedV n (-2147483648) 2147483647 else typeErrV t) = fromErrV t n := rfl
 rw [e0] at c3
 clear e0
 generalize fromErrV t n = e at *
 generalize fromIntV (t == 1) n = r at *
 generalize rangedV n (-2147483648) 2147483647 = k at *
 generalize typeErrV t = v at *
 unfold orErr
 by_cases he : e = 0
 ·subst he
  simp only [if_true]
  go_enter Tryz.func21, Tryz.ntmps21
  go_wp2_with (first | (go_at_call 57; refine (c1 _).mono ?_; rintro e w1 ⟨rfl, hb1⟩; have HE := Ext.next (w0 := w) (W := w) hb1) | (go_at_call 31; refine (c2 _).mono ?_; rintro e w1 ⟨rfl, hb1⟩; have HE := Ext.next (w0 := w) (W := w) hb1) | (go_at_call 30; refine (c3 _).mono ?_; rintro e w1 ⟨rfl, hb1⟩; have HE := Ext.next (w0 := w) (W := w) hb1) | (go_at_call 58; refine (c4 _).mono ?_; rintro e w1 ⟨rfl, hb1⟩; have HE := Ext.next (w0 := w) (W := w) hb1))
  go_ret2
  exact ⟨rfl, Ext.end⟩
 ·have he1 : (e != 0) = true := by simpa using he
  rw [if_neg he]
  clear he c4
  go_enter Tryz.func21, Tryz.ntmps21
  go_wp2_with (first | (go_at_call 57; refine (c1 _).mono ?_; rintro e w1 ⟨rfl, hb1⟩; have HE := Ext.next (w0 := w) (W := w) hb1) | (go_at_call 31; refine (c2 _).mono ?_; rintro e w1 ⟨rfl, hb1⟩; have HE := Ext.next (w0 := w) (W := w) hb1) | (go_at_call 30; refine (c3 _).mono ?_; rintro e w1 ⟨rfl, hb1⟩; have HE := Ext.next (w0 := w) (W := w) hb1))
  go_ret2
  exact ⟨rfl, Ext.end⟩
theorem sqrt_extern (x : Nat) (w : World) : (callFunc 92 #[.float .f64 x]).run Tryz.prog w = ((Extern.MathSqrt.sqrt #[.float .f64 x]).run Tryz.prog w).andThen (fun v w' => .ok (.value v) w') :=
 run_callFunc_extern (e := Extern.MathSqrt.sqrt) Tryz.func92 (by kernel_rfl) (by kernel_rfl) (by kernel_rfl) (by kernel_rfl) _ w
def RootOK (x r : Nat) : Prop := match Ieee.double.sqrt x with
 | some y => r = y
 | none => ∃ t, r = (Question.nanBits .f64 x x).cut t
theorem run_sqrt (x : Nat) (w : World) : ∃ r w', (callFunc 92 #[.float .f64 x]).run Tryz.prog w = .ok (.value (.float .f64 r)) w' ∧ RootOK x r ∧ Below w.heap.size w w' := by
 rw [sqrt_extern]
 unfold RootOK
 have h' : Extern.MathSqrt.sqrt #[.float .f64 x] = (match FloatKind.f64.format.sqrt x with
  | some r => pure (.float .f64 r)
  | none => do pure (.float .f64 (← choose (.nanBits .f64 x x)))) := rfl
 rw [h']
 have e : FloatKind.f64.format = Ieee.double := rfl
 rw [e]
 cases Ieee.double.sqrt x with
 | some y => exact ⟨y, w, by simp [Result.andThen], rfl, Below.refl _ _⟩
 | none => exact ⟨_, w.drew, by simp [Result.andThen, Question.forced]; rfl, ⟨_, rfl⟩, (Below.refl _ _).drew⟩
def RetR (x : Nat) (w : World) : Ending → World → Prop := fun e w' => ∃ r : Nat, e = .returned (.float .f64 r) ∧ RootOK x r ∧ Below w.heap.size w w'
theorem Sqrt_c (x : Nat) (w : World) : Calls Tryz.prog 56 #[.float .f64 x] w (RetR x w) := by
 obtain ⟨r, w2, hr, hok, hb⟩ := run_sqrt x w
 have H1 := Lib.hid hok
 have H2 := Lib.hid hb
 clear hok hb
 go_enter Tryz.func56, Tryz.ntmps56
 go_wp2
 go_ret
 exact ⟨r, rfl, H1.out, H2.out⟩
end Go.Proofs.YtmoimcblmmcffaaGreatDoor.B

namespace Go.Proofs.YtmoimcblmmcffaaGreatDoor.B
open Go.RowKit
set_option linter.unusedSimpArgs false
set_option linter.unusedVariables false
def SqrtNarrow : Prop := ∀ n x : Nat, n < 4294967296 → Fl.Same (Ieee.double.read x) (Ieee.single.read n) →
 match Ieee.double.sqrt x with
 | none => Ieee.single.sqrt n = none
 | some y => ∃ z, floatToFloatBits .f64 y .f32 = some z ∧ Ieee.single.sqrt n = some z
def sqrtN (s : Bool) (n : Nat) : Int := match (fkOf s).format.sqrt n with
 | some r => cleanV s r
 | none => nanV s
def sqrtV (s : Bool) (a : Int) : Int := sqrtN s a.toNat
theorem nan64_read (x t : Nat) : ∃ s u, Ieee.double.read ((Question.nanBits .f64 x x).cut t) = .nan s u := nanConv_nan x t
theorem clean_conv (b t : Nat) : (Question.nanConv .f32 b).cut t < 4294967296 ∧ cleanV true ((Question.nanConv .f32 b).cut t : Nat) = nanV true := nan_clean true b b t
theorem run_convert_nan32 {P : Program} {src dst : TypeId} {b : Nat} {s : Bool} {t : Nat} (hs : (P.underlying src).isSome = true) (hd : P.underlying dst = some (.float .f32)) (h : Ieee.double.read b = .nan s t) (w : World) :
  (convert src dst (.float .f64 b)).run P w = .ok (.float .f32 ((Question.nanConv .f32 b).cut (w.tape w.drawn (.nanConv .f32 b)))) w.drew := by
 obtain ⟨u, hs'⟩ := Option.isSome_iff_exists.1 hs
 have h' : FloatKind.f64.decode b = .nan s t := h
 cases u <;> simp [convert, run_underlying hs', run_underlying hd, Conv.floatToFloat, h', Question.forced]
theorem run_narrow (hN : SqrtNarrow) (n x y : Nat) (hn : n < 4294967296) (hx : WideOK true n x) (hy : RootOK x y) :
  ∃ z : World → Nat, ∃ w2 : World → World, (∀ w, (convert 57 84 (.float .f64 y)).run Tryz.prog w = .ok (.float .f32 (z w)) (w2 w)) ∧ (∀ w, z w < 4294967296) ∧ (∀ w, cleanV true (z w) = sqrtN true n) ∧ ∀ w, Below w.heap.size w (w2 w) := by
 have hs : (Tryz.prog.underlying 57).isSome = true := by rw [Tryz.underlying57]; rfl
 have h := hN n x hn hx
 unfold sqrtN
 have e : (fkOf true).format = Ieee.single := rfl
 rw [e]
 unfold RootOK at hy
 cases hr : Ieee.double.sqrt x with
 | none =>
  rw [hr] at h hy
  obtain ⟨t, rfl⟩ := hy
  obtain ⟨s, u, he⟩ := nan64_read x t
  have h' : Ieee.single.sqrt n = none := h
  rw [h']
  exact ⟨fun w => _, fun w => w.drew, fun w => run_convert_nan32 hs Tryz.underlying84 he w, fun w => (clean_conv _ _).1, fun w => (clean_conv _ _).2, fun w => (Below.refl _ _).drew⟩
 | some r =>
  rw [hr] at h hy
  obtain ⟨z, h1, h2⟩ := h
  have hy' : y = r := hy
  subst hy'
  rw [h2]
  exact ⟨fun _ => z, fun w => w, fun w => run_convert_float_float w _ _ .f64 .f32 y z hs Tryz.underlying84 h1, fun _ => Ieee.single.sqrt_lt h2, fun _ => rfl, fun w => Below.refl _ _⟩
theorem on1_sqrt_64 (a : Int) (w : World) : Calls Tryz.prog 32 #[.int .i64 2, .int .u64 a, .func (.func 56) #[] #[]] w (Ret (.int .u64 (sqrtV false a)) w) := by
 have c1 := fun w => double64_c a w
 have c2 := fun x w => Sqrt_c x w
 have c3 := fun x w => bits64_c x w
 go_enter Tryz.func32, Tryz.ntmps32
 go_wp2_with (first | (go_at_call 65; refine (c1 _).mono ?_; rintro e w1 ⟨rfl, hb1⟩; have HE := Ext.next (w0 := w) (W := w) hb1) | (go_at_call 56; refine (c2 _ _).mono ?_; rintro e w1 ⟨r, rfl, hok, hb1⟩; have H1 := Lib.hid hok; clear hok; have HE := Ext.next (w0 := w) (W := w) hb1) | (go_at_call 63; refine (c3 _ _).mono ?_; rintro e w1 ⟨rfl, hb1⟩; have HE := Ext.next (w0 := w) (W := w) hb1))
 go_ret
 refine ⟨?_, Ext.end⟩
 have hok := H1.out
 unfold RootOK at hok
 show Ending.returned (.int .u64 (cleanV false r)) = .returned (.int .u64 (sqrtV false a))
 unfold sqrtV sqrtN
 have e : (fkOf false).format = Ieee.double := rfl
 rw [e]
 cases hq : Ieee.double.sqrt a.toNat with
 | some y => rw [hq] at hok; rw [show r = y from hok]
 | none => rw [hq] at hok; obtain ⟨t, rfl⟩ := hok; rw [show cleanV false ((Question.nanBits .f64 a.toNat a.toNat).cut t : Nat) = nanV false from (nan_clean false _ _ t).2]
theorem run_widen (n : Nat) : ∃ x : World → Nat, ∃ w2 : World → World, (∀ w, (convert 84 57 (.float .f32 n)).run Tryz.prog w = .ok (.float .f64 (x w)) (w2 w)) ∧ (∀ w, WideOK true n (x w)) ∧ ∀ w, Below w.heap.size w (w2 w) := by
 have hs : (Tryz.prog.underlying 84).isSome = true := by rw [Tryz.underlying84]; rfl
 cases hr : Ieee.single.read n with
 | number neg m p =>
  have hb := Fl.single_number hr
  have hd := Fl.double_of_small neg m p hb.1 hb.2.1 hb.2.2
  have hrun : ∀ w, (convert 84 57 (.float .f32 n)).run Tryz.prog w = .ok (.float .f64 (Ieee.double.nearest neg m p)) w := fun w => run_convert_float_float w _ _ .f32 .f64 n _ hs Tryz.underlying57 (by
   unfold floatToFloatBits
   rw [if_neg (by decide)]
   have h' : FloatKind.f32.decode n = .number neg m p := hr
   rw [h']
   have h2 : (FloatKind.f64.decode (FloatKind.f64.encode (.number neg m p))).isInfinity = false := hd.2
   simp only [h2]
   rfl)
  exact ⟨_, fun w => w, hrun, fun _ => by show Fl.Same _ (Ieee.single.read n); rw [hr]; exact hd.1, fun w => Below.refl _ _⟩
 | infinity neg =>
  have hrun : ∀ w, (convert 84 57 (.float .f32 n)).run Tryz.prog w = .ok (.float .f64 (Ieee.double.word neg Ieee.double.infRung)) w := fun w => run_convert_float_float w _ _ .f32 .f64 n _ hs Tryz.underlying57 (by
   unfold floatToFloatBits
   rw [if_neg (by decide)]
   have h' : FloatKind.f32.decode n = .infinity neg := hr
   rw [h']
   rfl)
  exact ⟨_, fun w => w, hrun, fun _ => by show Fl.Same _ (Ieee.single.read n); rw [hr, Fl.read_word_inf _ _ (by decide)]; exact rfl, fun w => Below.refl _ _⟩
 | nan neg t =>
  refine ⟨_, fun w => w.drew, fun w => run_convert_nan (P := Tryz.prog) (src := 84) (dst := 57) hs Tryz.underlying57 hr w, fun w => ?_, fun w => (Below.refl _ _).drew⟩
  show Fl.Same _ (Ieee.single.read n)
  obtain ⟨s, u, e⟩ := nanConv_nan n (w.tape w.drawn (.nanConv .f64 n))
  rw [hr, e]; exact trivial
theorem on1_sqrt_32 (hN : SqrtNarrow) (a : Int) (w : World) (h : 0 ≤ a) (h1 : a < 4294967296) : Calls Tryz.prog 32 #[.int .i64 1, .int .u64 a, .func (.func 56) #[] #[]] w (Ret (.int .u64 (sqrtV true a)) w) := by
 have c1 := fun w => real32_c a w h h1
 have c2 := fun x w => Sqrt_c x w
 have hn : a.toNat < 4294967296 := by omega
 unfold sqrtV
 clear h h1
 generalize a.toNat = n at *
 obtain ⟨X, W2, hX1, hX2, hX3⟩ := run_widen n
 have HX2 := Lib.hid hX2
 have HX3 := Lib.hid hX3
 have Hn := Lib.hid hn
 have HN := Lib.hid hN
 clear hX2 hX3 hn hN
 go_enter Tryz.func32, Tryz.ntmps32
 go_wp2_with (first | (go_at_call 68; refine (c1 _).mono ?_; rintro e w1 ⟨rfl, hb1⟩; have HE := Ext.next (w0 := w) (W := w) hb1) | (go_at_call 56; have HE := Ext.call HE (HX3.out _); refine (c2 _ _).mono ?_; rintro e w2 ⟨r, rfl, hok, hb2⟩; have HE := HE.call hb2; obtain ⟨Z, W3, hZ1, hZ2, hZ3, hZ4⟩ := run_narrow HN.out n _ r Hn.out (HX2.out _) hok; have HZ2 := Lib.hid hZ2; have HZ3 := Lib.hid hZ3; have HZ4 := Lib.hid hZ4; clear hZ2 hZ3 hZ4 hok) | (go_at_call 61; have HE := Ext.call HE (HZ4.out _); refine (bits32_c _ _ (HZ2.out _)).mono ?_; rintro e w1 ⟨rfl, hb1⟩; have HE := HE.call hb1))
 go_ret
 refine ⟨?_, Ext.end⟩
 show Ending.returned (.int .u64 (cleanV true _)) = _
 rw [HZ3.out]
theorem SqrtOf_c (hN : SqrtNarrow) (t a : Int) (w : World) (ha : U64 a) : Calls Tryz.prog 20 #[.int .i64 t, .int .u64 a] w (Ret (orErr (validV t [a]) (sqrtV (t == 1) a)) w) := by
 have c1 := fun g w => valid1_c t a g w ha
 have c2 : ∀ w, validV t [a] = 0 → Calls Tryz.prog 32 #[.int .i64 t, .int .u64 a, .func (.func 56) #[] #[]] w (Ret (.int .u64 (sqrtV (t == 1) a)) w) := fun w he => by
  obtain ⟨s, ht, hs, h1⟩ := valid_s1 ha he
  rw [hs, ht]
  cases s
  ·exact on1_sqrt_64 a w
  ·exact on1_sqrt_32 hN a w ha.1 h1
 clear ha hN
 unfold orErr
 generalize sqrtV (t == 1) a = r at *
 generalize validV t [a] = e at *
 by_cases he : e = 0
 ·subst he
  have c5 := fun w => c2 w rfl
  clear c2
  simp only [if_true]
  go_enter Tryz.func20, Tryz.ntmps20
  go_wp2_with (first | (go_at_call 24; refine (c1 _ _ (by go_simp)).mono ?_; rintro e w1 ⟨rfl, hb1⟩; have HE := Ext.next (w0 := w) (W := w) hb1) | (go_at_call 32; refine (c5 _).mono ?_; rintro e w1 ⟨rfl, hb1⟩; have HE := Ext.next (w0 := w) (W := w) hb1))
  go_ret2
  exact ⟨rfl, Ext.end⟩
 ·have he1 : (e != 0) = true := by simpa using he
  rw [if_neg he]
  clear he c2
  go_enter Tryz.func20, Tryz.ntmps20
  go_wp2_with (go_at_call 24; refine (c1 _ _ (by go_simp)).mono ?_; rintro e w1 ⟨rfl, hb1⟩; have HE := Ext.next (w0 := w) (W := w) hb1)
  go_ret2
  exact ⟨rfl, Ext.end⟩
end Go.Proofs.YtmoimcblmmcffaaGreatDoor.B
